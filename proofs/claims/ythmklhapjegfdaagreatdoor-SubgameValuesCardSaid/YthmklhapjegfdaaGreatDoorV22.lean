/- Facts that no later step turns: for regions that draw their order. -/
import Derived.Test.YthmklhapjegfdaaGreatDoorV21
import Derived.Test.YthmklhapjegfdaaGreatDoorV18
set_option linter.all false
set_option maxRecDepth 100000
set_option maxHeartbeats 12800000
namespace Go.Proofs.YthmklhapjegfdaaGreatDoor
open Lib renaming hid → Ac
open Go.RowKit
theorem ah {w w':World} {b o:Nat} {v:Value} (h:w.cell? ⟨b,o,none⟩=some v) (hb:Below w.heap.size w w'):w'.cell? ⟨b,o,none⟩=some v :=
 (hb.cell (p:=⟨b,o,none⟩) (World.block_lt_of_cell? w _ h)).trans h
structure Fact where
 p:Value→World→Prop
 keep:∀ v w w',p v w→Below w.heap.size w w'→p v w'
def Fact.tt:Fact:=⟨fun _ _=>True,fun _ _ _ h _=>h⟩
def Fact.raw (F:Ag) (r:Raw):Fact:=⟨fun v w=>AL w F v r,fun _ _ _ h hb=>h.below hb⟩
structure Hold where
 p:World→Prop
 keep:∀ w w',p w→Below w.heap.size w w'→p w'
def Hold.cell (b o:Nat) (v:Value):Hold:=⟨fun w=>w.cell? ⟨b,o,none⟩=some v,fun _ _ h hb=>ah h hb⟩
def Hold.of (f:Fact) (v:Value):Hold:=⟨fun w=>f.p v w,fun w w' h hb=>f.keep v w w' h hb⟩
def Hold.and (a b:Hold):Hold:=⟨fun w=>a.p w∧b.p w,fun w w' h hb=>⟨a.keep w w' h.1 hb,b.keep w w' h.2 hb⟩⟩
def Hold.below (B:Nat) (w0:World):Hold:=⟨fun w=>B≤w.heap.size∧Below B w0 w,fun w _ h hb=>⟨Nat.le_trans h.1 hb.size,h.2.trans (hb.mono h.1)⟩⟩
def facts (l:List (Nat×Fact)) (i:Nat) (v:Value) (w:World):Prop:=((l.lookup i).getD Fact.tt).p v w
theorem afM (l:List (Nat×Fact)) (i:Nat) (v:Value) (w w':World) (h:facts l i v w) (hb:Below w.heap.size w w'):facts l i v w':=Fact.keep _ _ _ _ h hb
theorem lq {l:List (Nat×Fact)} {i:Nat} {v:Value} {w:World} {f:Fact} (h:facts l i v w) (hl:(l.lookup i).getD Fact.tt=f):f.p v w:=by rw[← hl]; exact h
section
variable {P:Program} {ops:Array Oper} {Q:Exit→Act→World→Prop}
theorem xq {js:List Nat} {fuel:Nat} {listed:Array Bool} {a:Act} {w:World} {S:World→Prop} (H:Hold) (l:List (Nat×Fact)) (hok:aej ops listed js fuel=true)
  (hH:H.p w) (hHS:∀ w,H.p w→S w)
  (h:Flow P .any ops Q H.p (fun w w'=>Below w.heap.size w w') (facts l) js [] a):wpAnyH P .any ops Q S fuel listed a w :=
 pW hHS (aek H.p 0 (facts l) hok hH (Nat.zero_le _) (fun w w' _ h hb=>H.keep w w' h hb) (afM l) (h.hold fun _ h=>h.2))
end
def Ea (a b:Nat) (v:Value):Prop:=∃ M p q:Nat,v = .tuple #[.int .i64 (p:Int),.int .i64 (q:Int)]∧0 < M∧p=a / M∧q=b / M∧p < 1000000000000000000
theorem lead_any (w:World) (F:Ag) (va vb:Value) (a b:Nat) (ha:Aj w F va a) (hb:Aj w F vb b) (hba:b≤a) (hl3:3≤(dig a).length) (hla:(dig a).length≤100000) :
  Calls Tryz.prog 220 #[va,vb] w (Ret w fun v _=>Ea a b v):=by
 have HA:=Ac ha;have HB:=Ac hb;obtain⟨A,c,rfl,hc,hNa⟩:=ha;obtain⟨n,hn⟩:=named ((dig a).length);refine zbV ?_;intro n1 hn1;obtain⟨bk,o,rfl,_,hbk,hx⟩:=hNa byOmega;obtain⟨x,hx'⟩:=aC (l:=dig a) (k:=n1) byOmega;have ex:=hx n1 x hx';unfold dA at ex;rw[Nat.mul_one] at ex;have hxl:x < 1000000000:=(aS a).get hx';have hx1:1≤x:=by
  have h1:=qm a;rw[List.getLast?_eq_getElem?,show(dig a).length - 1=n1 by omega,hx'] at h1;rcases Nat.eq_zero_or_pos x with h | h
  ·exact absurd (by rw[h]) h1
  ·exact h
 have hlb:=aX hba;rw[← hn] at hc hl3 hla hlb ⊢;replace HA:=Ac (show Aj w F (.slice (some ⟨bk,o,none⟩) n c) a by rw[hn]; exact HA.out);have HX:=Ac (show(dig a).getD (n - 1) 0=x by rw[show n - 1=n1 by omega]; exact aO hx');have HN:=Ac hn;have i1:(n:Int) - 1=(n1:Int):=byOmega;have hn1l:n1 < n:=byOmega;clear hx hx' hNa hb hn hn1;go_in;go_wp2_with fail
 have hl0:w.heap.size < w.heap.size+1+1:=byOmega;go_loopw [] (fun wr=>∃ i T:Nat,10 ^ i*T=LB∧i≤9∧x*10 ^ i < LB∧Row wr w.heap.size 3 [.int .i64 (n:Int)]∧Row wr (w.heap.size+1) 180 [.int .u64 ((10 ^ i:Nat):Int)]∧Below w.heap.size w wr) (fun wr=>(match wr.cell? ⟨w.heap.size+1,0,none⟩ with | some v=>LB - (intOf v).toNat | none=>0))
 case atStart =>
  refine⟨0,LB,ay,byOmega,by simpa using hxl,?_,?_,?_⟩
  ·exact(Row.new w 3 #[.int .i64 (n:Int)]).alloc _
  ·have h:=Row.new (w.alloc (.cells #[.int .i64 (n:Int)] 3)) 180 #[.int .u64 1];simpa using h
  ·exact((Below.refl _ _).alloc (Nat.le_refl _) _).alloc ay _
 case round =>
  obtain⟨i,T,hT,hi,hxi,hr0,hr1,hbel⟩:=hrel;have ex':=(aJ hbel bk (o+n1) hbk).trans ex;have e0:=hr0.cell (i:=0) rfl;have e1:=hr1.cell (i:=0) rfl;have y1:=hr1.frozen 0;obtain⟨t,ht⟩:=named (10 ^ i);have HT:=Ac (show t=10 ^ i∧t*T=LB from⟨ht,by rw[ht]; exact hT⟩);rw[← ht] at hxi e1 hr1 hT;have HXI:=Ac hxi;have ht1:1≤t:=by rw[ht];exact Nat.pow_pos aA
  have htl:t≤1000000000:=by
   have:1*t≤x*t:=Nat.mul_le_mul_right _ hx1;unfold LB at hxi;omega
  obtain⟨p,hp⟩:=named (x*t);have hpI:(x:Int)*(t:Int)=(p:Int):=by rw[hp,Int.natCast_mul]
  have hpl:p < 1000000000:=by rw[hp];exact hxi
  have hpt:t≤p:=by
   have:1*t≤x*t:=Nat.mul_le_mul_right _ hx1;omega
  have HP:=Ac hp;clear ht hT hxi hp;by_cases hcd:p*10 < 1000000000
  ·have hd:decide ((p:Int)*10 < 1000000000)=true:=decide_eq_true byOmega;have ht10:t*10 < 1000000000:=byOmega;have hi9:i < 9:=by
    rcases Nat.lt_or_ge i 9 with h | h
    ·exact h
    ·have h2:10 ^ 9≤10 ^ i:=Nat.pow_le_pow_right aA h;have h3:=HT.out.1;have h4:(10:Nat) ^ 9=1000000000:=aA;omega
   have HI1:=Ac (show 10 ^ (i+1)=t*10 by rw[Nat.pow_succ,← HT.out.1]);have hT10:=Ac (show t*10*(T / 10)=LB by
    have h1:=HT.out.2;have h2:10 ∣ T:=by
     have h3:T=10 ^ (9 - i):=by
      have h4:10 ^ i*10 ^ (9 - i)=LB:=by rw[← Nat.pow_add,show i+(9 - i)=9 by omega]
      rw[HT.out.1] at h1;exact Nat.eq_of_mul_eq_mul_left (Nat.pow_pos aA) (h1.trans h4.symm)
     rw[h3,show 9 - i=(9 - i - 1)+1 by omega,Nat.pow_succ];exact⟨_,Nat.mul_comm _ _⟩
    obtain⟨q,hq⟩:=h2;rw[hq,Nat.mul_div_cancel_left _ aA,Nat.mul_assoc,← hq]; exact h1)
   have HX10:=Ac (show x*(t*10) < LB by rw[← Nat.mul_assoc,← HP.out]; exact hcd);go_wp2
   go_quiet (fail)
   go_wp2
   go_roundw
   case rel =>
    refine⟨i+1,T / 10,by rw[HI1.out]; exact hT10.out,byOmega,by rw[HI1.out]; exact HX10.out,?_,?_,?_⟩
    ·exact(hr0.dN _).other (a:=⟨w.heap.size+1,0,none⟩) ay _
    ·rw[HI1.out];have h:=(hr1.dN nq).set 0 (.int .u64 ((t*10:Nat):Int));simpa using h
    ·exact(aK hbel nq).setCell (p:=⟨w.heap.size+1,0,none⟩) ay _
   case measure =>
    have h1:=((hr1.dN nq).set 0 (.int .u64 ((t:Int)*10))).cell (i:=0) rfl;rw[h1,e1];simp only[intOf];unfold LB;omega
  ·have hd:decide ((p:Int)*10 < 1000000000)=false:=decide_eq_false byOmega;go_wp2
   go_quiet (fail)
   go_wp2_with fail
   have hB1:=aK hbel nq;have e0d:(wr.drewN nq).cell? ⟨w.heap.size,0,none⟩=some (.int .i64 (n:Int)):=e0;have e1d:(wr.drewN nq).cell? ⟨w.heap.size+1,0,none⟩=some (.int .u64 (t:Int)):=e1;obtain⟨wq,hwq⟩:∃ W:World,W=wr.drewN nq:=⟨_,rfl⟩;rw[← hwq] at hB1 e0d e1d ⊢;clear hwq e0 e1;have HTT:=HT.out.2;have hxt:(dig a).getD (n - 1) 0*t < LB:=by rw[HX.out];exact HXI.out
   have hla2:(dig a).length=n:=HN.out.symm;have akj:=aj1 hla2 hl3 HTT (aS a) hxt;have HM:=Ac (show 0 < LB ^ (n - 3)*T by
    refine Nat.mul_pos (Bh _) ?_;rcases Nat.eq_zero_or_pos T with h | h
    ·rw[h,Nat.mul_zero] at HTT;cases HTT
    ·exact h)
   have hltb:aH (dig b) / (LB ^ (n - 3)*T) < 1000000000000000000:=by
    refine Nat.lt_of_le_of_lt ?_ akj;rw[aZ,aZ];exact Nat.div_le_div_right byOmega
   refine(ab4 _ F _ (dig a) n t T _ _ (HA.out.below hB1) (aS a) byOmega hl3 hla HTT e0d e1d akj).mono ?_;rintro e w1 ⟨_,rfl,hb1,rfl⟩;have e0':=ah e0d hb1;have e1':=ah e1d hb1;dsimp only;go_wp2_with fail
   refine(ab4 _ F _ (dig b) n t T _ _ ((HB.out.below hB1).below hb1) (aS b) byOmega hl3 hla HTT e0' e1' hltb).mono ?_;rintro e w2 ⟨_,rfl,hb2,rfl⟩;rw[aZ,aZ];rw[aZ] at akj;dsimp only;go_wp2
   go_ret2;exact⟨_,rfl,hB1.trans ((hb1.trans (hb2.mono hb1.size)).mono hB1.size),_,_,_,rfl,HM.out,rfl,rfl,akj⟩
def nH:Value→Option Nat
 | .slice (some a) _ _=>some a.block
 | .pointer (some a)=>some a.block
 | _=>none
def upd (e:Nat→Value) (j:Nat) (v:Value):Nat→Value:=fun k=>if k=j then v else e k
theorem ael {e:Nat→Value} {i j:Nat} {u v:Value} (h:i≠j):upd (upd e i u) j v=upd (upd e j v) i u:=by
 funext k
 unfold upd;split <;> split <;> simp_all
structure Says where
 uses:Nat→List Nat
 F:Nat→List Value→Hold
 cu:List Nat
 G:Nat→List Value→World→World→Prop
 mks:List Nat
def Says.R (s:Says) (i:Nat) (e:Nat→Value) (w:World):Prop:=(s.F i ((i :: s.uses i).map e)).p w
def Says.T (s:Says) (j:Nat) (e:Nat→Value) (w w':World):Prop:=bif s.cu.contains j then s.G j ((j :: s.uses j).map e) w w' else Below w.heap.size w w'
def Says.Apart (s:Says) (E:List Nat) (e:Nat→Value):Prop:=∀ p∈E,∀ q∈E,p∈s.mks→q∈s.mks→p≠q→∀ b,nH (e p)=some b→nH (e q)≠some b
theorem agW {l:List Nat} {e:Nat→Value} {j:Nat} {v:Value} (h:j ∉ l):l.map (upd e j v)=l.map e :=
 List.map_congr_left fun k hk=>if_neg (by rintro rfl; exact h hk)
theorem Says.Dy (s:Says) {i j:Nat} {e:Nat→Value} {v:Value} {w:World} (h:j ∉ i :: s.uses i):s.R i (upd e j v) w↔s.R i e w:=by unfold Says.R; rw[agW h]
theorem Says.EF (s:Says) {i j:Nat} {e:Nat→Value} {v:Value} {w w':World} (h:j ∉ i :: s.uses i):s.T i (upd e j v) w w'↔s.T i e w w':=by unfold Says.T; rw[agW h]
section
variable {P:Program} {ops:Array Oper} {Q:Exit→Act→World→Prop} {S:Hold} {s:Says}
def CU (s:Says) (e:Nat→Value) (w:World) (i:Nat) (u:Value) (w':World):Prop:=s.T i (upd e i u) w w'∧s.R i (upd e i u) w'∧(i∈s.mks→∀ b,nH u=some b→w.heap.size≤b)
def Ej (P:Program) (ops:Array Oper) (s:Says) (i:Nat) (e:Nat→Value) (a:Act) (w:World):Prop:=Step P ops (fun _ _=>True) (CU s e w) i a w
def AO (P:Program) (ops:Array Oper) (Q:Exit→Act→World→Prop) (S:Hold) (s:Says):List Nat→List Nat→(Nat→Value)→Act→Prop
 | [],E,e,a=>∀ w,S.p w→(∀ i∈E,s.R i e w)→s.Apart E e→Q .normal a w
 | j :: js,E,e,a=>(∀ w,S.p w→(∀ i∈E,dep .any ops j i=true→s.R i e w)→Ej P ops s j e a w)∧∀ v,AO P ops Q S s js (j :: E) (upd e j v) (a.put (dY ops j) v)
theorem Step.weak {T:World→World→Prop} {R R':Nat→Value→World→Prop} {i:Nat} {a:Act} {w:World} (h:Step P ops T R i a w) (f:∀ u w',R i u w'→R' i u w'):Step P ops T R' i a w :=
 fun o ho K hK=>h o ho K fun u w' ht hr=>hK u w' ht (f u w' hr)
theorem CU.upd {e:Nat→Value} {w w':World} {i j:Nat} {u v:Value} (hij:i≠j) (h:j ∉ i :: s.uses i):CU s (upd e j v) w i u w'↔CU s e w i u w':=by
 unfold CU;rw[← ael (e:=e) (u:=u) (v:=v) hij,s.EF h,s.Dy h]
theorem AO.perm:∀ {js E E':List Nat} {e:Nat→Value} {a:Act},(∀ p,p∈E'↔p∈E)→AO P ops Q S s js E e a→AO P ops Q S s js E' e a
 | [],_,_,_,_,h,H=>fun w hS hf hA=>H w hS (fun p hp=>hf p ((h p).2 hp)) (fun p hp q hq=>hA p ((h p).2 hp) q ((h q).2 hq))
 | j :: js,_,_,_,_,h,H=>⟨fun w hS hf=>H.1 w hS (fun p hp hd=>hf p ((h p).2 hp) hd),fun v=>AO.perm (fun p=>by simp[h p]) (H.2 v)⟩
def ajd (ops:Array Oper):Bool:=(List.range ops.size).all fun i=>match ops[i]? with
 | some o=>o.after.all fun e=>!Region.binds .any e||decide (e.on < i)
 | none=>true
theorem afN {ops:Array Oper} {listed:Array Bool} (hs:listed.size=ops.size) (hb:ajd ops=true) (hr:Region.ready .any ops listed = []):∀ i,i < ops.size→listed.getD i true=true:=by
 intro i;induction i using Nat.strongRecOn with
 | _ i ih =>
  intro hi;by_cases hl:listed.getD i true=false
  ·exfalso
   have:i∈Region.ready .any ops listed:=by
    rw[mem_ready];refine⟨hl,ops[i],by simp[hi],fun e he hbe=>?_⟩;have h:=List.all_eq_true.1 hb i (List.mem_range.2 hi);rw[show ops[i]? = some ops[i] by simp[hi]] at h;have h1:=Array.all_eq_true'.1 h e he;rw[hbe] at h1;have hlt:e.on < i:=by simpa using h1
    have h2:=ih e.on hlt byOmega;have h3:e.on < listed.size:=byOmega;simp[h3] at h2 ⊢;exact h2
   rw[hr] at this;cases this
  ·simpa using hl
def akS (ops:Array Oper) (listed:Array Bool) (js:List Nat) (fuel:Nat):Bool :=
 Region.noSelect ops&&ajd ops&&jL .any ops js&&decide (js.length≤fuel)&&js.all (fun j=>decide (j < ops.size))&&decide (js.Nodup)&&decide (listed.size=ops.size)&&(List.range ops.size).all (fun j=>js.contains j == !listed.getD j true)
structure Dn (ops:Array Oper) (s:Says) (js E:List Nat):Prop where
 apart:∀ k∈E,k ∉ js
 dep:∀ k∈E,∀ j∈js,dep .any ops k j=false
 uses:∀ k,k∈E∨k∈js→∀ x∈s.uses k,Go.Proofs.YthmklhapjegfdaaGreatDoor.dep .any ops k x=true
 there:∀ k∈js,∀ x∈s.uses k,x∈E∨x∈js
theorem Dn.cons {j:Nat} {js E:List Nat} (h:Dn ops s (j :: js) E) (hok:∀ i∈js,far .any ops j i=true) (hnd:j ∉ js):Dn ops s js (j :: E):=by
 refine⟨fun k hk hkj=>?_,fun k hk i hi=>?_,fun k hk=>?_,fun k hk x hx=>?_⟩
 ·rcases List.mem_cons.1 hk with rfl | hk
  ·exact hnd hkj
  ·exact h.apart k hk (List.mem_cons_of_mem _ hkj)
 ·rcases List.mem_cons.1 hk with rfl | hk
  ·exact ab7 (hok i hi)
  ·exact h.dep k hk i (List.mem_cons_of_mem _ hi)
 ·refine h.uses k ?_;rcases hk with hk | hk
  ·rcases List.mem_cons.1 hk with rfl | hk
   ·exact .inr ay
   ·exact .inl hk
  ·exact .inr (List.mem_cons_of_mem _ hk)
 ·rcases h.there k (List.mem_cons_of_mem _ hk) x hx with h1 | h1
  ·exact .inl (List.mem_cons_of_mem _ h1)
  ·rcases List.mem_cons.1 h1 with rfl | h1
   ·exact .inl ay
   ·exact .inr h1
theorem AO.pull (hn:Region.noSelect ops=true) {i:Nat}:∀ {js E:List Nat} {e:Nat→Value} {a:Act},(∀ j∈js,j < ops.size)→jL .any ops js=true→js.Nodup→i∈js→(∀ j∈js,dep .any ops i j=false)→Dn ops s js E→AO P ops Q S s js E e a →
  (∀ w,S.p w→(∀ k∈E,dep .any ops i k=true→s.R k e w)→Ej P ops s i e a w)∧∀ u,AO P ops Q S s (js.erase i) (i :: E) (upd e i u) (a.put (dY ops i) u)
 | [],_,_,_,_,_,_,hi,_,_,_=>by cases hi
 | j :: js,E,e,a,hlt,hok,hnd,hi,pq,hD,H=>by
  by_cases hji:j=i
  ·subst hji;rw[List.erase_cons_head];exact H
  ·have hi':i∈js:=by
    rcases List.mem_cons.1 hi with h | h
    ·exact absurd h.symm hji
    ·exact h
   simp only[jL,Bool.and_eq_true,List.all_eq_true] at hok;refine Yt ?_;intro ahJ x hx y hy f1 f2 f3 f3' ex ey;have hji':j ∉ i :: s.uses i:=fun h=>by
    rcases List.mem_cons.1 h with h | h
    ·exact hji h
    ·have h1:=hD.uses i (.inr hi) j h;rw[pq j ay] at h1;cases h1
   have hij':i ∉ j :: s.uses j:=fun h=>by
    rcases List.mem_cons.1 h with h | h
    ·exact hji h.symm
    ·have h1:=hD.uses j (.inr ay) i h;rw[ab7 ahJ] at h1;cases h1
   have hkE:∀ z∈j :: js,∀ k∈E,z ∉ k :: s.uses k:=fun z hz k hk h=>by
    rcases List.mem_cons.1 h with h | h
    ·subst h;exact hD.apart _ hk hz
    ·have h1:=hD.uses k (.inl hk) z h;rw[hD.dep k hk z hz] at h1;cases h1
   have IH:=fun v=>AO.pull hn (i:=i) (js:=js) (E:=j :: E) (e:=upd e j v) (a:=a.put (dY ops j) v) (fun k hk=>hlt k (List.mem_cons_of_mem _ hk)) hok.2 (List.nodup_cons.1 hnd).2 hi' (fun k hk=>pq k (List.mem_cons_of_mem _ hk)) (hD.cons hok.1 (List.nodup_cons.1 hnd).1) (H.2 v)
   refine⟨fun w hS hf=>?_,fun u=>?_⟩
   ·have h1:=(IH undef).1 w hS (fun k hk hd=>by
     rcases List.mem_cons.1 hk with h | h
     ·subst h;rw[pq k ay] at hd;cases hd
     ·exact(s.Dy (hkE j ay k h)).2 (hf k h hd))
    refine Step.weak (Step.agV h1 hn (fun o ho d hd=>?_)) (fun u w' h=>(CU.upd (fun h=>hji h.symm) hji').1 h);exact zda
   ·rw[List.erase_cons_tail (by simpa using hji)];refine⟨fun w hS hf=>?_,fun v=>?_⟩
    ·have h1:=H.1 w hS (fun k hk hd=>(s.Dy (hkE i hi k hk)).1 (hf k (List.mem_cons_of_mem _ hk) hd));refine Step.weak (Step.put h1 hn (fun o ho d hd=>?_)) (fun u w' h=>(CU.upd hji hij').2 h);exact zde
    ·have h1:=(IH v).2 u;have e1:(a.put (dY ops i) u).put (dY ops j) v=(a.put (dY ops j) v).put (dY ops i) u:=by
      rw[ex,ey];exact Act.put_comm a u v f2
     rw[e1,ael (fun h=>hji h.symm)];exact zcK
theorem abt (hn:Region.noSelect ops=true) (hb:ajd ops=true) (hM:∀ k∈s.mks,∀ e w,s.R k e w→∀ b,nH (e k)=some b→b < w.heap.size)
  {js0:List Nat} (hC:∀ j∈s.cu,∀ E e w w',(∀ k∈E,k∈js0)→(∀ k∈s.uses j,k∈E)→j ∉ E→(∀ i∈E,s.R i e w)→s.Apart E e→S.p w→s.G j ((j :: s.uses j).map e) w w'→S.p w'∧∀ i∈E,s.R i e w') :
  ∀ (n:Nat) (fuel:Nat) (js E:List Nat) (e:Nat→Value) (listed:Array Bool) (a:Act) (w:World),js.length=n→n≤fuel→(∀ j∈js,j < ops.size)→jL .any ops js=true→js.Nodup→(∀ k,k∈E∨k∈js→k∈js0)→Dn ops s js E →
   (∀ j,j < ops.size→(j∈js↔listed.getD j true=false))→listed.size=ops.size→AO P ops Q S s js E e a→S.p w→(∀ i∈E,s.R i e w)→s.Apart E e→wpAnyH P .any ops Q S.p fuel listed a w:=by
 intro n;induction n with
 | zero =>
  intro fuel js E e listed a w hl _ hlt _ _ _ _ hun hsz H hS hf hA;obtain rfl:=List.eq_nil_of_length_eq_zero hl;refine wpAnyH_done ?_ (H w hS hf hA) fuel;cases hr:Region.ready .any ops listed with
  | nil=>rfl
  | cons i rs =>
   have hi:i∈Region.ready .any ops listed:=by rw[hr];simp
   obtain⟨h1,o,ho,_⟩:=mem_ready.1 hi;have:=(hun i (Array.getElem?_eq_some_iff.1 ho).1).2 h1;cases this
 | succ n ih =>
  intro fuel js E e listed a w hl hfu hlt hok hnd h0 hD hun hsz H hS hf hA;cases fuel with
  | zero=>omega
  | succ fuel =>
   by_cases hr0:Region.ready .any ops listed = []
   ·exfalso
    have hall:=afN hsz hb hr0;cases js with
    | nil=>simp at hl
    | cons j js =>
     have hjl:=hlt j ay;have h3:=(hun j hjl).1 ay;have h2:=hall j hjl;have hjs:j < listed.size:=byOmega;rw[h2] at h3;cases h3
   refine wpAnyH_all rfl hr0 fun i hi=>?_
   obtain⟨h1,o,ho,hall⟩:=mem_ready.1 hi;have hil:=(Array.getElem?_eq_some_iff.1 ho).1;have hij:=(hun i hil).2 h1;have pq:∀ j∈js,dep .any ops i j=false:=by
    intro j hj;unfold dep;rw[ho];simp only;rw[Bool.eq_false_iff];intro he;obtain⟨x,hem,hb⟩:=Array.any_eq_true'.1 he;simp only[Bool.and_eq_true,beq_iff_eq] at hb;have h2:=hall x hem hb.1;rw[hb.2] at h2;have h3:=(hun j (hlt j hj)).1 hj;have hjs:j < listed.size:=by rw[hsz];exact hlt j hj
    simp[Array.getD_eq_getD_getElem?,hjs] at h2 h3;rw[h2] at h3;cases h3
   obtain⟨p1,p2⟩:=AO.pull hn hlt hok hnd hij pq hD H;have hiE:i ∉ E:=fun h=>hD.apart i h hij
   refine Step.wpOp ho (p1 w hS (fun k hk _=>hf k hk)) (fun u w' _ hR0=>?_);obtain⟨hT,hR,hF⟩:=hR0;have hf1:∀ k∈E,s.R k (upd e i u) w:=fun k hk=>(s.Dy fun h=>by
    rcases List.mem_cons.1 h with h | h
    ·subst h;exact hiE hk
    ·have h1:=hD.uses k (.inl hk) i h;rw[hD.dep k hk i hij] at h1; cases h1).2 (hf k hk)
   have hne:∀ k∈E,(upd e i u) k=e k:=fun k hk=>if_neg (by rintro rfl; exact hiE hk)
   have hA1:s.Apart E (upd e i u):=fun p hp q hq a1 a2 a3 b=>by rw[hne p hp,hne q hq];exact hA p hp q hq a1 a2 a3 b
   have hnext:S.p w'∧∀ k∈E,s.R k (upd e i u) w':=by
    unfold Says.T at hT;cases hcu:s.cu.contains i with
    | true =>
     rw[hcu,cond_true] at hT;refine hC i (by simpa using hcu) E (upd e i u) w w' (fun k hk=>h0 k (.inl hk)) (fun k hk=>?_) hiE hf1 hA1 hS hT;rcases hD.there i hij k hk with h | h
     ·exact h
     ·have h1:=hD.uses i (.inr hij) k hk;rw[pq k h] at h1;cases h1
    | false =>
     rw[hcu,cond_false] at hT;exact⟨S.keep w w' hS hT,fun k hk=>Hold.keep _ w w' (hf1 k hk) hT⟩
   have hd:dY ops i=o.dst:=by simp[dY,ho]
   rw[← hd];refine⟨hnext.1,ih fuel (js.erase i) (i :: E) (upd e i u) _ _ w' (by rw[List.length_erase_of_mem hij,hl]; rfl) byOmega (fun j hj=>hlt j (List.mem_of_mem_erase hj)) ?_ (hnd.erase i) (fun k hk=>h0 k (hk.elim (fun h=>(List.mem_cons.1 h).elim (fun h=>.inr (h▸hij)) .inl) fun h=>.inr (List.mem_of_mem_erase h))) ?_ ?_ (by simp[hsz]) (p2 u) hnext.1 ?_ ?_⟩
   ·clear hl hlt hnd hun H hij pq p1 p2 hD hiE h0;induction js with
    | nil=>exact hok
    | cons j js ih =>
     simp only[jL,Bool.and_eq_true,List.all_eq_true] at hok;by_cases hji:j=i
     ·subst hji;rw[List.erase_cons_head];exact hok.2
     ·exact zbf
   ·refine⟨fun k hk hkj=>?_,fun k hk j hj=>?_,fun k hk=>?_,fun k hk x hx=>?_⟩
    ·rcases List.mem_cons.1 hk with rfl | hk
     ·exact(hnd.mem_erase_iff.1 hkj).1 rfl
     ·exact hD.apart k hk (List.mem_of_mem_erase hkj)
    ·rcases List.mem_cons.1 hk with rfl | hk
     ·exact pq j (List.mem_of_mem_erase hj)
     ·exact hD.dep k hk j (List.mem_of_mem_erase hj)
    ·refine hD.uses k ?_;rcases hk with hk | hk
     ·rcases List.mem_cons.1 hk with rfl | hk
      ·exact .inr hij
      ·exact .inl hk
     ·exact .inr (List.mem_of_mem_erase hk)
    ·by_cases hxi:x=i
     ·subst hxi;exact .inl ay
     ·rcases hD.there k (List.mem_of_mem_erase hk) x hx with h | h
      ·exact .inl (List.mem_cons_of_mem _ h)
      ·exact .inr (hnd.mem_erase_iff.2 ⟨hxi,h⟩)
   ·intro j hj;rw[hnd.mem_erase_iff];by_cases hji:j=i
    ·subst hji;refine zb3 ?_;intro this;simp[Array.getD_eq_getD_getElem?,this]
    ·rw[Go.getD_set_ne true (Ne.symm hji)];simp[hji,hun j hj]
   ·intro k hk;rcases List.mem_cons.1 hk with rfl | hk
    ·exact hR
    ·exact hnext.2 k hk
   ·have hii:(upd e i u) i=u:=if_pos rfl;intro p hp q hq g1 g2 hpq b hb;rcases List.mem_cons.1 hp with h | hp'
    ·rcases List.mem_cons.1 hq with h' | hq'
     ·exact absurd (h.trans h'.symm) hpq
     ·intro hc;rw[h,hii] at hb;have e1:=hF (h▸g1) b hb;have e2:=hM _ g2 _ _ (hf1 q hq') b hc;omega
    ·rcases List.mem_cons.1 hq with h' | hq'
     ·intro hc;rw[h',hii] at hc;have e1:=hF (h'▸g2) b hc;have e2:=hM _ g1 _ _ (hf1 p hp') b hb;omega
     ·exact hA1 p hp' q hq' g1 g2 hpq b hb
def useB (ops:Array Oper) (s:Says) (js:List Nat):Bool:=js.all fun i=>(s.uses i).all fun k=>dep .any ops i k&&js.contains k
theorem qX {js:List Nat} {fuel:Nat} {listed:Array Bool} {a:Act} {w:World} {S':World→Prop} (S:Hold) (s:Says) (hok:akS ops listed js fuel=true) (hus:useB ops s js=true) (hS:S.p w) (hSS:∀ w,S.p w→S' w)
  (hM:∀ k∈s.mks,∀ e w,s.R k e w→∀ b,nH (e k)=some b→b < w.heap.size)
  (hC:∀ j∈s.cu,∀ E e w w',(∀ k∈E,k∈js)→(∀ k∈s.uses j,k∈E)→j ∉ E→(∀ i∈E,s.R i e w)→s.Apart E e→S.p w→s.G j ((j :: s.uses j).map e) w w'→S.p w'∧∀ i∈E,s.R i e w')
  (h:AO P ops Q S s js [] (fun _=>undef) a):wpAnyH P .any ops Q S' fuel listed a w:=by
 simp only[akS,Bool.and_eq_true,List.all_eq_true,decide_eq_true_eq,List.mem_range,beq_iff_eq] at hok;obtain⟨⟨⟨⟨⟨⟨⟨h1,h2⟩,h3⟩,h4⟩,h5⟩,h6⟩,h7⟩,h8⟩:=hok;simp only[useB,List.all_eq_true,Bool.and_eq_true,List.contains_iff_mem] at hus;exact pW hSS (abt h1 h2 hM hC js.length fuel js [] _ listed a w rfl h4 h5 h3 h6 (fun k hk=>hk.resolve_left ay)
  ⟨fun k hk=>(by cases hk),fun k hk=>(by cases hk),fun k hk x hx=>(hus k (hk.resolve_left ay) x hx).1,fun k hk x hx=>.inr (hus k hk x hx).2⟩
  (fun j hj=>by
   have:=h8 j hj;rw[← List.contains_iff_mem,this];cases listed.getD j true <;> simp) h7 h hS (fun p hp=>by cases hp) (fun p hp=>by cases hp))
theorem AO.cons {j:Nat} {js E:List Nat} {e:Nat→Value} {a:Act} {o:Oper} (ho:ops[j]? = some o)
  (h1:∀ w,S.p w→(∀ i∈E,dep .any ops j i=true→s.R i e w)→∀ K:Act→World→Prop,Shut (∀ u w',CU s e w j u w'→K (a.put o.dst u) w')→if Region.wanted o (yielded ops a.tmps)=true then Oper.wp P o a w K (fun _ _ _=>False) else K (a.put o.dst undef) w)
  (h2:∀ v,AO P ops Q S s js (j :: E) (upd e j v) (a.put o.dst v)):AO P ops Q S s (j :: js) E e a:=by
 refine⟨fun w hS hf o' ho' K hK=>?_,fun v=>?_⟩
 ·rw[ho] at ho';cases ho';exact h1 w hS hf K (fun u w' h=>hK u w' trivial h)
 ·have:dY ops j=o.dst:=by simp[dY,ho]
  rw[this];exact h2 v
theorem AO.nil {E:List Nat} {e:Nat→Value} {a:Act} (h:∀ w,S.p w→(∀ i∈E,s.R i e w)→s.Apart E e→Q .normal a w):AO P ops Q S s [] E e a:=h
theorem ifA {c:Bool} {p q:Prop} (h:c=true) (hp:p):if c=true then p else q:=by rw[if_pos h]; exact hp
def Hold.made (B:Nat) (t:TypeId) (n:Nat) (l:List Value) (v:Value):Hold:=⟨fun w=>∃ b,v = .slice (some ⟨b,0,none⟩) n n∧B≤b∧Row w b t l,fun _ _ h hb=>let ⟨b,h1,h2,h3⟩:=h; ⟨b,h1,h2,h3.below hb h3.lt⟩⟩
def Hold.box (B:Nat) (t:TypeId) (v:Value):Hold:=⟨fun w=>∃ b x,v = .pointer (some ⟨b,0,none⟩)∧B≤b∧Row w b t [x],fun _ _ h hb=>let ⟨b,x,h1,h2,h3⟩:=h; ⟨b,x,h1,h2,h3.below hb h3.lt⟩⟩
def Hold.boxed (B:Nat) (t:TypeId) (v x:Value):Hold:=⟨fun w=>∃ b,v = .pointer (some ⟨b,0,none⟩)∧B≤b∧Row w b t [x],fun _ _ h hb=>let ⟨b,h1,h2,h3⟩:=h; ⟨b,h1,h2,h3.below hb h3.lt⟩⟩
def Hold.tt:Hold:=⟨fun _=>True,fun _ _ _ _=>trivial⟩
def Hold.eq (u v:Value):Hold:=⟨fun _=>v=u,fun _ _ h _=>h⟩
theorem pX {B:Nat} {t:TypeId} {n:Nat} {l:List Value} {v:Value} {w:World} (h:(Hold.made B t n l v).p w) (b:Nat) (hb:nH v=some b):b < w.heap.size:=by
 obtain⟨c,rfl,_,h⟩:=h;cases hb;exact h.lt
theorem aje {B:Nat} {t:TypeId} {v:Value} {w:World} (h:(Hold.box B t v).p w) (b:Nat) (hb:nH v=some b):b < w.heap.size:=by
 obtain⟨c,x,rfl,_,h⟩:=h;cases hb;exact h.lt
theorem vV {B:Nat} {t:TypeId} {n x k:Nat} {l:List Value} {u v:Value} {w:World} (hx:x < B) (h:(Hold.made B t n l v).p w):(Hold.made B t n l v).p (w.setCell ⟨x,k,none⟩ u):=by
 obtain⟨c,h1,h2,h3⟩:=h;exact⟨c,h1,h2,h3.other (a:=⟨x,k,none⟩) (show c≠x by omega) _⟩
def Hold.akk (B:Nat) (t:TypeId) (l:List Value) (v:Value):Hold:=⟨fun w=>∃ b,v = .pointer (some ⟨b,0,none⟩)∧B≤b∧Row w b t l,fun _ _ h hb=>let ⟨b,h1,h2,h3⟩:=h; ⟨b,h1,h2,h3.below hb h3.lt⟩⟩
theorem akl {B:Nat} {t:TypeId} {l:List Value} {v:Value} {w:World} (h:(Hold.akk B t l v).p w) (b:Nat) (hb:nH v=some b):b < w.heap.size:=by
 obtain⟨c,rfl,_,h⟩:=h;cases hb;exact h.lt
theorem jM {s:Says} {E:List Nat} {e:Nat→Value} (h:s.Apart E e) {i k:Nat} {b c:Nat} (hi:i∈E) (hk:k∈E) (mi:i∈s.mks) (mk':k∈s.mks) (hne:i≠k) (hu:nH (e i)=some b) (hv:nH (e k)=some c):b≠c:=by
 rintro rfl;exact h _ hi _ hk mi mk' hne b hu hv
end
open List renaming getElem_toArray → lq1, getElem_cons_zero → lq2, getElem_cons_succ → lq3, setIfInBounds_toArray → lq4, set_cons_zero → lq5, set_cons_succ → lq6
theorem ac3 (w:World) (F:Ag) (va vb:Value) (a b:Nat) (ha:Aj w F va a) (hb:Aj w F vb b) (hla:(dig a).length≤1000000) (hlb:(dig b).length≤1000000) :
  Calls Tryz.prog 165 #[va,vb] w (Ret w fun v _=>v = .int .i64 (dw a b)):=by
 refine(jo w F va vb a b ha hb hla hlb).mono ?_;rintro e w' ⟨rfl,z0,rfl⟩;exact⟨_,rfl,aK (Below.refl _ w) _,rfl⟩
theorem aaN (x:Rat):lM x = -1∨lM x=0∨lM x=1:=by unfold lM; split <;> (try split) <;> omega
theorem afO (a b:Nat):-1≤dw a b∧dw a b≤1:=by unfold dw; split <;> (try split) <;> omega
theorem aaO (w:World) (F:Ag) (va vb:Value) (x y:Rat) (ha:NmV w F va x) (hb:NmV w F vb y) (hlx:rl x≤20000) (hly:rl y≤20000) :
  Calls Tryz.prog 115 #[va,vb] w (Ret w fun v _=>v = .int .i64 (jh x y)):=by
 have lx:=jK x;have lx2:=jS x;have ly:=jK y;have ly2:=jS y;have hm1:(dig (x.num.natAbs*y.den)).length≤40000:=Nat.le_trans (dW _ _) byOmega;have hm2:(dig (y.num.natAbs*x.den)).length≤40000:=Nat.le_trans (dW _ _) byOmega;obtain⟨s,hs⟩:=named (lM x);obtain⟨t,ht⟩:=named (lM y);have hsc:=aaN x;rw[← hs] at hsc;have htc:=aaN y;rw[← ht] at htc;have h1:=Ac (fun h:s < t=>(adI (x:=x) (y:=y) (by rw[← hs,← ht]; exact h)).1);have h2:=Ac (fun h:t < s=>(adI (x:=y) (y:=x) (by rw[← hs,← ht]; exact h)).2);have h3:=Ac (fun (h:s=t) (h0:s=0)=>aiJ (x:=x) (y:=y) (by rw[← hs,← ht]; exact h) (by rw[← hs]; exact h0));have h4:=Ac (fun (h:s=t) (h0:s≠0)=>aiK (x:=x) (y:=y) (by rw[← hs,← ht]; exact h) (by rw[← hs]; exact h0));have HS:=Ac hs;have HT:=Ac ht;clear hs ht;have HX:=Ac ha.old;have HY:=Ac hb.old;obtain⟨A,c,B,d,rfl,hn,hd⟩:=ha.open;obtain⟨A',c',B',d',rfl,hn',hd'⟩:=hb.open;clear hn hd hn' hd' ha hb;go_in;go_wp2_with fail
 obtain⟨W,hW,rx,ry,hB,hz⟩:=alloc2 w 118 #[.bool (aN x).neg,.slice A (aN x).num.length c,.slice B (aN x).den.length d] 118 #[.bool (aN y).neg,.slice A' (aN y).num.length c',.slice B' (aN y).den.length d'];rw[← hW];clear hW;replace HX:=Ac (HX.out.on (Below.same' hB _));replace HY:=Ac (HY.out.on (Below.same' hB _));have hz:w.heap.size+2≤W.heap.size:=hz;refine ZL ?_;intro x0 x1 x2;have y0:=ry.cell (i:=0) rfl;have y1:=ry.cell (i:=1) rfl;have y2:=ry.cell (i:=2) rfl;clear rx ry;refine Zm ?_;intro hHeld;have hb:Below W.heap.size W W.drew:=aK (Below.refl _ W) 1;refine Zq ?_;clear x0 x1 x2 y0 y1 y2 HX HY;intro x0 x1 x2 y0 y1 y2 HX HY;refine Zd ?_;clear hz hB hb;intro hz hB;generalize W.drew=wn at *;refine tkm [0,2] ?_;refine tk2 1 ak rfl fun K hK=>?_
 go_simp;refine(ab5 _ _ _ x HX.out).mono ?_;rintro e wn ⟨_,rfl,hb,rfl⟩;rw[← HS.out];refine Zq ?_;clear x0 x1 x2 y0 y1 y2 HX HY;intro x0 x1 x2 y0 y1 y2 HX HY;refine Zh ?_;clear hz hB hb hHeld hK K;intro hz hB hHeld;refine tk2 3 ak rfl fun K hK=>?_
 go_simp;refine(ab5 _ _ _ y HY.out).mono ?_;rintro e wn ⟨_,rfl,hb,rfl⟩;rw[← HT.out];refine Zq ?_;clear x0 x1 x2 y0 y1 y2 HX HY;intro x0 x1 x2 y0 y1 y2 HX HY;refine Zh ?_;clear hz hB hb hHeld hK K;intro hz hB hHeld;refine tkm [4,5] ?_;refine YF ?_;clear hHeld;by_cases hlt:s < t
 ·have hd:=decide_eq_true hlt;have HR:=Ac (h1.out hlt);exact zcW
 have hd:=decide_eq_false hlt;by_cases hgt:t < s
 ·have hd2:=decide_eq_true hgt;have HR:=Ac (h2.out hgt);exact zcW
 have hd2:=decide_eq_false hgt;have hst:s=t:=byOmega;by_cases h0:s=0
 ·have HR:=Ac (h3.out hst h0);have he:(s==0)=true:=by rw[h0];rfl
  clear h0 hst;exact zcW
 have he:(s==0)=false:=beq_false_of_ne h0;have HR:=Ac (h4.out hst h0);have hs1:s=1∨s = -1:=byOmega;clear hst hlt hgt hsc htc h0 h1 h2 h3 h4;obtain⟨_,_,hh,hn,hd⟩:=HX.out;have HNX:=Ac (Aj.mono (n:=x.num.natAbs) (G:=(Ext (Old F w.heap.size) (w.heap.size+2))) hn (fun b hb _=>.inl hb));cases hh;clear hn hd;obtain⟨_,_,hh,hn,hd⟩:=HY.out;have HNY:=Ac (Aj.mono (n:=y.num.natAbs) (G:=(Ext (Old F w.heap.size) (w.heap.size+2))) hn (fun b hb _=>.inl hb));cases hh;clear hn hd;go_wp2_with fail
 refine Zm ?_;intro hHeld;refine zcR ?_;intro hb;refine Zb ?_;clear x0 x1 x2 y0 y1 y2 HX HY HNX HNY;intro x0 x1 x2 y0 y1 y2 HX HY HNX HNY;refine Zd ?_;clear hz hB hb;intro hz hB;generalize wn.drew=wn at *;refine tkm [0,1,2,3,6,7,8] ?_;refine tk2 4 ak rfl fun K hK=>?_
 go_simp;refine(qW _ _ _ y HY.out).mono ?_;rintro e wn ⟨vdy,rfl,hb,hu⟩;have HDY:=Ac (hu.mono (G:=(Ext (Old F w.heap.size) (w.heap.size+2))) (fun b hb _=>hb.elim .inl fun h=>.inr byOmega));clear hu;refine Zb ?_;clear x0 x1 x2 y0 y1 y2 HX HY HNX HNY;intro x0 x1 x2 y0 y1 y2 HX HY HNX HNY;refine Zh ?_;clear hz hB hb hHeld hK K;intro hz hB hHeld;refine tk2 5 ak rfl fun K hK=>?_
 go_simp;refine(oN _ _ _ _ x.num.natAbs y.den HNX.out HDY.out byOmega byOmega).mono ?_;rintro e wn ⟨vt1,rfl,hb,hu⟩;have HT1:=Ac (hu.mono (G:=(Ext (Old F w.heap.size) (w.heap.size+2))) (fun b hb _=>hb.elim id fun h=>.inr byOmega));clear hu;refine Zb ?_;clear x0 x1 x2 y0 y1 y2 HX HY HNX HNY;intro x0 x1 x2 y0 y1 y2 HX HY HNX HNY;replace HDY:=Ac (HDY.out.below hb);refine Zh ?_;clear hz hB hb hHeld hK K;intro hz hB hHeld;refine tk2 9 ak rfl fun K hK=>?_
 go_simp;refine(qW _ _ _ x HX.out).mono ?_;rintro e wn ⟨vdx,rfl,hb,hu⟩;have HDX:=Ac (hu.mono (G:=(Ext (Old F w.heap.size) (w.heap.size+2))) (fun b hb _=>hb.elim .inl fun h=>.inr byOmega));clear hu;refine Zb ?_;clear x0 x1 x2 y0 y1 y2 HX HY HNX HNY;intro x0 x1 x2 y0 y1 y2 HX HY HNX HNY;replace HDY:=Ac (HDY.out.below hb);replace HT1:=Ac (HT1.out.below hb);refine Zh ?_;clear hz hB hb hHeld hK K;intro hz hB hHeld;refine tk2 10 ak rfl fun K hK=>?_
 go_simp;refine(oN _ _ _ _ y.num.natAbs x.den HNY.out HDX.out byOmega byOmega).mono ?_;rintro e wn ⟨vt2,rfl,hb,hu⟩;have HT2:=Ac (hu.mono (G:=(Ext (Old F w.heap.size) (w.heap.size+2))) (fun b hb _=>hb.elim id fun h=>.inr byOmega));clear hu;refine Zb ?_;clear x0 x1 x2 y0 y1 y2 HX HY HNX HNY;intro x0 x1 x2 y0 y1 y2 HX HY HNX HNY;replace HDY:=Ac (HDY.out.below hb);replace HT1:=Ac (HT1.out.below hb);replace HDX:=Ac (HDX.out.below hb);refine Zh ?_;clear hz hB hb hHeld hK K;intro hz hB hHeld;refine tk2 11 ak rfl fun K hK=>?_
 go_simp;refine(ac3 _ _ _ _ (x.num.natAbs*y.den) (y.num.natAbs*x.den) HT1.out HT2.out byOmega byOmega).mono ?_;rintro e wn ⟨_,rfl,hb,rfl⟩;obtain⟨ho1,ho2⟩:=afO (x.num.natAbs*y.den) (y.num.natAbs*x.den);generalize dw (x.num.natAbs*y.den) (y.num.natAbs*x.den)=od at *;refine Zb ?_;clear x0 x1 x2 y0 y1 y2 HX HY HNX HNY;intro x0 x1 x2 y0 y1 y2 HX HY HNX HNY;replace HDY:=Ac (HDY.out.below hb);replace HT1:=Ac (HT1.out.below hb);replace HDX:=Ac (HDX.out.below hb);replace HT2:=Ac (HT2.out.below hb);refine Zh ?_;clear hz hB hb hHeld hK K;intro hz hB hHeld
 rcases hs1 with rfl | rfl
 all_goals
  refine tkm [12,13] ?_;refine YF ?_;clear hHeld;go_wp2
  go_ret;exact⟨_,rfl,hB,by rw[HR.out,← HS.out]; simp; exact IntWalk.i64_in _ byOmega⟩
theorem akm (x y:Rat) (l r:Nat):sgI (dV x) (x.num.natAbs*r)+sgI (dV y) (y.num.natAbs*l)=x.num*r+y.num*l:=by
 rw[kZ,kZ,kR,kR]
theorem alh (w:World) (F:Ag) (va vb:Value) (x y:Rat) (ha:NmV w F va x) (hb:NmV w F vb y) (hlx:rl x≤20000) (hly:rl y≤20000) (hx0:x=0) :
  Calls Tryz.prog 154 #[va,vb] w (Ret w fun v w'=>NmV w' (Ext F w.heap.size) v (x+y)):=by
 have dx:decide (x=0)=true:=decide_eq_true hx0;have HZ:=Ac (show x+y=y by rw[hx0,Rat.zero_add]);clear hx0;have HX:=Ac ha.old;have HY:=Ac hb.old;obtain⟨A,c,B,d,rfl,hn,hd⟩:=ha.open;obtain⟨A',c',B',d',rfl,hn',hd'⟩:=hb.open;clear hn hd hn' hd' ha hb;go_in;go_wp2_with fail
 refine ZJ ?_;clear HX HY;intro W rz hB hz;intro HX HY hz x0 x1 x2 y0 y1 y2;refine(mP _ _ _ x HX.out).mono ?_;rintro e wn ⟨_,rfl,hb,rfl⟩;rw[dx];refine Zq ?_;clear x0 x1 x2 y0 y1 y2 HX HY;intro x0 x1 x2 y0 y1 y2 HX HY;refine ZY ?_;clear rz hz hB hb;intro rz hz hB;refine Zv ?_;intro q0 y0 q1 y1 q2 y2;go_wp2
 obtain⟨Wz,hWz,hrz,hwz,hkz⟩:=dJ rz (.bool (aN y).neg) (.slice A' (aN y).num.length c') (.slice B' (aN y).den.length d');refine Zn ?_;clear hWz q0 q1 q2 y0 y1 y2;intro t0 t1 t2;refine bodyPost_ret (v:=.agg #[.bool (aN y).neg,.slice A' (aN y).num.length c',.slice B' (aN y).den.length d']) (by simp[results,Tryz.results154,go_sem,t0,t1,t2]) rfl ?_;exact⟨_,rfl,hwz _ _ byOmega hB,by rw[HZ.out]; exact(HY.out.on (hkz _ (fun h=>by have:=h.2; omega))).mono (fun b hb _=>.inl hb.1)⟩
theorem ali (w:World) (F:Ag) (va vb:Value) (x y:Rat) (ha:NmV w F va x) (hb:NmV w F vb y) (hlx:rl x≤20000) (hly:rl y≤20000) (hx0:x≠0) (hy0:y=0) :
  Calls Tryz.prog 154 #[va,vb] w (Ret w fun v w'=>NmV w' (Ext F w.heap.size) v (x+y)):=by
 have dx:decide (x=0)=false:=decide_eq_false hx0;have dy:decide (y=0)=true:=decide_eq_true hy0;have HZ:=Ac (show x+y=x by rw[hy0,Rat.add_zero]);clear hx0 hy0;have HX:=Ac ha.old;have HY:=Ac hb.old;obtain⟨A,c,B,d,rfl,hn,hd⟩:=ha.open;obtain⟨A',c',B',d',rfl,hn',hd'⟩:=hb.open;clear hn hd hn' hd' ha hb;go_in;go_wp2_with fail
 refine ZJ ?_;clear HX HY;intro W rz hB hz;intro HX HY hz x0 x1 x2 y0 y1 y2;refine(mP _ _ _ x HX.out).mono ?_;rintro e wn ⟨_,rfl,hb,rfl⟩;rw[dx];refine Zq ?_;clear x0 x1 x2 y0 y1 y2 HX HY;intro x0 x1 x2 y0 y1 y2 HX HY;refine ZY ?_;clear rz hz hB hb;intro rz hz hB;go_wp2_with fail
 refine(mP _ _ _ y HY.out).mono ?_;rintro e wn ⟨_,rfl,hb,rfl⟩;rw[dy];refine Zq ?_;clear x0 x1 x2 y0 y1 y2 HX HY;intro x0 x1 x2 y0 y1 y2 HX HY;refine ZY ?_;clear rz hz hB hb;intro rz hz hB;refine Zv ?_;intro q0 y0 q1 y1 q2 y2;go_wp2
 obtain⟨Wz,hWz,hrz,hwz,hkz⟩:=dJ rz (.bool (aN x).neg) (.slice A (aN x).num.length c) (.slice B (aN x).den.length d);refine Zn ?_;clear hWz q0 q1 q2 y0 y1 y2;intro t0 t1 t2;refine bodyPost_ret (v:=.agg #[.bool (aN x).neg,.slice A (aN x).num.length c,.slice B (aN x).den.length d]) (by simp[results,Tryz.results154,go_sem,t0,t1,t2]) rfl ?_;exact⟨_,rfl,hwz _ _ byOmega hB,by rw[HZ.out]; exact(HX.out.on (hkz _ (fun h=>by have:=h.2; omega))).mono (fun b hb _=>.inl hb.1)⟩
theorem afP (w:World) (F:Ag) (va vb:Value) (x y:Rat) (ha:NmV w F va x) (hb:NmV w F vb y) (hlx:rl x≤20000) (hly:rl y≤20000) (hx0:x≠0) (hy0:y≠0) (hxd:x.den=1) (hyd:y.den=1) :
  Calls Tryz.prog 154 #[va,vb] w (Ret w fun v w'=>NmV w' (Ext F w.heap.size) v (x+y)):=by
 have dx:decide (x=0)=false:=decide_eq_false hx0;have dy:decide (y=0)=false:=decide_eq_false hy0;have lx:=jK x;have ly:=jK y;have hlx1:(((aN x).den.length:Int)==0)=true:=by rw[pV hxd];rfl
 have hly1:(((aN y).den.length:Int)==0)=true:=by rw[pV hyd];rfl
 have HS:=Ac (ahh hxd hyd);have HXN:=Ac (kR x);have HYN:=Ac (kR y);clear hx0 hy0 hxd hyd;have HX:=Ac ha.old;have HY:=Ac hb.old;obtain⟨A,c,B,d,rfl,hn,hd⟩:=ha.open;obtain⟨A',c',B',d',rfl,hn',hd'⟩:=hb.open;clear hn hd hn' hd' ha hb;go_in;go_wp2_with fail
 refine ZJ ?_;clear HX HY;intro W rz hB hz;intro HX HY hz x0 x1 x2 y0 y1 y2;refine(mP _ _ _ x HX.out).mono ?_;rintro e wn ⟨_,rfl,hb,rfl⟩;rw[dx];refine Zq ?_;clear x0 x1 x2 y0 y1 y2 HX HY;intro x0 x1 x2 y0 y1 y2 HX HY;refine ZY ?_;clear rz hz hB hb;intro rz hz hB;go_wp2_with fail
 refine(mP _ _ _ y HY.out).mono ?_;rintro e wn ⟨_,rfl,hb,rfl⟩;rw[dy];refine Zq ?_;clear x0 x1 x2 y0 y1 y2 HX HY;intro x0 x1 x2 y0 y1 y2 HX HY;refine ZY ?_;clear rz hz hB hb;intro rz hz hB;go_wp2_with fail
 obtain⟨_,_,hh,hn,hd⟩:=HX.out;refine zaf ?_;intro HNX;cases hh;clear hn hd;obtain⟨_,_,hh,hn,hd⟩:=HY.out;refine zah ?_;intro HNY;cases hh;clear hn hd;refine(zi _ _ (dV x) (dV y) _ _ x.num.natAbs y.num.natAbs HNX.out HNY.out byOmega byOmega).mono ?_;rintro e wn ⟨_,rfl,hb,neg,t,rfl,hu,hs⟩;rw[HXN.out,HYN.out,← HS.out.2] at hu hs;have HT:=Ac (hu.mono (G:=(Ext (Old F w.heap.size) (w.heap.size+3))) (fun b hb _=>.inr byOmega));clear hu;have HSG:=Ac (show mkRat (sgI neg (x+y).num.natAbs) 1=x+y by rw[← hs,← HS.out.1,Rat.mkRat_self]);clear hs;refine Zb ?_;clear x0 x1 x2 y0 y1 y2 HX HY HNX HNY;intro x0 x1 x2 y0 y1 y2 HX HY HNX HNY;refine ZY ?_;clear rz hz hB hb;intro rz hz hB;go_wp2_with fail
 refine(yB _ _ _ _ _ (x+y).num.natAbs 1 [] HT.out (jG _ _ _ _) (.inr ⟨rfl,rfl⟩) aA (Nat.gcd_one_right _) ay).mono ?_;rintro e wn ⟨vm,rfl,hb,hu⟩;rw[HSG.out] at hu;have HM:=Ac hu;obtain⟨Am,cm,Bm,dm,rfl,hn,hd⟩:=hu.open;clear hn hd hu;refine Zb ?_;clear x0 x1 x2 y0 y1 y2 HX HY HNX HNY;intro x0 x1 x2 y0 y1 y2 HX HY HNX HNY;replace HT:=Ac (HT.out.below hb);refine ZY ?_;clear rz hz hB hb;intro rz hz hB;clear x0 x1 x2 y0 y1 y2;refine Zv ?_;intro q0 y0 q1 y1 q2 y2;go_wp2
 obtain⟨Wz,hWz,hrz,hwz,hkz⟩:=dJ rz (.bool (aN (x+y)).neg) (.slice Am (aN (x+y)).num.length cm) (.slice Bm (aN (x+y)).den.length dm);refine Zn ?_;clear hWz q0 q1 q2 y0 y1 y2;intro t0 t1 t2;refine bodyPost_ret (v:=.agg #[.bool (aN (x+y)).neg,.slice Am (aN (x+y)).num.length cm,.slice Bm (aN (x+y)).den.length dm]) (by simp[results,Tryz.results154,go_sem,t0,t1,t2]) rfl ?_;exact Zz
theorem ab8 (w:World) (F:Ag) (va vb:Value) (x y:Rat) (ha:NmV w F va x) (hb:NmV w F vb y) (hlx:rl x≤20000) (hly:rl y≤20000) (hx0:x≠0) (hy0:y≠0) (hw:x.den≠1∨(x.den=1∧y.den≠1)) :
  Calls Tryz.prog 154 #[va,vb] w (Ret w fun v w'=>NmV w' (Ext F w.heap.size) v (x+y)):=by
 have dx:decide (x=0)=false:=decide_eq_false hx0;have dy:decide (y=0)=false:=decide_eq_false hy0;have lx:=jK x;have ly:=jK y;have lx2:=jS x;have ly2:=jS y;obtain⟨g,hg⟩:=named (Nat.gcd x.den y.den);obtain⟨l,hl⟩:=named (x.den / g);obtain⟨r,hr⟩:=named (y.den / g);obtain⟨t,ht⟩:=named (x.num*r+y.num*l);obtain⟨f,hf⟩:=named (Nat.gcd t.natAbs g);have hap:=ahf x y hg hl hr ht hf;have hsum:=akm x y l r;rw[← ht] at hsum;have hg0:g≠0:=by rw[hg];exact Nat.ne_of_gt (Nat.gcd_pos_of_pos_left _ x.den_pos)
 have hf0:f≠0:=by rw[hf];exact Nat.ne_of_gt (Nat.gcd_pos_of_pos_right _ byOmega)
 have hlg:(dig g).length≤20000:=Nat.le_trans (aX (by rw[hg]; exact Nat.gcd_le_right _ y.den_pos)) byOmega;have hlf:(dig f).length≤20000:=Nat.le_trans (aX (by rw[hf]; exact Nat.gcd_le_right _ byOmega)) hlg;have hll:(dig l).length≤20000:=by rw[hl];exact Nat.le_trans (ny _ _) byOmega
 have hlr:(dig r).length≤20000:=by rw[hr];exact Nat.le_trans (ny _ _) byOmega
 have hlxr:(dig (x.num.natAbs*r)).length≤40000:=Nat.le_trans (dW _ _) byOmega;have hlyl:(dig (y.num.natAbs*l)).length≤40000:=Nat.le_trans (dW _ _) byOmega;have hlt:(dig t.natAbs).length≤40001:=by
  have h1:t.natAbs≤x.num.natAbs*r+y.num.natAbs*l:=by rw[ht];refine Nat.le_trans (Int.natAbs_add_le _ _) ?_;rw[Int.natAbs_mul,Int.natAbs_mul];exact Nat.le_refl _
  have h2:=aX h1;have h3:=rX (x.num.natAbs*r) (y.num.natAbs*l);omega
 have hlfy:(dig (y.den / f)).length≤20000:=Nat.le_trans (ny _ _) byOmega;have hlxy:=acI x y;have hlxd:=jS (x+y);have HAP:=Ac hap;have HSUM:=Ac hsum;have HGE:=Ac hg;have HLE:=Ac hl;have HRE:=Ac hr;have HFE:=Ac hf;have hbx:((((aN x).den.length:Int)==0)=false)∨((((aN x).den.length:Int)==0)=true∧(((aN y).den.length:Int)==0)=false):=by
  have key:∀ z:Rat,z.den≠1→(((aN z).den.length:Int)==0)=false:=by intro z hz;rw[aaJ hz];have:=bI.2 z.den_nz;exact beq_false_of_ne byOmega
  rcases hw with h | ⟨h,h2⟩
  ·exact .inl (key x h)
  ·exact .inr ⟨by rw[pV h]; rfl,key y h2⟩
 clear hw hx0 hy0 hap hsum hg hl hr ht hf;have HX:=Ac ha.old;have HY:=Ac hb.old;obtain⟨A,c,B,d,rfl,hn,hd⟩:=ha.open;obtain⟨A',c',B',d',rfl,hn',hd'⟩:=hb.open;clear hn hd hn' hd' ha hb;go_in;go_wp2_with fail
 refine ZJ ?_;clear HX HY;intro W rz hB hz;intro HX HY hz x0 x1 x2 y0 y1 y2;refine(mP _ _ _ x HX.out).mono ?_;rintro e wn ⟨_,rfl,hb,rfl⟩;rw[dx];refine Zq ?_;clear x0 x1 x2 y0 y1 y2 HX HY;intro x0 x1 x2 y0 y1 y2 HX HY;refine ZY ?_;clear rz hz hB hb;intro rz hz hB;go_wp2_with fail
 refine(mP _ _ _ y HY.out).mono ?_;rintro e wn ⟨_,rfl,hb,rfl⟩;rw[dy];refine Zq ?_;clear x0 x1 x2 y0 y1 y2 HX HY;intro x0 x1 x2 y0 y1 y2 HX HY;refine ZY ?_;clear rz hz hB hb;intro rz hz hB;obtain⟨_,_,hh,hn,hd⟩:=HX.out;refine zaf ?_;intro HNX;cases hh;clear hn hd;obtain⟨_,_,hh,hn,hd⟩:=HY.out;refine zah ?_;intro HNY;cases hh;clear hn hd;rcases hbx with hb1 | ⟨hb1,hb2⟩
 all_goals
  go_wp2_with fail
  refine Zm ?_;intro hHeld;refine zcR ?_;intro hb;refine Zb ?_;clear x0 x1 x2 y0 y1 y2 HX HY HNX HNY;intro x0 x1 x2 y0 y1 y2 HX HY HNX HNY;replace rz:=rz.below hb rz.lt;refine Zd ?_;clear hz hB hb;intro hz hB;generalize wn.drew=wn at *;refine tkm [0,2] ?_;refine tk2 1 ak rfl fun K hK=>?_
  go_simp;refine(qW _ _ _ x HX.out).mono ?_;rintro e wn ⟨vdx,rfl,hb,hu⟩;have HDX:=Ac (hu.mono (G:=(Ext (Old F w.heap.size) (w.heap.size+3))) (fun b hb _=>hb.elim .inl fun h=>.inr byOmega));clear hu;refine Zb ?_;clear x0 x1 x2 y0 y1 y2 HX HY HNX HNY;intro x0 x1 x2 y0 y1 y2 HX HY HNX HNY;refine Y4 ?_;clear rz hz hB hb hHeld hK K;intro rz hz hB hHeld;refine tk2 3 ak rfl fun K hK=>?_
  go_simp;refine(qW _ _ _ y HY.out).mono ?_;rintro e wn ⟨vdy,rfl,hb,hu⟩;have HDY:=Ac (hu.mono (G:=(Ext (Old F w.heap.size) (w.heap.size+3))) (fun b hb _=>hb.elim .inl fun h=>.inr byOmega));clear hu;refine Zb ?_;clear x0 x1 x2 y0 y1 y2 HX HY HNX HNY;intro x0 x1 x2 y0 y1 y2 HX HY HNX HNY;replace HDX:=Ac (HDX.out.below hb);refine Y4 ?_;clear rz hz hB hb hHeld hK K;intro rz hz hB hHeld;refine tkm [4,5] ?_;refine YF ?_;clear hHeld;go_wp2_with fail
  refine(zh _ _ _ _ x.den y.den HDX.out HDY.out byOmega byOmega).mono ?_;rintro e wn ⟨vg,rfl,hb,hu⟩;rw[← HGE.out] at hu;have HG:=Ac (hu.mono (G:=(Ext (Old F w.heap.size) (w.heap.size+3))) (fun b hb _=>hb.elim id fun h=>.inr byOmega));clear hu;refine Zw ?_;clear x0 x1 x2 y0 y1 y2 HX HY HNX HNY HDX HDY;intro x0 x1 x2 y0 y1 y2 HX HY HNX HNY HDX HDY;refine ZY ?_;clear rz hz hB hb;intro rz hz hB;go_wp2_with fail
  refine(uy _ _ _ _ x.den g HDX.out HG.out hg0 byOmega byOmega).mono ?_;rintro e wn ⟨vl,rfl,hb,hu⟩;rw[← HLE.out] at hu;have HL:=Ac (hu.mono (G:=(Ext (Old F w.heap.size) (w.heap.size+3))) (fun b hb _=>hb.elim id fun h=>.inr byOmega));clear hu;refine Zw ?_;clear x0 x1 x2 y0 y1 y2 HX HY HNX HNY HDX HDY;intro x0 x1 x2 y0 y1 y2 HX HY HNX HNY HDX HDY;replace HG:=Ac (HG.out.below hb);refine ZY ?_;clear rz hz hB hb;intro rz hz hB;go_wp2_with fail
  refine(uy _ _ _ _ y.den g HDY.out HG.out hg0 byOmega byOmega).mono ?_;rintro e wn ⟨vr,rfl,hb,hu⟩;rw[← HRE.out] at hu;have HR:=Ac (hu.mono (G:=(Ext (Old F w.heap.size) (w.heap.size+3))) (fun b hb _=>hb.elim id fun h=>.inr byOmega));clear hu;refine Zw ?_;clear x0 x1 x2 y0 y1 y2 HX HY HNX HNY HDX HDY;intro x0 x1 x2 y0 y1 y2 HX HY HNX HNY HDX HDY;replace HG:=Ac (HG.out.below hb);replace HL:=Ac (HL.out.below hb);refine ZY ?_;clear rz hz hB hb;intro rz hz hB;go_wp2_with fail
  refine Zm ?_;intro hHeld;refine zcR ?_;intro hb;refine Zw ?_;clear x0 x1 x2 y0 y1 y2 HX HY HNX HNY HDX HDY;intro x0 x1 x2 y0 y1 y2 HX HY HNX HNY HDX HDY;refine zcE ?_;clear HG HL HR;intro HG HL HR;replace rz:=rz.below hb rz.lt;refine Zd ?_;clear hz hB hb;intro hz hB;generalize wn.drew=wn at *;refine tkm [0,1,2,3,4,6,7,8,9,10] ?_;refine tk2 5 ak rfl fun K hK=>?_
  go_simp;refine(oN _ _ _ _ x.num.natAbs r HNX.out HR.out byOmega byOmega).mono ?_;rintro e wn ⟨vt1,rfl,hb,hu⟩;have HT1:=Ac (hu.mono (G:=(Ext (Old F w.heap.size) (w.heap.size+3))) (fun b hb _=>hb.elim id fun h=>.inr byOmega));clear hu;refine Zw ?_;clear x0 x1 x2 y0 y1 y2 HX HY HNX HNY HDX HDY;intro x0 x1 x2 y0 y1 y2 HX HY HNX HNY HDX HDY;refine zcE ?_;clear HG HL HR;intro HG HL HR;refine Y4 ?_;clear rz hz hB hb hHeld hK K;intro rz hz hB hHeld;refine tk2 11 ak rfl fun K hK=>?_
  go_simp;refine(oN _ _ _ _ y.num.natAbs l HNY.out HL.out byOmega byOmega).mono ?_;rintro e wn ⟨vt2,rfl,hb,hu⟩;have HT2:=Ac (hu.mono (G:=(Ext (Old F w.heap.size) (w.heap.size+3))) (fun b hb _=>hb.elim id fun h=>.inr byOmega));clear hu;refine Zw ?_;clear x0 x1 x2 y0 y1 y2 HX HY HNX HNY HDX HDY;intro x0 x1 x2 y0 y1 y2 HX HY HNX HNY HDX HDY;refine zcE ?_;clear HG HL HR;intro HG HL HR;replace HT1:=Ac (HT1.out.below hb);refine Y4 ?_;clear rz hz hB hb hHeld hK K;intro rz hz hB hHeld;refine tk2 12 ak rfl fun K hK=>?_
  go_simp;refine(zi _ _ (dV x) (dV y) _ _ (x.num.natAbs*r) (y.num.natAbs*l) HT1.out HT2.out byOmega byOmega).mono ?_;rintro e wn ⟨_,rfl,hb,neg,vt,rfl,hu,hs⟩;rw[HSUM.out] at hu hs;have HT:=Ac (hu.mono (G:=(Ext (Old F w.heap.size) (w.heap.size+3))) (fun b hb _=>.inr byOmega));have HNE:=Ac hs;clear hs;have hvt:∃ At ct,vt = .slice At (dig t.natAbs).length ct:=by obtain⟨At,ct,h,_⟩:=hu;exact⟨At,ct,h⟩
  obtain⟨At,ct,rfl⟩:=hvt;clear hu;refine Zw ?_;clear x0 x1 x2 y0 y1 y2 HX HY HNX HNY HDX HDY;intro x0 x1 x2 y0 y1 y2 HX HY HNX HNY HDX HDY;refine zcE ?_;clear HG HL HR;intro HG HL HR;replace HT1:=Ac (HT1.out.below hb);replace HT2:=Ac (HT2.out.below hb);refine Y4 ?_;clear rz hz hB hb hHeld hK K;intro rz hz hB hHeld;refine tkm [13,14,15,16,17] ?_;refine YF ?_;clear hHeld;by_cases ht0:t=0
  ·have hl0:(((dig t.natAbs).length:Int)==0)=true:=by rw[ht0];simp[bM]
   have HZ:=Ac (show x+y=0 by refine(nT _).1 ?_; rw[HAP.out.1,ht0]; simp);clear ht0;refine Zv ?_;intro q0 y0 q1 y1 q2 y2;go_wp2
   obtain⟨Wz,hWz,hrz,hwz,hkz⟩:=dJ rz (.bool false) (.slice none 0 0) (.slice none 0 0);refine Zn ?_;clear hWz q0 q1 q2 y0 y1 y2;intro t0 t1 t2;refine bodyPost_ret (v:=.agg #[.bool false,.slice none 0 0,.slice none 0 0]) (by simp[results,Tryz.results154,go_sem,t0,t1,t2]) rfl ?_;exact⟨_,rfl,hwz _ _ byOmega hB,by rw[HZ.out]; exact NmV.zero _ _ _ _ _ _⟩
  ·have hl0:(((dig t.natAbs).length:Int)==0)=false:=by have:=(bI (n:=t.natAbs)).2 byOmega;exact beq_false_of_ne byOmega
   have HNG:=Ac (show neg=dV (x+y) by rw[HAP.out.2.2,HNE.out]; exact(uf byOmega).symm);clear ht0;clear x0 x1 x2 y0 y1 y2;go_wp2_with fail
   refine(zh _ _ _ _ t.natAbs g HT.out HG.out byOmega byOmega).mono ?_;rintro e wn ⟨vf,rfl,hb,hu⟩;rw[← HFE.out] at hu;have HF:=Ac (hu.mono (G:=(Ext (Old F w.heap.size) (w.heap.size+3))) (fun b hb _=>hb.elim id fun h=>.inr byOmega));clear hu;refine Zu ?_;clear HX HY HNX HNY HDX HDY HG HL HR HT1 HT2 HT;intro HX HY HNX HNY HDX HDY HG HL HR HT1 HT2 HT;refine ZY ?_;clear rz hz hB hb;intro rz hz hB;go_wp2_with fail
   refine(uy _ _ _ _ t.natAbs f HT.out HF.out hf0 byOmega byOmega).mono ?_;rintro e wn ⟨vp,rfl,hb,hu⟩;rw[← HAP.out.1] at hu;have HP:=Ac (hu.mono (G:=(Ext (Old F w.heap.size) (w.heap.size+3))) (fun b hb _=>hb.elim id fun h=>.inr byOmega));clear hu;refine Zu ?_;clear HX HY HNX HNY HDX HDY HG HL HR HT1 HT2 HT;intro HX HY HNX HNY HDX HDY HG HL HR HT1 HT2 HT;replace HF:=Ac (HF.out.below hb);refine ZY ?_;clear rz hz hB hb;intro rz hz hB;go_wp2_with fail
   refine(uy _ _ _ _ y.den f HDY.out HF.out hf0 byOmega byOmega).mono ?_;rintro e wn ⟨vq,rfl,hb,hu⟩;have HQ:=Ac (hu.mono (G:=(Ext (Old F w.heap.size) (w.heap.size+3))) (fun b hb _=>hb.elim id fun h=>.inr byOmega));clear hu;refine Zu ?_;clear HX HY HNX HNY HDX HDY HG HL HR HT1 HT2 HT;intro HX HY HNX HNY HDX HDY HG HL HR HT1 HT2 HT;replace HF:=Ac (HF.out.below hb);replace HP:=Ac (HP.out.below hb);refine ZY ?_;clear rz hz hB hb;intro rz hz hB;go_wp2_with fail
   refine(oN _ _ _ _ l (y.den / f) HL.out HQ.out byOmega byOmega).mono ?_;rintro e wn ⟨vd,rfl,hb,hu⟩;rw[← HAP.out.2.1] at hu;have HD:=Ac (hu.mono (G:=(Ext (Old F w.heap.size) (w.heap.size+3))) (fun b hb _=>hb.elim id fun h=>.inr byOmega));clear hu;refine Zu ?_;clear HX HY HNX HNY HDX HDY HG HL HR HT1 HT2 HT;intro HX HY HNX HNY HDX HDY HG HL HR HT1 HT2 HT;replace HF:=Ac (HF.out.below hb);replace HP:=Ac (HP.out.below hb);replace HQ:=Ac (HQ.out.below hb);refine ZY ?_;clear rz hz hB hb;intro rz hz hB;go_wp2_with fail
   refine(yB _ _ _ _ _ (x+y).num.natAbs (x+y).den (dig (x+y).den) HP.out HD.out (.inl rfl) (x+y).den_nz (pG _) byOmega).mono ?_;rintro e wn ⟨vm,rfl,hb,hu⟩;rw[HNG.out,aai] at hu;have HM:=Ac hu;obtain⟨Am,cm,Bm,dm,rfl,hn,hd⟩:=hu.open;clear hn hd hu;refine Zu ?_;clear HX HY HNX HNY HDX HDY HG HL HR HT1 HT2 HT;intro HX HY HNX HNY HDX HDY HG HL HR HT1 HT2 HT;replace HF:=Ac (HF.out.below hb);replace HP:=Ac (HP.out.below hb);replace HQ:=Ac (HQ.out.below hb);replace HD:=Ac (HD.out.below hb);refine ZY ?_;clear rz hz hB hb;intro rz hz hB;refine Zv ?_;intro q0 y0 q1 y1 q2 y2;go_wp2
   obtain⟨Wz,hWz,hrz,hwz,hkz⟩:=dJ rz (.bool (aN (x+y)).neg) (.slice Am (aN (x+y)).num.length cm) (.slice Bm (aN (x+y)).den.length dm);refine Zn ?_;clear hWz q0 q1 q2 y0 y1 y2;intro t0 t1 t2;refine bodyPost_ret (v:=.agg #[.bool (aN (x+y)).neg,.slice Am (aN (x+y)).num.length cm,.slice Bm (aN (x+y)).den.length dm]) (by simp[results,Tryz.results154,go_sem,t0,t1,t2]) rfl ?_;exact Zz
theorem ajf (w:World) (F:Ag) (va vb:Value) (x y:Rat) (ha:NmV w F va x) (hb:NmV w F vb y) (hlx:rl x≤20000) (hly:rl y≤20000) :
  Calls Tryz.prog 154 #[va,vb] w (Ret w fun v w'=>NmV w' (Ext F w.heap.size) v (x+y)):=by
 by_cases hx0:x=0
 ·exact alh w F va vb x y ha hb hlx hly hx0
 by_cases hy0:y=0
 ·exact ali w F va vb x y ha hb hlx hly hx0 hy0
 by_cases hxd:x.den=1
 ·by_cases hyd:y.den=1
  ·exact afP w F va vb x y ha hb hlx hly hx0 hy0 hxd hyd
  ·exact ab8 w F va vb x y ha hb hlx hly hx0 hy0 (.inr ⟨hxd,hyd⟩)
 ·exact ab8 w F va vb x y ha hb hlx hly hx0 hy0 (.inl hxd)
theorem abu (w:World) (F:Ag) (v1 v2:Value) (l1 l2:List Nat) (h1:Ak w F v1 l1) (h2:Ak w F v2 l2) (hl1:l1.length < 1000000) (hl2:l2.length < 1000000) :
  Calls Tryz.prog 117 #[v1,v2] w fun e w'=>e = .returned (.bool (decide (l1=l2)))∧∃ n,w'=w.drewN n:=by
 obtain⟨A1,c1,rfl,hc1,r1⟩:=h1;obtain⟨A2,c2,rfl,hc2,r2⟩:=h2;by_cases hl:l1.length=l2.length
 ·refine zcC ?_;clear r1 r2 hl;intro R1 R2 HL hb;go_in;go_wp2
  go_loopw [5] (fun i wr=>∃ k:Nat,k≤l1.length∧i = .int .i64 k∧l1.take k=l2.take k∧∃ n,wr=w.drewN n) (fun i _=>l1.length - (intOf i).toNat)
  case atStart=>exact⟨0,byOmega,rfl,ay,0,rfl⟩
  case round =>
   obtain⟨k,hk,rfl,hpre,n,rfl⟩:=hrel;have HP:=Ac hpre;clear hpre;by_cases hlt:k < l1.length
   ·obtain⟨b1,o1,rfl,hb1,_,hcell1⟩:=R1.out byOmega;have hk2:k < l2.length:=by have:=HL.out;omega
    obtain⟨b2,o2,rfl,hb2,_,hcell2⟩:=R2.out byOmega;obtain⟨x,hx⟩:=aC hlt;obtain⟨y,hy⟩:=aC hk2;have e1:=hcell1 k x hx;have e2:=hcell2 k y hy;unfold dA at e1 e2;rw[Nat.mul_one] at e1 e2;clear hcell1 hcell2;have HX:=Ac hx;clear hx;have HY:=Ac hy;clear hy;by_cases he:x=y
    ·subst he;go_wp2
     go_quiet (fail)
     go_wp2
     go_roundw
     case rel=>exact⟨k+1,byOmega,by go_num,je HX.out HY.out HP.out,_,rfl⟩
     case measure=>simp[intOf]; omega
    ·have hne:((x:Int) != (y:Int))=true:=aB;have hfin:decide (l1=l2)=false:=by
      exact zcJ
     have HF:=Ac hfin;clear hfin he;exact Y6
   ·go_wp2
    go_ret;have:k=l1.length:=byOmega;have h3:=HP.out;have h4:=HL.out;refine⟨?_,_,rfl⟩;have h5:l1=l2:=by
     exact YA
    simp[h5]
 ·have hb:((l1.length:Int) != (l2.length:Int))=true:=aB;go_in;go_wp2
  go_ret;refine⟨?_,0,rfl⟩;have:l1≠l2:=by rintro rfl;exact hl rfl
  simp[this]
theorem uZ (w:World) (F:Ag) (v1 v2:Value) (l1 l2:List Nat) (h1:Ak w F v1 l1) (h2:Ak w F v2 l2) (hl1:l1.length < 1000000) (hl2:l2.length < 1000000) :
  Calls Tryz.prog 117 #[v1,v2] w (Ret w fun v _=>v = .bool (decide (l1=l2))):=by
 refine(abu w F v1 v2 l1 l2 h1 h2 hl1 hl2).mono ?_;rintro e w' ⟨rfl,n,rfl⟩;exact⟨_,rfl,aK (Below.refl _ w) _,rfl⟩
theorem zk (w:World) (F:Ag) (v:Value) (n:Nat) (hv:Aj w F v n) (hl:(dig n).length≤1000000) :
  Calls Tryz.prog 125 #[v] w (Ret w fun u w'=>Aj w' (fun b=>w.heap.size≤b) u n):=by
 have HV:=Ac hv;obtain⟨A,c,rfl,hc,hr⟩:=hv;have hq:=fun w=>Lib.run_eql_slice_nil (P:=Tryz.prog) w 81 166 A (dig n).length c 0 0 Tryz.underlying81
 cases A with
 | none =>
  have hn:n=0:=by
   rcases Nat.eq_zero_or_pos n with h | h
   ·exact h
   ·obtain⟨b,off,hh,_⟩:=hr (bI.2 byOmega);cases hh
  have e:(dig n).length=0:=by rw[hn,bM];rfl
  rw[e] at hq ⊢;have H0:=Ac hn;clear hr HV e hn;go_in;go_wp2
  go_ret;exact⟨_,rfl,Below.refl _ _,by rw[H0.out]; exact Aj.zero _ _ _ _⟩
 | some ad =>
  clear hr;go_in;go_wp2_with (at_builtin; refine uY (F:=F) rfl _ _ 81 Tryz.underlying81 rfl (some ⟨w.heap.size,0,none⟩) (fun _ h=>⟨_,(Option.some.inj h).symm⟩) _ (dig n) rfl rfl (Ak.on HV.out (Same.alloc _ _ _)) hl ?_; intro u w3 hb3 hi3)
  go_ret;refine⟨_,rfl,((Below.refl _ w).alloc (Nat.le_refl _) _).trans (hb3.mono ay),?_⟩;exact Ak.keep hi3.limbs (fun b hb _=>by simp at hb; omega) (Same.refl _ _)
theorem ajg {l:List Rat} {L:List RV} {k:Nat} {x:Rat} {q:RV} (hl:L.length=l.length) (hr:L.map RV.r=(l.take k).map aG++List.replicate (l.length - k) rv0.r) (hx:l[k]? = some x) (hq:q.r=aG x):(L.set k q).map RV.r=(l.take (k+1)).map aG++List.replicate (l.length - (k+1)) rv0.r:=by
 have hk:=aI hx;rw[List.map_set,hr,hq,take_snoc hx,List.map_append,List.map_cons,List.map_nil];have h1:((l.take k).map aG).length=k:=by rw[List.length_map,List.length_take];omega
 rw[List.set_append_right _ _ byOmega,h1,Nat.sub_self,show l.length - k=(l.length - (k+1))+1 by omega,List.replicate_succ,List.set_cons_zero,List.append_assoc];rfl
theorem aaP (w:World) (F:Ag) (v:Value) (l:List Rat) (hv:Bo w F v l) (hl:l.length≤1000) (hx:∀ x∈l,rl x≤20000) :
  Calls Tryz.prog 66 #[v] w (Ret w fun u w'=>Bo w' (fun b=>w.heap.size≤b) u l):=by
 have HV:=Ac hv;have HXB:=Ac hx;obtain⟨A,c,hv0,hc,hr⟩:=hv;rw[List.length_map] at hv0 hr;subst hv0;have HR:=Ac hr;clear hr hx hc;go_in;go_wp2_with (at_make; refine ahI w rfl _ _ 64 rfl 83 Tryz.underlying64 Tryz.infoRat l.length rfl rfl byOmega ?_; intro w1 hb1 hz1 hm1; have HM:=Ac (hm1 (fun b=>w.heap.size < b)); clear hm1)
 have hbel0:=hb1;go_wp2_with fail
 go_loopw [11] (fun i wr=>∃ (k:Nat) (L:List RV),k≤l.length∧i = .int .i64 (k:Int)∧L.length=l.length∧L.map RV.r=(l.take k).map aG++List.replicate (l.length - k) rv0.r∧Bd wr w.heap.size 83 (fun b=>w.heap.size < b) L∧Below w.heap.size w wr) (fun i _=>l.length - (intOf i).toNat)
 case atStart=>exact⟨0,List.replicate l.length rv0,byOmega,rfl,ay,ay,HM.out,hbel0⟩
 case round =>
  clear HM hbel0 hb1;obtain⟨k,L,hk,rfl,hLl,hLr,akT,hbel⟩:=hrel;have HM:=Ac akT;have HLL:=Ac hLl;have HLR:=Ac hLr;clear akT hLl hLr;by_cases hlt:k < l.length
  case neg =>
   go_wp2_with fail
   go_ret;refine⟨_,rfl,hbel,?_⟩;have h5:=HM.out.aaC (G:=fun b=>w.heap.size≤b) (fun b hb=>by omega) (Nat.le_refl _) (c:=l.length) (by rw[HLL.out]; exact Nat.le_refl _);rw[HLL.out,HLR.out,show k=l.length by omega,List.take_of_length_le (Nat.le_refl _),Nat.sub_self,List.replicate_zero,List.append_nil] at h5;exact h5
  obtain⟨x,hxk⟩:=aC hlt;obtain⟨q,hq⟩:=aC (l:=L) (k:=k) (by rw[HLL.out]; exact hlt);have hxr:=HXB.out x (List.mem_of_getElem? hxk);have hxn:=jK x;have hxd:=jS x;obtain⟨b,o,rfl,_,hb,hcell⟩:=HR.out byOmega;obtain⟨r0,⟨vn,r1,i1⟩,⟨vd,r2,i2⟩⟩:=hcell k (aG x) (by rw[List.getElem?_map,hxk]; rfl);have HN:=Ac (show Aj wr F vn x.num.natAbs from Ak.keep i1 (fun _ h _=>h) (Below.same' hbel _));have HD:=Ac (show Aj wr F vd x.den from Ak.keep i2 (fun _ h _=>h) (Below.same' hbel _));obtain⟨An,cn,rfl,_,_⟩:=i1;obtain⟨Ad,cd,rfl,_,_⟩:=i2;replace r0:=ah r0 hbel;replace r1:=ah r1 hbel;replace r2:=ah r2 hbel;have HX:=Ac hxk;have HQ:=Ac hq;clear hcell hxk hq;go_upto_region 5 with(fail)
  obtain⟨W1,hW1,rn,hb,hz1⟩:=aP wr 83 #[.bool (aG x).neg,.slice An (aG x).num.length cn,.slice Ad (aG x).den.length cd];rw[← hW1];clear hW1;obtain⟨nb,hnb⟩:=named wr.heap.size;have k3:w.heap.size < nb:=by rw[hnb];exact HM.out.row.lt
  rw[← hnb] at rn ⊢;refine zao ?_;clear HM HN HD hbel;intro HM HN HD hbel;have n0:=rn.cell (i:=0) rfl;have n1:=rn.cell (i:=1) rfl;have n2:=rn.cell (i:=2) rfl;clear hz1 hnb hb rn r0 r1 r2;go_wp2_with fail
  refine bD (fun w'=>w'.cell? ⟨nb,0,none⟩=some (.bool (aG x).neg)∧w'.cell? ⟨nb,1,none⟩=some (.slice An (aG x).num.length cn)∧w'.cell? ⟨nb,2,none⟩=some (.slice Ad (aG x).den.length cd)) 11 2 ak rfl ak ?_;have hHeld:(fun w':World=>w'.cell? ⟨nb,0,none⟩=some (.bool (aG x).neg)∧w'.cell? ⟨nb,1,none⟩=some (.slice An (aG x).num.length cn)∧w'.cell? ⟨nb,2,none⟩=some (.slice Ad (aG x).den.length cd)) W1.drew:=⟨n0,n1,n2⟩;refine ZB ?_;have hb:Below W1.heap.size W1 W1.drew:=aK (Below.refl _ W1) 1;replace n0:=ah n0 hb;replace n1:=ah n1 hb;replace n2:=ah n2 hb;refine zao ?_;clear HM HN HD hbel;intro HM HN HD hbel;clear hb;generalize W1.drew=wn at *;refine tkm [0,1,2,3,4,5,7,8] ?_;refine tk2 6 ak rfl fun K hK=>?_
  go_simp;refine(zk wn F _ x.num.natAbs HN.out byOmega).mono ?_;rintro e wn ⟨u1,rfl,hb,hu⟩;have HU1:=Ac (show Ak wn (fun b=>w.heap.size < b) u1 (aG x).num from Ak.keep hu (fun b hb _=>by have:=HM.out.row.lt; omega) (Same.refl _ _));obtain⟨Au,cu,hvu,_,_⟩:=id HU1.out;subst hvu;clear hu;replace n0:=ah n0 hb;replace n1:=ah n1 hb;replace n2:=ah n2 hb;refine zao ?_;clear HM HN HD hbel;intro HM HN HD hbel;clear hb;dsimp only;clear hHeld;refine hK.out _ _ ⟨n0,n1,n2⟩ (fun hHeld=>?_);clear hK K;refine Zc ?_;refine tk2 9 ak rfl fun K hK=>?_
  go_simp;refine(zk wn F _ x.den HD.out byOmega).mono ?_;rintro e wn ⟨u2,rfl,hb,hu⟩;have HU2:=Ac (show Ak wn (fun b=>w.heap.size < b) u2 (aG x).den from Ak.keep hu (fun b hb _=>by have:=HM.out.row.lt; omega) (Same.refl _ _));obtain⟨Av,cv,hvv,_,_⟩:=id HU2.out;subst hvv;clear hu;replace n0:=ah n0 hb;replace n1:=ah n1 hb;replace n2:=ah n2 hb;replace HM:=Ac (HM.out.below hb);replace HD:=Ac (Ak.keep HD.out (fun _ h _=>h) (Below.same' hb _));replace HU1:=Ac (Ak.keep HU1.out (fun _ h _=>h) (Below.same' hb _));replace hbel:=hbel.trans (hb.mono hbel.size);clear hb;dsimp only;clear hHeld;refine hK.out _ _ ⟨n0,n1,n2⟩ (fun hHeld=>?_);clear hK K;refine Zc ?_;refine tkm [10] ?_;refine ZA ?_;clear hHeld;obtain⟨qr,qn,qd⟩:=q;have y0:wn.cell? ⟨w.heap.size,k*3,none⟩=_:=HM.out.cell (j:=0) HQ.out aA rfl;have y1:=HM.out.cell (j:=1) HQ.out aA rfl;have y2:=HM.out.cell (j:=2) HQ.out aA rfl;have g0:=HM.out.row.frozen (k*3);have g1:=HM.out.row.frozen (k*3+1);have g2:=HM.out.row.frozen (k*3+2);obtain⟨Wz,hWz,hm2,hbw,_,_,_⟩:=HM.out.set k ⟨aG x,.slice Au (aG x).num.length cu,.slice Av (aG x).den.length cv⟩ ⟨Ak.keep HU1.out (fun b hb _=>⟨hb,byOmega⟩) (Same.refl _ _),Ak.keep HU2.out (fun b hb _=>⟨hb,byOmega⟩) (Same.refl _ _)⟩;have HWz:=Ac hWz;have HM2:=Ac hm2;have HBZ:=Ac (hbw _ _ (Nat.le_refl _) hbel);clear hWz hm2 hbw HU1 HU2 HM hbel n0 n1 n2 HD HN;go_wp2
  refine YX ?_;go_wp2
  rw[← HWz.out];refine zbk ?_;go_wp2
  go_roundw
  case rel=>exact⟨k+1,_,byOmega,by go_num,by rw[List.length_set,HLL.out],ajg HLL.out HLR.out HX.out rfl,HM2.out,HBZ.out⟩
  case measure=>simp[intOf]; omega
end Go.Proofs.YthmklhapjegfdaaGreatDoor

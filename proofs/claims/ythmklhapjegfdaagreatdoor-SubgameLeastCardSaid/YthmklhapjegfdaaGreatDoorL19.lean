/- Facts that no later step turns: for regions that draw their order. -/
import Derived.Test.YthmklhapjegfdaaGreatDoorL18
import Derived.Test.YthmklhapjegfdaaGreatDoorL15
set_option linter.all false
set_option maxRecDepth 100000
set_option maxHeartbeats 12800000
namespace Go.Proofs.YthmklhapjegfdaaGreatDoor
open Lib renaming hid → Aa
open Go.RowKit
theorem ah {w w':World} {b o:Nat} {v:Value} (h:w.cell? ⟨b,o,none⟩=some v) (hb:Below w.heap.size w w'):w'.cell? ⟨b,o,none⟩=some v :=
 (hb.cell (p:=⟨b,o,none⟩) (World.block_lt_of_cell? w _ h)).trans h
structure Fact where
 p:Value→World→Prop
 keep:∀ v w w',p v w→Below w.heap.size w w'→p v w'
def Fact.tt:Fact:=⟨fun _ _=>True,fun _ _ _ h _=>h⟩
def Fact.eq (u:Value):Fact:=⟨fun v _=>v=u,fun _ _ _ h _=>h⟩
def Fact.nat (F:Ac) (n:Nat):Fact:=⟨fun v w=>Ag w F v n,fun _ _ _ h hb=>h.below hb⟩
structure Hold where
 p:World→Prop
 keep:∀ w w',p w→Below w.heap.size w w'→p w'
def Hold.cell (b o:Nat) (v:Value):Hold:=⟨fun w=>w.cell? ⟨b,o,none⟩=some v,fun _ _ h hb=>ah h hb⟩
def Hold.of (f:Fact) (v:Value):Hold:=⟨fun w=>f.p v w,fun w w' h hb=>f.keep v w w' h hb⟩
def Hold.and (a b:Hold):Hold:=⟨fun w=>a.p w∧b.p w,fun w w' h hb=>⟨a.keep w w' h.1 hb,b.keep w w' h.2 hb⟩⟩
def Hold.below (B:Nat) (w0:World):Hold:=⟨fun w=>B≤w.heap.size∧Below B w0 w,fun w _ h hb=>⟨Nat.le_trans h.1 hb.size,h.2.trans (hb.mono h.1)⟩⟩
def facts (l:List (Nat×Fact)) (i:Nat) (v:Value) (w:World):Prop:=((l.lookup i).getD Fact.tt).p v w
section
variable {P:Program} {ops:Array Oper} {Q:Exit→Act→World→Prop}
end
def D7 (a b:Nat) (v:Value):Prop:=∃ M p q:Nat,v = .tuple #[.int .i64 (p:Int),.int .i64 (q:Int)]∧0 < M∧p=a / M∧q=b / M∧p < 1000000000000000000
theorem lead_any (w:World) (F:Ac) (va vb:Value) (a b:Nat) (ha:Ag w F va a) (hb:Ag w F vb b) (hba:b≤a) (hl3:3≤(dig a).length) (hla:(dig a).length≤100000) :
  Calls Tryz.prog 220 #[va,vb] w (Ret w fun v _=>D7 a b v):=by
 have HA:=Aa ha; have HB:=Aa hb;obtain⟨A,c,rfl,hc,hNa⟩:=ha;obtain⟨n,hn⟩:∃ n,n=(dig a).length:=⟨_,rfl⟩;obtain⟨n1,hn1⟩:∃ n1,n1+1=n:=⟨n - 1,by omega⟩;obtain⟨bk,o,rfl,_,hbk,hx⟩:=hNa (by omega);obtain⟨x,hx'⟩:=au (l:=dig a) (k:=n1) (by omega);have ex:=hx n1 x hx';unfold dU at ex;rw[Nat.mul_one] at ex;have hxl:x < 1000000000:=(aO a).get hx';have hx1:1≤x:=by
  have h1:=qV a;rw[List.getLast?_eq_getElem?,show(dig a).length - 1=n1 by omega,hx'] at h1;rcases Nat.eq_zero_or_pos x with h | h
  ·exact absurd (by rw[h]) h1
  ·exact h
 have hlb:=aV hba;rw[← hn] at hc hl3 hla hlb ⊢;replace HA:=Aa (show Ag w F (.slice (some ⟨bk,o,none⟩) n c) a by rw[hn]; exact HA.out);have HX:=Aa (show(dig a).getD (n - 1) 0=x by rw[show n - 1=n1 by omega]; exact aI hx');have HN:=Aa hn;have i1:(n:Int) - 1=(n1:Int):=by omega
 have hn1l:n1 < n:=by omega
 clear hx hx' hNa hb hn hn1;go_enter Tryz.func220,Tryz.ntmps220;go_wp2_with fail
 have hl0:w.heap.size < w.heap.size+1+1:=by omega
 go_loopw [] (fun wr=>∃ i T:Nat,10 ^ i*T=LB∧i≤9∧x*10 ^ i < LB∧Row wr w.heap.size 3 [.int .i64 (n:Int)]∧Row wr (w.heap.size+1) 180 [.int .u64 ((10 ^ i:Nat):Int)]∧Below w.heap.size w wr) (fun wr=>(match wr.cell? ⟨w.heap.size+1,0,none⟩ with | some v=>LB - (intOf v).toNat | none=>0))
 case atStart =>
  refine⟨0,LB,by simp,by omega,by simpa using hxl,?_,?_,?_⟩
  ·exact(Row.new w 3 #[.int .i64 (n:Int)]).alloc _
  ·have h:=Row.new (w.alloc (.cells #[.int .i64 (n:Int)] 3)) 180 #[.int .u64 1];simpa using h
  ·exact((Below.refl _ _).alloc (Nat.le_refl _) _).alloc (by simp) _
 case round =>
  obtain⟨i,T,hT,hi,hxi,hr0,hr1,hbel⟩:=hrel;have ex':=(aA hbel bk (o+n1) hbk).trans ex;have e0:=hr0.cell (i:=0) rfl;have e1:=hr1.cell (i:=0) rfl;have y1:=hr1.frozen 0;obtain⟨t,ht⟩:∃ t,t=10 ^ i:=⟨_,rfl⟩;have HT:=Aa (show t=10 ^ i∧t*T=LB from⟨ht,by rw[ht]; exact hT⟩);rw[← ht] at hxi e1 hr1 hT;have HXI:=Aa hxi;have ht1:1≤t:=by rw[ht]; exact Nat.pow_pos (by decide)
  have htl:t≤1000000000:=by
   have:1*t≤x*t:=Nat.mul_le_mul_right _ hx1;unfold LB at hxi; omega
  obtain⟨p,hp⟩:∃ p,p=x*t:=⟨_,rfl⟩;have hpI:(x:Int)*(t:Int)=(p:Int):=by rw[hp,Int.natCast_mul]
  have hpl:p < 1000000000:=by rw[hp]; exact hxi
  have hpt:t≤p:=by
   have:1*t≤x*t:=Nat.mul_le_mul_right _ hx1;omega
  have HP:=Aa hp;clear ht hT hxi hp;by_cases hcd:p*10 < 1000000000
  ·have hd:decide ((p:Int)*10 < 1000000000)=true:=decide_eq_true (by omega);have ht10:t*10 < 1000000000:=by omega
   have hi9:i < 9:=by
    rcases Nat.lt_or_ge i 9 with h | h
    ·exact h
    ·have h2:10 ^ 9≤10 ^ i:=Nat.pow_le_pow_right (by decide) h;have h3:=HT.out.1;have h4:(10:Nat) ^ 9=1000000000:=by decide
     omega
   have HI1:=Aa (show 10 ^ (i+1)=t*10 by rw[Nat.pow_succ,← HT.out.1]);have hT10:=Aa (show t*10*(T / 10)=LB by
    have h1:=HT.out.2;have h2:10 ∣ T:=by
     have h3:T=10 ^ (9 - i):=by
      have h4:10 ^ i*10 ^ (9 - i)=LB:=by rw[← Nat.pow_add,show i+(9 - i)=9 by omega]
      rw[HT.out.1] at h1;exact Nat.eq_of_mul_eq_mul_left (Nat.pow_pos (by decide)) (h1.trans h4.symm)
     rw[h3,show 9 - i=(9 - i - 1)+1 by omega,Nat.pow_succ];exact⟨_,Nat.mul_comm _ _⟩
    obtain⟨q,hq⟩:=h2;rw[hq,Nat.mul_div_cancel_left _ (by decide),Nat.mul_assoc,← hq]; exact h1)
   have HX10:=Aa (show x*(t*10) < LB by rw[← Nat.mul_assoc,← HP.out]; exact hcd);go_wp2
   go_quiet (fail)
   go_wp2
   go_roundw
   case rel =>
    refine⟨i+1,T / 10,by rw[HI1.out]; exact hT10.out,by omega,by rw[HI1.out]; exact HX10.out,?_,?_,?_⟩
    ·exact(hr0.dN _).other (a:=⟨w.heap.size+1,0,none⟩) (by simp) _
    ·rw[HI1.out];have h:=(hr1.dN nq).set 0 (.int .u64 ((t*10:Nat):Int));simpa using h
    ·exact(aG hbel nq).setCell (p:=⟨w.heap.size+1,0,none⟩) (by simp) _
   case measure =>
    have h1:=((hr1.dN nq).set 0 (.int .u64 ((t:Int)*10))).cell (i:=0) rfl;rw[h1,e1];simp only[intOf];unfold LB;omega
  ·have hd:decide ((p:Int)*10 < 1000000000)=false:=decide_eq_false (by omega);go_wp2
   go_quiet (fail)
   go_wp2_with fail
   have hB1:=aG hbel nq;have e0d:(wr.drewN nq).cell? ⟨w.heap.size,0,none⟩=some (.int .i64 (n:Int)):=e0;have e1d:(wr.drewN nq).cell? ⟨w.heap.size+1,0,none⟩=some (.int .u64 (t:Int)):=e1;obtain⟨wq,hwq⟩:∃ W:World,W=wr.drewN nq:=⟨_,rfl⟩;rw[← hwq] at hB1 e0d e1d ⊢;clear hwq e0 e1;have HTT:=HT.out.2;have hxt:(dig a).getD (n - 1) 0*t < LB:=by rw[HX.out]; exact HXI.out
   have hla2:(dig a).length=n:=HN.out.symm;have aiP:=aiC hla2 hl3 HTT (aO a) hxt;have HM:=Aa (show 0 < LB ^ (n - 3)*T by
    refine Nat.mul_pos (BA _) ?_;rcases Nat.eq_zero_or_pos T with h | h
    ·rw[h,Nat.mul_zero] at HTT; cases HTT
    ·exact h)
   have hltb:ay (dig b) / (LB ^ (n - 3)*T) < 1000000000000000000:=by
    refine Nat.lt_of_le_of_lt ?_ aiP;rw[aU,aU]; exact Nat.div_le_div_right (by omega)
   refine(abE _ F _ (dig a) n t T _ _ (HA.out.below hB1) (aO a) (by omega) hl3 hla HTT e0d e1d aiP).mono ?_;rintro e w1 ⟨_,rfl,hb1,rfl⟩;have e0':=ah e0d hb1;have e1':=ah e1d hb1;dsimp only;go_wp2_with fail
   refine(abE _ F _ (dig b) n t T _ _ ((HB.out.below hB1).below hb1) (aO b) (by omega) hl3 hla HTT e0' e1' hltb).mono ?_;rintro e w2 ⟨_,rfl,hb2,rfl⟩;rw[aU,aU];rw[aU] at aiP;dsimp only;go_wp2
   go_ret2;exact⟨_,rfl,hB1.trans ((hb1.trans (hb2.mono hb1.size)).mono hB1.size),_,_,_,rfl,HM.out,rfl,rfl,aiP⟩
structure NumFn (w:World) (fid:FuncId) (caps:Array Value) (xs:List Int) (f:Int→Rat):Prop where
 enters:∀ (args:Array Value) (w':World),(callFunc fid args).run Tryz.prog w' = .ok (.enter fid args) w'
 calls:∀ (W:World) (x:Int),x∈xs→Below w.heap.size w W→Calls Tryz.prog fid (#[.int .i64 x]++caps) W (Ret W fun u W'=>NmV W' (fun b=>W.heap.size≤b) u (f x))
def lU:Value→Option Nat
 | .slice (some a) _ _=>some a.block
 | .pointer (some a)=>some a.block
 | _=>none
def upd (e:Nat→Value) (j:Nat) (v:Value):Nat→Value:=fun k=>if k=j then v else e k
theorem adC {e:Nat→Value} {i j:Nat} {u v:Value} (h:i≠j):upd (upd e i u) j v=upd (upd e j v) i u:=by
 funext k
 unfold upd;split <;> split <;> simp_all
structure Says where
 uses:Nat→List Nat
 F:Nat→List Value→Hold
 cu:List Nat
 G:Nat→List Value→World→World→Prop
 mks:List Nat
def Says.R (s:Says) (i:Nat) (e:Nat→Value) (w:World):Prop:=(s.F i ((i :: s.uses i).map e)).p w
def Says.T (s:Says) (j:Nat) (e:Nat→Value) (w w':World):Prop:=bif s.cu.contains j then s.G j ((j :: s.uses j).map e) w w' else Below w.heap.size w w'
def Says.Apart (s:Says) (E:List Nat) (e:Nat→Value):Prop:=∀ p∈E,∀ q∈E,p∈s.mks→q∈s.mks→p≠q→∀ b,lU (e p)=some b→lU (e q)≠some b
theorem afO {l:List Nat} {e:Nat→Value} {j:Nat} {v:Value} (h:j ∉ l):l.map (upd e j v)=l.map e :=
 List.map_congr_left fun k hk=>if_neg (by rintro rfl; exact h hk)
theorem Says.Dy (s:Says) {i j:Nat} {e:Nat→Value} {v:Value} {w:World} (h:j ∉ i :: s.uses i):s.R i (upd e j v) w↔s.R i e w:=by unfold Says.R; rw[afO h]
theorem Says.EH (s:Says) {i j:Nat} {e:Nat→Value} {v:Value} {w w':World} (h:j ∉ i :: s.uses i):s.T i (upd e j v) w w'↔s.T i e w w':=by unfold Says.T; rw[afO h]
section
variable {P:Program} {ops:Array Oper} {Q:Exit→Act→World→Prop} {S:Hold} {s:Says}
def CO (s:Says) (e:Nat→Value) (w:World) (i:Nat) (u:Value) (w':World):Prop:=s.T i (upd e i u) w w'∧s.R i (upd e i u) w'∧(i∈s.mks→∀ b,lU u=some b→w.heap.size≤b)
def Ei (P:Program) (ops:Array Oper) (s:Says) (i:Nat) (e:Nat→Value) (a:Act) (w:World):Prop:=Step P ops (fun _ _=>True) (CO s e w) i a w
def AA (P:Program) (ops:Array Oper) (Q:Exit→Act→World→Prop) (S:Hold) (s:Says):List Nat→List Nat→(Nat→Value)→Act→Prop
 | [],E,e,a=>∀ w,S.p w→(∀ i∈E,s.R i e w)→s.Apart E e→Q .normal a w
 | j :: js,E,e,a=>(∀ w,S.p w→(∀ i∈E,dep .any ops j i=true→s.R i e w)→Ei P ops s j e a w)∧∀ v,AA P ops Q S s js (j :: E) (upd e j v) (a.put (dB ops j) v)
theorem Step.weak {T:World→World→Prop} {R R':Nat→Value→World→Prop} {i:Nat} {a:Act} {w:World} (h:Step P ops T R i a w) (f:∀ u w',R i u w'→R' i u w'):Step P ops T R' i a w :=
 fun o ho K hK=>h o ho K fun u w' ht hr=>hK u w' ht (f u w' hr)
theorem CO.upd {e:Nat→Value} {w w':World} {i j:Nat} {u v:Value} (hij:i≠j) (h:j ∉ i :: s.uses i):CO s (upd e j v) w i u w'↔CO s e w i u w':=by
 unfold CO;rw[← adC (e:=e) (u:=u) (v:=v) hij,s.EH h,s.Dy h]
theorem AA.perm:∀ {js E E':List Nat} {e:Nat→Value} {a:Act},(∀ p,p∈E'↔p∈E)→AA P ops Q S s js E e a→AA P ops Q S s js E' e a
 | [],_,_,_,_,h,H=>fun w hS hf hA=>H w hS (fun p hp=>hf p ((h p).2 hp)) (fun p hp q hq=>hA p ((h p).2 hp) q ((h q).2 hq))
 | j :: js,_,_,_,_,h,H=>⟨fun w hS hf=>H.1 w hS (fun p hp hd=>hf p ((h p).2 hp) hd),fun v=>AA.perm (fun p=>by simp[h p]) (H.2 v)⟩
def ahH (ops:Array Oper):Bool:=(List.range ops.size).all fun i=>match ops[i]? with
 | some o=>o.after.all fun e=>!Region.binds .any e||decide (e.on < i)
 | none=>true
theorem aeK {ops:Array Oper} {listed:Array Bool} (hs:listed.size=ops.size) (hb:ahH ops=true) (hr:Region.ready .any ops listed = []):∀ i,i < ops.size→listed.getD i true=true:=by
 intro i;induction i using Nat.strongRecOn with
 | _ i ih =>
  intro hi;by_cases hl:listed.getD i true=false
  ·exfalso
   have:i∈Region.ready .any ops listed:=by
    rw[mem_ready];refine⟨hl,ops[i],by simp[hi],fun e he hbe=>?_⟩;have h:=List.all_eq_true.1 hb i (List.mem_range.2 hi);rw[show ops[i]? = some ops[i] by simp[hi]] at h;have h1:=Array.all_eq_true'.1 h e he;rw[hbe] at h1;have hlt:e.on < i:=by simpa using h1
    have h2:=ih e.on hlt (by omega);have h3:e.on < listed.size:=by omega
    simp[h3] at h2 ⊢;exact h2
   rw[hr] at this;cases this
  ·simpa using hl
def ajq (ops:Array Oper) (listed:Array Bool) (js:List Nat) (fuel:Nat):Bool :=
 Region.noSelect ops&&ahH ops&&jV .any ops js&&decide (js.length≤fuel)&&js.all (fun j=>decide (j < ops.size))&&decide (js.Nodup)&&decide (listed.size=ops.size)&&(List.range ops.size).all (fun j=>js.contains j == !listed.getD j true)
structure Dl (ops:Array Oper) (s:Says) (js E:List Nat):Prop where
 apart:∀ k∈E,k ∉ js
 dep:∀ k∈E,∀ j∈js,dep .any ops k j=false
 uses:∀ k,k∈E∨k∈js→∀ x∈s.uses k,Go.Proofs.YthmklhapjegfdaaGreatDoor.dep .any ops k x=true
 there:∀ k∈js,∀ x∈s.uses k,x∈E∨x∈js
theorem Dl.cons {j:Nat} {js E:List Nat} (h:Dl ops s (j :: js) E) (hok:∀ i∈js,far .any ops j i=true) (hnd:j ∉ js):Dl ops s js (j :: E):=by
 refine⟨fun k hk hkj=>?_,fun k hk i hi=>?_,fun k hk=>?_,fun k hk x hx=>?_⟩
 ·rcases List.mem_cons.1 hk with rfl | hk
  ·exact hnd hkj
  ·exact h.apart k hk (List.mem_cons_of_mem _ hkj)
 ·rcases List.mem_cons.1 hk with rfl | hk
  ·exact abH (hok i hi)
  ·exact h.dep k hk i (List.mem_cons_of_mem _ hi)
 ·refine h.uses k ?_;rcases hk with hk | hk
  ·rcases List.mem_cons.1 hk with rfl | hk
   ·exact .inr (by simp)
   ·exact .inl hk
  ·exact .inr (List.mem_cons_of_mem _ hk)
 ·rcases h.there k (List.mem_cons_of_mem _ hk) x hx with h1 | h1
  ·exact .inl (List.mem_cons_of_mem _ h1)
  ·rcases List.mem_cons.1 h1 with rfl | h1
   ·exact .inl (by simp)
   ·exact .inr h1
theorem AA.pull (hn:Region.noSelect ops=true) {i:Nat}:∀ {js E:List Nat} {e:Nat→Value} {a:Act},(∀ j∈js,j < ops.size)→jV .any ops js=true→js.Nodup→i∈js→(∀ j∈js,dep .any ops i j=false)→Dl ops s js E→AA P ops Q S s js E e a →
  (∀ w,S.p w→(∀ k∈E,dep .any ops i k=true→s.R k e w)→Ei P ops s i e a w)∧∀ u,AA P ops Q S s (js.erase i) (i :: E) (upd e i u) (a.put (dB ops i) u)
 | [],_,_,_,_,_,_,hi,_,_,_=>by cases hi
 | j :: js,E,e,a,hlt,hok,hnd,hi,qg,hD,H=>by
  by_cases hji:j=i
  ·subst hji;rw[List.erase_cons_head];exact H
  ·have hi':i∈js:=by
    rcases List.mem_cons.1 hi with h | h
    ·exact absurd h.symm hji
    ·exact h
   simp only[jV,Bool.and_eq_true,List.all_eq_true] at hok;have agu:=hok.1 i hi';obtain⟨x,hx⟩:∃ x,ops[j]? = some x:=⟨ops[j]'(hlt j (by simp)),by simp[hlt j (by simp)]⟩;obtain⟨y,hy⟩:∃ y,ops[i]? = some y:=⟨ops[i]'(hlt i hi),by simp[hlt i hi]⟩;obtain⟨f1,f2,f3⟩:=aan hx hy agu;have f3':=f3 (qg j (by simp));have ex:dB ops j=x.dst:=by simp[dB,hx]
   have ey:dB ops i=y.dst:=by simp[dB,hy]
   have hji':j ∉ i :: s.uses i:=fun h=>by
    rcases List.mem_cons.1 h with h | h
    ·exact hji h
    ·have h1:=hD.uses i (.inr hi) j h;rw[qg j (by simp)] at h1; cases h1
   have hij':i ∉ j :: s.uses j:=fun h=>by
    rcases List.mem_cons.1 h with h | h
    ·exact hji h.symm
    ·have h1:=hD.uses j (.inr (by simp)) i h;rw[abH agu] at h1; cases h1
   have hkE:∀ z∈j :: js,∀ k∈E,z ∉ k :: s.uses k:=fun z hz k hk h=>by
    rcases List.mem_cons.1 h with h | h
    ·subst h; exact hD.apart _ hk hz
    ·have h1:=hD.uses k (.inl hk) z h;rw[hD.dep k hk z hz] at h1; cases h1
   have IH:=fun v=>AA.pull hn (i:=i) (js:=js) (E:=j :: E) (e:=upd e j v) (a:=a.put (dB ops j) v) (fun k hk=>hlt k (List.mem_cons_of_mem _ hk)) hok.2 (List.nodup_cons.1 hnd).2 hi' (fun k hk=>qg k (List.mem_cons_of_mem _ hk)) (hD.cons hok.1 (List.nodup_cons.1 hnd).1) (H.2 v)
   refine⟨fun w hS hf=>?_,fun u=>?_⟩
   ·have h1:=(IH undef).1 w hS (fun k hk hd=>by
     rcases List.mem_cons.1 hk with h | h
     ·subst h;rw[qg k (by simp)] at hd; cases hd
     ·exact(s.Dy (hkE j (by simp) k h)).2 (hf k h hd))
    refine Step.weak (Step.afN h1 hn (fun o ho d hd=>?_)) (fun u w' h=>(CO.upd (fun h=>hji h.symm) hji').1 h);rw[hy] at ho; cases ho;rw[ex] at hd;exact f3' d hd
   ·rw[List.erase_cons_tail (by simpa using hji)];refine⟨fun w hS hf=>?_,fun v=>?_⟩
    ·have h1:=H.1 w hS (fun k hk hd=>(s.Dy (hkE i hi k hk)).1 (hf k (List.mem_cons_of_mem _ hk) hd));refine Step.weak (Step.put h1 hn (fun o ho d hd=>?_)) (fun u w' h=>(CO.upd hji hij').2 h);rw[hx] at ho; cases ho;rw[ey] at hd;exact f1 d hd
    ·have h1:=(IH v).2 u;have e1:(a.put (dB ops i) u).put (dB ops j) v=(a.put (dB ops j) v).put (dB ops i) u:=by
      rw[ex,ey];exact Act.put_comm a u v f2
     rw[e1,adC (fun h=>hji h.symm)];exact h1.perm (fun p=>by simp only[List.mem_cons]; constructor <;> (rintro(h | h | h) <;> simp[h]))
theorem aa6 (hn:Region.noSelect ops=true) (hb:ahH ops=true) (hM:∀ k∈s.mks,∀ e w,s.R k e w→∀ b,lU (e k)=some b→b < w.heap.size)
  {js0:List Nat} (hC:∀ j∈s.cu,∀ E e w w',(∀ k∈E,k∈js0)→(∀ k∈s.uses j,k∈E)→j ∉ E→(∀ i∈E,s.R i e w)→s.Apart E e→S.p w→s.G j ((j :: s.uses j).map e) w w'→S.p w'∧∀ i∈E,s.R i e w') :
  ∀ (n:Nat) (fuel:Nat) (js E:List Nat) (e:Nat→Value) (listed:Array Bool) (a:Act) (w:World),js.length=n→n≤fuel→(∀ j∈js,j < ops.size)→jV .any ops js=true→js.Nodup→(∀ k,k∈E∨k∈js→k∈js0)→Dl ops s js E →
   (∀ j,j < ops.size→(j∈js↔listed.getD j true=false))→listed.size=ops.size→AA P ops Q S s js E e a→S.p w→(∀ i∈E,s.R i e w)→s.Apart E e→wpAnyH P .any ops Q S.p fuel listed a w:=by
 intro n;induction n with
 | zero =>
  intro fuel js E e listed a w hl _ hlt _ _ _ _ hun hsz H hS hf hA;obtain rfl:=List.eq_nil_of_length_eq_zero hl;refine wpAnyH_done ?_ (H w hS hf hA) fuel;cases hr:Region.ready .any ops listed with
  | nil=>rfl
  | cons i rs =>
   have hi:i∈Region.ready .any ops listed:=by rw[hr]; simp
   obtain⟨h1,o,ho,_⟩:=mem_ready.1 hi;have:=(hun i (Array.getElem?_eq_some_iff.1 ho).1).2 h1;cases this
 | succ n ih =>
  intro fuel js E e listed a w hl hfu hlt hok hnd h0 hD hun hsz H hS hf hA;cases fuel with
  | zero=>omega
  | succ fuel =>
   by_cases hr0:Region.ready .any ops listed = []
   ·exfalso
    have hall:=aeK hsz hb hr0;cases js with
    | nil=>simp at hl
    | cons j js =>
     have hjl:=hlt j (by simp);have h3:=(hun j hjl).1 (by simp);have h2:=hall j hjl;have hjs:j < listed.size:=by omega
     rw[h2] at h3; cases h3
   refine wpAnyH_all rfl hr0 fun i hi=>?_
   obtain⟨h1,o,ho,hall⟩:=mem_ready.1 hi;have hil:=(Array.getElem?_eq_some_iff.1 ho).1;have hij:=(hun i hil).2 h1;have qg:∀ j∈js,dep .any ops i j=false:=by
    intro j hj;unfold dep;rw[ho];simp only;rw[Bool.eq_false_iff];intro he;obtain⟨x,hem,hb⟩:=Array.any_eq_true'.1 he;simp only[Bool.and_eq_true,beq_iff_eq] at hb;have h2:=hall x hem hb.1;rw[hb.2] at h2;have h3:=(hun j (hlt j hj)).1 hj;have hjs:j < listed.size:=by rw[hsz]; exact hlt j hj
    simp[Array.getD_eq_getD_getElem?,hjs] at h2 h3;rw[h2] at h3; cases h3
   obtain⟨p1,p2⟩:=AA.pull hn hlt hok hnd hij qg hD H;have hiE:i ∉ E:=fun h=>hD.apart i h hij
   refine Step.wpOp ho (p1 w hS (fun k hk _=>hf k hk)) (fun u w' _ hR0=>?_);obtain⟨hT,hR,hF⟩:=hR0;have hf1:∀ k∈E,s.R k (upd e i u) w:=fun k hk=>(s.Dy fun h=>by
    rcases List.mem_cons.1 h with h | h
    ·subst h; exact hiE hk
    ·have h1:=hD.uses k (.inl hk) i h;rw[hD.dep k hk i hij] at h1; cases h1).2 (hf k hk)
   have hne:∀ k∈E,(upd e i u) k=e k:=fun k hk=>if_neg (by rintro rfl; exact hiE hk)
   have hA1:s.Apart E (upd e i u):=fun p hp q hq a1 a2 a3 b=>by rw[hne p hp,hne q hq]; exact hA p hp q hq a1 a2 a3 b
   have hnext:S.p w'∧∀ k∈E,s.R k (upd e i u) w':=by
    unfold Says.T at hT;cases hcu:s.cu.contains i with
    | true =>
     rw[hcu,cond_true] at hT;refine hC i (by simpa using hcu) E (upd e i u) w w' (fun k hk=>h0 k (.inl hk)) (fun k hk=>?_) hiE hf1 hA1 hS hT;rcases hD.there i hij k hk with h | h
     ·exact h
     ·have h1:=hD.uses i (.inr hij) k hk;rw[qg k h] at h1; cases h1
    | false =>
     rw[hcu,cond_false] at hT;exact⟨S.keep w w' hS hT,fun k hk=>Hold.keep _ w w' (hf1 k hk) hT⟩
   have hd:dB ops i=o.dst:=by simp[dB,ho]
   rw[← hd];refine⟨hnext.1,ih fuel (js.erase i) (i :: E) (upd e i u) _ _ w' (by rw[List.length_erase_of_mem hij,hl]; rfl) (by omega) (fun j hj=>hlt j (List.mem_of_mem_erase hj)) ?_ (hnd.erase i) (fun k hk=>h0 k (hk.elim (fun h=>(List.mem_cons.1 h).elim (fun h=>.inr (h▸hij)) .inl) fun h=>.inr (List.mem_of_mem_erase h))) ?_ ?_ (by simp[hsz]) (p2 u) hnext.1 ?_ ?_⟩
   ·clear hl hlt hnd hun H hij qg p1 p2 hD hiE h0;induction js with
    | nil=>exact hok
    | cons j js ih =>
     simp only[jV,Bool.and_eq_true,List.all_eq_true] at hok;by_cases hji:j=i
     ·subst hji; rw[List.erase_cons_head]; exact hok.2
     ·rw[List.erase_cons_tail (by simpa using hji)];simp only[jV,Bool.and_eq_true,List.all_eq_true];exact⟨fun k hk=>hok.1 k (List.mem_of_mem_erase hk),ih hok.2⟩
   ·refine⟨fun k hk hkj=>?_,fun k hk j hj=>?_,fun k hk=>?_,fun k hk x hx=>?_⟩
    ·rcases List.mem_cons.1 hk with rfl | hk
     ·exact(hnd.mem_erase_iff.1 hkj).1 rfl
     ·exact hD.apart k hk (List.mem_of_mem_erase hkj)
    ·rcases List.mem_cons.1 hk with rfl | hk
     ·exact qg j (List.mem_of_mem_erase hj)
     ·exact hD.dep k hk j (List.mem_of_mem_erase hj)
    ·refine hD.uses k ?_;rcases hk with hk | hk
     ·rcases List.mem_cons.1 hk with rfl | hk
      ·exact .inr hij
      ·exact .inl hk
     ·exact .inr (List.mem_of_mem_erase hk)
    ·by_cases hxi:x=i
     ·subst hxi; exact .inl (by simp)
     ·rcases hD.there k (List.mem_of_mem_erase hk) x hx with h | h
      ·exact .inl (List.mem_cons_of_mem _ h)
      ·exact .inr (hnd.mem_erase_iff.2 ⟨hxi,h⟩)
   ·intro j hj;rw[hnd.mem_erase_iff];by_cases hji:j=i
    ·subst hji;simp only[ne_eq,not_true_eq_false,false_and,false_iff];have:j < listed.size:=by rw[hsz]; exact hj
     simp[Array.getD_eq_getD_getElem?,this]
    ·rw[Go.getD_set_ne true (Ne.symm hji)];simp[hji,hun j hj]
   ·intro k hk;rcases List.mem_cons.1 hk with rfl | hk
    ·exact hR
    ·exact hnext.2 k hk
   ·have hii:(upd e i u) i=u:=if_pos rfl;intro p hp q hq g1 g2 hpq b hb;rcases List.mem_cons.1 hp with h | hp'
    ·rcases List.mem_cons.1 hq with h' | hq'
     ·exact absurd (h.trans h'.symm) hpq
     ·intro hc;rw[h,hii] at hb;have e1:=hF (h▸g1) b hb;have e2:=hM _ g2 _ _ (hf1 q hq') b hc;omega
    ·rcases List.mem_cons.1 hq with h' | hq'
     ·intro hc;rw[h',hii] at hc;have e1:=hF (h'▸g2) b hc;have e2:=hM _ g1 _ _ (hf1 p hp') b hb;omega
     ·exact hA1 p hp' q hq' g1 g2 hpq b hb
def useB (ops:Array Oper) (s:Says) (js:List Nat):Bool:=js.all fun i=>(s.uses i).all fun k=>dep .any ops i k&&js.contains k
theorem qh {js:List Nat} {fuel:Nat} {listed:Array Bool} {a:Act} {w:World} {S':World→Prop} (S:Hold) (s:Says) (hok:ajq ops listed js fuel=true) (hus:useB ops s js=true) (hS:S.p w) (hSS:∀ w,S.p w→S' w)
  (hM:∀ k∈s.mks,∀ e w,s.R k e w→∀ b,lU (e k)=some b→b < w.heap.size)
  (hC:∀ j∈s.cu,∀ E e w w',(∀ k∈E,k∈js)→(∀ k∈s.uses j,k∈E)→j ∉ E→(∀ i∈E,s.R i e w)→s.Apart E e→S.p w→s.G j ((j :: s.uses j).map e) w w'→S.p w'∧∀ i∈E,s.R i e w')
  (h:AA P ops Q S s js [] (fun _=>undef) a):wpAnyH P .any ops Q S' fuel listed a w:=by
 simp only[ajq,Bool.and_eq_true,List.all_eq_true,decide_eq_true_eq,List.mem_range,beq_iff_eq] at hok;obtain⟨⟨⟨⟨⟨⟨⟨h1,h2⟩,h3⟩,h4⟩,h5⟩,h6⟩,h7⟩,h8⟩:=hok;simp only[useB,List.all_eq_true,Bool.and_eq_true,List.contains_iff_mem] at hus;exact yu hSS (aa6 h1 h2 hM hC js.length fuel js [] _ listed a w rfl h4 h5 h3 h6 (fun k hk=>hk.resolve_left (by simp))
  ⟨fun k hk=>(by cases hk),fun k hk=>(by cases hk),fun k hk x hx=>(hus k (hk.resolve_left (by simp)) x hx).1,fun k hk x hx=>.inr (hus k hk x hx).2⟩
  (fun j hj=>by
   have:=h8 j hj;rw[← List.contains_iff_mem,this];cases listed.getD j true <;> simp) h7 h hS (fun p hp=>by cases hp) (fun p hp=>by cases hp))
theorem AA.cons {j:Nat} {js E:List Nat} {e:Nat→Value} {a:Act} {o:Oper} (ho:ops[j]? = some o)
  (h1:∀ w,S.p w→(∀ i∈E,dep .any ops j i=true→s.R i e w)→∀ K:Act→World→Prop,Shut (∀ u w',CO s e w j u w'→K (a.put o.dst u) w')→if Region.wanted o (yielded ops a.tmps)=true then Oper.wp P o a w K (fun _ _ _=>False) else K (a.put o.dst undef) w)
  (h2:∀ v,AA P ops Q S s js (j :: E) (upd e j v) (a.put o.dst v)):AA P ops Q S s (j :: js) E e a:=by
 refine⟨fun w hS hf o' ho' K hK=>?_,fun v=>?_⟩
 ·rw[ho] at ho'; cases ho';exact h1 w hS hf K (fun u w' h=>hK u w' trivial h)
 ·have:dB ops j=o.dst:=by simp[dB,ho]
  rw[this]; exact h2 v
theorem AA.nil {E:List Nat} {e:Nat→Value} {a:Act} (h:∀ w,S.p w→(∀ i∈E,s.R i e w)→s.Apart E e→Q .normal a w):AA P ops Q S s [] E e a:=h
theorem ifA {c:Bool} {p q:Prop} (h:c=true) (hp:p):if c=true then p else q:=by rw[if_pos h]; exact hp
def Hold.made (B:Nat) (t:TypeId) (n:Nat) (l:List Value) (v:Value):Hold:=⟨fun w=>∃ b,v = .slice (some ⟨b,0,none⟩) n n∧B≤b∧Row w b t l,fun _ _ h hb=>let ⟨b,h1,h2,h3⟩:=h; ⟨b,h1,h2,h3.below hb h3.lt⟩⟩
def Hold.box (B:Nat) (t:TypeId) (v:Value):Hold:=⟨fun w=>∃ b x,v = .pointer (some ⟨b,0,none⟩)∧B≤b∧Row w b t [x],fun _ _ h hb=>let ⟨b,x,h1,h2,h3⟩:=h; ⟨b,x,h1,h2,h3.below hb h3.lt⟩⟩
def Hold.boxed (B:Nat) (t:TypeId) (v x:Value):Hold:=⟨fun w=>∃ b,v = .pointer (some ⟨b,0,none⟩)∧B≤b∧Row w b t [x],fun _ _ h hb=>let ⟨b,h1,h2,h3⟩:=h; ⟨b,h1,h2,h3.below hb h3.lt⟩⟩
def Hold.tt:Hold:=⟨fun _=>True,fun _ _ _ _=>trivial⟩
def Hold.eq (u v:Value):Hold:=⟨fun _=>v=u,fun _ _ h _=>h⟩
theorem oG {B:Nat} {t:TypeId} {n:Nat} {l:List Value} {v:Value} {w:World} (h:(Hold.made B t n l v).p w) (b:Nat) (hb:lU v=some b):b < w.heap.size:=by
 obtain⟨c,rfl,_,h⟩:=h;cases hb; exact h.lt
theorem ahI {B:Nat} {t:TypeId} {v:Value} {w:World} (h:(Hold.box B t v).p w) (b:Nat) (hb:lU v=some b):b < w.heap.size:=by
 obtain⟨c,x,rfl,_,h⟩:=h;cases hb; exact h.lt
theorem uI {B:Nat} {t:TypeId} {n x k:Nat} {l:List Value} {u v:Value} {w:World} (hx:x < B) (h:(Hold.made B t n l v).p w):(Hold.made B t n l v).p (w.setCell ⟨x,k,none⟩ u):=by
 obtain⟨c,h1,h2,h3⟩:=h;exact⟨c,h1,h2,h3.other (a:=⟨x,k,none⟩) (show c≠x by omega) _⟩
def Hold.aiQ (B:Nat) (t:TypeId) (l:List Value) (v:Value):Hold:=⟨fun w=>∃ b,v = .pointer (some ⟨b,0,none⟩)∧B≤b∧Row w b t l,fun _ _ h hb=>let ⟨b,h1,h2,h3⟩:=h; ⟨b,h1,h2,h3.below hb h3.lt⟩⟩
theorem aiR {B:Nat} {t:TypeId} {l:List Value} {v:Value} {w:World} (h:(Hold.aiQ B t l v).p w) (b:Nat) (hb:lU v=some b):b < w.heap.size:=by
 obtain⟨c,rfl,_,h⟩:=h;cases hb; exact h.lt
theorem jo {s:Says} {E:List Nat} {e:Nat→Value} (h:s.Apart E e) {i k:Nat} {b c:Nat} (hi:i∈E) (hk:k∈E) (mi:i∈s.mks) (mk':k∈s.mks) (hne:i≠k) (hu:lU (e i)=some b) (hv:lU (e k)=some c):b≠c:=by
 rintro rfl;exact h _ hi _ hk mi mk' hne b hu hv
end
theorem aiS (x y:Rat) (l r:Nat):sgI (dY x) (x.num.natAbs*r)+sgI (dY y) (y.num.natAbs*l)=x.num*r+y.num*l:=by
 rw[nZ,nZ,nY,nY]
theorem ajJ (w:World) (F:Ac) (va vb:Value) (x y:Rat) (ha:NmV w F va x) (hb:NmV w F vb y) (hlx:rl x≤20000) (hly:rl y≤20000) (hx0:x=0) :
  Calls Tryz.prog 154 #[va,vb] w (Ret w fun v w'=>NmV w' (Ext F w.heap.size) v (x+y)):=by
 have dx:decide (x=0)=true:=decide_eq_true hx0;have HZ:=Aa (show x+y=y by rw[hx0,Rat.zero_add]); clear hx0;have HX:=Aa ha.old; have HY:=Aa hb.old;obtain⟨A,c,B,d,rfl,hn,hd⟩:=ha.open;obtain⟨A',c',B',d',rfl,hn',hd'⟩:=hb.open;clear hn hd hn' hd' ha hb;go_enter Tryz.func154,Tryz.ntmps154;go_wp2_with fail
 obtain⟨W,hW,rx,ry,rz,hB,hz⟩:=zQ w 118 #[.bool (aC x).neg,.slice A (aC x).num.length c,.slice B (aC x).den.length d] 118 #[.bool (aC y).neg,.slice A' (aC y).num.length c',.slice B' (aC y).den.length d'] 118 #[.bool false,.slice none 0 0,.slice none 0 0];rw[← hW];clear hW;replace HX:=Aa (HX.out.on (Below.same' hB _)); replace HY:=Aa (HY.out.on (Below.same' hB _));have hz:w.heap.size+3≤W.heap.size:=hz;have x0:=rx.cell (i:=0) rfl;have x1:=rx.cell (i:=1) rfl;have x2:=rx.cell (i:=2) rfl;have y0:=ry.cell (i:=0) rfl;have y1:=ry.cell (i:=1) rfl;have y2:=ry.cell (i:=2) rfl;clear rx ry;refine(kY _ _ _ x HX.out).mono ?_;rintro e wn ⟨_,rfl,hb,rfl⟩;rw[dx];replace x0:=ah x0 hb;replace x1:=ah x1 hb;replace x2:=ah x2 hb;replace y0:=ah y0 hb;replace y1:=ah y1 hb;replace y2:=ah y2 hb;replace HX:=Aa (HX.out.below hb);replace HY:=Aa (HY.out.below hb);replace rz:=rz.below hb rz.lt;replace hz:=Nat.le_trans hz hb.size;replace hB:=hB.trans (hb.mono hB.size);clear hb;dsimp only;have q0:=rz.cell (i:=0) rfl;have y0:=rz.frozen 0;have q1:=rz.cell (i:=1) rfl;have y1:=rz.frozen 1;have q2:=rz.cell (i:=2) rfl;have y2:=rz.frozen 2;go_wp2
 obtain⟨Wz,hWz,hrz,hwz,hkz⟩:=gX rz (.bool (aC y).neg) (.slice A' (aC y).num.length c') (.slice B' (aC y).den.length d');rw[← hWz];clear hWz q0 q1 q2 y0 y1 y2;have t0:=hrz.cell (i:=0) rfl;have t1:=hrz.cell (i:=1) rfl;have t2:=hrz.cell (i:=2) rfl;refine bodyPost_ret (v:=.agg #[.bool (aC y).neg,.slice A' (aC y).num.length c',.slice B' (aC y).den.length d']) (by simp[results,Tryz.results154,go_sem,t0,t1,t2]) rfl ?_;exact⟨_,rfl,hwz _ _ (by omega) hB,by rw[HZ.out]; exact(HY.out.on (hkz _ (fun h=>by have:=h.2; omega))).mono (fun b hb _=>.inl hb.1)⟩
theorem ajK (w:World) (F:Ac) (va vb:Value) (x y:Rat) (ha:NmV w F va x) (hb:NmV w F vb y) (hlx:rl x≤20000) (hly:rl y≤20000) (hx0:x≠0) (hy0:y=0) :
  Calls Tryz.prog 154 #[va,vb] w (Ret w fun v w'=>NmV w' (Ext F w.heap.size) v (x+y)):=by
 have dx:decide (x=0)=false:=decide_eq_false hx0;have dy:decide (y=0)=true:=decide_eq_true hy0;have HZ:=Aa (show x+y=x by rw[hy0,Rat.add_zero]); clear hx0 hy0;have HX:=Aa ha.old; have HY:=Aa hb.old;obtain⟨A,c,B,d,rfl,hn,hd⟩:=ha.open;obtain⟨A',c',B',d',rfl,hn',hd'⟩:=hb.open;clear hn hd hn' hd' ha hb;go_enter Tryz.func154,Tryz.ntmps154;go_wp2_with fail
 obtain⟨W,hW,rx,ry,rz,hB,hz⟩:=zQ w 118 #[.bool (aC x).neg,.slice A (aC x).num.length c,.slice B (aC x).den.length d] 118 #[.bool (aC y).neg,.slice A' (aC y).num.length c',.slice B' (aC y).den.length d'] 118 #[.bool false,.slice none 0 0,.slice none 0 0];rw[← hW];clear hW;replace HX:=Aa (HX.out.on (Below.same' hB _)); replace HY:=Aa (HY.out.on (Below.same' hB _));have hz:w.heap.size+3≤W.heap.size:=hz;have x0:=rx.cell (i:=0) rfl;have x1:=rx.cell (i:=1) rfl;have x2:=rx.cell (i:=2) rfl;have y0:=ry.cell (i:=0) rfl;have y1:=ry.cell (i:=1) rfl;have y2:=ry.cell (i:=2) rfl;clear rx ry;refine(kY _ _ _ x HX.out).mono ?_;rintro e wn ⟨_,rfl,hb,rfl⟩;rw[dx];replace x0:=ah x0 hb;replace x1:=ah x1 hb;replace x2:=ah x2 hb;replace y0:=ah y0 hb;replace y1:=ah y1 hb;replace y2:=ah y2 hb;replace HX:=Aa (HX.out.below hb);replace HY:=Aa (HY.out.below hb);replace rz:=rz.below hb rz.lt;replace hz:=Nat.le_trans hz hb.size;replace hB:=hB.trans (hb.mono hB.size);clear hb;dsimp only;go_wp2_with fail
 refine(kY _ _ _ y HY.out).mono ?_;rintro e wn ⟨_,rfl,hb,rfl⟩;rw[dy];replace x0:=ah x0 hb;replace x1:=ah x1 hb;replace x2:=ah x2 hb;replace y0:=ah y0 hb;replace y1:=ah y1 hb;replace y2:=ah y2 hb;replace HX:=Aa (HX.out.below hb);replace HY:=Aa (HY.out.below hb);replace rz:=rz.below hb rz.lt;replace hz:=Nat.le_trans hz hb.size;replace hB:=hB.trans (hb.mono hB.size);clear hb;dsimp only;have q0:=rz.cell (i:=0) rfl;have y0:=rz.frozen 0;have q1:=rz.cell (i:=1) rfl;have y1:=rz.frozen 1;have q2:=rz.cell (i:=2) rfl;have y2:=rz.frozen 2;go_wp2
 obtain⟨Wz,hWz,hrz,hwz,hkz⟩:=gX rz (.bool (aC x).neg) (.slice A (aC x).num.length c) (.slice B (aC x).den.length d);rw[← hWz];clear hWz q0 q1 q2 y0 y1 y2;have t0:=hrz.cell (i:=0) rfl;have t1:=hrz.cell (i:=1) rfl;have t2:=hrz.cell (i:=2) rfl;refine bodyPost_ret (v:=.agg #[.bool (aC x).neg,.slice A (aC x).num.length c,.slice B (aC x).den.length d]) (by simp[results,Tryz.results154,go_sem,t0,t1,t2]) rfl ?_;exact⟨_,rfl,hwz _ _ (by omega) hB,by rw[HZ.out]; exact(HX.out.on (hkz _ (fun h=>by have:=h.2; omega))).mono (fun b hb _=>.inl hb.1)⟩
theorem aeL (w:World) (F:Ac) (va vb:Value) (x y:Rat) (ha:NmV w F va x) (hb:NmV w F vb y) (hlx:rl x≤20000) (hly:rl y≤20000) (hx0:x≠0) (hy0:y≠0) (hxd:x.den=1) (hyd:y.den=1) :
  Calls Tryz.prog 154 #[va,vb] w (Ret w fun v w'=>NmV w' (Ext F w.heap.size) v (x+y)):=by
 have dx:decide (x=0)=false:=decide_eq_false hx0;have dy:decide (y=0)=false:=decide_eq_false hy0;have lx:=kH x; have ly:=kH y;have hlx1:(((aC x).den.length:Int)==0)=true:=by rw[oD hxd]; rfl
 have hly1:(((aC y).den.length:Int)==0)=true:=by rw[oD hyd]; rfl
 have HS:=Aa (af6 hxd hyd);have HXN:=Aa (nY x); have HYN:=Aa (nY y);clear hx0 hy0 hxd hyd;have HX:=Aa ha.old; have HY:=Aa hb.old;obtain⟨A,c,B,d,rfl,hn,hd⟩:=ha.open;obtain⟨A',c',B',d',rfl,hn',hd'⟩:=hb.open;clear hn hd hn' hd' ha hb;go_enter Tryz.func154,Tryz.ntmps154;go_wp2_with fail
 obtain⟨W,hW,rx,ry,rz,hB,hz⟩:=zQ w 118 #[.bool (aC x).neg,.slice A (aC x).num.length c,.slice B (aC x).den.length d] 118 #[.bool (aC y).neg,.slice A' (aC y).num.length c',.slice B' (aC y).den.length d'] 118 #[.bool false,.slice none 0 0,.slice none 0 0];rw[← hW];clear hW;replace HX:=Aa (HX.out.on (Below.same' hB _)); replace HY:=Aa (HY.out.on (Below.same' hB _));have hz:w.heap.size+3≤W.heap.size:=hz;have x0:=rx.cell (i:=0) rfl;have x1:=rx.cell (i:=1) rfl;have x2:=rx.cell (i:=2) rfl;have y0:=ry.cell (i:=0) rfl;have y1:=ry.cell (i:=1) rfl;have y2:=ry.cell (i:=2) rfl;clear rx ry;refine(kY _ _ _ x HX.out).mono ?_;rintro e wn ⟨_,rfl,hb,rfl⟩;rw[dx];replace x0:=ah x0 hb;replace x1:=ah x1 hb;replace x2:=ah x2 hb;replace y0:=ah y0 hb;replace y1:=ah y1 hb;replace y2:=ah y2 hb;replace HX:=Aa (HX.out.below hb);replace HY:=Aa (HY.out.below hb);replace rz:=rz.below hb rz.lt;replace hz:=Nat.le_trans hz hb.size;replace hB:=hB.trans (hb.mono hB.size);clear hb;dsimp only;go_wp2_with fail
 refine(kY _ _ _ y HY.out).mono ?_;rintro e wn ⟨_,rfl,hb,rfl⟩;rw[dy];replace x0:=ah x0 hb;replace x1:=ah x1 hb;replace x2:=ah x2 hb;replace y0:=ah y0 hb;replace y1:=ah y1 hb;replace y2:=ah y2 hb;replace HX:=Aa (HX.out.below hb);replace HY:=Aa (HY.out.below hb);replace rz:=rz.below hb rz.lt;replace hz:=Nat.le_trans hz hb.size;replace hB:=hB.trans (hb.mono hB.size);clear hb;dsimp only;go_wp2_with fail
 obtain⟨_,_,hh,hn,hd⟩:=HX.out; have HNX:=Aa (Ag.mono (n:=x.num.natAbs) (G:=(Ext (Old F w.heap.size) (w.heap.size+3))) hn (fun b hb _=>.inl hb)); cases hh; clear hn hd;obtain⟨_,_,hh,hn,hd⟩:=HY.out; have HNY:=Aa (Ag.mono (n:=y.num.natAbs) (G:=(Ext (Old F w.heap.size) (w.heap.size+3))) hn (fun b hb _=>.inl hb)); cases hh; clear hn hd;refine(yt _ _ (dY x) (dY y) _ _ x.num.natAbs y.num.natAbs HNX.out HNY.out (by omega) (by omega)).mono ?_;rintro e wn ⟨_,rfl,hb,neg,t,rfl,hu,hs⟩;rw[HXN.out,HYN.out,← HS.out.2] at hu hs;have HT:=Aa (hu.mono (G:=(Ext (Old F w.heap.size) (w.heap.size+3))) (fun b hb _=>.inr (by omega))); clear hu;have HSG:=Aa (show mkRat (sgI neg (x+y).num.natAbs) 1=x+y by rw[← hs,← HS.out.1,Rat.mkRat_self]); clear hs;replace x0:=ah x0 hb;replace x1:=ah x1 hb;replace x2:=ah x2 hb;replace y0:=ah y0 hb;replace y1:=ah y1 hb;replace y2:=ah y2 hb;replace HX:=Aa (HX.out.below hb);replace HY:=Aa (HY.out.below hb);replace HNX:=Aa (HNX.out.below hb);replace HNY:=Aa (HNY.out.below hb);replace rz:=rz.below hb rz.lt;replace hz:=Nat.le_trans hz hb.size;replace hB:=hB.trans (hb.mono hB.size);clear hb;dsimp only;go_wp2_with fail
 refine(wP _ _ _ _ _ (x+y).num.natAbs 1 [] HT.out (jH _ _ _ _) (.inr ⟨rfl,rfl⟩) (by decide) (Nat.gcd_one_right _) (by simp)).mono ?_;rintro e wn ⟨vm,rfl,hb,hu⟩;rw[HSG.out] at hu;have HM:=Aa hu;obtain⟨Am,cm,Bm,dm,rfl,hn,hd⟩:=hu.open;clear hn hd hu;replace x0:=ah x0 hb;replace x1:=ah x1 hb;replace x2:=ah x2 hb;replace y0:=ah y0 hb;replace y1:=ah y1 hb;replace y2:=ah y2 hb;replace HX:=Aa (HX.out.below hb);replace HY:=Aa (HY.out.below hb);replace HNX:=Aa (HNX.out.below hb);replace HNY:=Aa (HNY.out.below hb);replace HT:=Aa (HT.out.below hb);replace rz:=rz.below hb rz.lt;replace hz:=Nat.le_trans hz hb.size;replace hB:=hB.trans (hb.mono hB.size);clear hb;dsimp only;clear x0 x1 x2 y0 y1 y2;have q0:=rz.cell (i:=0) rfl;have y0:=rz.frozen 0;have q1:=rz.cell (i:=1) rfl;have y1:=rz.frozen 1;have q2:=rz.cell (i:=2) rfl;have y2:=rz.frozen 2;go_wp2
 obtain⟨Wz,hWz,hrz,hwz,hkz⟩:=gX rz (.bool (aC (x+y)).neg) (.slice Am (aC (x+y)).num.length cm) (.slice Bm (aC (x+y)).den.length dm);rw[← hWz];clear hWz q0 q1 q2 y0 y1 y2;have t0:=hrz.cell (i:=0) rfl;have t1:=hrz.cell (i:=1) rfl;have t2:=hrz.cell (i:=2) rfl;refine bodyPost_ret (v:=.agg #[.bool (aC (x+y)).neg,.slice Am (aC (x+y)).num.length cm,.slice Bm (aC (x+y)).den.length dm]) (by simp[results,Tryz.results154,go_sem,t0,t1,t2]) rfl ?_;exact⟨_,rfl,hwz _ _ (by omega) hB,HM.out.keep (fun b hb _=>hb.elim (fun h=>.inl h.1) fun h=>.inr (by omega)) (hkz _ (fun h=>h.elim (fun h=>by have:=h.2; omega) fun h=>by omega))⟩
theorem aa7 (w:World) (F:Ac) (v1 v2:Value) (l1 l2:List Nat) (h1:Ah w F v1 l1) (h2:Ah w F v2 l2) (hl1:l1.length < 1000000) (hl2:l2.length < 1000000) :
  Calls Tryz.prog 117 #[v1,v2] w fun e w'=>e = .returned (.bool (decide (l1=l2)))∧∃ n,w'=w.drewN n:=by
 obtain⟨A1,c1,rfl,hc1,r1⟩:=h1;obtain⟨A2,c2,rfl,hc2,r2⟩:=h2;by_cases hl:l1.length=l2.length
 ·have R1:=Aa r1; clear r1;have R2:=Aa r2; clear r2;have HL:=Aa hl;have hb:((l1.length:Int) != (l2.length:Int))=false:=by simp[hl]
  clear hl;go_enter Tryz.func117,Tryz.ntmps117;go_wp2
  go_loopw [5] (fun i wr=>∃ k:Nat,k≤l1.length∧i = .int .i64 k∧l1.take k=l2.take k∧∃ n,wr=w.drewN n) (fun i _=>l1.length - (intOf i).toNat)
  case atStart=>exact⟨0,by omega,rfl,by simp,0,rfl⟩
  case round =>
   obtain⟨k,hk,rfl,hpre,n,rfl⟩:=hrel;have HP:=Aa hpre; clear hpre;by_cases hlt:k < l1.length
   ·obtain⟨b1,o1,rfl,hb1,_,hcell1⟩:=R1.out (by omega);have hk2:k < l2.length:=by have:=HL.out; omega
    obtain⟨b2,o2,rfl,hb2,_,hcell2⟩:=R2.out (by omega);obtain⟨x,hx⟩:=au hlt;obtain⟨y,hy⟩:=au hk2;have e1:=hcell1 k x hx;have e2:=hcell2 k y hy;unfold dU at e1 e2;rw[Nat.mul_one] at e1 e2;clear hcell1 hcell2;have HX:=Aa hx; clear hx;have HY:=Aa hy; clear hy;by_cases he:x=y
    ·subst he;go_wp2
     go_quiet (fail)
     go_wp2
     go_roundw
     case rel=>exact⟨k+1,by omega,by go_num,iJ HX.out HY.out HP.out,_,rfl⟩
     case measure=>simp[intOf]; omega
    ·have hne:((x:Int) != (y:Int))=true:=by simp; omega
     have hfin:decide (l1=l2)=false:=by
      simp only[decide_eq_false_iff_not]; rintro rfl;have h3:=HX.out; rw[HY.out] at h3; cases h3; exact he rfl
     have HF:=Aa hfin; clear hfin he;go_wp2
     go_quiet (fail)
     go_wp2
     go_ret;exact⟨by rw[HF.out]; rfl,n+nq,by rw[World.drewN_drewN]⟩
   ·go_wp2
    go_ret;have:k=l1.length:=by omega
    have h3:=HP.out;have h4:=HL.out;refine⟨?_,_,rfl⟩;have h5:l1=l2:=by
     rw[List.take_of_length_le (by omega),List.take_of_length_le (by omega)] at h3; exact h3
    simp[h5]
 ·have hb:((l1.length:Int) != (l2.length:Int))=true:=by simp; omega
  go_enter Tryz.func117,Tryz.ntmps117;go_wp2
  go_ret;refine⟨?_,0,rfl⟩;have:l1≠l2:=by rintro rfl; exact hl rfl
  simp[this]
theorem tX (w:World) (F:Ac) (v1 v2:Value) (l1 l2:List Nat) (h1:Ah w F v1 l1) (h2:Ah w F v2 l2) (hl1:l1.length < 1000000) (hl2:l2.length < 1000000) :
  Calls Tryz.prog 117 #[v1,v2] w (Ret w fun v _=>v = .bool (decide (l1=l2))):=by
 refine(aa7 w F v1 v2 l1 l2 h1 h2 hl1 hl2).mono ?_;rintro e w' ⟨rfl,n,rfl⟩;exact⟨_,rfl,aG (Below.refl _ w) _,rfl⟩
end Go.Proofs.YthmklhapjegfdaaGreatDoor

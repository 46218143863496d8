/- Facts that no later step turns: for regions that draw their order. -/
import Derived.Test.YtkcheepafifjaaaGreatDoorF15
import Derived.Test.YtkcheepafifjaaaGreatDoorF12
set_option linter.all false
set_option maxRecDepth 100000
set_option maxHeartbeats 12800000
namespace Go.Proofs.YtkcheepafifjaaaGreatDoor
open Lib renaming hid → Ac
open Go.RowKit
theorem ah {w w':World} {b o:Nat} {v:Value} (h:w.cell? ⟨b,o,none⟩=some v) (hb:Below w.heap.size w w'):w'.cell? ⟨b,o,none⟩=some v :=
 (hb.cell (p:=⟨b,o,none⟩) (World.block_lt_of_cell? w _ h)).trans h
structure Fact where
 p:Value→World→Prop
 keep:∀ v w w',p v w→Below w.heap.size w w'→p v w'
def Fact.tt:Fact:=⟨fun _ _=>True,fun _ _ _ h _=>h⟩
def Fact.eq (u:Value):Fact:=⟨fun v _=>v=u,fun _ _ _ h _=>h⟩
def Fact.nat (F:Ag) (n:Nat):Fact:=⟨fun v w=>Aj w F v n,fun _ _ _ h hb=>h.below hb⟩
def Fact.raw (F:Ag) (r:Raw):Fact:=⟨fun v w=>AL w F v r,fun _ _ _ h hb=>h.below hb⟩
structure Hold where
 p:World→Prop
 keep:∀ w w',p w→Below w.heap.size w w'→p w'
def Hold.cell (b o:Nat) (v:Value):Hold:=⟨fun w=>w.cell? ⟨b,o,none⟩=some v,fun _ _ h hb=>ah h hb⟩
def Hold.of (f:Fact) (v:Value):Hold:=⟨fun w=>f.p v w,fun w w' h hb=>f.keep v w w' h hb⟩
def Hold.and (a b:Hold):Hold:=⟨fun w=>a.p w∧b.p w,fun w w' h hb=>⟨a.keep w w' h.1 hb,b.keep w w' h.2 hb⟩⟩
def Hold.below (B:Nat) (w0:World):Hold:=⟨fun w=>B≤w.heap.size∧Below B w0 w,fun w _ h hb=>⟨Nat.le_trans h.1 hb.size,h.2.trans (hb.mono h.1)⟩⟩
def facts (l:List (Nat×Fact)) (i:Nat) (v:Value) (w:World):Prop:=((l.lookup i).getD Fact.tt).p v w
theorem aeC (l:List (Nat×Fact)) (i:Nat) (v:Value) (w w':World) (h:facts l i v w) (hb:Below w.heap.size w w'):facts l i v w':=Fact.keep _ _ _ _ h hb
theorem lq {l:List (Nat×Fact)} {i:Nat} {v:Value} {w:World} {f:Fact} (h:facts l i v w) (hl:(l.lookup i).getD Fact.tt=f):f.p v w:=by rw[← hl]; exact h
section
variable {P:Program} {ops:Array Oper} {Q:Exit→Act→World→Prop}
theorem wC {js:List Nat} {fuel:Nat} {listed:Array Bool} {a:Act} {w:World} {S:World→Prop} (H:Hold) (l:List (Nat×Fact)) (hok:ahA ops listed js fuel=true)
  (hH:H.p w) (hHS:∀ w,H.p w→S w)
  (h:Flow P .any ops Q H.p (fun w w'=>Below w.heap.size w w') (facts l) js [] a):wpAnyH P .any ops Q S fuel listed a w :=
 sH hHS (adx H.p 0 (facts l) hok hH (Nat.zero_le _) (fun w w' _ h hb=>H.keep w w' h hb) (aeC l) (h.hold fun _ h=>h.2))
end
def D5 (a b:Nat) (v:Value):Prop:=∃ M p q:Nat,v = .tuple #[.int .i64 (p:Int),.int .i64 (q:Int)]∧0 < M∧p=a / M∧q=b / M∧p < 1000000000000000000
theorem lead_any (w:World) (F:Ag) (va vb:Value) (a b:Nat) (ha:Aj w F va a) (hb:Aj w F vb b) (hba:b≤a) (hl3:3≤(dig a).length) (hla:(dig a).length≤100000) :
  Calls Tryz.prog 189 #[va,vb] w (Ret w fun v _=>D5 a b v):=by
 have HA:=Ac ha; have HB:=Ac hb;obtain⟨A,c,rfl,hc,hNa⟩:=ha;obtain⟨n,hn⟩:∃ n,n=(dig a).length:=⟨_,rfl⟩;obtain⟨n1,hn1⟩:∃ n1,n1+1=n:=⟨n - 1,by omega⟩;obtain⟨bk,o,rfl,_,hbk,hx⟩:=hNa (by omega);obtain⟨x,hx'⟩:=aB (l:=dig a) (k:=n1) (by omega);have ex:=hx n1 x hx';unfold bZ at ex;rw[Nat.mul_one] at ex;have hxl:x < 1000000000:=(aJ a).get hx';have hx1:1≤x:=by
  have h1:=qw a;rw[List.getLast?_eq_getElem?,show(dig a).length - 1=n1 by omega,hx'] at h1;rcases Nat.eq_zero_or_pos x with h | h
  ·exact absurd (by rw[h]) h1
  ·exact h
 have hlb:=aK hba;rw[← hn] at hc hl3 hla hlb ⊢;replace HA:=Ac (show Aj w F (.slice (some ⟨bk,o,none⟩) n c) a by rw[hn]; exact HA.out);have HX:=Ac (show(dig a).getD (n - 1) 0=x by rw[show n - 1=n1 by omega]; exact aI hx');have HN:=Ac hn;have i1:(n:Int) - 1=(n1:Int):=by omega
 have hn1l:n1 < n:=by omega
 clear hx hx' hNa hb hn hn1;go_enter Tryz.func189,Tryz.ntmps189;go_wp2_with fail
 have hl0:w.heap.size < w.heap.size+1+1:=by omega
 go_loopw [] (fun wr=>∃ i T:Nat,10 ^ i*T=LB∧i≤9∧x*10 ^ i < LB∧Row wr w.heap.size 3 [.int .i64 (n:Int)]∧Row wr (w.heap.size+1) 155 [.int .u64 ((10 ^ i:Nat):Int)]∧Below w.heap.size w wr) (fun wr=>(match wr.cell? ⟨w.heap.size+1,0,none⟩ with | some v=>LB - (intOf v).toNat | none=>0))
 case atStart =>
  refine⟨0,LB,by simp,by omega,by simpa using hxl,?_,?_,?_⟩
  ·exact(Row.new w 3 #[.int .i64 (n:Int)]).alloc _
  ·have h:=Row.new (w.alloc (.cells #[.int .i64 (n:Int)] 3)) 155 #[.int .u64 1];simpa using h
  ·exact((Below.refl _ _).alloc (Nat.le_refl _) _).alloc (by simp) _
 case round =>
  obtain⟨i,T,hT,hi,hxi,hr0,hr1,hbel⟩:=hrel;have ex':=(aO hbel bk (o+n1) hbk).trans ex;have e0:=hr0.cell (i:=0) rfl;have e1:=hr1.cell (i:=0) rfl;have y1:=hr1.frozen 0;obtain⟨t,ht⟩:∃ t,t=10 ^ i:=⟨_,rfl⟩;have HT:=Ac (show t=10 ^ i∧t*T=LB from⟨ht,by rw[ht]; exact hT⟩);rw[← ht] at hxi e1 hr1 hT;have HXI:=Ac hxi;have ht1:1≤t:=by rw[ht]; exact Nat.pow_pos (by decide)
  have htl:t≤1000000000:=by
   have:1*t≤x*t:=Nat.mul_le_mul_right _ hx1;unfold LB at hxi; omega
  obtain⟨p,hp⟩:∃ p,p=x*t:=⟨_,rfl⟩;have hpI:(x:Int)*(t:Int)=(p:Int):=by rw[hp,Int.natCast_mul]
  have hpl:p < 1000000000:=by rw[hp]; exact hxi
  have hpt:t≤p:=by
   have:1*t≤x*t:=Nat.mul_le_mul_right _ hx1;omega
  have HP:=Ac hp;clear ht hT hxi hp;by_cases hcd:p*10 < 1000000000
  ·have hd:decide ((p:Int)*10 < 1000000000)=true:=decide_eq_true (by omega);have ht10:t*10 < 1000000000:=by omega
   have hi9:i < 9:=by
    rcases Nat.lt_or_ge i 9 with h | h
    ·exact h
    ·have h2:10 ^ 9≤10 ^ i:=Nat.pow_le_pow_right (by decide) h;have h3:=HT.out.1;have h4:(10:Nat) ^ 9=1000000000:=by decide
     omega
   have HI1:=Ac (show 10 ^ (i+1)=t*10 by rw[Nat.pow_succ,← HT.out.1]);have hT10:=Ac (show t*10*(T / 10)=LB by
    have h1:=HT.out.2;have h2:10 ∣ T:=by
     have h3:T=10 ^ (9 - i):=by
      have h4:10 ^ i*10 ^ (9 - i)=LB:=by rw[← Nat.pow_add,show i+(9 - i)=9 by omega]
      rw[HT.out.1] at h1;exact Nat.eq_of_mul_eq_mul_left (Nat.pow_pos (by decide)) (h1.trans h4.symm)
     rw[h3,show 9 - i=(9 - i - 1)+1 by omega,Nat.pow_succ];exact⟨_,Nat.mul_comm _ _⟩
    obtain⟨q,hq⟩:=h2;rw[hq,Nat.mul_div_cancel_left _ (by decide),Nat.mul_assoc,← hq]; exact h1)
   have HX10:=Ac (show x*(t*10) < LB by rw[← Nat.mul_assoc,← HP.out]; exact hcd);go_wp2
   go_quiet (fail)
   go_wp2
   go_roundw
   case rel =>
    refine⟨i+1,T / 10,by rw[HI1.out]; exact hT10.out,by omega,by rw[HI1.out]; exact HX10.out,?_,?_,?_⟩
    ·exact(hr0.dN _).other (a:=⟨w.heap.size+1,0,none⟩) (by simp) _
    ·rw[HI1.out];have h:=(hr1.dN nq).set 0 (.int .u64 ((t*10:Nat):Int));simpa using h
    ·exact(aG hbel nq).setCell (p:=⟨w.heap.size+1,0,none⟩) (by simp) _
   case measure =>
    have h1:=((hr1.dN nq).set 0 (.int .u64 ((t:Int)*10))).cell (i:=0) rfl;rw[h1,e1];simp only[intOf];unfold LB;omega
  ·have hd:decide ((p:Int)*10 < 1000000000)=false:=decide_eq_false (by omega);go_wp2
   go_quiet (fail)
   go_wp2_with fail
   have hB1:=aG hbel nq;have e0d:(wr.drewN nq).cell? ⟨w.heap.size,0,none⟩=some (.int .i64 (n:Int)):=e0;have e1d:(wr.drewN nq).cell? ⟨w.heap.size+1,0,none⟩=some (.int .u64 (t:Int)):=e1;obtain⟨wq,hwq⟩:∃ W:World,W=wr.drewN nq:=⟨_,rfl⟩;rw[← hwq] at hB1 e0d e1d ⊢;clear hwq e0 e1;have HTT:=HT.out.2;have hxt:(dig a).getD (n - 1) 0*t < LB:=by rw[HX.out]; exact HXI.out
   have hla2:(dig a).length=n:=HN.out.symm;have aiC:=ais hla2 hl3 HTT (aJ a) hxt;have HM:=Ac (show 0 < LB ^ (n - 3)*T by
    refine Nat.mul_pos (Bh _) ?_;rcases Nat.eq_zero_or_pos T with h | h
    ·rw[h,Nat.mul_zero] at HTT; cases HTT
    ·exact h)
   have hltb:aC (dig b) / (LB ^ (n - 3)*T) < 1000000000000000000:=by
    refine Nat.lt_of_le_of_lt ?_ aiC;rw[aP,aP]; exact Nat.div_le_div_right (by omega)
   refine(abo _ F _ (dig a) n t T _ _ (HA.out.below hB1) (aJ a) (by omega) hl3 hla HTT e0d e1d aiC).mono ?_;rintro e w1 ⟨_,rfl,hb1,rfl⟩;have e0':=ah e0d hb1;have e1':=ah e1d hb1;dsimp only;go_wp2_with fail
   refine(abo _ F _ (dig b) n t T _ _ ((HB.out.below hB1).below hb1) (aJ b) (by omega) hl3 hla HTT e0' e1' hltb).mono ?_;rintro e w2 ⟨_,rfl,hb2,rfl⟩;rw[aP,aP];rw[aP] at aiC;dsimp only;go_wp2
   go_ret2;exact⟨_,rfl,hB1.trans ((hb1.trans (hb2.mono hb1.size)).mono hB1.size),_,_,_,rfl,HM.out,rfl,rfl,aiC⟩
theorem enters' {f:FuncId} {fn:Func} (hf:Tryz.prog.funcs[f]? = some fn) (hn:(fn.name == "runtime.NumGoroutine")=false) (hb:fn.body.isNone=false) (args:Array Value) (w:World):(callFunc f args).run Tryz.prog w = .ok (.enter f args) w:=by
 have h1:fn.name ≠ "runtime.NumGoroutine" := by simpa using hn
 obtain⟨b,hb⟩:∃ b,fn.body=some b:=by cases h:fn.body <;> simp_all
 simp[callFunc,hf,h1,hb,Sem.run]
theorem xJ {α:Type} {xs:List α} {f:α→Raw} {L:List RV} {k:Nat} {x:α} {q:RV} (hL:L.map RV.r=(xs.take k).map f) (hx:xs[k]? = some x) (hq:q.r=f x):(L ++ [q]).map RV.r=(xs.take (k+1)).map f:=by
 rw[List.map_append,hL,take_snoc hx,List.map_append,List.map_cons,List.map_cons,hq]; rfl
theorem aaj {L:List RV} {k n:Nat} {q:RV} (hl:L.length=k) (hk:k < n):(L++List.replicate (n - k) rv0).set k q=(L ++ [q])++List.replicate (n - (k+1)) rv0:=by
 rw[show n - k=(n - (k+1))+1 by omega,List.replicate_succ];subst hl;simp
structure Eb (w:World) (fid:FuncId) (caps:Array Value) (xs:List Int) (f:Int→Rat):Prop where
 enters:∀ (args:Array Value) (w':World),(callFunc fid args).run Tryz.prog w' = .ok (.enter fid args) w'
 calls:∀ (W:World) (x:Int),x∈xs→Below w.heap.size w W→Calls Tryz.prog fid (#[.int .i64 x]++caps) W (Ret W fun u W'=>NmV W' (fun b=>W.heap.size≤b) u (f x))
theorem yO (w:World) (F:Ag) (v:Value) (xs:List Int) (fid:FuncId) (caps:Array Value) (f:Int→Rat) (hv:AA w F v xs) (hl:xs.length≤100000) (hf:Eb w fid caps xs f) :
  Calls Tryz.prog 95 #[v,.func (.func fid) #[] caps] w (Ret w fun u w'=>u = .slice (some ⟨w.heap.size,0,none⟩) xs.length xs.length∧Bz w' (fun b=>w.heap.size≤b) u (xs.map f)):=by
 obtain⟨A,c,rfl,hc,hN⟩:=hv;have HN:=Ac hN; clear hN;have hcf:=hf.enters;have HF:=Ac hf.calls; clear hf;go_enter Tryz.func95,Tryz.ntmps95;go_wp2_with (at_make; refine tZ _ rfl _ _ 84 rfl 97 Tryz.underlying84 Tryz.infoNum xs.length rfl rfl (by omega) ?_; intro w1 hb1 hz1 hm1)
 have HM:=Ac (hm1 (fun b=>w.heap.size≤b)); clear hm1;obtain⟨bo,hbo⟩:∃ bo,bo=w.heap.size:=⟨_,rfl⟩;have hbo1:bo≤w.heap.size:=by omega
 have aaW:w.heap.size≤bo:=by omega
 have hbo3:bo < w1.heap.size:=by omega
 rw[← hbo] at HM ⊢;have uH:=hb1;have HBO:=Ac hbo;clear hz1 hb1 hbo;go_loopw [13] (fun i wr=>∃ (k:Nat) (L:List RV),k≤xs.length∧i = .int .i64 (k:Int)∧L.length=k∧L.map RV.r=(xs.take k).map (fun x=>ak (f x))∧AP wr bo 97 (fun b=>bo≤b) (L++List.replicate (xs.length - k) rv0)∧Below w.heap.size w wr∧w1.heap.size≤wr.heap.size) (fun i _=>xs.length - (intOf i).toNat)
 case atStart=>exact⟨0,[],by omega,rfl,rfl,rfl,HM.out.mono (fun b hb _=>by omega),uH,Nat.le_refl _⟩
 case round =>
  clear HM uH;obtain⟨k,L,hk,rfl,hlen,hmap,hm,hbel,hz⟩:=hrel;have HMP:=Ac hmap; have HM:=Ac hm; have HLL:=Ac hlen; clear hmap hm hlen;by_cases hlt:k < xs.length
  ·obtain⟨b,o,rfl,hF,hb,hx⟩:=HN.out (by omega);obtain⟨x,hx'⟩:=aB hlt;have ex:=hx k x hx';unfold lY at ex;rw[Nat.mul_one] at ex;have ex2:wr.cell? ⟨b,o+k,none⟩=some (.int .i64 x):=(hbel.cell (p:=⟨b,o+k,none⟩) (by simp; omega)).trans ex;have HX:=Ac hx';clear hx hx' ex;go_wp2_with fail
   refine(HF.out wr x (List.mem_of_getElem? HX.out) hbel).mono ?_;rintro e wn ⟨u,rfl,hb2,hu⟩;replace HM:=Ac (HM.out.below hb2);have jL:=hbel.trans (hb2.mono hbel.size);have hz3:=hb2.size;obtain⟨A1,c1,B1,d1,rfl,dO⟩:=hu.opened;obtain⟨q,hq⟩:∃ q:RV,q=⟨ak (f x),.slice A1 (ak (f x)).num.length c1,.slice B1 (ak (f x)).den.length d1⟩:=⟨_,rfl⟩;rw[← hq] at dO;have HQ:=Ac (show q.r=ak (f x) by rw[hq]);have hqk:q.fine wn (fun c=>bo≤c∧c≠bo):=dO.keep (fun b hb _=>by omega) (Same.refl _ _);have HQF:=Ac hqk;have hget:(L++List.replicate (xs.length - k) rv0)[k]? = some rv0:=by
    rw[List.getElem?_append_right (by rw[HLL.out]; omega),HLL.out,Nat.sub_self,List.getElem?_replicate,if_pos (by omega)]
   have c0:wn.cell? ⟨bo,k*3,none⟩=some (.bool false):=HM.out.cell (j:=0) hget (by omega) rfl; have c1:=HM.out.cell (j:=1) hget (by omega) rfl; have c2:=HM.out.cell (j:=2) hget (by omega) rfl;have f0:=HM.out.row.frozen (k*3); have f1:=HM.out.row.frozen (k*3+1); have f2:=HM.out.row.frozen (k*3+2);obtain⟨W,hW,hm,hwB,hwS,hwz,hwb⟩:=HM.out.set k q hqk;rw[aaj HLL.out hlt] at hm;have HM2:=Ac hm;have hbelW:=hwB _ _ aaW jL;have hzW:w1.heap.size≤W.heap.size:=by omega
   rw[hq] at hW;have HW:=Ac hW;clear hu dO hqk hm hget hq hwB hwS hwz hwb hW ex2 hb2;dsimp only;go_wp2_with fail
   rw[← HW.out];go_roundw
   case rel=>exact⟨k+1,L ++ [q],by omega,by go_num,by rw[List.length_append,HLL.out]; rfl,xJ HMP.out HX.out HQ.out,HM2.out,hbelW,hzW⟩
   case measure=>simp[intOf]; omega
  ·go_wp2
   go_ret;have hall:xs.take k=xs:=List.take_of_length_le (by omega);have hk2:L.length=xs.length:=by have:=HLL.out; omega
   refine⟨_,rfl,hbel,by rw[HBO.out]; rfl,?_⟩;have hm:=HM.out;rw[show xs.length - k=0 by omega,List.replicate_zero,List.append_nil] at hm;have:=hm.sG (G:=fun b=>w.heap.size≤b) (fun b hb=>by omega) aaW (c:=xs.length) (by omega);rw[HMP.out,hall,hk2] at this;show Ah _ _ _ _;rw[List.map_map];exact this
theorem ady (w:World) (F:Ag) (v:Value) (xs:List Rat) (hv:BF w F v xs) (hl:xs.length≤100000) (hf:∀ x∈xs,rl x≤100000) :
  Calls Tryz.prog 118 #[v,.func (.func 119) #[] #[]] w (Ret w fun u w'=>u = .slice (some ⟨w.heap.size,0,none⟩) xs.length xs.length∧Bz w' (Ext F w.heap.size) u xs):=by
 obtain⟨A,c,rfl,hc,hN⟩:=hv;rw[List.length_map] at hc hN;have HN:=Ac hN; clear hN;have hcf:=fun args w=>enters' (f:=119) Tryz.func119 (by kernel_rfl) (by kernel_rfl) args w
 have HF:=Ac hf; clear hf;show Calls _ _ #[.slice A (xs.map ay).length c,_] _ _;rw[List.length_map];go_enter Tryz.func118,Tryz.ntmps118;go_wp2_with (at_make; refine tZ _ rfl _ _ 84 rfl 97 Tryz.underlying84 Tryz.infoNum xs.length rfl rfl (by omega) ?_; intro w1 hb1 hz1 hm1)
 have HM:=Ac (hm1 (Ext (Old F w.heap.size) w.heap.size)); clear hm1;obtain⟨bo,hbo⟩:∃ bo,bo=w.heap.size:=⟨_,rfl⟩;have hbo1:bo≤w.heap.size:=by omega
 have aaW:w.heap.size≤bo:=by omega
 have hbo3:bo < w1.heap.size:=by omega
 replace HM:Hid (AP w1 bo 97 (Ext (Old F w.heap.size) w.heap.size) (List.replicate xs.length rv0)):=by rw[hbo]; exact HM
 rw[← hbo];have uH:=hb1;have HBO:=Ac hbo;clear hz1 hb1 hbo;go_loopw [13] (fun i wr=>∃ (k:Nat) (L:List RV),k≤xs.length∧i = .int .i64 (k:Int)∧L.length=k∧L.map RV.r=(xs.take k).map ak∧AP wr bo 97 (Ext (Old F w.heap.size) w.heap.size) (L++List.replicate (xs.length - k) rv0)∧Below w.heap.size w wr∧w1.heap.size≤wr.heap.size) (fun i _=>xs.length - (intOf i).toNat)
 case atStart=>exact⟨0,[],by omega,rfl,rfl,rfl,HM.out,uH,Nat.le_refl _⟩
 case round =>
  clear HM uH;obtain⟨k,L,hk,rfl,hlen,hmap,hm,hbel,hz⟩:=hrel;have HMP:=Ac hmap; have HM:=Ac hm; have HLL:=Ac hlen; clear hmap hm hlen;by_cases hlt:k < xs.length
  ·obtain⟨b,o,rfl,hF,hb,hx⟩:=HN.out (by omega);obtain⟨x,hx'⟩:=aB hlt;obtain⟨ex0,⟨vn,ex1,hn⟩,⟨vd,ex2,hd⟩⟩:=hx k (ay x) (by rw[List.getElem?_map,hx']; rfl);have HX:=Ac hx';have hrl:=HF.out x (List.mem_of_getElem? hx');have HR:=Ac (AL.below (r:=ay x) (AL.old (AL.make (r:=ay x) rfl hn hd)) hbel);obtain⟨A1',c1',rfl,_,_⟩:=hn;obtain⟨A2',c2',rfl,_,_⟩:=hd;replace ex1:w.cell? ⟨b,o+k*3+1,none⟩=some (.slice A1' (dig x.num.natAbs).length c1'):=ex1;replace ex2:w.cell? ⟨b,o+k*3+2,none⟩=some (.slice A2' (dig x.den).length c2'):=ex2;have hold:=aO hbel;clear hx hx';go_wp2_with fail
   obtain⟨W2,hW2,rz,hB2,hzz⟩:=aH wr 53 #[.bool (ay x).neg,.slice A1' (dig x.num.natAbs).length c1',.slice A2' (dig x.den).length c2'];rw[← hW2];have hz2:=hB2.size;replace HR:=Ac (HR.out.below hB2);replace HM:=Ac (HM.out.below hB2);replace hbel:=hbel.trans (hB2.mono hbel.size);have x0:=rz.cell (i:=0) rfl; have x1:=rz.cell (i:=1) rfl; have x2:=rz.cell (i:=2) rfl;clear hold hB2 hW2 hzz rz ex0 ex1 ex2;go_wp2_with fail
   refine(tY W2 _ _ x HR.out hrl).mono ?_;rintro e wn ⟨u,rfl,hb2,hu⟩;replace HM:=Ac (HM.out.below hb2);have jL:=hbel.trans (hb2.mono hbel.size);have hz3:=hb2.size;obtain⟨A1,c1,B1,d1,rfl,dO⟩:=hu.opened;obtain⟨q,hq⟩:∃ q:RV,q=⟨ak x,.slice A1 (ak x).num.length c1,.slice B1 (ak x).den.length d1⟩:=⟨_,rfl⟩;rw[← hq] at dO;have HQ:=Ac (show q.r=ak x by rw[hq]);have hqk:q.fine wn (fun c=>Ext (Old F w.heap.size) w.heap.size c∧c≠bo):=dO.keep (fun b hb _=>⟨.inl hb,by have:=hb.2; omega⟩) (Same.refl _ _);have HQF:=Ac hqk;have hget:(L++List.replicate (xs.length - k) rv0)[k]? = some rv0:=by
    rw[List.getElem?_append_right (by rw[HLL.out]; omega),HLL.out,Nat.sub_self,List.getElem?_replicate,if_pos (by omega)]
   have c0:wn.cell? ⟨bo,k*3,none⟩=some (.bool false):=HM.out.cell (j:=0) hget (by omega) rfl; have c1:=HM.out.cell (j:=1) hget (by omega) rfl; have c2:=HM.out.cell (j:=2) hget (by omega) rfl;have f0:=HM.out.row.frozen (k*3); have f1:=HM.out.row.frozen (k*3+1); have f2:=HM.out.row.frozen (k*3+2);obtain⟨W,hW,hm,hwB,hwS,hwz,hwb⟩:=HM.out.set k q hqk;rw[aaj HLL.out hlt] at hm;have HM2:=Ac hm;have hbelW:=hwB _ _ aaW jL;have hzW:w1.heap.size≤W.heap.size:=by omega
   rw[hq] at hW;have HW:=Ac hW;clear hu dO hqk hm hget hq hwB hwS hwz hwb hW x0 x1 x2 hb2;dsimp only;go_wp2_with fail
   rw[← HW.out];go_roundw
   case rel=>exact⟨k+1,L ++ [q],by omega,by go_num,by rw[List.length_append,HLL.out]; rfl,xJ HMP.out HX.out HQ.out,HM2.out,hbelW,hzW⟩
   case measure=>simp[intOf]; omega
  ·go_wp2
   go_ret;have hall:xs.take k=xs:=List.take_of_length_le (by omega);have hk2:L.length=xs.length:=by have:=HLL.out; omega
   refine⟨_,rfl,hbel,by rw[HBO.out]; rfl,?_⟩;have hm:=HM.out;rw[show xs.length - k=0 by omega,List.replicate_zero,List.append_nil] at hm;have:=hm.sG (G:=Ext F w.heap.size) (fun b hb=>hb.elim (fun h=>.inl h.1) .inr) (.inr aaW) (c:=xs.length) (by omega);rw[HMP.out,hall,hk2] at this;exact this
theorem aiD (x y:Rat) (l r:Nat):sgI (dI x) (x.num.natAbs*r)+sgI (dI y) (y.num.natAbs*l)=x.num*r+y.num*l:=by
 rw[kX,kX,kN,kN]
theorem ajp (w:World) (F:Ag) (va vb:Value) (x y:Rat) (ha:NmV w F va x) (hb:NmV w F vb y) (hlx:rl x≤20000) (hly:rl y≤20000) (hx0:x=0) :
  Calls Tryz.prog 96 #[va,vb] w (Ret w fun v w'=>NmV w' (Ext F w.heap.size) v (x+y)):=by
 have dx:decide (x=0)=true:=decide_eq_true hx0;have HZ:=Ac (show x+y=y by rw[hx0,Rat.zero_add]); clear hx0;have HX:=Ac ha.old; have HY:=Ac hb.old;obtain⟨A,c,B,d,rfl,hn,hd⟩:=ha.open;obtain⟨A',c',B',d',rfl,hn',hd'⟩:=hb.open;clear hn hd hn' hd' ha hb;go_enter Tryz.func96,Tryz.ntmps96;go_wp2_with fail
 obtain⟨W,hW,rx,ry,rz,hB,hz⟩:=oG w 97 #[.bool (ak x).neg,.slice A (ak x).num.length c,.slice B (ak x).den.length d] 97 #[.bool (ak y).neg,.slice A' (ak y).num.length c',.slice B' (ak y).den.length d'] 97 #[.bool false,.slice none 0 0,.slice none 0 0];rw[← hW];clear hW;replace HX:=Ac (HX.out.on (Below.same' hB _)); replace HY:=Ac (HY.out.on (Below.same' hB _));have hz:w.heap.size+3≤W.heap.size:=hz;have x0:=rx.cell (i:=0) rfl;have x1:=rx.cell (i:=1) rfl;have x2:=rx.cell (i:=2) rfl;have y0:=ry.cell (i:=0) rfl;have y1:=ry.cell (i:=1) rfl;have y2:=ry.cell (i:=2) rfl;clear rx ry;refine(gQ _ _ _ x HX.out).mono ?_;rintro e wn ⟨_,rfl,hb,rfl⟩;rw[dx];replace x0:=ah x0 hb;replace x1:=ah x1 hb;replace x2:=ah x2 hb;replace y0:=ah y0 hb;replace y1:=ah y1 hb;replace y2:=ah y2 hb;replace HX:=Ac (HX.out.below hb);replace HY:=Ac (HY.out.below hb);replace rz:=rz.below hb rz.lt;replace hz:=Nat.le_trans hz hb.size;replace hB:=hB.trans (hb.mono hB.size);clear hb;dsimp only;have q0:=rz.cell (i:=0) rfl;have y0:=rz.frozen 0;have q1:=rz.cell (i:=1) rfl;have y1:=rz.frozen 1;have q2:=rz.cell (i:=2) rfl;have y2:=rz.frozen 2;go_wp2
 obtain⟨Wz,hWz,hrz,hwz,hkz⟩:=aV rz (.bool (ak y).neg) (.slice A' (ak y).num.length c') (.slice B' (ak y).den.length d');rw[← hWz];clear hWz q0 q1 q2 y0 y1 y2;have t0:=hrz.cell (i:=0) rfl;have t1:=hrz.cell (i:=1) rfl;have t2:=hrz.cell (i:=2) rfl;refine bodyPost_ret (v:=.agg #[.bool (ak y).neg,.slice A' (ak y).num.length c',.slice B' (ak y).den.length d']) (by simp[results,Tryz.results96,go_sem,t0,t1,t2]) rfl ?_;exact⟨_,rfl,hwz _ _ (by omega) hB,by rw[HZ.out]; exact(HY.out.on (hkz _ (fun h=>by have:=h.2; omega))).mono (fun b hb _=>.inl hb.1)⟩
theorem ajq (w:World) (F:Ag) (va vb:Value) (x y:Rat) (ha:NmV w F va x) (hb:NmV w F vb y) (hlx:rl x≤20000) (hly:rl y≤20000) (hx0:x≠0) (hy0:y=0) :
  Calls Tryz.prog 96 #[va,vb] w (Ret w fun v w'=>NmV w' (Ext F w.heap.size) v (x+y)):=by
 have dx:decide (x=0)=false:=decide_eq_false hx0;have dy:decide (y=0)=true:=decide_eq_true hy0;have HZ:=Ac (show x+y=x by rw[hy0,Rat.add_zero]); clear hx0 hy0;have HX:=Ac ha.old; have HY:=Ac hb.old;obtain⟨A,c,B,d,rfl,hn,hd⟩:=ha.open;obtain⟨A',c',B',d',rfl,hn',hd'⟩:=hb.open;clear hn hd hn' hd' ha hb;go_enter Tryz.func96,Tryz.ntmps96;go_wp2_with fail
 obtain⟨W,hW,rx,ry,rz,hB,hz⟩:=oG w 97 #[.bool (ak x).neg,.slice A (ak x).num.length c,.slice B (ak x).den.length d] 97 #[.bool (ak y).neg,.slice A' (ak y).num.length c',.slice B' (ak y).den.length d'] 97 #[.bool false,.slice none 0 0,.slice none 0 0];rw[← hW];clear hW;replace HX:=Ac (HX.out.on (Below.same' hB _)); replace HY:=Ac (HY.out.on (Below.same' hB _));have hz:w.heap.size+3≤W.heap.size:=hz;have x0:=rx.cell (i:=0) rfl;have x1:=rx.cell (i:=1) rfl;have x2:=rx.cell (i:=2) rfl;have y0:=ry.cell (i:=0) rfl;have y1:=ry.cell (i:=1) rfl;have y2:=ry.cell (i:=2) rfl;clear rx ry;refine(gQ _ _ _ x HX.out).mono ?_;rintro e wn ⟨_,rfl,hb,rfl⟩;rw[dx];replace x0:=ah x0 hb;replace x1:=ah x1 hb;replace x2:=ah x2 hb;replace y0:=ah y0 hb;replace y1:=ah y1 hb;replace y2:=ah y2 hb;replace HX:=Ac (HX.out.below hb);replace HY:=Ac (HY.out.below hb);replace rz:=rz.below hb rz.lt;replace hz:=Nat.le_trans hz hb.size;replace hB:=hB.trans (hb.mono hB.size);clear hb;dsimp only;go_wp2_with fail
 refine(gQ _ _ _ y HY.out).mono ?_;rintro e wn ⟨_,rfl,hb,rfl⟩;rw[dy];replace x0:=ah x0 hb;replace x1:=ah x1 hb;replace x2:=ah x2 hb;replace y0:=ah y0 hb;replace y1:=ah y1 hb;replace y2:=ah y2 hb;replace HX:=Ac (HX.out.below hb);replace HY:=Ac (HY.out.below hb);replace rz:=rz.below hb rz.lt;replace hz:=Nat.le_trans hz hb.size;replace hB:=hB.trans (hb.mono hB.size);clear hb;dsimp only;have q0:=rz.cell (i:=0) rfl;have y0:=rz.frozen 0;have q1:=rz.cell (i:=1) rfl;have y1:=rz.frozen 1;have q2:=rz.cell (i:=2) rfl;have y2:=rz.frozen 2;go_wp2
 obtain⟨Wz,hWz,hrz,hwz,hkz⟩:=aV rz (.bool (ak x).neg) (.slice A (ak x).num.length c) (.slice B (ak x).den.length d);rw[← hWz];clear hWz q0 q1 q2 y0 y1 y2;have t0:=hrz.cell (i:=0) rfl;have t1:=hrz.cell (i:=1) rfl;have t2:=hrz.cell (i:=2) rfl;refine bodyPost_ret (v:=.agg #[.bool (ak x).neg,.slice A (ak x).num.length c,.slice B (ak x).den.length d]) (by simp[results,Tryz.results96,go_sem,t0,t1,t2]) rfl ?_;exact⟨_,rfl,hwz _ _ (by omega) hB,by rw[HZ.out]; exact(HX.out.on (hkz _ (fun h=>by have:=h.2; omega))).mono (fun b hb _=>.inl hb.1)⟩
theorem aeD (w:World) (F:Ag) (va vb:Value) (x y:Rat) (ha:NmV w F va x) (hb:NmV w F vb y) (hlx:rl x≤20000) (hly:rl y≤20000) (hx0:x≠0) (hy0:y≠0) (hxd:x.den=1) (hyd:y.den=1) :
  Calls Tryz.prog 96 #[va,vb] w (Ret w fun v w'=>NmV w' (Ext F w.heap.size) v (x+y)):=by
 have dx:decide (x=0)=false:=decide_eq_false hx0;have dy:decide (y=0)=false:=decide_eq_false hy0;have lx:=gV x; have ly:=gV y;have hlx1:(((ak x).den.length:Int)==0)=true:=by rw[nD hxd]; rfl
 have hly1:(((ak y).den.length:Int)==0)=true:=by rw[nD hyd]; rfl
 have HS:=Ac (afX hxd hyd);have HXN:=Ac (kN x); have HYN:=Ac (kN y);clear hx0 hy0 hxd hyd;have HX:=Ac ha.old; have HY:=Ac hb.old;obtain⟨A,c,B,d,rfl,hn,hd⟩:=ha.open;obtain⟨A',c',B',d',rfl,hn',hd'⟩:=hb.open;clear hn hd hn' hd' ha hb;go_enter Tryz.func96,Tryz.ntmps96;go_wp2_with fail
 obtain⟨W,hW,rx,ry,rz,hB,hz⟩:=oG w 97 #[.bool (ak x).neg,.slice A (ak x).num.length c,.slice B (ak x).den.length d] 97 #[.bool (ak y).neg,.slice A' (ak y).num.length c',.slice B' (ak y).den.length d'] 97 #[.bool false,.slice none 0 0,.slice none 0 0];rw[← hW];clear hW;replace HX:=Ac (HX.out.on (Below.same' hB _)); replace HY:=Ac (HY.out.on (Below.same' hB _));have hz:w.heap.size+3≤W.heap.size:=hz;have x0:=rx.cell (i:=0) rfl;have x1:=rx.cell (i:=1) rfl;have x2:=rx.cell (i:=2) rfl;have y0:=ry.cell (i:=0) rfl;have y1:=ry.cell (i:=1) rfl;have y2:=ry.cell (i:=2) rfl;clear rx ry;refine(gQ _ _ _ x HX.out).mono ?_;rintro e wn ⟨_,rfl,hb,rfl⟩;rw[dx];replace x0:=ah x0 hb;replace x1:=ah x1 hb;replace x2:=ah x2 hb;replace y0:=ah y0 hb;replace y1:=ah y1 hb;replace y2:=ah y2 hb;replace HX:=Ac (HX.out.below hb);replace HY:=Ac (HY.out.below hb);replace rz:=rz.below hb rz.lt;replace hz:=Nat.le_trans hz hb.size;replace hB:=hB.trans (hb.mono hB.size);clear hb;dsimp only;go_wp2_with fail
 refine(gQ _ _ _ y HY.out).mono ?_;rintro e wn ⟨_,rfl,hb,rfl⟩;rw[dy];replace x0:=ah x0 hb;replace x1:=ah x1 hb;replace x2:=ah x2 hb;replace y0:=ah y0 hb;replace y1:=ah y1 hb;replace y2:=ah y2 hb;replace HX:=Ac (HX.out.below hb);replace HY:=Ac (HY.out.below hb);replace rz:=rz.below hb rz.lt;replace hz:=Nat.le_trans hz hb.size;replace hB:=hB.trans (hb.mono hB.size);clear hb;dsimp only;go_wp2_with fail
 obtain⟨_,_,hh,hn,hd⟩:=HX.out; have HNX:=Ac (Aj.mono (n:=x.num.natAbs) (G:=(Ext (Old F w.heap.size) (w.heap.size+3))) hn (fun b hb _=>.inl hb)); cases hh; clear hn hd;obtain⟨_,_,hh,hn,hd⟩:=HY.out; have HNY:=Ac (Aj.mono (n:=y.num.natAbs) (G:=(Ext (Old F w.heap.size) (w.heap.size+3))) hn (fun b hb _=>.inl hb)); cases hh; clear hn hd;refine(yN _ _ (dI x) (dI y) _ _ x.num.natAbs y.num.natAbs HNX.out HNY.out (by omega) (by omega)).mono ?_;rintro e wn ⟨_,rfl,hb,neg,t,rfl,hu,hs⟩;rw[HXN.out,HYN.out,← HS.out.2] at hu hs;have HT:=Ac (hu.mono (G:=(Ext (Old F w.heap.size) (w.heap.size+3))) (fun b hb _=>.inr (by omega))); clear hu;have HSG:=Ac (show mkRat (sgI neg (x+y).num.natAbs) 1=x+y by rw[← hs,← HS.out.1,Rat.mkRat_self]); clear hs;replace x0:=ah x0 hb;replace x1:=ah x1 hb;replace x2:=ah x2 hb;replace y0:=ah y0 hb;replace y1:=ah y1 hb;replace y2:=ah y2 hb;replace HX:=Ac (HX.out.below hb);replace HY:=Ac (HY.out.below hb);replace HNX:=Ac (HNX.out.below hb);replace HNY:=Ac (HNY.out.below hb);replace rz:=rz.below hb rz.lt;replace hz:=Nat.le_trans hz hb.size;replace hB:=hB.trans (hb.mono hB.size);clear hb;dsimp only;go_wp2_with fail
 refine(qB _ _ _ _ _ (x+y).num.natAbs 1 [] HT.out (iC _ _ _ _) (.inr ⟨rfl,rfl⟩) (by decide) (Nat.gcd_one_right _) (by simp)).mono ?_;rintro e wn ⟨vm,rfl,hb,hu⟩;rw[HSG.out] at hu;have HM:=Ac hu;obtain⟨Am,cm,Bm,dm,rfl,hn,hd⟩:=hu.open;clear hn hd hu;replace x0:=ah x0 hb;replace x1:=ah x1 hb;replace x2:=ah x2 hb;replace y0:=ah y0 hb;replace y1:=ah y1 hb;replace y2:=ah y2 hb;replace HX:=Ac (HX.out.below hb);replace HY:=Ac (HY.out.below hb);replace HNX:=Ac (HNX.out.below hb);replace HNY:=Ac (HNY.out.below hb);replace HT:=Ac (HT.out.below hb);replace rz:=rz.below hb rz.lt;replace hz:=Nat.le_trans hz hb.size;replace hB:=hB.trans (hb.mono hB.size);clear hb;dsimp only;clear x0 x1 x2 y0 y1 y2;have q0:=rz.cell (i:=0) rfl;have y0:=rz.frozen 0;have q1:=rz.cell (i:=1) rfl;have y1:=rz.frozen 1;have q2:=rz.cell (i:=2) rfl;have y2:=rz.frozen 2;go_wp2
 obtain⟨Wz,hWz,hrz,hwz,hkz⟩:=aV rz (.bool (ak (x+y)).neg) (.slice Am (ak (x+y)).num.length cm) (.slice Bm (ak (x+y)).den.length dm);rw[← hWz];clear hWz q0 q1 q2 y0 y1 y2;have t0:=hrz.cell (i:=0) rfl;have t1:=hrz.cell (i:=1) rfl;have t2:=hrz.cell (i:=2) rfl;refine bodyPost_ret (v:=.agg #[.bool (ak (x+y)).neg,.slice Am (ak (x+y)).num.length cm,.slice Bm (ak (x+y)).den.length dm]) (by simp[results,Tryz.results96,go_sem,t0,t1,t2]) rfl ?_;exact⟨_,rfl,hwz _ _ (by omega) hB,HM.out.keep (fun b hb _=>hb.elim (fun h=>.inl h.1) fun h=>.inr (by omega)) (hkz _ (fun h=>h.elim (fun h=>by have:=h.2; omega) fun h=>by omega))⟩
theorem aaX (w:World) (F:Ag) (v1 v2:Value) (l1 l2:List Nat) (h1:Ak w F v1 l1) (h2:Ak w F v2 l2) (hl1:l1.length < 1000000) (hl2:l2.length < 1000000) :
  Calls Tryz.prog 68 #[v1,v2] w fun e w'=>e = .returned (.bool (decide (l1=l2)))∧∃ n,w'=w.drewN n:=by
 obtain⟨A1,c1,rfl,hc1,r1⟩:=h1;obtain⟨A2,c2,rfl,hc2,r2⟩:=h2;by_cases hl:l1.length=l2.length
 ·have R1:=Ac r1; clear r1;have R2:=Ac r2; clear r2;have HL:=Ac hl;have hb:((l1.length:Int) != (l2.length:Int))=false:=by simp[hl]
  clear hl;go_enter Tryz.func68,Tryz.ntmps68;go_wp2
  go_loopw [5] (fun i wr=>∃ k:Nat,k≤l1.length∧i = .int .i64 k∧l1.take k=l2.take k∧∃ n,wr=w.drewN n) (fun i _=>l1.length - (intOf i).toNat)
  case atStart=>exact⟨0,by omega,rfl,by simp,0,rfl⟩
  case round =>
   obtain⟨k,hk,rfl,hpre,n,rfl⟩:=hrel;have HP:=Ac hpre; clear hpre;by_cases hlt:k < l1.length
   ·obtain⟨b1,o1,rfl,hb1,_,hcell1⟩:=R1.out (by omega);have hk2:k < l2.length:=by have:=HL.out; omega
    obtain⟨b2,o2,rfl,hb2,_,hcell2⟩:=R2.out (by omega);obtain⟨x,hx⟩:=aB hlt;obtain⟨y,hy⟩:=aB hk2;have e1:=hcell1 k x hx;have e2:=hcell2 k y hy;unfold bZ at e1 e2;rw[Nat.mul_one] at e1 e2;clear hcell1 hcell2;have HX:=Ac hx; clear hx;have HY:=Ac hy; clear hy;by_cases he:x=y
    ·subst he;go_wp2
     go_quiet (fail)
     go_wp2
     go_roundw
     case rel=>exact⟨k+1,by omega,by go_num,lS HX.out HY.out HP.out,_,rfl⟩
     case measure=>simp[intOf]; omega
    ·have hne:((x:Int) != (y:Int))=true:=by simp; omega
     have hfin:decide (l1=l2)=false:=by
      simp only[decide_eq_false_iff_not]; rintro rfl;have h3:=HX.out; rw[HY.out] at h3; cases h3; exact he rfl
     have HF:=Ac hfin; clear hfin he;go_wp2
     go_quiet (fail)
     go_wp2
     go_ret;exact⟨by rw[HF.out]; rfl,n+nq,by rw[World.drewN_drewN]⟩
   ·go_wp2
    go_ret;have:k=l1.length:=by omega
    have h3:=HP.out;have h4:=HL.out;refine⟨?_,_,rfl⟩;have h5:l1=l2:=by
     rw[List.take_of_length_le (by omega),List.take_of_length_le (by omega)] at h3; exact h3
    simp[h5]
 ·have hb:((l1.length:Int) != (l2.length:Int))=true:=by simp; omega
  go_enter Tryz.func68,Tryz.ntmps68;go_wp2
  go_ret;refine⟨?_,0,rfl⟩;have:l1≠l2:=by rintro rfl; exact hl rfl
  simp[this]
theorem uI (w:World) (F:Ag) (v1 v2:Value) (l1 l2:List Nat) (h1:Ak w F v1 l1) (h2:Ak w F v2 l2) (hl1:l1.length < 1000000) (hl2:l2.length < 1000000) :
  Calls Tryz.prog 68 #[v1,v2] w (Ret w fun v _=>v = .bool (decide (l1=l2))):=by
 refine(aaX w F v1 v2 l1 l2 h1 h2 hl1 hl2).mono ?_;rintro e w' ⟨rfl,n,rfl⟩;exact⟨_,rfl,aG (Below.refl _ w) _,rfl⟩
end Go.Proofs.YtkcheepafifjaaaGreatDoor

/- Facts that no later step turns: for regions that draw their order. -/
import Derived.Test.YtnmeejofpkhlkaaGreatDoorR17
import Derived.Test.YtnmeejofpkhlkaaGreatDoorR14
set_option linter.all false
set_option maxRecDepth 100000
set_option maxHeartbeats 12800000
namespace Go.Proofs.YtnmeejofpkhlkaaGreatDoor
open Lib renaming hid → Ag
open Go.RowKit
theorem ak {w w':World} {b o:Nat} {v:Value} (h:w.cell? ⟨b,o,none⟩=some v) (hb:Below w.heap.size w w'):w'.cell? ⟨b,o,none⟩=some v :=
 (hb.cell (p:=⟨b,o,none⟩) (World.block_lt_of_cell? w _ h)).trans h
structure Fact where
 p:Value→World→Prop
 keep:∀ v w w',p v w→Below w.heap.size w w'→p v w'
def Fact.tt:Fact:=⟨fun _ _=>True,fun _ _ _ h _=>h⟩
def Fact.eq (u:Value):Fact:=⟨fun v _=>v=u,fun _ _ _ h _=>h⟩
def Fact.nat (F:Foot) (n:Nat):Fact:=⟨fun v w=>Ah w F v n,fun _ _ _ h hb=>h.below hb⟩
def Fact.raw (F:Foot) (r:Raw):Fact:=⟨fun v w=>Ak w F v r,fun _ _ _ h hb=>h.below hb⟩
structure Hold where
 p:World→Prop
 keep:∀ w w',p w→Below w.heap.size w w'→p w'
def Hold.cell (b o:Nat) (v:Value):Hold:=⟨fun w=>w.cell? ⟨b,o,none⟩=some v,fun _ _ h hb=>ak h hb⟩
def Hold.of (f:Fact) (v:Value):Hold:=⟨fun w=>f.p v w,fun w w' h hb=>f.keep v w w' h hb⟩
def Hold.and (a b:Hold):Hold:=⟨fun w=>a.p w∧b.p w,fun w w' h hb=>⟨a.keep w w' h.1 hb,b.keep w w' h.2 hb⟩⟩
def Hold.below (B:Nat) (w0:World):Hold:=⟨fun w=>B≤w.heap.size∧Below B w0 w,fun w _ h hb=>⟨Nat.le_trans h.1 hb.size,h.2.trans (hb.mono h.1)⟩⟩
def facts (l:List (Nat×Fact)) (i:Nat) (v:Value) (w:World):Prop:=((l.lookup i).getD Fact.tt).p v w
theorem afp (l:List (Nat×Fact)) (i:Nat) (v:Value) (w w':World) (h:facts l i v w) (hb:Below w.heap.size w w'):facts l i v w':=Fact.keep _ _ _ _ h hb
theorem aJ {l:List (Nat×Fact)} {i:Nat} {v:Value} {w:World} {f:Fact} (h:facts l i v w) (hl:(l.lookup i).getD Fact.tt=f):f.p v w:=by rw[← hl]; exact h
section
variable {P:Program} {ops:Array Oper} {Q:Exit→Act→World→Prop}
theorem lG {js:List Nat} {fuel:Nat} {listed:Array Bool} {a:Act} {w:World} {S:World→Prop} (H:Hold) (l:List (Nat×Fact)) (hok:aiz ops listed js fuel=true)
  (hH:H.p w) (hHS:∀ w,H.p w→S w)
  (h:Flow P .any ops Q H.p (fun w w'=>Below w.heap.size w w') (facts l) js [] a):wpAnyH P .any ops Q S fuel listed a w :=
 pK hHS (adW H.p 0 (facts l) hok hH (Nat.zero_le _) (fun w w' _ h hb=>H.keep w w' h hb) (afp l) (h.hold fun _ h=>h.2))
end
def Ef (a b:Nat) (v:Value):Prop:=∃ M p q:Nat,v = .tuple #[.int .i64 (p:Int),.int .i64 (q:Int)]∧0 < M∧p=a / M∧q=b / M∧p < 1000000000000000000
theorem lead_any (w:World) (F:Foot) (va vb:Value) (a b:Nat) (ha:Ah w F va a) (hb:Ah w F vb b) (hba:b≤a) (hl3:3≤(dig a).length) (hla:(dig a).length≤100000) :
  Calls Tryz.prog 184 #[va,vb] w (Ret w fun v _=>Ef a b v):=by
 have HA:=Ag ha;have HB:=Ag hb;obtain⟨A,c,rfl,hc,hNa⟩:=ha;obtain⟨n,hn⟩:=named ((dig a).length);refine zbo ?_;intro n1 hn1;obtain⟨bk,o,rfl,_,hbk,hx⟩:=hNa byOmega;obtain⟨x,hx'⟩:=getSome (l:=dig a) (k:=n1) byOmega;have ex:=hx n1 x hx';unfold dB at ex;rw[Nat.mul_one] at ex;have hxl:x < 1000000000:=(aP a).get hx';have hx1:1≤x:=by
  have h1:=qA a;rw[List.getLast?_eq_getElem?,show(dig a).length - 1=n1 by omega,hx'] at h1;rcases Nat.eq_zero_or_pos x with h | h
  ·exact absurd (by rw[h]) h1
  ·exact h
 have hlb:=aU hba;rw[← hn] at hc hl3 hla hlb ⊢;replace HA:=Ag (show Ah w F (.slice (some ⟨bk,o,none⟩) n c) a by rw[hn]; exact HA.out);have HX:=Ag (show(dig a).getD (n - 1) 0=x by rw[show n - 1=n1 by omega]; exact aN hx');have HN:=Ag hn;have i1:(n:Int) - 1=(n1:Int):=byOmega;have hn1l:n1 < n:=byOmega;clear hx hx' hNa hb hn hn1;go_in;go_wp2_with fail
 have hl0:w.heap.size < w.heap.size+1+1:=byOmega;go_loopw [] (fun wr=>∃ i T:Nat,10 ^ i*T=LB∧i≤9∧x*10 ^ i < LB∧Row wr w.heap.size 3 [.int .i64 (n:Int)]∧Row wr (w.heap.size+1) 153 [.int .u64 ((10 ^ i:Nat):Int)]∧Below w.heap.size w wr) (fun wr=>(match wr.cell? ⟨w.heap.size+1,0,none⟩ with | some v=>LB - (intOf v).toNat | none=>0))
 case atStart =>
  refine⟨0,LB,aB,byOmega,by simpa using hxl,?_,?_,?_⟩
  ·exact(Row.new w 3 #[.int .i64 (n:Int)]).alloc _
  ·have h:=Row.new (w.alloc (.cells #[.int .i64 (n:Int)] 3)) 153 #[.int .u64 1];simpa using h
  ·exact((Below.refl _ _).alloc (Nat.le_refl _) _).alloc aB _
 case round =>
  obtain⟨i,T,hT,hi,hxi,hr0,hr1,hbel⟩:=hrel;have ex':=(aQ hbel bk (o+n1) hbk).trans ex;have e0:=hr0.cell (i:=0) rfl;have e1:=hr1.cell (i:=0) rfl;have y1:=hr1.frozen 0;obtain⟨t,ht⟩:=named (10 ^ i);have HT:=Ag (show t=10 ^ i∧t*T=LB from⟨ht,by rw[ht]; exact hT⟩);rw[← ht] at hxi e1 hr1 hT;have HXI:=Ag hxi;have ht1:1≤t:=by rw[ht];exact Nat.pow_pos ay
  have htl:t≤1000000000:=by
   have:1*t≤x*t:=Nat.mul_le_mul_right _ hx1;unfold LB at hxi;omega
  obtain⟨p,hp⟩:=named (x*t);have hpI:(x:Int)*(t:Int)=(p:Int):=by rw[hp,Int.natCast_mul]
  have hpl:p < 1000000000:=by rw[hp];exact hxi
  have hpt:t≤p:=by
   have:1*t≤x*t:=Nat.mul_le_mul_right _ hx1;omega
  have HP:=Ag hp;clear ht hT hxi hp;by_cases hcd:p*10 < 1000000000
  ·have hd:decide ((p:Int)*10 < 1000000000)=true:=decide_eq_true byOmega;have ht10:t*10 < 1000000000:=byOmega;have hi9:i < 9:=by
    rcases Nat.lt_or_ge i 9 with h | h
    ·exact h
    ·have h2:10 ^ 9≤10 ^ i:=Nat.pow_le_pow_right ay h;have h3:=HT.out.1;have h4:(10:Nat) ^ 9=1000000000:=ay;omega
   have HI1:=Ag (show 10 ^ (i+1)=t*10 by rw[Nat.pow_succ,← HT.out.1]);have hT10:=Ag (show t*10*(T / 10)=LB by
    have h1:=HT.out.2;have h2:10 ∣ T:=by
     have h3:T=10 ^ (9 - i):=by
      have h4:10 ^ i*10 ^ (9 - i)=LB:=by rw[← Nat.pow_add,show i+(9 - i)=9 by omega]
      rw[HT.out.1] at h1;exact Nat.eq_of_mul_eq_mul_left (Nat.pow_pos ay) (h1.trans h4.symm)
     rw[h3,show 9 - i=(9 - i - 1)+1 by omega,Nat.pow_succ];exact⟨_,Nat.mul_comm _ _⟩
    obtain⟨q,hq⟩:=h2;rw[hq,Nat.mul_div_cancel_left _ ay,Nat.mul_assoc,← hq]; exact h1)
   have HX10:=Ag (show x*(t*10) < LB by rw[← Nat.mul_assoc,← HP.out]; exact hcd);go_wp2
   go_quiet (fail)
   go_wp2
   go_roundw
   case rel =>
    refine⟨i+1,T / 10,by rw[HI1.out]; exact hT10.out,byOmega,by rw[HI1.out]; exact HX10.out,?_,?_,?_⟩
    ·exact(hr0.dN _).other (a:=⟨w.heap.size+1,0,none⟩) aB _
    ·rw[HI1.out];have h:=(hr1.dN nq).set 0 (.int .u64 ((t*10:Nat):Int));simpa using h
    ·exact(aI hbel nq).setCell (p:=⟨w.heap.size+1,0,none⟩) aB _
   case measure =>
    have h1:=((hr1.dN nq).set 0 (.int .u64 ((t:Int)*10))).cell (i:=0) rfl;rw[h1,e1];simp only[intOf];unfold LB;omega
  ·have hd:decide ((p:Int)*10 < 1000000000)=false:=decide_eq_false byOmega;go_wp2
   go_quiet (fail)
   go_wp2_with fail
   have hB1:=aI hbel nq;have e0d:(wr.drewN nq).cell? ⟨w.heap.size,0,none⟩=some (.int .i64 (n:Int)):=e0;have e1d:(wr.drewN nq).cell? ⟨w.heap.size+1,0,none⟩=some (.int .u64 (t:Int)):=e1;obtain⟨wq,hwq⟩:∃ W:World,W=wr.drewN nq:=⟨_,rfl⟩;rw[← hwq] at hB1 e0d e1d ⊢;clear hwq e0 e1;have HTT:=HT.out.2;have hxt:(dig a).getD (n - 1) 0*t < LB:=by rw[HX.out];exact HXI.out
   have hla2:(dig a).length=n:=HN.out.symm;have ajQ:=ajB hla2 hl3 HTT (aP a) hxt;have HM:=Ag (show 0 < LB ^ (n - 3)*T by
    refine Nat.mul_pos (Bj _) ?_;rcases Nat.eq_zero_or_pos T with h | h
    ·rw[h,Nat.mul_zero] at HTT;cases HTT
    ·exact h)
   have hltb:aH (dig b) / (LB ^ (n - 3)*T) < 1000000000000000000:=by
    refine Nat.lt_of_le_of_lt ?_ ajQ;rw[aW,aW];exact Nat.div_le_div_right byOmega
   refine(abK _ F _ (dig a) n t T _ _ (HA.out.below hB1) (aP a) byOmega hl3 hla HTT e0d e1d ajQ).mono ?_;rintro e w1 ⟨_,rfl,hb1,rfl⟩;have e0':=ak e0d hb1;have e1':=ak e1d hb1;dsimp only;go_wp2_with fail
   refine(abK _ F _ (dig b) n t T _ _ ((HB.out.below hB1).below hb1) (aP b) byOmega hl3 hla HTT e0' e1' hltb).mono ?_;rintro e w2 ⟨_,rfl,hb2,rfl⟩;rw[aW,aW];rw[aW] at ajQ;dsimp only;go_wp2
   go_ret2;exact⟨_,rfl,hB1.trans ((hb1.trans (hb2.mono hb1.size)).mono hB1.size),_,_,_,rfl,HM.out,rfl,rfl,ajQ⟩
theorem enters' {f:FuncId} {fn:Func} (hf:Tryz.prog.funcs[f]? = some fn) (hn:(fn.name == "runtime.NumGoroutine")=false) (hb:fn.body.isNone=false) (args:Array Value) (w:World):(callFunc f args).run Tryz.prog w = .ok (.enter f args) w:=by
 have h1:fn.name ≠ "runtime.NumGoroutine" := by simpa using hn
 obtain⟨b,hb⟩:∃ b,fn.body=some b:=by cases h:fn.body <;> simp_all
 simp[callFunc,hf,h1,hb,Sem.run]
open List renaming getElem_toArray → lq1, getElem_cons_zero → lq2, getElem_cons_succ → lq3, setIfInBounds_toArray → lq4, set_cons_zero → lq5, set_cons_succ → lq6
theorem aha (w:World) (F:Foot) (va vb:Value) (x y:Rat) (ha:NmV w F va x) (hb:NmV w F vb y) (hlx:rl x≤20000) (hly:rl y≤20000) (hx0:x≠0) (hy0:y≠0) :
  Calls Tryz.prog 109 #[va,vb] w (Ret w fun v w'=>NmV w' (Ext F w.heap.size) v (x*y)):=by
 refine zb8 ?_;intro HX HY;obtain⟨A,c,B,d,rfl,hn,hd⟩:=ha.open;obtain⟨A',c',B',d',rfl,hn',hd'⟩:=hb.open;clear hn hd hn' hd' ha hb;refine zbC ?_;intro dx dy lx;have lx2:=gK x;have ly:=gJ y;have ly2:=gK y;go_in;go_wp2_with fail
 refine Ze ?_;clear HX HY;intro W rx ry rz hB hz HX HY;refine Zx ?_;intro hz x0 x1 x2 y0 y1 y2;clear rx ry;refine zbR ?_;rintro e wn ⟨_,rfl,hb,rfl⟩;rw[dx];refine Za ?_;clear x0 x1 x2 y0 y1 y2 HX HY;intro x0 x1 x2 y0 y1 y2 HX HY;refine zaG ?_;clear rz hz hB hb;intro rz hz hB;go_wp2_with fail
 refine(ig _ _ _ y HY.out).mono ?_;rintro e wn ⟨_,rfl,hb,rfl⟩;rw[dy];refine Za ?_;clear x0 x1 x2 y0 y1 y2 HX HY;intro x0 x1 x2 y0 y1 y2 HX HY;refine zaG ?_;clear rz hz hB hb;intro rz hz hB;go_wp2_with fail
 refine zam ?_;intro hHeld hb;refine Za ?_;clear x0 x1 x2 y0 y1 y2 HX HY;intro x0 x1 x2 y0 y1 y2 HX HY;refine ZC ?_;clear rz hz hB hb;intro rz hz hB;generalize wn.drew=wn at *;refine tkm [0,2] ?_;refine tk2 1 ah rfl fun K hK=>?_
 go_simp;refine(kE _ _ _ x HX.out).mono ?_;rintro e wn ⟨vdx,rfl,hb,hu⟩;have HDX:=Ag (hu.mono (G:=(Ext (Old F w.heap.size) (w.heap.size+3))) (fun b hb _=>hb.elim .inl fun h=>.inr byOmega));clear hu;refine Za ?_;clear x0 x1 x2 y0 y1 y2 HX HY;intro x0 x1 x2 y0 y1 y2 HX HY;refine Z7 ?_;clear rz hz hB hb hHeld hK K;intro rz hz hB hHeld;refine tk2 3 ah rfl fun K hK=>?_
 go_simp;refine(kE _ _ _ y HY.out).mono ?_;rintro e wn ⟨vdy,rfl,hb,hu⟩;refine zaJ ?_;intro HDY;clear hu;refine Za ?_;clear x0 x1 x2 y0 y1 y2 HX HY;intro x0 x1 x2 y0 y1 y2 HX HY;replace HDX:=Ag (HDX.out.below hb);refine Z7 ?_;clear rz hz hB hb hHeld hK K;intro rz hz hB hHeld;refine tkm [4,5] ?_;refine Yp ?_;clear hHeld;go_wp2_with fail
 obtain⟨_,_,hh,hn,hd⟩:=HX.out;refine YT ?_;intro HNX;cases hh;clear hn hd;obtain⟨_,_,hh,hn,hd⟩:=HY.out;refine Yq ?_;intro HNY;cases hh;clear hn hd;refine zam ?_;intro hHeld hb;refine Za ?_;clear x0 x1 x2 y0 y1 y2 HX HY;intro x0 x1 x2 y0 y1 y2 HX HY;refine zaf ?_;clear HDX HDY;intro HDX HDY;replace HNX:=Ag (HNX.out.below hb);replace HNY:=Ag (HNY.out.below hb);refine ZC ?_;clear rz hz hB hb;intro rz hz hB;generalize wn.drew=wn at *;refine tkm [0,1,2,4,5,6] ?_;refine tk2 3 ah rfl fun K hK=>?_
 go_simp;refine(pJ _ _ _ _ x.num.natAbs y.den HNX.out HDY.out byOmega byOmega).mono ?_;rintro e wn ⟨vf,rfl,hb,hu⟩;have HF:=Ag (hu.mono (G:=(Ext (Old F w.heap.size) (w.heap.size+3))) (fun b hb _=>hb.elim id fun h=>.inr byOmega));clear hu;refine Za ?_;clear x0 x1 x2 y0 y1 y2 HX HY;intro x0 x1 x2 y0 y1 y2 HX HY;refine zaf ?_;clear HDX HDY;intro HDX HDY;replace HNX:=Ag (HNX.out.below hb);replace HNY:=Ag (HNY.out.below hb);refine Z7 ?_;clear rz hz hB hb hHeld hK K;intro rz hz hB hHeld;refine tk2 7 ah rfl fun K hK=>?_
 go_simp;refine(pJ _ _ _ _ y.num.natAbs x.den HNY.out HDX.out byOmega byOmega).mono ?_;rintro e wn ⟨vg,rfl,hb,hu⟩;have HG:=Ag (hu.mono (G:=(Ext (Old F w.heap.size) (w.heap.size+3))) (fun b hb _=>hb.elim id fun h=>.inr byOmega));clear hu;refine Za ?_;clear x0 x1 x2 y0 y1 y2 HX HY;intro x0 x1 x2 y0 y1 y2 HX HY;refine zaf ?_;clear HDX HDY;intro HDX HDY;replace HNX:=Ag (HNX.out.below hb);replace HNY:=Ag (HNY.out.below hb);replace HF:=Ag (HF.out.below hb);refine Z7 ?_;clear rz hz hB hb hHeld hK K;intro rz hz hB hHeld;refine tkm [8,9] ?_;refine Yp ?_;clear hHeld;go_wp2_with fail
 obtain⟨f,hf⟩:=named (Nat.gcd x.num.natAbs y.den);obtain⟨g,hg⟩:=named (Nat.gcd y.num.natAbs x.den);have hf0:f≠0:=by rw[hf];exact Nat.ne_of_gt (Nat.gcd_pos_of_pos_right _ y.den_pos)
 have hg0:g≠0:=by rw[hg];exact Nat.ne_of_gt (Nat.gcd_pos_of_pos_right _ x.den_pos)
 have hlf:(dig f).length≤20000:=Nat.le_trans (aU (by rw[hf]; exact Nat.gcd_le_right _ y.den_pos)) byOmega;have hlg:(dig g).length≤20000:=Nat.le_trans (aU (by rw[hg]; exact Nat.gcd_le_right _ x.den_pos)) byOmega;rw[← hf] at HF;rw[← hg] at HG;have HFE:=Ag hf;have HGE:=Ag hg;clear hf hg;refine aX (fun w'=>w'.cell? ⟨w.heap.size,0,none⟩=some (.bool (au x).neg)∧w'.cell? ⟨w.heap.size,1,none⟩=some (.slice A (au x).num.length c)∧w'.cell? ⟨w.heap.size,2,none⟩=some (.slice B (au x).den.length d)∧w'.cell? ⟨w.heap.size+1,0,none⟩=some (.bool (au y).neg)∧w'.cell? ⟨w.heap.size+1,1,none⟩=some (.slice A' (au y).num.length c')∧w'.cell? ⟨w.heap.size+1,2,none⟩=some (.slice B' (au y).den.length d')) 22 1 ah rfl ah ?_;have hHeld:(fun w':World=>w'.cell? ⟨w.heap.size,0,none⟩=some (.bool (au x).neg)∧w'.cell? ⟨w.heap.size,1,none⟩=some (.slice A (au x).num.length c)∧w'.cell? ⟨w.heap.size,2,none⟩=some (.slice B (au x).den.length d)∧w'.cell? ⟨w.heap.size+1,0,none⟩=some (.bool (au y).neg)∧w'.cell? ⟨w.heap.size+1,1,none⟩=some (.slice A' (au y).num.length c')∧w'.cell? ⟨w.heap.size+1,2,none⟩=some (.slice B' (au y).den.length d')) wn.drew:=⟨x0,x1,x2,y0,y1,y2⟩;refine Zq ?_;have hb:Below wn.heap.size wn wn.drew:=aI (Below.refl _ wn) 1;refine Zu ?_;clear x0 x1 x2 y0 y1 y2 HX HY HDX HDY HNX HNY HF HG;intro x0 x1 x2 y0 y1 y2 HX HY HDX HDY HNX HNY HF HG;refine ZC ?_;clear rz hz hB hb;intro rz hz hB;generalize wn.drew=wn at *;refine tkm [0,1,2,3,4,5,6,7,9,10,11,14,15,17,18] ?_;refine tk2 8 ah rfl fun K hK=>?_
 go_simp;refine(kM _ _ _ _ (x.num.natAbs) f HNX.out HF.out hf0 byOmega byOmega).mono ?_;rintro e wn ⟨v8,rfl,hb,hu⟩;have HP1:=Ag (hu.mono (G:=(Ext (Old F w.heap.size) (w.heap.size+3))) (fun b hb _=>hb.elim id fun h=>.inr byOmega));clear hu;refine Zu ?_;clear x0 x1 x2 y0 y1 y2 HX HY HDX HDY HNX HNY HF HG;intro x0 x1 x2 y0 y1 y2 HX HY HDX HDY HNX HNY HF HG;refine Z7 ?_;clear rz hz hB hb hHeld hK K;intro rz hz hB hHeld;refine tk2 12 ah rfl fun K hK=>?_
 go_simp;refine(kM _ _ _ _ (y.num.natAbs) g HNY.out HG.out hg0 byOmega byOmega).mono ?_;rintro e wn ⟨v12,rfl,hb,hu⟩;have HP2:=Ag (hu.mono (G:=(Ext (Old F w.heap.size) (w.heap.size+3))) (fun b hb _=>hb.elim id fun h=>.inr byOmega));clear hu;refine Zu ?_;clear x0 x1 x2 y0 y1 y2 HX HY HDX HDY HNX HNY HF HG;intro x0 x1 x2 y0 y1 y2 HX HY HDX HDY HNX HNY HF HG;replace HP1:=Ag (HP1.out.below hb);refine Z7 ?_;clear rz hz hB hb hHeld hK K;intro rz hz hB hHeld;refine tk2 13 ah rfl fun K hK=>?_
 go_simp;refine(ku _ _ _ _ (x.num.natAbs / f) (y.num.natAbs / g) HP1.out HP2.out (by have:=bU x.num.natAbs f; have:=bU y.num.natAbs g; have:=bU x.den g; have:=bU y.den f; omega) (by have:=bU x.num.natAbs f; have:=bU y.num.natAbs g; have:=bU x.den g; have:=bU y.den f; omega)).mono ?_;rintro e wn ⟨v13,rfl,hb,hu⟩;have HT1:=Ag (hu.mono (G:=(Ext (Old F w.heap.size) (w.heap.size+3))) (fun b hb _=>hb.elim id fun h=>.inr byOmega));clear hu;refine Zu ?_;clear x0 x1 x2 y0 y1 y2 HX HY HDX HDY HNX HNY HF HG;intro x0 x1 x2 y0 y1 y2 HX HY HDX HDY HNX HNY HF HG;replace HP1:=Ag (HP1.out.below hb);replace HP2:=Ag (HP2.out.below hb);refine Z7 ?_;clear rz hz hB hb hHeld hK K;intro rz hz hB hHeld;refine tk2 16 ah rfl fun K hK=>?_
 go_simp;refine(kM _ _ _ _ (x.den) g HDX.out HG.out hg0 byOmega byOmega).mono ?_;rintro e wn ⟨v16,rfl,hb,hu⟩;have HP3:=Ag (hu.mono (G:=(Ext (Old F w.heap.size) (w.heap.size+3))) (fun b hb _=>hb.elim id fun h=>.inr byOmega));clear hu;refine Zu ?_;clear x0 x1 x2 y0 y1 y2 HX HY HDX HDY HNX HNY HF HG;intro x0 x1 x2 y0 y1 y2 HX HY HDX HDY HNX HNY HF HG;refine zcl ?_;clear HP1 HP2 HT1;intro HP1 HP2 HT1;refine Z7 ?_;clear rz hz hB hb hHeld hK K;intro rz hz hB hHeld;refine tk2 19 ah rfl fun K hK=>?_
 go_simp;refine(kM _ _ _ _ (y.den) f HDY.out HF.out hf0 byOmega byOmega).mono ?_;rintro e wn ⟨v19,rfl,hb,hu⟩;have HP4:=Ag (hu.mono (G:=(Ext (Old F w.heap.size) (w.heap.size+3))) (fun b hb _=>hb.elim id fun h=>.inr byOmega));clear hu;refine Zu ?_;clear x0 x1 x2 y0 y1 y2 HX HY HDX HDY HNX HNY HF HG;intro x0 x1 x2 y0 y1 y2 HX HY HDX HDY HNX HNY HF HG;refine zcl ?_;clear HP1 HP2 HT1;intro HP1 HP2 HT1;replace HP3:=Ag (HP3.out.below hb);refine Z7 ?_;clear rz hz hB hb hHeld hK K;intro rz hz hB hHeld;refine tk2 20 ah rfl fun K hK=>?_
 go_simp;refine(ku _ _ _ _ (x.den / g) (y.den / f) HP3.out HP4.out (by have:=bU x.num.natAbs f; have:=bU y.num.natAbs g; have:=bU x.den g; have:=bU y.den f; omega) (by have:=bU x.num.natAbs f; have:=bU y.num.natAbs g; have:=bU x.den g; have:=bU y.den f; omega)).mono ?_;rintro e wn ⟨v20,rfl,hb,hu⟩;have HT2:=Ag (hu.mono (G:=(Ext (Old F w.heap.size) (w.heap.size+3))) (fun b hb _=>hb.elim id fun h=>.inr byOmega));clear hu;refine Zu ?_;clear x0 x1 x2 y0 y1 y2 HX HY HDX HDY HNX HNY HF HG;intro x0 x1 x2 y0 y1 y2 HX HY HDX HDY HNX HNY HF HG;refine zcl ?_;clear HP1 HP2 HT1;intro HP1 HP2 HT1;replace HP3:=Ag (HP3.out.below hb);replace HP4:=Ag (HP4.out.below hb);refine Z7 ?_;clear rz hz hB hb hHeld hK K;intro rz hz hB hHeld;have hmp:=agM x y;rw[← HFE.out,← HGE.out] at hmp;rw[← hmp.1] at HT1;rw[← hmp.2.1] at HT2;have hneg:dF (x*y)=(dF x != dF y):=hmp.2.2 hx0 hy0;have HNG:=Ag hneg;clear hmp hneg;have lm:=qj x y;have lmd:=gK (x*y);refine tk2 21 ah rfl fun K hK=>?_
 go_simp;refine(ou _ _ _ _ _ (x*y).num.natAbs (x*y).den (dig (x*y).den) HT1.out HT2.out (.inl rfl) (x*y).den_nz (iH _) byOmega).mono ?_;rintro e wn ⟨vm,rfl,hb,hu⟩;have hu2:NmV wn (Ext (Old F w.heap.size) (w.heap.size+3)) vm (x*y):=by rw[show(!(au x).neg==(au y).neg)=dF (x*y) from HNG.out.symm,rO] at hu;exact hu
 have HM:=Ag hu2;obtain⟨Am,cm,Bm,dm,rfl,hn,hd⟩:=hu2.open;clear hn hd hu hu2;refine Zu ?_;clear x0 x1 x2 y0 y1 y2 HX HY HDX HDY HNX HNY HF HG;intro x0 x1 x2 y0 y1 y2 HX HY HDX HDY HNX HNY HF HG;refine zcl ?_;clear HP1 HP2 HT1;intro HP1 HP2 HT1;replace HP3:=Ag (HP3.out.below hb);replace HP4:=Ag (HP4.out.below hb);replace HT2:=Ag (HT2.out.below hb);refine Z7 ?_;clear rz hz hB hb hHeld hK K;intro rz hz hB hHeld;refine Zw ?_;clear hHeld;clear x0 x1 x2 y0 y1 y2;refine Zn ?_;intro q0 y0 q1 y1 q2 y2;go_wp2
 refine Yb ?_;go_wp2
 obtain⟨Wz,hWz,hrz,hwz,hkz⟩:=bW rz (.bool (au (x*y)).neg) (.slice Am (au (x*y)).num.length cm) (.slice Bm (au (x*y)).den.length dm);refine Zj ?_;clear hWz q0 q1 q2 y0 y1 y2;intro t0 t1 t2;refine bodyPost_ret (v:=.agg #[.bool (au (x*y)).neg,.slice Am (au (x*y)).num.length cm,.slice Bm (au (x*y)).den.length dm]) (by simp[results,Tryz.results109,go_sem,t0,t1,t2]) rfl ?_;exact ZF
theorem wK (w:World) (F:Foot) (va vb:Value) (x y:Rat) (ha:NmV w F va x) (hb:NmV w F vb y) (hlx:rl x≤20000) (hly:rl y≤20000) :
  Calls Tryz.prog 109 #[va,vb] w (Ret w fun v w'=>NmV w' (Ext F w.heap.size) v (x*y)):=by
 by_cases hx0:x=0
 ·skip
  refine zb8 ?_;intro HX HY;obtain⟨A,c,B,d,rfl,hn,hd⟩:=ha.open;obtain⟨A',c',B',d',rfl,hn',hd'⟩:=hb.open;clear hn hd hn' hd' ha hb hlx hly;have dx:decide (x=0)=true:=decide_eq_true hx0;have HZ:=Ag (show x*y=0 by rw[hx0,Rat.zero_mul]);clear hx0;go_in;go_wp2_with fail
  refine Ze ?_;clear HX HY;intro W rx ry rz hB hz HX HY;refine Zi ?_;intro x0 x1 x2;refine zay ?_;intro y0 y1 y2;clear rx ry hz;refine zbR ?_;rintro e wn ⟨_,rfl,hb,rfl⟩;rw[dx];refine Za ?_;clear x0 x1 x2 y0 y1 y2 HX HY;intro x0 x1 x2 y0 y1 y2 HX HY;replace rz:=rz.below hb rz.lt;refine zcy ?_;clear hB hb;intro hB;have hz:=rz.lt;refine Zn ?_;intro q0 y0 q1 y1 q2 y2;go_wp2
  obtain⟨Wz,hWz,hrz,hwz,hkz⟩:=bW rz (.bool false) (.slice none 0 0) (.slice none 0 0);refine Zj ?_;clear hWz q0 q1 q2 y0 y1 y2;intro t0 t1 t2;refine bodyPost_ret (v:=.agg #[.bool false,.slice none 0 0,.slice none 0 0]) (by simp[results,Tryz.results109,go_sem,t0,t1,t2]) rfl ?_;exact za5
 by_cases hy0:y=0
 ·skip
  refine zb8 ?_;intro HX HY;obtain⟨A,c,B,d,rfl,hn,hd⟩:=ha.open;obtain⟨A',c',B',d',rfl,hn',hd'⟩:=hb.open;clear hn hd hn' hd' ha hb hlx hly;have dx:decide (x=0)=false:=decide_eq_false hx0;have dy:decide (y=0)=true:=decide_eq_true hy0;have HZ:=Ag (show x*y=0 by rw[hy0,Rat.mul_zero]);clear hx0 hy0;go_in;go_wp2_with fail
  refine Ze ?_;clear HX HY;intro W rx ry rz hB hz HX HY;refine Zi ?_;intro x0 x1 x2;refine zay ?_;intro y0 y1 y2;clear rx ry hz;refine zbR ?_;rintro e wn ⟨_,rfl,hb,rfl⟩;rw[dx];refine Za ?_;clear x0 x1 x2 y0 y1 y2 HX HY;intro x0 x1 x2 y0 y1 y2 HX HY;replace rz:=rz.below hb rz.lt;refine zcy ?_;clear hB hb;intro hB;go_wp2_with fail
  refine(ig _ _ _ y HY.out).mono ?_;rintro e wn ⟨_,rfl,hb,rfl⟩;rw[dy];refine Za ?_;clear x0 x1 x2 y0 y1 y2 HX HY;intro x0 x1 x2 y0 y1 y2 HX HY;replace rz:=rz.below hb rz.lt;refine zcy ?_;clear hB hb;intro hB;have hz:=rz.lt;refine Zn ?_;intro q0 y0 q1 y1 q2 y2;go_wp2
  obtain⟨Wz,hWz,hrz,hwz,hkz⟩:=bW rz (.bool false) (.slice none 0 0) (.slice none 0 0);refine Zj ?_;clear hWz q0 q1 q2 y0 y1 y2;intro t0 t1 t2;refine bodyPost_ret (v:=.agg #[.bool false,.slice none 0 0,.slice none 0 0]) (by simp[results,Tryz.results109,go_sem,t0,t1,t2]) rfl ?_;exact za5
 exact aha w F va vb x y ha hb hlx hly hx0 hy0
theorem adX (w:World) (F:Foot) (va vb:Value) (x y:Rat) (ha:NmV w F va x) (hb:NmV w F vb y) (hlx:rl x≤20000) (hly:rl y≤20000) (hy0:y≠0) :
  Calls Tryz.prog 124 #[va,vb] w (Ret w fun v w'=>NmV w' (Ext F w.heap.size) v (x / y)):=by
 have hiv:=xI hy0;have ly:=gJ y;have ly2:=gK y;have lyi:=ae0 hy0;have hn0:y.num.natAbs≠0:=fun h=>hy0 ((nM y).1 h)
 have afq:Nat.gcd y.den y.num.natAbs=1:=by rw[Nat.gcd_comm];exact iH y
 have HIV:=Ag (show mkRat (sgI (au y).neg y.den) y.num.natAbs=y⁻¹ by rw[← hiv.1,← hiv.2.1,qR,← hiv.2.2,rO]);have HXY:=Ag (show x*y⁻¹=x / y from(Rat.div_def x y).symm);clear hiv hy0;refine zb8 ?_;intro HX HY;obtain⟨A,c,B,d,rfl,hn,hd⟩:=ha.open;obtain⟨A',c',B',d',rfl,hn',hd'⟩:=hb.open;clear hn hd hn' hd' ha hb;go_in;go_wp2_with fail
 refine Ze ?_;clear HX HY;intro W rx ry rz hB hz HX HY;refine Zx ?_;intro hz x0 x1 x2 y0 y1 y2;clear rx ry;obtain⟨_,_,hh,hn,hd⟩:=HY.out;refine Yq ?_;intro HNY;cases hh;clear hn hd;refine aX (fun w'=>w'.cell? ⟨w.heap.size,0,none⟩=some (.bool (au x).neg)∧w'.cell? ⟨w.heap.size,1,none⟩=some (.slice A (au x).num.length c)∧w'.cell? ⟨w.heap.size,2,none⟩=some (.slice B (au x).den.length d)∧w'.cell? ⟨w.heap.size+1,0,none⟩=some (.bool (au y).neg)∧w'.cell? ⟨w.heap.size+1,1,none⟩=some (.slice A' (au y).num.length c')∧w'.cell? ⟨w.heap.size+1,2,none⟩=some (.slice B' (au y).den.length d')) 9 1 ah rfl ah ?_;refine ZP ?_;intro hHeld hb;clear x0 x1 x2 y0 y1 y2 HX HY;intro x0 x1 x2 y0 y1 y2 HX HY;replace HNY:=Ag (HNY.out.below hb);refine ZC ?_;clear rz hz hB hb;intro rz hz hB;generalize W.drew=wn at *;refine tkm [0,1,2,3,5,6] ?_;refine tk2 4 ah rfl fun K hK=>?_
 go_simp;refine(kE _ _ _ y HY.out).mono ?_;rintro e wn ⟨vdy,rfl,hb,hu⟩;refine zaJ ?_;intro HDY;clear hu;refine Za ?_;clear x0 x1 x2 y0 y1 y2 HX HY;intro x0 x1 x2 y0 y1 y2 HX HY;replace HNY:=Ag (HNY.out.below hb);refine Z7 ?_;clear rz hz hB hb hHeld hK K;intro rz hz hB hHeld;refine tk2 7 ah rfl fun K hK=>?_
 go_simp;refine(ou _ _ _ _ _ y.den y.num.natAbs (dig y.num.natAbs) HDY.out HNY.out (.inl rfl) hn0 afq byOmega).mono ?_;rintro e wn ⟨vi,rfl,hb,hu⟩;rw[HIV.out] at hu;have HI:=Ag hu;clear hu;refine Za ?_;clear x0 x1 x2 y0 y1 y2 HX HY;intro x0 x1 x2 y0 y1 y2 HX HY;replace HNY:=Ag (HNY.out.below hb);replace HDY:=Ag (HDY.out.below hb);refine Z7 ?_;clear rz hz hB hb hHeld hK K;intro rz hz hB hHeld;refine tk2 8 ah rfl fun K hK=>?_
 go_simp;refine(wK _ (Ext (Old F w.heap.size) (w.heap.size+3)) _ _ x y⁻¹ (Ak.mono HX.out (fun b hb _=>.inl hb)) HI.out hlx byOmega).mono ?_;rintro e wn ⟨vm,rfl,hb,hu⟩;rw[HXY.out] at hu;have hu2:NmV wn (Ext (Old F w.heap.size) (w.heap.size+3)) vm (x / y):=hu.mono (fun b hb _=>hb.elim id fun h=>.inr byOmega);have HM:=Ag hu2;obtain⟨Am,cm,Bm,dm,rfl,hn,hd⟩:=hu2.open;clear hn hd hu hu2;refine Za ?_;clear x0 x1 x2 y0 y1 y2 HX HY;intro x0 x1 x2 y0 y1 y2 HX HY;replace HNY:=Ag (HNY.out.below hb);replace HDY:=Ag (HDY.out.below hb);replace HI:=Ag (HI.out.below hb);refine Z7 ?_;clear rz hz hB hb hHeld hK K;intro rz hz hB hHeld;refine Zw ?_;clear hHeld;clear x0 x1 x2 y0 y1 y2;refine Zn ?_;intro q0 y0 q1 y1 q2 y2;go_wp2
 refine Yb ?_;go_wp2
 obtain⟨Wz,hWz,hrz,hwz,hkz⟩:=bW rz (.bool (au (x / y)).neg) (.slice Am (au (x / y)).num.length cm) (.slice Bm (au (x / y)).den.length dm);refine Zj ?_;clear hWz q0 q1 q2 y0 y1 y2;intro t0 t1 t2;refine bodyPost_ret (v:=.agg #[.bool (au (x / y)).neg,.slice Am (au (x / y)).num.length cm,.slice Bm (au (x / y)).den.length dm]) (by simp[results,Tryz.results124,go_sem,t0,t1,t2]) rfl ?_;exact ZF
theorem acH (w:World) (F:Foot) (va vb:Value) (a b:Nat) (ha:Ah w F va a) (hb:Ah w F vb b) (hla:(dig a).length≤1000000) (hlb:(dig b).length≤1000000) :
  Calls Tryz.prog 120 #[va,vb] w (Ret w fun v _=>v = .int .i64 (bZ a b)):=by
 refine(jd w F va vb a b ha hb hla hlb).mono ?_;rintro e w' ⟨rfl,z0,rfl⟩;exact⟨_,rfl,aI (Below.refl _ w) _,rfl⟩
theorem aaz (x:Rat):lU x = -1∨lU x=0∨lU x=1:=by unfold lU; split <;> (try split) <;> omega
theorem afr (a b:Nat):-1≤bZ a b∧bZ a b≤1:=by unfold bZ; split <;> (try split) <;> omega
theorem wL (w:World) (F:Foot) (va vb:Value) (x y:Rat) (ha:NmV w F va x) (hb:NmV w F vb y) (hlx:rl x≤20000) (hly:rl y≤20000) :
  Calls Tryz.prog 70 #[va,vb] w (Ret w fun v _=>v = .int .i64 (mQ x y)):=by
 have lx:=gJ x;have lx2:=gK x;have ly:=gJ y;have ly2:=gK y;have hm1:(dig (x.num.natAbs*y.den)).length≤40000:=Nat.le_trans (fC _ _) byOmega;have hm2:(dig (y.num.natAbs*x.den)).length≤40000:=Nat.le_trans (fC _ _) byOmega;obtain⟨s,hs⟩:=named (lU x);obtain⟨t,ht⟩:=named (lU y);have hsc:=aaz x;rw[← hs] at hsc;have htc:=aaz y;rw[← ht] at htc;have h1:=Ag (fun h:s < t=>(ady (x:=x) (y:=y) (by rw[← hs,← ht]; exact h)).1);have h2:=Ag (fun h:t < s=>(ady (x:=y) (y:=x) (by rw[← hs,← ht]; exact h)).2);have h3:=Ag (fun (h:s=t) (h0:s=0)=>ah6 (x:=x) (y:=y) (by rw[← hs,← ht]; exact h) (by rw[← hs]; exact h0));have h4:=Ag (fun (h:s=t) (h0:s≠0)=>ah7 (x:=x) (y:=y) (by rw[← hs,← ht]; exact h) (by rw[← hs]; exact h0));have HS:=Ag hs;have HT:=Ag ht;clear hs ht;refine zb8 ?_;intro HX HY;obtain⟨A,c,B,d,rfl,hn,hd⟩:=ha.open;obtain⟨A',c',B',d',rfl,hn',hd'⟩:=hb.open;clear hn hd hn' hd' ha hb;go_in;go_wp2_with fail
 obtain⟨W,hW,rx,ry,hB,hz⟩:=alloc2 w 114 #[.bool (au x).neg,.slice A (au x).num.length c,.slice B (au x).den.length d] 114 #[.bool (au y).neg,.slice A' (au y).num.length c',.slice B' (au y).den.length d'];rw[← hW];clear hW;replace HX:=Ag (HX.out.on (Below.same' hB _));replace HY:=Ag (HY.out.on (Below.same' hB _));refine zb6 ?_;intro hz;intro x0 x1 x2;refine zay ?_;intro y0 y1 y2;clear rx ry;refine Zg ?_;intro hHeld;refine zao ?_;intro hb;refine Za ?_;clear x0 x1 x2 y0 y1 y2 HX HY;intro x0 x1 x2 y0 y1 y2 HX HY;refine Zc ?_;clear hz hB hb;intro hz hB;generalize W.drew=wn at *;refine tkm [0,2] ?_;refine tk2 1 ah rfl fun K hK=>?_
 go_simp;refine(abL _ _ _ x HX.out).mono ?_;rintro e wn ⟨_,rfl,hb,rfl⟩;rw[← HS.out];refine Za ?_;clear x0 x1 x2 y0 y1 y2 HX HY;intro x0 x1 x2 y0 y1 y2 HX HY;refine Zf ?_;clear hz hB hb hHeld hK K;intro hz hB hHeld;refine tk2 3 ah rfl fun K hK=>?_
 go_simp;refine(abL _ _ _ y HY.out).mono ?_;rintro e wn ⟨_,rfl,hb,rfl⟩;rw[← HT.out];refine Za ?_;clear x0 x1 x2 y0 y1 y2 HX HY;intro x0 x1 x2 y0 y1 y2 HX HY;refine Zf ?_;clear hz hB hb hHeld hK K;intro hz hB hHeld;refine tkm [4,5] ?_;refine Yp ?_;clear hHeld;by_cases hlt:s < t
 ·have hd:=decide_eq_true hlt;have HR:=Ag (h1.out hlt);exact zch
 have hd:=decide_eq_false hlt;by_cases hgt:t < s
 ·have hd2:=decide_eq_true hgt;have HR:=Ag (h2.out hgt);exact zch
 have hd2:=decide_eq_false hgt;have hst:s=t:=byOmega;by_cases h0:s=0
 ·have HR:=Ag (h3.out hst h0);have he:(s==0)=true:=by rw[h0];rfl
  clear h0 hst;exact zch
 have he:(s==0)=false:=beq_false_of_ne h0;have HR:=Ag (h4.out hst h0);have hs1:s=1∨s = -1:=byOmega;clear hst hlt hgt hsc htc h0 h1 h2 h3 h4;obtain⟨_,_,hh,hn,hd⟩:=HX.out;have HNX:=Ag (Ah.mono (n:=x.num.natAbs) (G:=(Ext (Old F w.heap.size) (w.heap.size+2))) hn (fun b hb _=>.inl hb));cases hh;clear hn hd;obtain⟨_,_,hh,hn,hd⟩:=HY.out;have HNY:=Ag (Ah.mono (n:=y.num.natAbs) (G:=(Ext (Old F w.heap.size) (w.heap.size+2))) hn (fun b hb _=>.inl hb));cases hh;clear hn hd;go_wp2_with fail
 refine zam ?_;intro hHeld hb;refine ZB ?_;clear x0 x1 x2 y0 y1 y2 HX HY HNX HNY;intro x0 x1 x2 y0 y1 y2 HX HY HNX HNY;refine Zc ?_;clear hz hB hb;intro hz hB;generalize wn.drew=wn at *;refine tkm [0,1,2,3,6,7,8] ?_;refine tk2 4 ah rfl fun K hK=>?_
 go_simp;refine(kE _ _ _ y HY.out).mono ?_;rintro e wn ⟨vdy,rfl,hb,hu⟩;have HDY:=Ag (hu.mono (G:=(Ext (Old F w.heap.size) (w.heap.size+2))) (fun b hb _=>hb.elim .inl fun h=>.inr byOmega));clear hu;refine ZB ?_;clear x0 x1 x2 y0 y1 y2 HX HY HNX HNY;intro x0 x1 x2 y0 y1 y2 HX HY HNX HNY;refine Zf ?_;clear hz hB hb hHeld hK K;intro hz hB hHeld;refine tk2 5 ah rfl fun K hK=>?_
 go_simp;refine(ku _ _ _ _ x.num.natAbs y.den HNX.out HDY.out byOmega byOmega).mono ?_;rintro e wn ⟨vt1,rfl,hb,hu⟩;have HT1:=Ag (hu.mono (G:=(Ext (Old F w.heap.size) (w.heap.size+2))) (fun b hb _=>hb.elim id fun h=>.inr byOmega));clear hu;refine ZB ?_;clear x0 x1 x2 y0 y1 y2 HX HY HNX HNY;intro x0 x1 x2 y0 y1 y2 HX HY HNX HNY;replace HDY:=Ag (HDY.out.below hb);refine Zf ?_;clear hz hB hb hHeld hK K;intro hz hB hHeld;refine tk2 9 ah rfl fun K hK=>?_
 go_simp;refine(kE _ _ _ x HX.out).mono ?_;rintro e wn ⟨vdx,rfl,hb,hu⟩;have HDX:=Ag (hu.mono (G:=(Ext (Old F w.heap.size) (w.heap.size+2))) (fun b hb _=>hb.elim .inl fun h=>.inr byOmega));clear hu;refine ZB ?_;clear x0 x1 x2 y0 y1 y2 HX HY HNX HNY;intro x0 x1 x2 y0 y1 y2 HX HY HNX HNY;replace HDY:=Ag (HDY.out.below hb);replace HT1:=Ag (HT1.out.below hb);refine Zf ?_;clear hz hB hb hHeld hK K;intro hz hB hHeld;refine tk2 10 ah rfl fun K hK=>?_
 go_simp;refine(ku _ _ _ _ y.num.natAbs x.den HNY.out HDX.out byOmega byOmega).mono ?_;rintro e wn ⟨vt2,rfl,hb,hu⟩;have HT2:=Ag (hu.mono (G:=(Ext (Old F w.heap.size) (w.heap.size+2))) (fun b hb _=>hb.elim id fun h=>.inr byOmega));clear hu;refine ZB ?_;clear x0 x1 x2 y0 y1 y2 HX HY HNX HNY;intro x0 x1 x2 y0 y1 y2 HX HY HNX HNY;replace HDY:=Ag (HDY.out.below hb);replace HT1:=Ag (HT1.out.below hb);replace HDX:=Ag (HDX.out.below hb);refine Zf ?_;clear hz hB hb hHeld hK K;intro hz hB hHeld;refine tk2 11 ah rfl fun K hK=>?_
 go_simp;refine(acH _ _ _ _ (x.num.natAbs*y.den) (y.num.natAbs*x.den) HT1.out HT2.out byOmega byOmega).mono ?_;rintro e wn ⟨_,rfl,hb,rfl⟩;obtain⟨ho1,ho2⟩:=afr (x.num.natAbs*y.den) (y.num.natAbs*x.den);generalize bZ (x.num.natAbs*y.den) (y.num.natAbs*x.den)=od at *;refine ZB ?_;clear x0 x1 x2 y0 y1 y2 HX HY HNX HNY;intro x0 x1 x2 y0 y1 y2 HX HY HNX HNY;replace HDY:=Ag (HDY.out.below hb);replace HT1:=Ag (HT1.out.below hb);replace HDX:=Ag (HDX.out.below hb);replace HT2:=Ag (HT2.out.below hb);refine Zf ?_;clear hz hB hb hHeld hK K;intro hz hB hHeld
 rcases hs1 with rfl | rfl
 all_goals
  refine tkm [12,13] ?_;refine Yp ?_;clear hHeld;go_wp2
  go_ret;exact⟨_,rfl,hB,by rw[HR.out,← HS.out]; simp; exact IntWalk.i64_in _ byOmega⟩
theorem ahb (w:World) (a b:Int) (ha1:-1000000000000≤a) (ha2:a≤1000000000000) (hb1:-1000000000000≤b) (hb2:b≤1000000000000) (hb0:b≠0) :
  Calls Tryz.prog 142 #[.int .i64 a,.int .i64 b] w (Ret w fun v w'=>NmV w' (fun b=>w.heap.size≤b) v ((a:Rat) / (b:Rat))):=by
 have hla:rl (a:Rat)≤20000:=by
  rw[zZ];have:(dig a.natAbs).length≤2:=aS (by unfold LB; omega);omega
 have hlb:rl (b:Rat)≤20000:=by
  rw[zZ];have:(dig b.natAbs).length≤2:=aS (by unfold LB; omega);omega
 have ahc:(b:Rat)≠0:=by intro h;exact hb0 (Rat.intCast_eq_zero_iff.1 h)
 go_in;go_wp2_with fail
 obtain⟨W,hW,hr,hB,hWz⟩:=aO w 114 #[.bool false,.slice none 0 0,.slice none 0 0];rw[← hW];clear hW;have hz:w.heap.size+1≤W.heap.size:=hr.lt;refine(mZ W a ha1 ha2).mono ?_;rintro e wn ⟨va,rfl,hb,hu⟩;have HA:=Ag (hu.mono (G:=(fun b=>w.heap.size+1≤b)) (fun b hb _=>by omega));clear hu;refine Yy ?_;clear hr hz hB hb;intro hr hz hB;go_wp2_with fail
 refine(mZ _ b hb1 hb2).mono ?_;rintro e wn ⟨vb,rfl,hb,hu⟩;have HB:=Ag (hu.mono (G:=(fun b=>w.heap.size+1≤b)) (fun b hb _=>by omega));clear hu;replace HA:=Ag (HA.out.below hb);refine Yy ?_;clear hr hz hB hb;intro hr hz hB;go_wp2_with fail
 refine(adX _ (fun b=>w.heap.size+1≤b) _ _ (a:Rat) (b:Rat) HA.out HB.out hla hlb ahc).mono ?_;rintro e wn ⟨vm,rfl,hb,hu⟩;have hu2:NmV wn (fun b=>w.heap.size+1≤b) vm ((a:Rat) / (b:Rat)):=hu.mono (fun b hb _=>hb.elim id fun h=>by omega);have HM:=Ag hu2;obtain⟨Am,cm,Bm,dm,rfl,hn,hd⟩:=hu2.open;clear hn hd hu hu2;replace HA:=Ag (HA.out.below hb);replace HB:=Ag (HB.out.below hb);refine Yy ?_;clear hr hz hB hb;intro hr hz hB;refine Zp ?_;intro q0 y0 q1 y1 q2 y2;go_wp2
 obtain⟨Wz,hWz,hrz,hwz,hkz⟩:=bW hr (.bool (au ((a:Rat) / (b:Rat))).neg) (.slice Am (au ((a:Rat) / (b:Rat))).num.length cm) (.slice Bm (au ((a:Rat) / (b:Rat))).den.length dm);refine Zj ?_;clear hWz q0 q1 q2 y0 y1 y2;intro t0 t1 t2;refine bodyPost_ret (v:=.agg #[.bool (au ((a:Rat) / (b:Rat))).neg,.slice Am (au ((a:Rat) / (b:Rat))).num.length cm,.slice Bm (au ((a:Rat) / (b:Rat))).den.length dm]) (by simp[results,Tryz.results142,go_sem,t0,t1,t2]) rfl ?_;exact zb5
theorem ajR (x y:Rat) (l r:Nat):sgI (dF x) (x.num.natAbs*r)+sgI (dF y) (y.num.natAbs*l)=x.num*r+y.num*l:=by
 rw[pF,pF,mG,mG]
theorem akJ (w:World) (F:Foot) (va vb:Value) (x y:Rat) (ha:NmV w F va x) (hb:NmV w F vb y) (hlx:rl x≤20000) (hly:rl y≤20000) (hx0:x=0) :
  Calls Tryz.prog 108 #[va,vb] w (Ret w fun v w'=>NmV w' (Ext F w.heap.size) v (x+y)):=by
 have dx:decide (x=0)=true:=decide_eq_true hx0;have HZ:=Ag (show x+y=y by rw[hx0,Rat.zero_add]);clear hx0;refine zb8 ?_;intro HX HY;obtain⟨A,c,B,d,rfl,hn,hd⟩:=ha.open;obtain⟨A',c',B',d',rfl,hn',hd'⟩:=hb.open;clear hn hd hn' hd' ha hb;go_in;go_wp2_with fail
 refine Ze ?_;clear HX HY;intro W rx ry rz hB hz HX HY;refine Zx ?_;intro hz x0 x1 x2 y0 y1 y2;clear rx ry;refine zbR ?_;rintro e wn ⟨_,rfl,hb,rfl⟩;rw[dx];refine Za ?_;clear x0 x1 x2 y0 y1 y2 HX HY;intro x0 x1 x2 y0 y1 y2 HX HY;refine zaG ?_;clear rz hz hB hb;intro rz hz hB;refine Zn ?_;intro q0 y0 q1 y1 q2 y2;go_wp2
 obtain⟨Wz,hWz,hrz,hwz,hkz⟩:=bW rz (.bool (au y).neg) (.slice A' (au y).num.length c') (.slice B' (au y).den.length d');refine Zj ?_;clear hWz q0 q1 q2 y0 y1 y2;intro t0 t1 t2;refine bodyPost_ret (v:=.agg #[.bool (au y).neg,.slice A' (au y).num.length c',.slice B' (au y).den.length d']) (by simp[results,Tryz.results108,go_sem,t0,t1,t2]) rfl ?_;exact⟨_,rfl,hwz _ _ byOmega hB,by rw[HZ.out]; exact(HY.out.on (hkz _ (fun h=>by have:=h.2; omega))).mono (fun b hb _=>.inl hb.1)⟩
theorem akK (w:World) (F:Foot) (va vb:Value) (x y:Rat) (ha:NmV w F va x) (hb:NmV w F vb y) (hlx:rl x≤20000) (hly:rl y≤20000) (hx0:x≠0) (hy0:y=0) :
  Calls Tryz.prog 108 #[va,vb] w (Ret w fun v w'=>NmV w' (Ext F w.heap.size) v (x+y)):=by
 have dx:decide (x=0)=false:=decide_eq_false hx0;have dy:decide (y=0)=true:=decide_eq_true hy0;have HZ:=Ag (show x+y=x by rw[hy0,Rat.add_zero]);clear hx0 hy0;refine zb8 ?_;intro HX HY;obtain⟨A,c,B,d,rfl,hn,hd⟩:=ha.open;obtain⟨A',c',B',d',rfl,hn',hd'⟩:=hb.open;clear hn hd hn' hd' ha hb;go_in;go_wp2_with fail
 refine Ze ?_;clear HX HY;intro W rx ry rz hB hz HX HY;refine Zx ?_;intro hz x0 x1 x2 y0 y1 y2;clear rx ry;refine zbR ?_;rintro e wn ⟨_,rfl,hb,rfl⟩;rw[dx];refine Za ?_;clear x0 x1 x2 y0 y1 y2 HX HY;intro x0 x1 x2 y0 y1 y2 HX HY;refine zaG ?_;clear rz hz hB hb;intro rz hz hB;go_wp2_with fail
 refine(ig _ _ _ y HY.out).mono ?_;rintro e wn ⟨_,rfl,hb,rfl⟩;rw[dy];refine Za ?_;clear x0 x1 x2 y0 y1 y2 HX HY;intro x0 x1 x2 y0 y1 y2 HX HY;refine zaG ?_;clear rz hz hB hb;intro rz hz hB;refine Zn ?_;intro q0 y0 q1 y1 q2 y2;go_wp2
 obtain⟨Wz,hWz,hrz,hwz,hkz⟩:=bW rz (.bool (au x).neg) (.slice A (au x).num.length c) (.slice B (au x).den.length d);refine Zj ?_;clear hWz q0 q1 q2 y0 y1 y2;intro t0 t1 t2;refine bodyPost_ret (v:=.agg #[.bool (au x).neg,.slice A (au x).num.length c,.slice B (au x).den.length d]) (by simp[results,Tryz.results108,go_sem,t0,t1,t2]) rfl ?_;exact⟨_,rfl,hwz _ _ byOmega hB,by rw[HZ.out]; exact(HX.out.on (hkz _ (fun h=>by have:=h.2; omega))).mono (fun b hb _=>.inl hb.1)⟩
theorem afs (w:World) (F:Foot) (va vb:Value) (x y:Rat) (ha:NmV w F va x) (hb:NmV w F vb y) (hlx:rl x≤20000) (hly:rl y≤20000) (hx0:x≠0) (hy0:y≠0) (hxd:x.den=1) (hyd:y.den=1) :
  Calls Tryz.prog 108 #[va,vb] w (Ret w fun v w'=>NmV w' (Ext F w.heap.size) v (x+y)):=by
 refine zbC ?_;intro dx dy lx;have ly:=gJ y;have hlx1:(((au x).den.length:Int)==0)=true:=by rw[mY hxd];rfl
 have hly1:(((au y).den.length:Int)==0)=true:=by rw[mY hyd];rfl
 have HS:=Ag (agN hxd hyd);have HXN:=Ag (mG x);have HYN:=Ag (mG y);clear hx0 hy0 hxd hyd;refine zb8 ?_;intro HX HY;obtain⟨A,c,B,d,rfl,hn,hd⟩:=ha.open;obtain⟨A',c',B',d',rfl,hn',hd'⟩:=hb.open;clear hn hd hn' hd' ha hb;go_in;go_wp2_with fail
 refine Ze ?_;clear HX HY;intro W rx ry rz hB hz HX HY;refine Zx ?_;intro hz x0 x1 x2 y0 y1 y2;clear rx ry;refine zbR ?_;rintro e wn ⟨_,rfl,hb,rfl⟩;rw[dx];refine Za ?_;clear x0 x1 x2 y0 y1 y2 HX HY;intro x0 x1 x2 y0 y1 y2 HX HY;refine zaG ?_;clear rz hz hB hb;intro rz hz hB;go_wp2_with fail
 refine(ig _ _ _ y HY.out).mono ?_;rintro e wn ⟨_,rfl,hb,rfl⟩;rw[dy];refine Za ?_;clear x0 x1 x2 y0 y1 y2 HX HY;intro x0 x1 x2 y0 y1 y2 HX HY;refine zaG ?_;clear rz hz hB hb;intro rz hz hB;go_wp2_with fail
 obtain⟨_,_,hh,hn,hd⟩:=HX.out;refine YT ?_;intro HNX;cases hh;clear hn hd;obtain⟨_,_,hh,hn,hd⟩:=HY.out;refine Yq ?_;intro HNY;cases hh;clear hn hd;refine(yR _ _ (dF x) (dF y) _ _ x.num.natAbs y.num.natAbs HNX.out HNY.out byOmega byOmega).mono ?_;rintro e wn ⟨_,rfl,hb,neg,t,rfl,hu,hs⟩;rw[HXN.out,HYN.out,← HS.out.2] at hu hs;have HT:=Ag (hu.mono (G:=(Ext (Old F w.heap.size) (w.heap.size+3))) (fun b hb _=>.inr byOmega));clear hu;have HSG:=Ag (show mkRat (sgI neg (x+y).num.natAbs) 1=x+y by rw[← hs,← HS.out.1,Rat.mkRat_self]);clear hs;refine ZB ?_;clear x0 x1 x2 y0 y1 y2 HX HY HNX HNY;intro x0 x1 x2 y0 y1 y2 HX HY HNX HNY;refine zaG ?_;clear rz hz hB hb;intro rz hz hB;go_wp2_with fail
 refine(ou _ _ _ _ _ (x+y).num.natAbs 1 [] HT.out (iF _ _ _ _) (.inr ⟨rfl,rfl⟩) ay (Nat.gcd_one_right _) aB).mono ?_;rintro e wn ⟨vm,rfl,hb,hu⟩;rw[HSG.out] at hu;have HM:=Ag hu;obtain⟨Am,cm,Bm,dm,rfl,hn,hd⟩:=hu.open;clear hn hd hu;refine ZB ?_;clear x0 x1 x2 y0 y1 y2 HX HY HNX HNY;intro x0 x1 x2 y0 y1 y2 HX HY HNX HNY;replace HT:=Ag (HT.out.below hb);refine zaG ?_;clear rz hz hB hb;intro rz hz hB;clear x0 x1 x2 y0 y1 y2;refine Zn ?_;intro q0 y0 q1 y1 q2 y2;go_wp2
 obtain⟨Wz,hWz,hrz,hwz,hkz⟩:=bW rz (.bool (au (x+y)).neg) (.slice Am (au (x+y)).num.length cm) (.slice Bm (au (x+y)).den.length dm);refine Zj ?_;clear hWz q0 q1 q2 y0 y1 y2;intro t0 t1 t2;refine bodyPost_ret (v:=.agg #[.bool (au (x+y)).neg,.slice Am (au (x+y)).num.length cm,.slice Bm (au (x+y)).den.length dm]) (by simp[results,Tryz.results108,go_sem,t0,t1,t2]) rfl ?_;exact ZF
theorem abO (w:World) (F:Foot) (va vb:Value) (x y:Rat) (ha:NmV w F va x) (hb:NmV w F vb y) (hlx:rl x≤20000) (hly:rl y≤20000) (hx0:x≠0) (hy0:y≠0) (hw:x.den≠1∨(x.den=1∧y.den≠1)) :
  Calls Tryz.prog 108 #[va,vb] w (Ret w fun v w'=>NmV w' (Ext F w.heap.size) v (x+y)):=by
 refine zbC ?_;intro dx dy lx;have ly:=gJ y;have lx2:=gK x;have ly2:=gK y;obtain⟨g,hg⟩:=named (Nat.gcd x.den y.den);obtain⟨l,hl⟩:=named (x.den / g);obtain⟨r,hr⟩:=named (y.den / g);obtain⟨t,ht⟩:=named (x.num*r+y.num*l);obtain⟨f,hf⟩:=named (Nat.gcd t.natAbs g);have hap:=agL x y hg hl hr ht hf;have hsum:=ajR x y l r;rw[← ht] at hsum;have hg0:g≠0:=by rw[hg];exact Nat.ne_of_gt (Nat.gcd_pos_of_pos_left _ x.den_pos)
 have hf0:f≠0:=by rw[hf];exact Nat.ne_of_gt (Nat.gcd_pos_of_pos_right _ byOmega)
 have hlg:(dig g).length≤20000:=Nat.le_trans (aU (by rw[hg]; exact Nat.gcd_le_right _ y.den_pos)) byOmega;have hlf:(dig f).length≤20000:=Nat.le_trans (aU (by rw[hf]; exact Nat.gcd_le_right _ byOmega)) hlg;have hll:(dig l).length≤20000:=by rw[hl];exact Nat.le_trans (bU _ _) byOmega
 have hlr:(dig r).length≤20000:=by rw[hr];exact Nat.le_trans (bU _ _) byOmega
 have hlxr:(dig (x.num.natAbs*r)).length≤40000:=Nat.le_trans (fC _ _) byOmega;have hlyl:(dig (y.num.natAbs*l)).length≤40000:=Nat.le_trans (fC _ _) byOmega;have hlt:(dig t.natAbs).length≤40001:=by
  have h1:t.natAbs≤x.num.natAbs*r+y.num.natAbs*l:=by rw[ht];refine Nat.le_trans (Int.natAbs_add_le _ _) ?_;rw[Int.natAbs_mul,Int.natAbs_mul];exact Nat.le_refl _
  have h2:=aU h1;have h3:=yF (x.num.natAbs*r) (y.num.natAbs*l);omega
 have hlfy:(dig (y.den / f)).length≤20000:=Nat.le_trans (bU _ _) byOmega;have hlxy:=aci x y;have hlxd:=gK (x+y);have HAP:=Ag hap;have HSUM:=Ag hsum;have HGE:=Ag hg;have HLE:=Ag hl;have HRE:=Ag hr;have HFE:=Ag hf;have hbx:((((au x).den.length:Int)==0)=false)∨((((au x).den.length:Int)==0)=true∧(((au y).den.length:Int)==0)=false):=by
  have key:∀ z:Rat,z.den≠1→(((au z).den.length:Int)==0)=false:=by intro z hz;rw[oK hz];have:=bG.2 z.den_nz;exact beq_false_of_ne byOmega
  rcases hw with h | ⟨h,h2⟩
  ·exact .inl (key x h)
  ·exact .inr ⟨by rw[mY h]; rfl,key y h2⟩
 clear hw hx0 hy0 hap hsum hg hl hr ht hf;refine zb8 ?_;intro HX HY;obtain⟨A,c,B,d,rfl,hn,hd⟩:=ha.open;obtain⟨A',c',B',d',rfl,hn',hd'⟩:=hb.open;clear hn hd hn' hd' ha hb;go_in;go_wp2_with fail
 refine Ze ?_;clear HX HY;intro W rx ry rz hB hz HX HY;refine Zx ?_;intro hz x0 x1 x2 y0 y1 y2;clear rx ry;refine zbR ?_;rintro e wn ⟨_,rfl,hb,rfl⟩;rw[dx];refine Za ?_;clear x0 x1 x2 y0 y1 y2 HX HY;intro x0 x1 x2 y0 y1 y2 HX HY;refine zaG ?_;clear rz hz hB hb;intro rz hz hB;go_wp2_with fail
 refine(ig _ _ _ y HY.out).mono ?_;rintro e wn ⟨_,rfl,hb,rfl⟩;rw[dy];refine Za ?_;clear x0 x1 x2 y0 y1 y2 HX HY;intro x0 x1 x2 y0 y1 y2 HX HY;refine zaG ?_;clear rz hz hB hb;intro rz hz hB;obtain⟨_,_,hh,hn,hd⟩:=HX.out;refine YT ?_;intro HNX;cases hh;clear hn hd;obtain⟨_,_,hh,hn,hd⟩:=HY.out;refine Yq ?_;intro HNY;cases hh;clear hn hd;rcases hbx with hb1 | ⟨hb1,hb2⟩
 all_goals
  go_wp2_with fail
  refine zam ?_;intro hHeld hb;refine ZB ?_;clear x0 x1 x2 y0 y1 y2 HX HY HNX HNY;intro x0 x1 x2 y0 y1 y2 HX HY HNX HNY;refine ZC ?_;clear rz hz hB hb;intro rz hz hB;generalize wn.drew=wn at *;refine tkm [0,2] ?_;refine tk2 1 ah rfl fun K hK=>?_
  go_simp;refine(kE _ _ _ x HX.out).mono ?_;rintro e wn ⟨vdx,rfl,hb,hu⟩;have HDX:=Ag (hu.mono (G:=(Ext (Old F w.heap.size) (w.heap.size+3))) (fun b hb _=>hb.elim .inl fun h=>.inr byOmega));clear hu;refine ZB ?_;clear x0 x1 x2 y0 y1 y2 HX HY HNX HNY;intro x0 x1 x2 y0 y1 y2 HX HY HNX HNY;refine Z7 ?_;clear rz hz hB hb hHeld hK K;intro rz hz hB hHeld;refine tk2 3 ah rfl fun K hK=>?_
  go_simp;refine(kE _ _ _ y HY.out).mono ?_;rintro e wn ⟨vdy,rfl,hb,hu⟩;refine zaJ ?_;intro HDY;clear hu;refine ZB ?_;clear x0 x1 x2 y0 y1 y2 HX HY HNX HNY;intro x0 x1 x2 y0 y1 y2 HX HY HNX HNY;replace HDX:=Ag (HDX.out.below hb);refine Z7 ?_;clear rz hz hB hb hHeld hK K;intro rz hz hB hHeld;refine tkm [4,5] ?_;refine Yp ?_;clear hHeld;go_wp2_with fail
  refine(pJ _ _ _ _ x.den y.den HDX.out HDY.out byOmega byOmega).mono ?_;rintro e wn ⟨vg,rfl,hb,hu⟩;rw[← HGE.out] at hu;have HG:=Ag (hu.mono (G:=(Ext (Old F w.heap.size) (w.heap.size+3))) (fun b hb _=>hb.elim id fun h=>.inr byOmega));clear hu;refine ZB ?_;clear x0 x1 x2 y0 y1 y2 HX HY HNX HNY;intro x0 x1 x2 y0 y1 y2 HX HY HNX HNY;refine zaf ?_;clear HDX HDY;intro HDX HDY;refine zaG ?_;clear rz hz hB hb;intro rz hz hB;go_wp2_with fail
  refine(kM _ _ _ _ x.den g HDX.out HG.out hg0 byOmega byOmega).mono ?_;rintro e wn ⟨vl,rfl,hb,hu⟩;rw[← HLE.out] at hu;have HL:=Ag (hu.mono (G:=(Ext (Old F w.heap.size) (w.heap.size+3))) (fun b hb _=>hb.elim id fun h=>.inr byOmega));clear hu;refine ZB ?_;clear x0 x1 x2 y0 y1 y2 HX HY HNX HNY;intro x0 x1 x2 y0 y1 y2 HX HY HNX HNY;refine zaf ?_;clear HDX HDY;intro HDX HDY;replace HG:=Ag (HG.out.below hb);refine zaG ?_;clear rz hz hB hb;intro rz hz hB;go_wp2_with fail
  refine(kM _ _ _ _ y.den g HDY.out HG.out hg0 byOmega byOmega).mono ?_;rintro e wn ⟨vr,rfl,hb,hu⟩;rw[← HRE.out] at hu;have HR:=Ag (hu.mono (G:=(Ext (Old F w.heap.size) (w.heap.size+3))) (fun b hb _=>hb.elim id fun h=>.inr byOmega));clear hu;refine ZB ?_;clear x0 x1 x2 y0 y1 y2 HX HY HNX HNY;intro x0 x1 x2 y0 y1 y2 HX HY HNX HNY;refine zaf ?_;clear HDX HDY;intro HDX HDY;replace HG:=Ag (HG.out.below hb);replace HL:=Ag (HL.out.below hb);refine zaG ?_;clear rz hz hB hb;intro rz hz hB;go_wp2_with fail
  refine zam ?_;intro hHeld hb;refine Za ?_;clear x0 x1 x2 y0 y1 y2 HX HY;intro x0 x1 x2 y0 y1 y2 HX HY;refine Zo ?_;clear HNX HNY HDX HDY HG HL HR;intro HNX HNY HDX HDY HG HL HR;refine ZC ?_;clear rz hz hB hb;intro rz hz hB;generalize wn.drew=wn at *;refine tkm [0,1,2,3,4,6,7,8,9,10] ?_;refine tk2 5 ah rfl fun K hK=>?_
  go_simp;refine(ku _ _ _ _ x.num.natAbs r HNX.out HR.out byOmega byOmega).mono ?_;rintro e wn ⟨vt1,rfl,hb,hu⟩;have HT1:=Ag (hu.mono (G:=(Ext (Old F w.heap.size) (w.heap.size+3))) (fun b hb _=>hb.elim id fun h=>.inr byOmega));clear hu;refine Za ?_;clear x0 x1 x2 y0 y1 y2 HX HY;intro x0 x1 x2 y0 y1 y2 HX HY;refine Zo ?_;clear HNX HNY HDX HDY HG HL HR;intro HNX HNY HDX HDY HG HL HR;refine Z7 ?_;clear rz hz hB hb hHeld hK K;intro rz hz hB hHeld;refine tk2 11 ah rfl fun K hK=>?_
  go_simp;refine(ku _ _ _ _ y.num.natAbs l HNY.out HL.out byOmega byOmega).mono ?_;rintro e wn ⟨vt2,rfl,hb,hu⟩;have HT2:=Ag (hu.mono (G:=(Ext (Old F w.heap.size) (w.heap.size+3))) (fun b hb _=>hb.elim id fun h=>.inr byOmega));clear hu;refine Za ?_;clear x0 x1 x2 y0 y1 y2 HX HY;intro x0 x1 x2 y0 y1 y2 HX HY;refine Zo ?_;clear HNX HNY HDX HDY HG HL HR;intro HNX HNY HDX HDY HG HL HR;replace HT1:=Ag (HT1.out.below hb);refine Z7 ?_;clear rz hz hB hb hHeld hK K;intro rz hz hB hHeld;refine tk2 12 ah rfl fun K hK=>?_
  go_simp;refine(yR _ _ (dF x) (dF y) _ _ (x.num.natAbs*r) (y.num.natAbs*l) HT1.out HT2.out byOmega byOmega).mono ?_;rintro e wn ⟨_,rfl,hb,neg,vt,rfl,hu,hs⟩;rw[HSUM.out] at hu hs;have HT:=Ag (hu.mono (G:=(Ext (Old F w.heap.size) (w.heap.size+3))) (fun b hb _=>.inr byOmega));have HNE:=Ag hs;clear hs;have hvt:∃ At ct,vt = .slice At (dig t.natAbs).length ct:=by obtain⟨At,ct,h,_⟩:=hu;exact⟨At,ct,h⟩
  obtain⟨At,ct,rfl⟩:=hvt;clear hu;refine Za ?_;clear x0 x1 x2 y0 y1 y2 HX HY;intro x0 x1 x2 y0 y1 y2 HX HY;refine Zo ?_;clear HNX HNY HDX HDY HG HL HR;intro HNX HNY HDX HDY HG HL HR;replace HT1:=Ag (HT1.out.below hb);replace HT2:=Ag (HT2.out.below hb);refine Z7 ?_;clear rz hz hB hb hHeld hK K;intro rz hz hB hHeld;refine tkm [13,14,15,16,17] ?_;refine Yp ?_;clear hHeld;by_cases ht0:t=0
  ·have hl0:(((dig t.natAbs).length:Int)==0)=true:=by rw[ht0];simp[bD]
   have HZ:=Ag (show x+y=0 by refine(nM _).1 ?_; rw[HAP.out.1,ht0]; simp);clear ht0;refine Zn ?_;intro q0 y0 q1 y1 q2 y2;go_wp2
   obtain⟨Wz,hWz,hrz,hwz,hkz⟩:=bW rz (.bool false) (.slice none 0 0) (.slice none 0 0);refine Zj ?_;clear hWz q0 q1 q2 y0 y1 y2;intro t0 t1 t2;refine bodyPost_ret (v:=.agg #[.bool false,.slice none 0 0,.slice none 0 0]) (by simp[results,Tryz.results108,go_sem,t0,t1,t2]) rfl ?_;exact za5
  ·have hl0:(((dig t.natAbs).length:Int)==0)=false:=by have:=(bG (n:=t.natAbs)).2 byOmega;exact beq_false_of_ne byOmega
   have HNG:=Ag (show neg=dF (x+y) by rw[HAP.out.2.2,HNE.out]; exact(tX byOmega).symm);clear ht0;clear x0 x1 x2 y0 y1 y2;go_wp2_with fail
   refine(pJ _ _ _ _ t.natAbs g HT.out HG.out byOmega byOmega).mono ?_;rintro e wn ⟨vf,rfl,hb,hu⟩;rw[← HFE.out] at hu;have HF:=Ag (hu.mono (G:=(Ext (Old F w.heap.size) (w.heap.size+3))) (fun b hb _=>hb.elim id fun h=>.inr byOmega));clear hu;refine Yx ?_;clear HX HY HNX HNY HDX HDY HG HL HR HT1 HT2 HT;intro HX HY HNX HNY HDX HDY HG HL HR HT1 HT2 HT;refine zaG ?_;clear rz hz hB hb;intro rz hz hB;go_wp2_with fail
   refine(kM _ _ _ _ t.natAbs f HT.out HF.out hf0 byOmega byOmega).mono ?_;rintro e wn ⟨vp,rfl,hb,hu⟩;rw[← HAP.out.1] at hu;have HP:=Ag (hu.mono (G:=(Ext (Old F w.heap.size) (w.heap.size+3))) (fun b hb _=>hb.elim id fun h=>.inr byOmega));clear hu;refine Yx ?_;clear HX HY HNX HNY HDX HDY HG HL HR HT1 HT2 HT;intro HX HY HNX HNY HDX HDY HG HL HR HT1 HT2 HT;replace HF:=Ag (HF.out.below hb);refine zaG ?_;clear rz hz hB hb;intro rz hz hB;go_wp2_with fail
   refine(kM _ _ _ _ y.den f HDY.out HF.out hf0 byOmega byOmega).mono ?_;rintro e wn ⟨vq,rfl,hb,hu⟩;have HQ:=Ag (hu.mono (G:=(Ext (Old F w.heap.size) (w.heap.size+3))) (fun b hb _=>hb.elim id fun h=>.inr byOmega));clear hu;refine Yx ?_;clear HX HY HNX HNY HDX HDY HG HL HR HT1 HT2 HT;intro HX HY HNX HNY HDX HDY HG HL HR HT1 HT2 HT;replace HF:=Ag (HF.out.below hb);replace HP:=Ag (HP.out.below hb);refine zaG ?_;clear rz hz hB hb;intro rz hz hB;go_wp2_with fail
   refine(ku _ _ _ _ l (y.den / f) HL.out HQ.out byOmega byOmega).mono ?_;rintro e wn ⟨vd,rfl,hb,hu⟩;rw[← HAP.out.2.1] at hu;have HD:=Ag (hu.mono (G:=(Ext (Old F w.heap.size) (w.heap.size+3))) (fun b hb _=>hb.elim id fun h=>.inr byOmega));clear hu;refine Yx ?_;clear HX HY HNX HNY HDX HDY HG HL HR HT1 HT2 HT;intro HX HY HNX HNY HDX HDY HG HL HR HT1 HT2 HT;replace HF:=Ag (HF.out.below hb);replace HP:=Ag (HP.out.below hb);replace HQ:=Ag (HQ.out.below hb);refine zaG ?_;clear rz hz hB hb;intro rz hz hB;go_wp2_with fail
   refine(ou _ _ _ _ _ (x+y).num.natAbs (x+y).den (dig (x+y).den) HP.out HD.out (.inl rfl) (x+y).den_nz (iH _) byOmega).mono ?_;rintro e wn ⟨vm,rfl,hb,hu⟩;rw[HNG.out,rO] at hu;have HM:=Ag hu;obtain⟨Am,cm,Bm,dm,rfl,hn,hd⟩:=hu.open;clear hn hd hu;refine Yx ?_;clear HX HY HNX HNY HDX HDY HG HL HR HT1 HT2 HT;intro HX HY HNX HNY HDX HDY HG HL HR HT1 HT2 HT;replace HF:=Ag (HF.out.below hb);replace HP:=Ag (HP.out.below hb);replace HQ:=Ag (HQ.out.below hb);replace HD:=Ag (HD.out.below hb);refine zaG ?_;clear rz hz hB hb;intro rz hz hB;refine Zn ?_;intro q0 y0 q1 y1 q2 y2;go_wp2
   obtain⟨Wz,hWz,hrz,hwz,hkz⟩:=bW rz (.bool (au (x+y)).neg) (.slice Am (au (x+y)).num.length cm) (.slice Bm (au (x+y)).den.length dm);refine Zj ?_;clear hWz q0 q1 q2 y0 y1 y2;intro t0 t1 t2;refine bodyPost_ret (v:=.agg #[.bool (au (x+y)).neg,.slice Am (au (x+y)).num.length cm,.slice Bm (au (x+y)).den.length dm]) (by simp[results,Tryz.results108,go_sem,t0,t1,t2]) rfl ?_;exact ZF
theorem aaA (w:World) (F:Foot) (va vb:Value) (x y:Rat) (ha:NmV w F va x) (hb:NmV w F vb y) (hlx:rl x≤20000) (hly:rl y≤20000) :
  Calls Tryz.prog 108 #[va,vb] w (Ret w fun v w'=>NmV w' (Ext F w.heap.size) v (x+y)):=by
 by_cases hx0:x=0
 ·exact akJ w F va vb x y ha hb hlx hly hx0
 by_cases hy0:y=0
 ·exact akK w F va vb x y ha hb hlx hly hx0 hy0
 by_cases hxd:x.den=1
 ·by_cases hyd:y.den=1
  ·exact afs w F va vb x y ha hb hlx hly hx0 hy0 hxd hyd
  ·exact abO w F va vb x y ha hb hlx hly hx0 hy0 (.inr ⟨hxd,hyd⟩)
 ·exact abO w F va vb x y ha hb hlx hly hx0 hy0 (.inl hxd)
def wM:Value→Option Nat
 | .slice (some a) _ _=>some a.block
 | .pointer (some a)=>some a.block
 | _=>none
def upd (e:Nat→Value) (j:Nat) (v:Value):Nat→Value:=fun k=>if k=j then v else e k
theorem adY {e:Nat→Value} {i j:Nat} {u v:Value} (h:i≠j):upd (upd e i u) j v=upd (upd e j v) i u:=by
 funext k
 unfold upd;split <;> split <;> simp_all
structure Says where
 uses:Nat→List Nat
 F:Nat→List Value→Hold
 cu:List Nat
 G:Nat→List Value→World→World→Prop
 mks:List Nat
def Says.R (s:Says) (i:Nat) (e:Nat→Value) (w:World):Prop:=(s.F i ((i :: s.uses i).map e)).p w
def Says.T (s:Says) (j:Nat) (e:Nat→Value) (w w':World):Prop:=bif s.cu.contains j then s.G j ((j :: s.uses j).map e) w w' else Below w.heap.size w w'
def Says.Apart (s:Says) (E:List Nat) (e:Nat→Value):Prop:=∀ p∈E,∀ q∈E,p∈s.mks→q∈s.mks→p≠q→∀ b,wM (e p)=some b→wM (e q)≠some b
theorem agq {l:List Nat} {e:Nat→Value} {j:Nat} {v:Value} (h:j ∉ l):l.map (upd e j v)=l.map e :=
 List.map_congr_left fun k hk=>if_neg (by rintro rfl; exact h hk)
theorem Says.DJ (s:Says) {i j:Nat} {e:Nat→Value} {v:Value} {w:World} (h:j ∉ i :: s.uses i):s.R i (upd e j v) w↔s.R i e w:=by unfold Says.R; rw[agq h]
theorem Says.EN (s:Says) {i j:Nat} {e:Nat→Value} {v:Value} {w w':World} (h:j ∉ i :: s.uses i):s.T i (upd e j v) w w'↔s.T i e w w':=by unfold Says.T; rw[agq h]
section
variable {P:Program} {ops:Array Oper} {Q:Exit→Act→World→Prop} {S:Hold} {s:Says}
def CP (s:Says) (e:Nat→Value) (w:World) (i:Nat) (u:Value) (w':World):Prop:=s.T i (upd e i u) w w'∧s.R i (upd e i u) w'∧(i∈s.mks→∀ b,wM u=some b→w.heap.size≤b)
def Em (P:Program) (ops:Array Oper) (s:Says) (i:Nat) (e:Nat→Value) (a:Act) (w:World):Prop:=Step P ops (fun _ _=>True) (CP s e w) i a w
def AY (P:Program) (ops:Array Oper) (Q:Exit→Act→World→Prop) (S:Hold) (s:Says):List Nat→List Nat→(Nat→Value)→Act→Prop
 | [],E,e,a=>∀ w,S.p w→(∀ i∈E,s.R i e w)→s.Apart E e→Q .normal a w
 | j :: js,E,e,a=>(∀ w,S.p w→(∀ i∈E,dep .any ops j i=true→s.R i e w)→Em P ops s j e a w)∧∀ v,AY P ops Q S s js (j :: E) (upd e j v) (a.put (iD ops j) v)
theorem Step.weak {T:World→World→Prop} {R R':Nat→Value→World→Prop} {i:Nat} {a:Act} {w:World} (h:Step P ops T R i a w) (f:∀ u w',R i u w'→R' i u w'):Step P ops T R' i a w :=
 fun o ho K hK=>h o ho K fun u w' ht hr=>hK u w' ht (f u w' hr)
theorem CP.upd {e:Nat→Value} {w w':World} {i j:Nat} {u v:Value} (hij:i≠j) (h:j ∉ i :: s.uses i):CP s (upd e j v) w i u w'↔CP s e w i u w':=by
 unfold CP;rw[← adY (e:=e) (u:=u) (v:=v) hij,s.EN h,s.DJ h]
theorem AY.perm:∀ {js E E':List Nat} {e:Nat→Value} {a:Act},(∀ p,p∈E'↔p∈E)→AY P ops Q S s js E e a→AY P ops Q S s js E' e a
 | [],_,_,_,_,h,H=>fun w hS hf hA=>H w hS (fun p hp=>hf p ((h p).2 hp)) (fun p hp q hq=>hA p ((h p).2 hp) q ((h q).2 hq))
 | j :: js,_,_,_,_,h,H=>⟨fun w hS hf=>H.1 w hS (fun p hp hd=>hf p ((h p).2 hp) hd),fun v=>AY.perm (fun p=>by simp[h p]) (H.2 v)⟩
def aiA (ops:Array Oper):Bool:=(List.range ops.size).all fun i=>match ops[i]? with
 | some o=>o.after.all fun e=>!Region.binds .any e||decide (e.on < i)
 | none=>true
theorem aft {ops:Array Oper} {listed:Array Bool} (hs:listed.size=ops.size) (hb:aiA ops=true) (hr:Region.ready .any ops listed = []):∀ i,i < ops.size→listed.getD i true=true:=by
 intro i;induction i using Nat.strongRecOn with
 | _ i ih =>
  intro hi;by_cases hl:listed.getD i true=false
  ·exfalso
   have:i∈Region.ready .any ops listed:=by
    rw[mem_ready];refine⟨hl,ops[i],by simp[hi],fun e he hbe=>?_⟩;have h:=List.all_eq_true.1 hb i (List.mem_range.2 hi);rw[show ops[i]? = some ops[i] by simp[hi]] at h;have h1:=Array.all_eq_true'.1 h e he;rw[hbe] at h1;have hlt:e.on < i:=by simpa using h1
    have h2:=ih e.on hlt byOmega;have h3:e.on < listed.size:=byOmega;simp[h3] at h2 ⊢;exact h2
   rw[hr] at this;cases this
  ·simpa using hl
def ako (ops:Array Oper) (listed:Array Bool) (js:List Nat) (fuel:Nat):Bool :=
 Region.noSelect ops&&aiA ops&&l7 .any ops js&&decide (js.length≤fuel)&&js.all (fun j=>decide (j < ops.size))&&decide (js.Nodup)&&decide (listed.size=ops.size)&&(List.range ops.size).all (fun j=>js.contains j == !listed.getD j true)
structure Dp (ops:Array Oper) (s:Says) (js E:List Nat):Prop where
 apart:∀ k∈E,k ∉ js
 dep:∀ k∈E,∀ j∈js,dep .any ops k j=false
 uses:∀ k,k∈E∨k∈js→∀ x∈s.uses k,Go.Proofs.YtnmeejofpkhlkaaGreatDoor.dep .any ops k x=true
 there:∀ k∈js,∀ x∈s.uses k,x∈E∨x∈js
theorem Dp.cons {j:Nat} {js E:List Nat} (h:Dp ops s (j :: js) E) (hok:∀ i∈js,far .any ops j i=true) (hnd:j ∉ js):Dp ops s js (j :: E):=by
 refine⟨fun k hk hkj=>?_,fun k hk i hi=>?_,fun k hk=>?_,fun k hk x hx=>?_⟩
 ·rcases List.mem_cons.1 hk with rfl | hk
  ·exact hnd hkj
  ·exact h.apart k hk (List.mem_cons_of_mem _ hkj)
 ·rcases List.mem_cons.1 hk with rfl | hk
  ·exact abN (hok i hi)
  ·exact h.dep k hk i (List.mem_cons_of_mem _ hi)
 ·refine h.uses k ?_;rcases hk with hk | hk
  ·rcases List.mem_cons.1 hk with rfl | hk
   ·exact .inr aB
   ·exact .inl hk
  ·exact .inr (List.mem_cons_of_mem _ hk)
 ·rcases h.there k (List.mem_cons_of_mem _ hk) x hx with h1 | h1
  ·exact .inl (List.mem_cons_of_mem _ h1)
  ·rcases List.mem_cons.1 h1 with rfl | h1
   ·exact .inl aB
   ·exact .inr h1
theorem AY.pull (hn:Region.noSelect ops=true) {i:Nat}:∀ {js E:List Nat} {e:Nat→Value} {a:Act},(∀ j∈js,j < ops.size)→l7 .any ops js=true→js.Nodup→i∈js→(∀ j∈js,dep .any ops i j=false)→Dp ops s js E→AY P ops Q S s js E e a →
  (∀ w,S.p w→(∀ k∈E,dep .any ops i k=true→s.R k e w)→Em P ops s i e a w)∧∀ u,AY P ops Q S s (js.erase i) (i :: E) (upd e i u) (a.put (iD ops i) u)
 | [],_,_,_,_,_,_,hi,_,_,_=>by cases hi
 | j :: js,E,e,a,hlt,hok,hnd,hi,uD,hD,H=>by
  by_cases hji:j=i
  ·subst hji;rw[List.erase_cons_head];exact H
  ·have hi':i∈js:=by
    rcases List.mem_cons.1 hi with h | h
    ·exact absurd h.symm hji
    ·exact h
   simp only[l7,Bool.and_eq_true,List.all_eq_true] at hok;refine zbs ?_;intro ajP x hx y hy f1 f2 f3 f3' ex ey;have hji':j ∉ i :: s.uses i:=fun h=>by
    rcases List.mem_cons.1 h with h | h
    ·exact hji h
    ·have h1:=hD.uses i (.inr hi) j h;rw[uD j aB] at h1;cases h1
   have hij':i ∉ j :: s.uses j:=fun h=>by
    rcases List.mem_cons.1 h with h | h
    ·exact hji h.symm
    ·have h1:=hD.uses j (.inr aB) i h;rw[abN ajP] at h1;cases h1
   have hkE:∀ z∈j :: js,∀ k∈E,z ∉ k :: s.uses k:=fun z hz k hk h=>by
    rcases List.mem_cons.1 h with h | h
    ·subst h;exact hD.apart _ hk hz
    ·have h1:=hD.uses k (.inl hk) z h;rw[hD.dep k hk z hz] at h1;cases h1
   have IH:=fun v=>AY.pull hn (i:=i) (js:=js) (E:=j :: E) (e:=upd e j v) (a:=a.put (iD ops j) v) (fun k hk=>hlt k (List.mem_cons_of_mem _ hk)) hok.2 (List.nodup_cons.1 hnd).2 hi' (fun k hk=>uD k (List.mem_cons_of_mem _ hk)) (hD.cons hok.1 (List.nodup_cons.1 hnd).1) (H.2 v)
   refine⟨fun w hS hf=>?_,fun u=>?_⟩
   ·have h1:=(IH undef).1 w hS (fun k hk hd=>by
     rcases List.mem_cons.1 hk with h | h
     ·subst h;rw[uD k aB] at hd;cases hd
     ·exact(s.DJ (hkE j aB k h)).2 (hf k h hd))
    refine Step.weak (Step.akn h1 hn (fun o ho d hd=>?_)) (fun u w' h=>(CP.upd (fun h=>hji h.symm) hji').1 h);rw[hy] at ho;cases ho;rw[ex] at hd;exact f3' d hd
   ·rw[List.erase_cons_tail (by simpa using hji)];refine⟨fun w hS hf=>?_,fun v=>?_⟩
    ·have h1:=H.1 w hS (fun k hk hd=>(s.DJ (hkE i hi k hk)).1 (hf k (List.mem_cons_of_mem _ hk) hd));refine Step.weak (Step.put h1 hn (fun o ho d hd=>?_)) (fun u w' h=>(CP.upd hji hij').2 h);rw[hx] at ho;cases ho;rw[ey] at hd;exact f1 d hd
    ·have h1:=(IH v).2 u;have e1:(a.put (iD ops i) u).put (iD ops j) v=(a.put (iD ops j) v).put (iD ops i) u:=by
      rw[ex,ey];exact Act.put_comm a u v f2
     rw[e1,adY (fun h=>hji h.symm)];exact zb4
theorem abd (hn:Region.noSelect ops=true) (hb:aiA ops=true) (hM:∀ k∈s.mks,∀ e w,s.R k e w→∀ b,wM (e k)=some b→b < w.heap.size)
  {js0:List Nat} (hC:∀ j∈s.cu,∀ E e w w',(∀ k∈E,k∈js0)→(∀ k∈s.uses j,k∈E)→j ∉ E→(∀ i∈E,s.R i e w)→s.Apart E e→S.p w→s.G j ((j :: s.uses j).map e) w w'→S.p w'∧∀ i∈E,s.R i e w') :
  ∀ (n:Nat) (fuel:Nat) (js E:List Nat) (e:Nat→Value) (listed:Array Bool) (a:Act) (w:World),js.length=n→n≤fuel→(∀ j∈js,j < ops.size)→l7 .any ops js=true→js.Nodup→(∀ k,k∈E∨k∈js→k∈js0)→Dp ops s js E →
   (∀ j,j < ops.size→(j∈js↔listed.getD j true=false))→listed.size=ops.size→AY P ops Q S s js E e a→S.p w→(∀ i∈E,s.R i e w)→s.Apart E e→wpAnyH P .any ops Q S.p fuel listed a w:=by
 intro n;induction n with
 | zero =>
  intro fuel js E e listed a w hl _ hlt _ _ _ _ hun hsz H hS hf hA;obtain rfl:=List.eq_nil_of_length_eq_zero hl;refine wpAnyH_done ?_ (H w hS hf hA) fuel;cases hr:Region.ready .any ops listed with
  | nil=>rfl
  | cons i rs =>
   have hi:i∈Region.ready .any ops listed:=by rw[hr];simp
   obtain⟨h1,o,ho,_⟩:=mem_ready.1 hi;have:=(hun i (Array.getElem?_eq_some_iff.1 ho).1).2 h1;cases this
 | succ n ih =>
  intro fuel js E e listed a w hl hfu hlt hok hnd h0 hD hun hsz H hS hf hA;cases fuel with
  | zero=>omega
  | succ fuel =>
   by_cases hr0:Region.ready .any ops listed = []
   ·exfalso
    have hall:=aft hsz hb hr0;cases js with
    | nil=>simp at hl
    | cons j js =>
     have hjl:=hlt j aB;have h3:=(hun j hjl).1 aB;have h2:=hall j hjl;have hjs:j < listed.size:=byOmega;rw[h2] at h3;cases h3
   refine wpAnyH_all rfl hr0 fun i hi=>?_
   obtain⟨h1,o,ho,hall⟩:=mem_ready.1 hi;have hil:=(Array.getElem?_eq_some_iff.1 ho).1;have hij:=(hun i hil).2 h1;have uD:∀ j∈js,dep .any ops i j=false:=by
    intro j hj;unfold dep;rw[ho];simp only;rw[Bool.eq_false_iff];intro he;obtain⟨x,hem,hb⟩:=Array.any_eq_true'.1 he;simp only[Bool.and_eq_true,beq_iff_eq] at hb;have h2:=hall x hem hb.1;rw[hb.2] at h2;have h3:=(hun j (hlt j hj)).1 hj;have hjs:j < listed.size:=by rw[hsz];exact hlt j hj
    simp[Array.getD_eq_getD_getElem?,hjs] at h2 h3;rw[h2] at h3;cases h3
   obtain⟨p1,p2⟩:=AY.pull hn hlt hok hnd hij uD hD H;have hiE:i ∉ E:=fun h=>hD.apart i h hij
   refine Step.wpOp ho (p1 w hS (fun k hk _=>hf k hk)) (fun u w' _ hR0=>?_);obtain⟨hT,hR,hF⟩:=hR0;have hf1:∀ k∈E,s.R k (upd e i u) w:=fun k hk=>(s.DJ fun h=>by
    rcases List.mem_cons.1 h with h | h
    ·subst h;exact hiE hk
    ·have h1:=hD.uses k (.inl hk) i h;rw[hD.dep k hk i hij] at h1; cases h1).2 (hf k hk)
   have hne:∀ k∈E,(upd e i u) k=e k:=fun k hk=>if_neg (by rintro rfl; exact hiE hk)
   have hA1:s.Apart E (upd e i u):=fun p hp q hq a1 a2 a3 b=>by rw[hne p hp,hne q hq];exact hA p hp q hq a1 a2 a3 b
   have hnext:S.p w'∧∀ k∈E,s.R k (upd e i u) w':=by
    unfold Says.T at hT;cases hcu:s.cu.contains i with
    | true =>
     rw[hcu,cond_true] at hT;refine hC i (by simpa using hcu) E (upd e i u) w w' (fun k hk=>h0 k (.inl hk)) (fun k hk=>?_) hiE hf1 hA1 hS hT;rcases hD.there i hij k hk with h | h
     ·exact h
     ·have h1:=hD.uses i (.inr hij) k hk;rw[uD k h] at h1;cases h1
    | false =>
     rw[hcu,cond_false] at hT;exact⟨S.keep w w' hS hT,fun k hk=>Hold.keep _ w w' (hf1 k hk) hT⟩
   have hd:iD ops i=o.dst:=by simp[iD,ho]
   rw[← hd];refine⟨hnext.1,ih fuel (js.erase i) (i :: E) (upd e i u) _ _ w' (by rw[List.length_erase_of_mem hij,hl]; rfl) byOmega (fun j hj=>hlt j (List.mem_of_mem_erase hj)) ?_ (hnd.erase i) (fun k hk=>h0 k (hk.elim (fun h=>(List.mem_cons.1 h).elim (fun h=>.inr (h▸hij)) .inl) fun h=>.inr (List.mem_of_mem_erase h))) ?_ ?_ (by simp[hsz]) (p2 u) hnext.1 ?_ ?_⟩
   ·clear hl hlt hnd hun H hij uD p1 p2 hD hiE h0;induction js with
    | nil=>exact hok
    | cons j js ih =>
     simp only[l7,Bool.and_eq_true,List.all_eq_true] at hok;by_cases hji:j=i
     ·subst hji;rw[List.erase_cons_head];exact hok.2
     ·exact zaQ
   ·refine⟨fun k hk hkj=>?_,fun k hk j hj=>?_,fun k hk=>?_,fun k hk x hx=>?_⟩
    ·rcases List.mem_cons.1 hk with rfl | hk
     ·exact(hnd.mem_erase_iff.1 hkj).1 rfl
     ·exact hD.apart k hk (List.mem_of_mem_erase hkj)
    ·rcases List.mem_cons.1 hk with rfl | hk
     ·exact uD j (List.mem_of_mem_erase hj)
     ·exact hD.dep k hk j (List.mem_of_mem_erase hj)
    ·refine hD.uses k ?_;rcases hk with hk | hk
     ·rcases List.mem_cons.1 hk with rfl | hk
      ·exact .inr hij
      ·exact .inl hk
     ·exact .inr (List.mem_of_mem_erase hk)
    ·by_cases hxi:x=i
     ·subst hxi;exact .inl aB
     ·rcases hD.there k (List.mem_of_mem_erase hk) x hx with h | h
      ·exact .inl (List.mem_cons_of_mem _ h)
      ·exact .inr (hnd.mem_erase_iff.2 ⟨hxi,h⟩)
   ·intro j hj;rw[hnd.mem_erase_iff];by_cases hji:j=i
    ·subst hji;simp only[ne_eq,not_true_eq_false,false_and,false_iff];have:j < listed.size:=by rw[hsz];exact hj
     simp[Array.getD_eq_getD_getElem?,this]
    ·rw[Go.getD_set_ne true (Ne.symm hji)];simp[hji,hun j hj]
   ·intro k hk;rcases List.mem_cons.1 hk with rfl | hk
    ·exact hR
    ·exact hnext.2 k hk
   ·have hii:(upd e i u) i=u:=if_pos rfl;intro p hp q hq g1 g2 hpq b hb;rcases List.mem_cons.1 hp with h | hp'
    ·rcases List.mem_cons.1 hq with h' | hq'
     ·exact absurd (h.trans h'.symm) hpq
     ·intro hc;rw[h,hii] at hb;have e1:=hF (h▸g1) b hb;have e2:=hM _ g2 _ _ (hf1 q hq') b hc;omega
    ·rcases List.mem_cons.1 hq with h' | hq'
     ·intro hc;rw[h',hii] at hc;have e1:=hF (h'▸g2) b hc;have e2:=hM _ g1 _ _ (hf1 p hp') b hb;omega
     ·exact hA1 p hp' q hq' g1 g2 hpq b hb
def useB (ops:Array Oper) (s:Says) (js:List Nat):Bool:=js.all fun i=>(s.uses i).all fun k=>dep .any ops i k&&js.contains k
theorem acI {js:List Nat} {fuel:Nat} {listed:Array Bool} {a:Act} {w:World} {S':World→Prop} (S:Hold) (s:Says) (hok:ako ops listed js fuel=true) (hus:useB ops s js=true) (hS:S.p w) (hSS:∀ w,S.p w→S' w)
  (hM:∀ k∈s.mks,∀ e w,s.R k e w→∀ b,wM (e k)=some b→b < w.heap.size)
  (hC:∀ j∈s.cu,∀ E e w w',(∀ k∈E,k∈js)→(∀ k∈s.uses j,k∈E)→j ∉ E→(∀ i∈E,s.R i e w)→s.Apart E e→S.p w→s.G j ((j :: s.uses j).map e) w w'→S.p w'∧∀ i∈E,s.R i e w')
  (h:AY P ops Q S s js [] (fun _=>undef) a):wpAnyH P .any ops Q S' fuel listed a w:=by
 simp only[ako,Bool.and_eq_true,List.all_eq_true,decide_eq_true_eq,List.mem_range,beq_iff_eq] at hok;obtain⟨⟨⟨⟨⟨⟨⟨h1,h2⟩,h3⟩,h4⟩,h5⟩,h6⟩,h7⟩,h8⟩:=hok;simp only[useB,List.all_eq_true,Bool.and_eq_true,List.contains_iff_mem] at hus;exact pK hSS (abd h1 h2 hM hC js.length fuel js [] _ listed a w rfl h4 h5 h3 h6 (fun k hk=>hk.resolve_left aB)
  ⟨fun k hk=>(by cases hk),fun k hk=>(by cases hk),fun k hk x hx=>(hus k (hk.resolve_left aB) x hx).1,fun k hk x hx=>.inr (hus k hk x hx).2⟩
  (fun j hj=>by
   have:=h8 j hj;rw[← List.contains_iff_mem,this];cases listed.getD j true <;> simp) h7 h hS (fun p hp=>by cases hp) (fun p hp=>by cases hp))
theorem AY.cons {j:Nat} {js E:List Nat} {e:Nat→Value} {a:Act} {o:Oper} (ho:ops[j]? = some o)
  (h1:∀ w,S.p w→(∀ i∈E,dep .any ops j i=true→s.R i e w)→∀ K:Act→World→Prop,Shut (∀ u w',CP s e w j u w'→K (a.put o.dst u) w')→if Region.wanted o (yielded ops a.tmps)=true then Oper.wp P o a w K (fun _ _ _=>False) else K (a.put o.dst undef) w)
  (h2:∀ v,AY P ops Q S s js (j :: E) (upd e j v) (a.put o.dst v)):AY P ops Q S s (j :: js) E e a:=by
 refine⟨fun w hS hf o' ho' K hK=>?_,fun v=>?_⟩
 ·rw[ho] at ho';cases ho';exact h1 w hS hf K (fun u w' h=>hK u w' trivial h)
 ·have:iD ops j=o.dst:=by simp[iD,ho]
  rw[this];exact h2 v
theorem AY.nil {E:List Nat} {e:Nat→Value} {a:Act} (h:∀ w,S.p w→(∀ i∈E,s.R i e w)→s.Apart E e→Q .normal a w):AY P ops Q S s [] E e a:=h
theorem ifA {c:Bool} {p q:Prop} (h:c=true) (hp:p):if c=true then p else q:=by rw[if_pos h]; exact hp
def Hold.made (B:Nat) (t:TypeId) (n:Nat) (l:List Value) (v:Value):Hold:=⟨fun w=>∃ b,v = .slice (some ⟨b,0,none⟩) n n∧B≤b∧Row w b t l,fun _ _ h hb=>let ⟨b,h1,h2,h3⟩:=h; ⟨b,h1,h2,h3.below hb h3.lt⟩⟩
def Hold.tt:Hold:=⟨fun _=>True,fun _ _ _ _=>trivial⟩
def Hold.eq (u v:Value):Hold:=⟨fun _=>v=u,fun _ _ h _=>h⟩
theorem acJ {B:Nat} {t:TypeId} {n:Nat} {l:List Value} {v:Value} {w:World} (h:(Hold.made B t n l v).p w) (b:Nat) (hb:wM v=some b):b < w.heap.size:=by
 obtain⟨c,rfl,_,h⟩:=h;cases hb;exact h.lt
theorem vk {B:Nat} {t:TypeId} {n x k:Nat} {l:List Value} {u v:Value} {w:World} (hx:x < B) (h:(Hold.made B t n l v).p w):(Hold.made B t n l v).p (w.setCell ⟨x,k,none⟩ u):=by
 obtain⟨c,h1,h2,h3⟩:=h;exact⟨c,h1,h2,h3.other (a:=⟨x,k,none⟩) (show c≠x by omega) _⟩
theorem afu {s:Says} {E:List Nat} {e:Nat→Value} (h:s.Apart E e) {i k:Nat} {b c:Nat} (hi:i∈E) (hk:k∈E) (mi:i∈s.mks) (mk':k∈s.mks) (hne:i≠k) (hu:wM (e i)=some b) (hv:wM (e k)=some c):b≠c:=by
 rintro rfl;exact h _ hi _ hk mi mk' hne b hu hv
end
def kN (x:Rat):Int:=if 1024 < rl x then 5 else 0
def eY (x:Rat):Raw:=if 1024 < rl x then ⟨false,[],[]⟩ else aG x
theorem wO (x:Rat):(au x).den.length≤(dig x.den).length:=by
 unfold au;split <;> simp
theorem Ak.zero (w:World) (F:Foot) (A B:Option Addr) (c d:Nat):Ak w F (.agg #[.bool false,.slice A 0 c,.slice B 0 d]) ⟨false,[],[]⟩:=Ak.make rfl (iF _ _ _ _) (iF _ _ _ _)
theorem ahd (w:World) (F:Foot) (va:Value) (x:Rat) (ha:NmV w F va x) (hl:rl x≤100000) (hov:1024 < rl x) :
  Calls Tryz.prog 86 #[va] w (Ret w fun v w'=>∃ u,v = .tuple #[u,.int .i64 (kN x)]∧Ak w' (fun b=>w.heap.size≤b) u (eY x)):=by
 have HO:=Ag (show kN x=5 by unfold kN; rw[if_pos hov]);have HR:=Ag (show eY x=⟨false,[],[]⟩ by unfold eY; rw[if_pos hov]);have hor:(1024 < (au x).num.length)∨((au x).num.length≤1024∧1024 < (au x).den.length):=by
  rw[lZ];by_cases h:1024 < (dig x.num.natAbs).length
  ·exact .inl h
  ·refine .inr ⟨byOmega,?_⟩;have h2:1024 < (dig x.den).length:=by unfold rl at hov;omega
   rw[oK (by intro e; rw[e,iZ] at h2; simp at h2)];exact h2
 clear hov;rcases hor with h1 | ⟨h1,h2⟩
 ·have d1:decide ((1024:Int) < ((au x).num.length:Int))=true:=aF;have HX:=Ag ha.old;obtain⟨A,c,B,d,rfl,hn,hd⟩:=ha.open;clear hn hd ha;go_in;go_wp2_with fail
  refine ZR ?_;clear HX;intro W rx rz hB hz HX;refine zb6 ?_;intro hz;intro x0 x1 x2;clear rx;have t0:=rz.cell (i:=0) rfl;have y0:=rz.frozen 0;have t1:=rz.cell (i:=1) rfl;have y1:=rz.frozen 1;have t2:=rz.cell (i:=2) rfl;have y2:=rz.frozen 2;go_wp2
  refine bodyPost_ret (v:=.tuple #[.agg #[.bool false,.slice none 0 0,.slice none 0 0],.int .i64 5]) (by simp[results,Tryz.results86,go_sem,t0,t1,t2]) rfl ?_;exact⟨_,rfl,hB,_,by rw[HO.out],by rw[HR.out]; exact Ak.zero _ _ _ _ _ _⟩
 ·have d1:decide ((1024:Int) < ((au x).num.length:Int))=false:=aF;have d2:decide ((1024:Int) < ((au x).den.length:Int))=true:=aF;have HX:=Ag ha.old;obtain⟨A,c,B,d,rfl,hn,hd⟩:=ha.open;clear hn hd ha;go_in;go_wp2_with fail
  refine ZR ?_;clear HX;intro W rx rz hB hz HX;refine zb6 ?_;intro hz;intro x0 x1 x2;clear rx;have t0:=rz.cell (i:=0) rfl;have y0:=rz.frozen 0;have t1:=rz.cell (i:=1) rfl;have y1:=rz.frozen 1;have t2:=rz.cell (i:=2) rfl;have y2:=rz.frozen 2;go_wp2
  refine bodyPost_ret (v:=.tuple #[.agg #[.bool false,.slice none 0 0,.slice none 0 0],.int .i64 5]) (by simp[results,Tryz.results86,go_sem,t0,t1,t2]) rfl ?_;exact⟨_,rfl,hB,_,by rw[HO.out],by rw[HR.out]; exact Ak.zero _ _ _ _ _ _⟩
theorem afv (w:World) (F:Foot) (va:Value) (x:Rat) (ha:NmV w F va x) (hl:rl x≤100000) (hov:rl x≤1024) (hd1:x.den=1) :
  Calls Tryz.prog 86 #[va] w (Ret w fun v w'=>∃ u,v = .tuple #[u,.int .i64 (kN x)]∧Ak w' (fun b=>w.heap.size≤b) u (eY x)):=by
 have HO:=Ag (show kN x=0 by unfold kN; rw[if_neg byOmega]);have HR:=Ag (show eY x=aG x by unfold eY; rw[if_neg byOmega]);have l1:=gJ x;have l2:=gK x;have l3:=wO x;have h1:(au x).num.length≤1024:=by rw[lZ];omega
 refine zcm ?_;intro h2 d1 d2;have h3:(((au x).den.length:Int)==0)=true:=by rw[mY hd1];rfl
 have HD1:=Ag hd1;clear hd1 l3;have HX:=Ag ha.old;obtain⟨A,c,B,d,rfl,hn,hd⟩:=ha.open;clear hn hd ha;go_in;go_wp2_with fail
 refine ZR ?_;clear HX;intro W rx rz hB hz HX;refine zb6 ?_;intro hz;intro x0 x1 x2;clear rx;obtain⟨_,_,hh,hn,hd⟩:=HX.out;have HNX:=Ag (Ah.mono (n:=x.num.natAbs) (G:=Old F w.heap.size) hn (fun b hb _=>hb));cases hh;clear hn hd;refine aX (fun w'=>w'.cell? ⟨w.heap.size,0,none⟩=some (.bool (au x).neg)∧w'.cell? ⟨w.heap.size,1,none⟩=some (.slice A (au x).num.length c)∧w'.cell? ⟨w.heap.size,2,none⟩=some (.slice B (au x).den.length d)) 7 2 ah rfl ah ?_;refine YL ?_;intro hHeld hb;clear x0 x1 x2;intro x0 x1 x2;replace HX:=Ag (HX.out.below hb);replace HNX:=Ag (HNX.out.below hb);refine ZC ?_;clear rz hz hB hb;intro rz hz hB;generalize W.drew=wn at *;refine tkm [0,1,2,3] ?_;have hB0:=hB;refine lG (js:=[4,5,6]) ((Hold.cell (w.heap.size) 0 (.bool (au x).neg)).and ((Hold.cell (w.heap.size) 1 (.slice A (au x).num.length c)).and ((Hold.cell (w.heap.size) 2 (.slice B (au x).den.length d)).and ((Hold.of (Fact.nat (Old F w.heap.size) x.num.natAbs) (.slice A (au x).num.length c)).and (Hold.below (w.heap.size+2) wn))))) [(4,Fact.nat (fun b=>w.heap.size+2≤b) x.num.natAbs),(5,Fact.nat (fun b=>w.heap.size+2≤b) x.den),(6,Fact.raw (fun b=>w.heap.size+2≤b) (aG x))] ah ⟨x0,x1,x2,HNX.out,⟨hz,(Below.refl _ _).mono (Nat.le_refl _)⟩⟩ (fun _ h=>⟨h.1,h.2.1,h.2.2.1⟩) ?_;refine Flow.cons (o:=_) rfl (fun wk hS hf K hK=>?_) (fun v4=>?_)
 ·go_simp;refine(uX wk _ _ x.num.natAbs hS.2.2.2.1 byOmega).mono ?_;rintro e w' ⟨u,rfl,hb,hu⟩;exact hK.out _ _ hb (hu.mono (fun b hb _=>Nat.le_trans hS.2.2.2.2.1 hb))
 refine Zb ?_;refine Flow.cons (o:=_) rfl (fun wk hS hf K hK=>?_) (fun v5=>?_)
 ·go_simp;refine hK.out _ _ ((Below.refl _ _).alloc (Nat.le_refl _) _) ?_;exact(acE wk x.den HD1.out).mono (fun b hb _=>Nat.le_trans hS.2.2.2.2.1 hb)
 refine Zb ?_;refine Flow.cons (o:=_) rfl (fun wk hS hf K hK=>?_) (fun v6=>?_)
 ·have f4:=aJ (f:=Fact.nat (fun b=>w.heap.size+2≤b) x.num.natAbs) (hf (4,v4) aB ah) rfl;have f5:=aJ (f:=Fact.nat (fun b=>w.heap.size+2≤b) x.den) (hf (5,v5) aB ah) rfl;have g4:=f4;have g5:=f5;obtain⟨A4,c4,rfl,_,_⟩:=g4;obtain⟨A5,c5,rfl,_,_⟩:=g5;go_simp;exact hK.out _ _ (Below.refl _ _) (Ak.make rfl f4 f5)
 refine Zb ?_;refine Flow.nil (fun wE hS hf=>?_);have f6:=aJ (f:=Fact.raw (fun b=>w.heap.size+2≤b) (aG x)) (hf (6,v6) aB) rfl;have hBe:=hS.2.2.2.2.2;obtain⟨A6,c6,B6,d6,hv6,_,_⟩:=Ak.open f6;dsimp only at hv6;subst hv6;have hrz:=rz.of_block (hBe.block _ byOmega);have hBE:Below w.heap.size w wE:=hB.trans (hBe.mono byOmega);have HF:=Ag f6;clear hf hS f6 x0 x1 x2 rz;refine Y2 ?_;have q0:=hrz.cell (i:=0) rfl;have y0:=hrz.frozen 0;have q1:=hrz.cell (i:=1) rfl;have y1:=hrz.frozen 1;have q2:=hrz.cell (i:=2) rfl;have y2:=hrz.frozen 2;go_wp2
 refine Y2 ?_;go_wp2
 refine Yb ?_;go_wp2
 obtain⟨Wz,hWz,hrz,hwz,hkz⟩:=bW hrz (.bool (aG x).neg) (.slice A6 (aG x).num.length c6) (.slice B6 (aG x).den.length d6);refine Zj ?_;clear hWz q0 q1 q2 y0 y1 y2;intro t0 t1 t2;refine bodyPost_ret (v:=.tuple #[.agg #[.bool (aG x).neg,.slice A6 (aG x).num.length c6,.slice B6 (aG x).den.length d6],.int .i64 0]) (by simp[results,Tryz.results86,go_sem,t0,t1,t2]) rfl ?_;exact⟨_,rfl,hwz _ _ byOmega hBE,_,by rw[HO.out],by rw[HR.out]; exact HF.out.keep (fun b hb _=>Nat.le_trans (Nat.le_add_right _ 2) hb) (hkz _ (fun h=>by omega))⟩
theorem ahe (w:World) (F:Foot) (va:Value) (x:Rat) (ha:NmV w F va x) (hl:rl x≤100000) (hov:rl x≤1024) (hd1:x.den≠1) :
  Calls Tryz.prog 86 #[va] w (Ret w fun v w'=>∃ u,v = .tuple #[u,.int .i64 (kN x)]∧Ak w' (fun b=>w.heap.size≤b) u (eY x)):=by
 have HO:=Ag (show kN x=0 by unfold kN; rw[if_neg byOmega]);have HR:=Ag (show eY x=aG x by unfold eY; rw[if_neg byOmega]);have l1:=gJ x;have l2:=gK x;have l3:=wO x;have h1:(au x).num.length≤1024:=by rw[lZ];omega
 refine zcm ?_;intro h2 d1 d2;have h3:(((au x).den.length:Int)==0)=false:=by rw[oK hd1];have:=bG.2 x.den_nz;exact beq_false_of_ne byOmega
 have HWD:=Ag (oK hd1);clear hd1 l3;have HX:=Ag ha.old;obtain⟨A,c,B,d,rfl,hn,hd⟩:=ha.open;clear hn hd ha;go_in;go_wp2_with fail
 refine ZR ?_;clear HX;intro W rx rz hB hz HX;refine zb6 ?_;intro hz;intro x0 x1 x2;clear rx;obtain⟨_,_,hh,hn,hd⟩:=HX.out;have HNX:=Ag (Ah.mono (n:=x.num.natAbs) (G:=Old F w.heap.size) hn (fun b hb _=>hb));cases hh;have hd2:Ah W (Old F w.heap.size) (.slice B (au x).den.length d) x.den:=by unfold Ah;rw[← HWD.out];exact hd
 have HDX:=Ag hd2;clear hn hd hd2;refine aX (fun w'=>w'.cell? ⟨w.heap.size,0,none⟩=some (.bool (au x).neg)∧w'.cell? ⟨w.heap.size,1,none⟩=some (.slice A (au x).num.length c)∧w'.cell? ⟨w.heap.size,2,none⟩=some (.slice B (au x).den.length d)) 9 2 ah rfl ah ?_;refine YL ?_;intro hHeld hb;clear x0 x1 x2;intro x0 x1 x2;replace HX:=Ag (HX.out.below hb);replace HNX:=Ag (HNX.out.below hb);replace HDX:=Ag (HDX.out.below hb);refine ZC ?_;clear rz hz hB hb;intro rz hz hB;generalize W.drew=wn at *;refine tkm [0,1,2,3,5,6] ?_;refine tk2 4 ah rfl fun K hK=>?_
 go_simp;refine(uX _ _ _ x.num.natAbs HNX.out byOmega).mono ?_;rintro e wn ⟨u,rfl,hb,hu⟩;have H4:=Ag (hu.mono (G:=(fun b=>w.heap.size+2≤b)) (fun b hb _=>by omega));obtain⟨A4,c4,rfl,_,_⟩:=hu;refine Yg ?_;clear x0 x1 x2;intro x0 x1 x2;replace HX:=Ag (HX.out.below hb);replace HNX:=Ag (HNX.out.below hb);replace HDX:=Ag (HDX.out.below hb);refine zaG ?_;clear rz hz hB hb;intro rz hz hB;clear hHeld;refine hK.out _ _ ⟨x0,x1,x2⟩ (fun hHeld=>?_);clear hK K;refine Zb ?_;refine tk2 7 ah rfl fun K hK=>?_
 go_simp;refine(uX _ _ _ x.den HDX.out byOmega).mono ?_;rintro e wn ⟨u,rfl,hb,hu⟩;have H7:=Ag (hu.mono (G:=(fun b=>w.heap.size+2≤b)) (fun b hb _=>by omega));obtain⟨A7,c7,rfl,_,_⟩:=hu;refine Yg ?_;clear x0 x1 x2;intro x0 x1 x2;replace HX:=Ag (HX.out.below hb);replace HNX:=Ag (HNX.out.below hb);replace HDX:=Ag (HDX.out.below hb);replace H4:=Ag (H4.out.below hb);refine zaG ?_;clear rz hz hB hb;intro rz hz hB;clear hHeld;refine hK.out _ _ ⟨x0,x1,x2⟩ (fun hHeld=>?_);clear hK K;refine Zb ?_;refine tkm [8] ?_;refine Zw ?_;clear hHeld;clear x0 x1 x2;refine Zn ?_;intro q0 y0 q1 y1 q2 y2;go_wp2
 refine Y2 ?_;go_wp2
 refine Yb ?_;go_wp2
 obtain⟨Wz,hWz,hrz,hwz,hkz⟩:=bW rz (.bool (au x).neg) (.slice A4 (dig x.num.natAbs).length c4) (.slice A7 (dig x.den).length c7);refine Zj ?_;clear hWz q0 q1 q2 y0 y1 y2;intro t0 t1 t2;refine bodyPost_ret (v:=.tuple #[.agg #[.bool (au x).neg,.slice A4 (dig x.num.natAbs).length c4,.slice A7 (dig x.den).length c7],.int .i64 0]) (by simp[results,Tryz.results86,go_sem,t0,t1,t2]) rfl ?_;exact⟨_,rfl,hwz _ _ byOmega hB,_,by rw[HO.out],by rw[HR.out]; exact(Ak.make (r:=aG x) rfl H4.out H7.out).keep (fun b hb _=>Nat.le_trans (Nat.le_add_right _ 2) hb) (hkz _ (fun h=>by omega))⟩
theorem aiB (w:World) (F:Foot) (va:Value) (x:Rat) (ha:NmV w F va x) (hl:rl x≤100000) :
  Calls Tryz.prog 86 #[va] w (Ret w fun v w'=>∃ u,v = .tuple #[u,.int .i64 (kN x)]∧Ak w' (fun b=>w.heap.size≤b) u (eY x)):=by
 by_cases hov:1024 < rl x
 ·exact ahd w F va x ha hl hov
 by_cases hd1:x.den=1
 ·exact afv w F va x ha hl byOmega hd1
 ·exact ahe w F va x ha hl byOmega hd1
theorem ajS {x:Rat}:kN x=0∨kN x=5:=by
 unfold kN;split
 ·exact .inr rfl
 ·exact .inl rfl
def l9 (xs:List Rat):Int:=if xs.any (fun x=>decide (1024 < rl x)) then 5 else 0
theorem abe (w:World) (F:Foot) (v1 v2:Value) (l1 l2:List Nat) (h1:Aj w F v1 l1) (h2:Aj w F v2 l2) (hl1:l1.length < 1000000) (hl2:l2.length < 1000000) :
  Calls Tryz.prog 57 #[v1,v2] w fun e w'=>e = .returned (.bool (decide (l1=l2)))∧∃ n,w'=w.drewN n:=by
 obtain⟨A1,c1,rfl,hc1,r1⟩:=h1;obtain⟨A2,c2,rfl,hc2,r2⟩:=h2;by_cases hl:l1.length=l2.length
 ·have R1:=Ag r1;clear r1;have R2:=Ag r2;clear r2;have HL:=Ag hl;have hb:((l1.length:Int) != (l2.length:Int))=false:=by simp[hl]
  clear hl;go_in;go_wp2
  go_loopw [5] (fun i wr=>∃ k:Nat,k≤l1.length∧i = .int .i64 k∧l1.take k=l2.take k∧∃ n,wr=w.drewN n) (fun i _=>l1.length - (intOf i).toNat)
  case atStart=>exact⟨0,byOmega,rfl,aB,0,rfl⟩
  case round =>
   obtain⟨k,hk,rfl,hpre,n,rfl⟩:=hrel;have HP:=Ag hpre;clear hpre;by_cases hlt:k < l1.length
   ·obtain⟨b1,o1,rfl,hb1,_,hcell1⟩:=R1.out byOmega;have hk2:k < l2.length:=by have:=HL.out;omega
    obtain⟨b2,o2,rfl,hb2,_,hcell2⟩:=R2.out byOmega;obtain⟨x,hx⟩:=getSome hlt;obtain⟨y,hy⟩:=getSome hk2;have e1:=hcell1 k x hx;have e2:=hcell2 k y hy;unfold dB at e1 e2;rw[Nat.mul_one] at e1 e2;clear hcell1 hcell2;have HX:=Ag hx;clear hx;have HY:=Ag hy;clear hy;by_cases he:x=y
    ·subst he;go_wp2
     go_quiet (fail)
     go_wp2
     go_roundw
     case rel=>exact⟨k+1,byOmega,by go_num,kW HX.out HY.out HP.out,_,rfl⟩
     case measure=>simp[intOf]; omega
    ·have hne:((x:Int) != (y:Int))=true:=aF;have hfin:decide (l1=l2)=false:=by
      exact zbZ
     exact zbl
   ·go_wp2
    go_ret;have:k=l1.length:=byOmega;have h3:=HP.out;have h4:=HL.out;refine⟨?_,_,rfl⟩;have h5:l1=l2:=by
     exact Ym
    simp[h5]
 ·have hb:((l1.length:Int) != (l2.length:Int))=true:=aF;go_in;go_wp2
  go_ret;refine⟨?_,0,rfl⟩;have:l1≠l2:=by rintro rfl;exact hl rfl
  simp[this]
theorem uK (w:World) (F:Foot) (v1 v2:Value) (l1 l2:List Nat) (h1:Aj w F v1 l1) (h2:Aj w F v2 l2) (hl1:l1.length < 1000000) (hl2:l2.length < 1000000) :
  Calls Tryz.prog 57 #[v1,v2] w (Ret w fun v _=>v = .bool (decide (l1=l2))):=by
 refine(abe w F v1 v2 l1 l2 h1 h2 hl1 hl2).mono ?_;rintro e w' ⟨rfl,n,rfl⟩;exact⟨_,rfl,aI (Below.refl _ w) _,rfl⟩
theorem akL (x:Rat):mkRat (sgI (!dF x) x.num.natAbs) x.den = -x:=by
 have h:sgI (!dF x) x.num.natAbs = -sgI (dF x) x.num.natAbs:=by
  unfold sgI;cases dF x <;> simp
 rw[h,← Rat.neg_mkRat,rO]
theorem aiC (w:World) (F:Foot) (v:Value) (x:Rat) (hv:NmV w F v x) (hl:rl x≤100000) :
  Calls Tryz.prog 129 #[v] w (Ret w fun u w'=>NmV w' F u (-x)):=by
 have ln:=gJ x; have ld:=gK x;obtain⟨A,c,B,d,rfl,hn,hd⟩:=hv.open;have HN:=Ag (show Ah w F (.slice A (au x).num.length c) x.num.natAbs from hn);have HD:=Ag hd;have HW:=Ag (show(au x).neg=dF x from rfl);have HL:=Ag (show(au x).den=dig x.den∨((au x).den = []∧x.den=1) by
  unfold au;by_cases h:x.den=1
  ·exact .inr ⟨if_pos h,h⟩
  ·exact .inl (if_neg h))
 have HLL:=Ag (show(au x).den.length≤1000000 by
  rcases HL.out with h | ⟨h,_⟩
  ·rw[h];omega
  ·rw[h]; simp)
 clear hn hd hv;go_in;go_wp2_with fail
 obtain⟨W2,hW2,hb1,hr2,hB2,hz2⟩:=alloc2 w 114 #[.bool (au x).neg,.slice A (au x).num.length c,.slice B (au x).den.length d] 114 #[.bool false,.slice none 0 0,.slice none 0 0];rw[← hW2];clear hW2;have x0:=hb1.cell (i:=0) rfl;have x1:=hb1.cell (i:=1) rfl;have x2:=hb1.cell (i:=2) rfl;go_wp2_with fail
 refine(ou W2 (Old F w.heap.size) _ _ _ x.num.natAbs x.den (au x).den (Ah.below (n:=x.num.natAbs) HN.out.old hB2) (Aj.on HD.out.old (Below.same' hB2 _)) HL.out x.den_nz (iH x) HLL.out).mono ?_;rintro e w3 ⟨u,rfl,hb3,hu⟩;rw[HW.out,akL] at hu;have HU:=Ag hu;obtain⟨A',c',B',d',rfl,hn',hd'⟩:=hu.open;clear hn' hd' hu x0 x1 x2 hb1;have hr3:=hr2.below hb3 hr2.lt;have hB3:=hB2.trans (hb3.mono hB2.size);clear hb3 hr2 hB2 hz2;dsimp only;have q0:=hr3.cell (i:=0) rfl;have y0:=hr3.frozen 0;have q1:=hr3.cell (i:=1) rfl;have y1:=hr3.frozen 1;have q2:=hr3.cell (i:=2) rfl;have y2:=hr3.frozen 2;go_wp2
 obtain⟨Wz,hWz,hrz,hwz,hkz⟩:=bW hr3 (.bool (au (-x)).neg) (.slice A' (au (-x)).num.length c') (.slice B' (au (-x)).den.length d');refine Zj ?_;clear hWz q0 q1 q2 y0 y1 y2;intro t0 t1 t2;refine bodyPost_ret (v:=.agg #[.bool (au (-x)).neg,.slice A' (au (-x)).num.length c',.slice B' (au (-x)).den.length d']) (by simp[results,Tryz.results129,go_sem,t0,t1,t2]) rfl ?_;exact zbT
theorem aiD (w:World) (F:Foot) (va vb:Value) (x y:Rat) (ha:NmV w F va x) (hb:NmV w F vb y) (hlx:rl x≤20000) (hly:rl y≤20000) :
  Calls Tryz.prog 79 #[va,vb] w (Ret w fun v w'=>NmV w' (Ext F w.heap.size) v (x - y)):=by
 have HLN:=Ag (show rl (-y)≤20000 by rw[ah5]; exact hly);refine zb8 ?_;intro HX HY;obtain⟨A,c,B,d,rfl,hn,hd⟩:=ha.open;obtain⟨A',c',B',d',rfl,hn',hd'⟩:=hb.open;clear hn hd hn' hd' ha hb;go_in;go_wp2_with fail
 refine Ze ?_;clear HX HY;intro W rx ry rz hB hz HX HY;refine Zx ?_;intro hz x0 x1 x2 y0 y1 y2;clear rx ry;refine aX (fun w'=>w'.cell? ⟨w.heap.size,0,none⟩=some (.bool (au x).neg)∧w'.cell? ⟨w.heap.size,1,none⟩=some (.slice A (au x).num.length c)∧w'.cell? ⟨w.heap.size,2,none⟩=some (.slice B (au x).den.length d)∧w'.cell? ⟨w.heap.size+1,0,none⟩=some (.bool (au y).neg)∧w'.cell? ⟨w.heap.size+1,1,none⟩=some (.slice A' (au y).num.length c')∧w'.cell? ⟨w.heap.size+1,2,none⟩=some (.slice B' (au y).den.length d')) 4 1 ah rfl ah ?_;refine ZP ?_;intro hHeld hb;clear x0 x1 x2 y0 y1 y2 HX HY;intro x0 x1 x2 y0 y1 y2 HX HY;refine ZC ?_;clear rz hz hB hb;intro rz hz hB;generalize W.drew=wn at *;refine tkm [0,1] ?_;refine tk2 2 ah rfl fun K hK=>?_
 go_simp;refine(aiC wn _ _ y HY.out byOmega).mono ?_;rintro e wn ⟨vn,rfl,hb,hu⟩;have HM:=Ag hu;obtain⟨Am,cm,Bm,dm,rfl,hn,hd⟩:=hu.open;clear hn hd hu;refine Za ?_;clear x0 x1 x2 y0 y1 y2 HX HY;intro x0 x1 x2 y0 y1 y2 HX HY;refine Z7 ?_;clear rz hz hB hb hHeld hK K;intro rz hz hB hHeld;refine tk2 3 ah rfl fun K hK=>?_
 go_simp;refine(aaA wn _ _ _ x (-y) HX.out HM.out hlx HLN.out).mono ?_;rintro e wn ⟨vn,rfl,hb,hu⟩;obtain⟨r,hr⟩:=named (x - y);rw[← Rat.sub_eq_add_neg,← hr] at hu;have HR:=Ag hr;have HS:=Ag (hu.mono (G:=Ext (Old F w.heap.size) (w.heap.size+3)) (fun b hb _=>hb.elim .inl fun h=>.inr byOmega));obtain⟨Ar,cr,Br,dr,rfl,hn,hd⟩:=hu.open;clear hn hd hu hr;refine Za ?_;clear x0 x1 x2 y0 y1 y2 HX HY;intro x0 x1 x2 y0 y1 y2 HX HY;replace HM:=Ag (HM.out.below hb);refine Z7 ?_;clear rz hz hB hb hHeld hK K;intro rz hz hB hHeld;refine Zw ?_;clear hHeld;clear x0 x1 x2 y0 y1 y2;refine Zn ?_;intro q0 y0 q1 y1 q2 y2;go_wp2
 refine Yb ?_;go_wp2
 obtain⟨Wz,hWz,hrz,hwz,hkz⟩:=bW rz (.bool (au r).neg) (.slice Ar (au r).num.length cr) (.slice Br (au r).den.length dr);refine Zj ?_;clear hWz q0 q1 q2 y0 y1 y2;intro t0 t1 t2;refine bodyPost_ret (v:=.agg #[.bool (au r).neg,.slice Ar (au r).num.length cr,.slice Br (au r).den.length dr]) (by simp[results,Tryz.results79,go_sem,t0,t1,t2]) rfl ?_;exact⟨_,rfl,hwz _ _ byOmega hB,by rw[← HR.out]; exact HS.out.keep (fun b hb _=>hb.elim (fun h=>.inl h.1) fun h=>.inr byOmega) (hkz _ (fun h=>h.elim (fun h=>by have:=h.2; omega) fun h=>by omega))⟩
theorem inv_mul (x y:Value) (w:World):(invoke (.fn (.method "Mul") #[]) #[.iface 114 x,y]).run Tryz.prog w = .ok (.enter 109 #[x,y]) w:=ah
theorem ajT (x y:Value) (w:World):(invoke (.fn (.method "Add") #[]) #[.iface 114 x,y]).run Tryz.prog w = .ok (.enter 108 #[x,y]) w:=ah
theorem afw (w:World) (F:Foot) (va vb:Value) (sb tb:Nat) (x y s t:Rat) (As Bs Au Bu:Option Addr) (cs ds cu du:Nat) (ha:NmV w F va x) (hb:NmV w F vb y)
  (hs:Row w sb 114 [.bool (au s).neg,.slice As (au s).num.length cs,.slice Bs (au s).den.length ds]) (hsv:NmV w F (.agg #[.bool (au s).neg,.slice As (au s).num.length cs,.slice Bs (au s).den.length ds]) s)
  (ht:Row w tb 114 [.bool (au t).neg,.slice Au (au t).num.length cu,.slice Bu (au t).den.length du]) (htv:NmV w F (.agg #[.bool (au t).neg,.slice Au (au t).num.length cu,.slice Bu (au t).den.length du]) t)
  (hlx:rl x≤5000) (hly:rl y≤5000) (hls:rl s≤5000) (hlt:rl t≤5000) :
  Calls Tryz.prog 127 #[va,vb,.pointer (some ⟨sb,0,none⟩),.pointer (some ⟨tb,0,none⟩)] w (Ret w fun u w'=>NmV w' (Ext F w.heap.size) u (x*s+y*t)):=by
 have HSV:=Ag hsv.old;have HTV:=Ag htv.old;have s0:=hs.cell (i:=0) rfl;have s1:=hs.cell (i:=1) rfl;have s2:=hs.cell (i:=2) rfl;have t0:=ht.cell (i:=0) rfl;have t1:=ht.cell (i:=1) rfl;have t2:=ht.cell (i:=2) rfl;have hm1:=qj x s;have hm2:=qj y t;have hiM:=inv_mul;have hiA:=ajT;clear hs ht hsv htv;refine zb8 ?_;intro HX HY;obtain⟨A,c,B,d,rfl,hn,hd⟩:=ha.open;obtain⟨A',c',B',d',rfl,hn',hd'⟩:=hb.open;clear hn hd hn' hd' ha hb;go_in;go_wp2_with fail
 refine Ze ?_;clear HX HY;intro W rx ry rz hB hz HX HY;refine Zx ?_;intro hz x0 x1 x2 y0 y1 y2;clear rx ry;replace s0:=ak s0 hB;replace s1:=ak s1 hB;replace s2:=ak s2 hB;replace t0:=ak t0 hB;replace t1:=ak t1 hB;replace t2:=ak t2 hB;replace HSV:=Ag (HSV.out.on (Below.same' hB _));replace HTV:=Ag (HTV.out.on (Below.same' hB _));refine aX (fun w'=>w'.cell? ⟨w.heap.size,0,none⟩=some (.bool (au x).neg)∧w'.cell? ⟨w.heap.size,1,none⟩=some (.slice A (au x).num.length c)∧w'.cell? ⟨w.heap.size,2,none⟩=some (.slice B (au x).den.length d)∧w'.cell? ⟨w.heap.size+1,0,none⟩=some (.bool (au y).neg)∧w'.cell? ⟨w.heap.size+1,1,none⟩=some (.slice A' (au y).num.length c')∧w'.cell? ⟨w.heap.size+1,2,none⟩=some (.slice B' (au y).den.length d')∧w'.cell? ⟨sb,0,none⟩=some (.bool (au s).neg)∧w'.cell? ⟨sb,1,none⟩=some (.slice As (au s).num.length cs)∧w'.cell? ⟨sb,2,none⟩=some (.slice Bs (au s).den.length ds)∧w'.cell? ⟨tb,0,none⟩=some (.bool (au t).neg)∧w'.cell? ⟨tb,1,none⟩=some (.slice Au (au t).num.length cu)∧w'.cell? ⟨tb,2,none⟩=some (.slice Bu (au t).den.length du)) 10 1 ah rfl ah ?_;have hHeld:(fun w':World=>w'.cell? ⟨w.heap.size,0,none⟩=some (.bool (au x).neg)∧w'.cell? ⟨w.heap.size,1,none⟩=some (.slice A (au x).num.length c)∧w'.cell? ⟨w.heap.size,2,none⟩=some (.slice B (au x).den.length d)∧w'.cell? ⟨w.heap.size+1,0,none⟩=some (.bool (au y).neg)∧w'.cell? ⟨w.heap.size+1,1,none⟩=some (.slice A' (au y).num.length c')∧w'.cell? ⟨w.heap.size+1,2,none⟩=some (.slice B' (au y).den.length d')∧w'.cell? ⟨sb,0,none⟩=some (.bool (au s).neg)∧w'.cell? ⟨sb,1,none⟩=some (.slice As (au s).num.length cs)∧w'.cell? ⟨sb,2,none⟩=some (.slice Bs (au s).den.length ds)∧w'.cell? ⟨tb,0,none⟩=some (.bool (au t).neg)∧w'.cell? ⟨tb,1,none⟩=some (.slice Au (au t).num.length cu)∧w'.cell? ⟨tb,2,none⟩=some (.slice Bu (au t).den.length du)) W.drew:=⟨x0,x1,x2,y0,y1,y2,s0,s1,s2,t0,t1,t2⟩;refine Zq ?_;refine zao ?_;intro hb;refine ZO ?_;clear x0 x1 x2 y0 y1 y2 s0 s1 s2 t0 t1 t2 HX HY HSV HTV;intro x0 x1 x2 y0 y1 y2 s0 s1 s2 t0 t1 t2 HX HY HSV HTV;refine ZC ?_;clear rz hz hB hb;intro rz hz hB;generalize W.drew=wn at *;refine tkm [0,1,2,5,6,7] ?_;refine tk2 3 ah rfl fun K hK=>?_
 go_simp;refine(wK wn (Ext (Old F w.heap.size) (w.heap.size+3)) _ _ x s (HX.out.mono (fun b hb _=>.inl hb)) (HSV.out.mono (fun b hb _=>.inl hb)) byOmega byOmega).mono ?_;rintro e wn ⟨vn,rfl,hb,hu⟩;obtain⟨p,hp⟩:=named (x*s);rw[← hp] at hu;have HEp:=Ag hp;have HP:=Ag (hu.mono (G:=(Ext (Old F w.heap.size) (w.heap.size+3))) (fun b hb _=>hb.elim id fun h=>.inr byOmega));obtain⟨Ap,cp,Bp,dp,rfl,hn,hd⟩:=hu.open;clear hn hd hu hp;refine ZO ?_;clear x0 x1 x2 y0 y1 y2 s0 s1 s2 t0 t1 t2 HX HY HSV HTV;intro x0 x1 x2 y0 y1 y2 s0 s1 s2 t0 t1 t2 HX HY HSV HTV;refine zce ?_;clear rz hz hB hb hHeld hK K;intro rz hz hB hHeld;refine tkm [4] ?_;refine tk2 8 ah rfl fun K hK=>?_
 go_simp;refine(wK wn (Ext (Old F w.heap.size) (w.heap.size+3)) _ _ y t (HY.out.mono (fun b hb _=>.inl hb)) (HTV.out.mono (fun b hb _=>.inl hb)) byOmega byOmega).mono ?_;rintro e wn ⟨vn,rfl,hb,hu⟩;obtain⟨q,hq⟩:=named (y*t);rw[← hq] at hu;have HEq:=Ag hq;have HQ:=Ag (hu.mono (G:=(Ext (Old F w.heap.size) (w.heap.size+3))) (fun b hb _=>hb.elim id fun h=>.inr byOmega));obtain⟨Aq,cq,Bq,dq,rfl,hn,hd⟩:=hu.open;clear hn hd hu hq;refine ZO ?_;clear x0 x1 x2 y0 y1 y2 s0 s1 s2 t0 t1 t2 HX HY HSV HTV;intro x0 x1 x2 y0 y1 y2 s0 s1 s2 t0 t1 t2 HX HY HSV HTV;replace HP:=Ag (HP.out.below hb);refine zce ?_;clear rz hz hB hb hHeld hK K;intro rz hz hB hHeld;refine tk2 9 ah rfl fun K hK=>?_
 go_simp;refine(aaA wn (Ext (Old F w.heap.size) (w.heap.size+3)) _ _ p q HP.out HQ.out (by rw[HEp.out]; omega) (by rw[HEq.out]; omega)).mono ?_;rintro e wn ⟨vn,rfl,hb,hu⟩;obtain⟨r,hr⟩:=named (p+q);rw[← hr] at hu;have HEr:=Ag hr;have HR:=Ag (hu.mono (G:=(Ext (Old F w.heap.size) (w.heap.size+3))) (fun b hb _=>hb.elim id fun h=>.inr byOmega));obtain⟨Ar,cr,Br,dr,rfl,hn,hd⟩:=hu.open;clear hn hd hu hr;refine ZO ?_;clear x0 x1 x2 y0 y1 y2 s0 s1 s2 t0 t1 t2 HX HY HSV HTV;intro x0 x1 x2 y0 y1 y2 s0 s1 s2 t0 t1 t2 HX HY HSV HTV;replace HP:=Ag (HP.out.below hb);replace HQ:=Ag (HQ.out.below hb);refine zce ?_;clear rz hz hB hb hHeld hK K;intro rz hz hB hHeld;refine Zw ?_;clear hHeld;clear x0 x1 x2 y0 y1 y2 s0 s1 s2 t0 t1 t2 hiM hiA;refine Zn ?_;intro q0 y0 q1 y1 q2 y2;go_wp2
 refine Yb ?_;go_wp2
 obtain⟨Wz,hWz,hrz,hwz,hkz⟩:=bW rz (.bool (au r).neg) (.slice Ar (au r).num.length cr) (.slice Br (au r).den.length dr);refine Zj ?_;clear hWz q0 q1 q2 y0 y1 y2;intro t0 t1 t2;refine bodyPost_ret (v:=.agg #[.bool (au r).neg,.slice Ar (au r).num.length cr,.slice Br (au r).den.length dr]) (by simp[results,Tryz.results127,go_sem,t0,t1,t2]) rfl ?_;exact⟨_,rfl,hwz _ _ byOmega hB,by rw[← HEp.out,← HEq.out,← HEr.out]; exact HR.out.keep (fun b hb _=>hb.elim (fun h=>.inl h.1) fun h=>.inr byOmega) (hkz _ (fun h=>h.elim (fun h=>by have:=h.2; omega) fun h=>by omega))⟩
def D9 (F:Foot) (n:Nat) (s t:Rat) (u:Value) (w':World):Prop:=∃ As cs Bs ds Au cu Bu du,u = .func (.func 127) #[] #[.pointer (some ⟨n,0,none⟩),.pointer (some ⟨n+1,0,none⟩)] ∧
   Row w' n 114 [.bool (au s).neg,.slice As (au s).num.length cs,.slice Bs (au s).den.length ds]∧NmV w' F (.agg #[.bool (au s).neg,.slice As (au s).num.length cs,.slice Bs (au s).den.length ds]) s ∧
   Row w' (n+1) 114 [.bool (au t).neg,.slice Au (au t).num.length cu,.slice Bu (au t).den.length du]∧NmV w' F (.agg #[.bool (au t).neg,.slice Au (au t).num.length cu,.slice Bu (au t).den.length du]) t
theorem ahf (w:World) (F:Foot) (vs vt:Value) (s t:Rat) (hs:NmV w F vs s) (ht:NmV w F vt t) :
  Calls Tryz.prog 77 #[vs,vt] w (Ret w (D9 F w.heap.size s t)):=by
 have HS:=Ag hs;have HT:=Ag ht;obtain⟨A,c,B,d,rfl,-,-⟩:=hs.open;obtain⟨A',c',B',d',rfl,-,-⟩:=ht.open;clear hs ht;go_in
 go_upto_region 1 with(fail)
 obtain⟨W,hW,rx,ry,hB,hz⟩:=alloc2 w 114 #[.bool (au s).neg,.slice A (au s).num.length c,.slice B (au s).den.length d] 114 #[.bool (au t).neg,.slice A' (au t).num.length c',.slice B' (au t).den.length d'];rw[← hW];clear hW;have AL:=Ag (And.intro hB (And.intro rx (And.intro (HS.out.on (Below.same' hB _)) (And.intro ry (HT.out.on (Below.same' hB _))))));clear rx ry hB hz;go_wp2
 go_ret;exact⟨_,rfl,AL.out.1,A,c,B,d,A',c',B',d',rfl,AL.out.2.1,AL.out.2.2.1,AL.out.2.2.2.1,AL.out.2.2.2.2⟩
end Go.Proofs.YtnmeejofpkhlkaaGreatDoor

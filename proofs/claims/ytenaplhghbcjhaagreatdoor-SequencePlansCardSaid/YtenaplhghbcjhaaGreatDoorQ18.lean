import Derived.Test.YtenaplhghbcjhaaGreatDoorQ17
import Derived.Test.YtenaplhghbcjhaaGreatDoorQ14
set_option linter.all false
set_option maxRecDepth 100000
set_option maxHeartbeats 0
namespace Go.Proofs.YtenaplhghbcjhaaGreatDoor
open _root_.Array renaming getD_eq_getD_getElem?->Ia
open Go.RowKit.Below renaming refl->GR
open Below renaming same'->GL
open Bool renaming and_eq_true->Ib
open Go.IntKind renaming i64->GU
open Go renaming Value->GN,World->GK
open Go.Value renaming bool->G7,int->GV,slice->Gw
open List renaming all_eq_true->Jz,erase_cons_head->Lu,map_append->Hf,map_cons->Ju,mem_cons_of_mem->Iz,mem_of_mem_erase->IZ,range->Ig,replicate->GX
open Nat renaming eq_zero_or_pos->H6,gcd->Hr,gcd_le_right->Kw,gcd_pos_of_pos_right->Jw,le_refl->Gy,le_trans->He,mul_assoc->KJ,mul_le_mul_right->II,mul_one->Ho,ne_of_gt->Lj,pow_succ->Ll
open Go.Region renaming noSelect->Jp,ready->H8
open Go.Proofs.Tryz renaming prog->GI,results40->J9,results42->KN
open Go.World renaming alloc->G5
open Go.RowKit
variable {a:Act} {listed:Array Bool} {E js:List Nat} {B fuel i j k n:Nat} {t:TypeId}
theorem ah {w w':GK} {b o:Nat} {v:GN} (h:w.cell? ⟨b,o,none⟩=some v) (hb:Below w.heap.size w w'):w'.cell? ⟨b,o,none⟩=some v :=
 (hb.cell (p:=⟨b,o,none⟩) (World.block_lt_of_cell? w _ h)).trans h
structure Fact where
 p:GN->GK->Prop
 keep:∀ v w w',p v w->Below w.heap.size w w'->p v w'
def Fact.tt:Fact:=⟨λ_ _=>True,λ_ _ _ h _=>h⟩
def Fact.eq (u:GN):Fact:=⟨λv _=>v=u,λ_ _ _ h _=>h⟩
def Fact.nat (F:Gq) (n:Nat):Fact:=⟨λv w=>Ah w F v n,λ_ _ _ h hb=>h.below hb⟩
def Fact.raw (F:Gq) (r:Raw):Fact:=⟨λv w=>Ak w F v r,λ_ _ _ h hb=>h.below hb⟩
structure Hold where
 p:GK->Prop
 keep:∀ w w',p w->Below w.heap.size w w'->p w'
def Hold.cell (b o:Nat) (v:GN):Hold:=⟨λw=>w.cell? ⟨b,o,none⟩=some v,λ_ _ h hb=>ah h hb⟩
def Hold.of (f:Fact) (v:GN):Hold:=⟨λw=>f.p v w,λw w' h hb=>f.keep v w w' h hb⟩
def Hold.and (a b:Hold):Hold:=⟨λw=>a.p w/\b.p w,λw w' h hb=>⟨a.keep w w' h.1 hb,b.keep w w' h.2 hb⟩⟩
def Hold.below (B:Nat) (w0:GK):Hold:=⟨λw=>B<=w.heap.size/\Below B w0 w,λw _ h hb=>⟨He h.1 hb.size,h.2.trans (hb.mono h.1)⟩⟩
def facts (l:List (Nat×Fact)) (i:Nat) (v:GN) (w:GK):Prop:=((l.lookup i).getD Fact.tt).p v w
theorem ah3 (l:List (Nat×Fact)) (i:Nat) (v:GN) (w w':GK) (h:facts l i v w) (hb:Below w.heap.size w w'):facts l i v w':=Fact.keep _ _ _ _ h hb
theorem aj7 {l:List (Nat×Fact)} {v:GN} {w:GK} {f:Fact} (h:facts l i v w) (hl:(l.lookup i).getD Fact.tt=f):f.p v w:=by rw[<-hl]; exact h
theorem aX {l:List (Nat×Fact)} {v:GN} {w:GK} {f:Fact} (h:facts l i v w) (hl:l.lookup i=some f):f.p v w:=aj7 h (by rw[hl]; rfl)
section
variable {P:Program} {ops:Array Oper} {Q:Exit->Act->GK->Prop}
theorem jH {w:GK} {S:GK->Prop} (H:Hold) (l:List (Nat×Fact)) (hok:alM ops listed js fuel=true)
  (hH:H.p w) (hHS:∀ w,H.p w->S w)
  (h:Flow P .any ops Q H.p (λw w'=>Below w.heap.size w w') (facts l) js [] a):wpAnyH P .any ops Q S fuel listed a w :=
 sW hHS (agz H.p 0 (facts l) hok hH (Nat.zero_le _) (λw w' _ h hb=>H.keep w w' h hb) (ah3 l) (h.hold λ_ h=>h.2))
end
def Fh (a b:Nat) (v:GN):Prop:=∃ M p q:Nat,v = .tuple #[GV GU (p:Int),GV GU (q:Int)]/\0 < M/\p=a / M/\q=b / M/\p < 1000000000000000000
theorem lead_any (w:GK) (F:Gq) (va vb:GN) (a b:Nat) (ha:Ah w F va a) (hb:Ah w F vb b) (hba:b<=a) (hl3:3<=(dig a).length) (hla:(dig a).length<=100000) :
  Calls GI 173 #[va,vb] w (Ret w λv _=>Fh a b v):=by
 have HA:=Ag ha;have HB:=Ag hb;obtain⟨A,c,rfl,hc,hNa⟩:=ha;obtain⟨n,hn⟩:=Gp ((dig a).length);refine zcM ?_;intro n1 hn1;obtain⟨bk,o,rfl,_,hbk,hx⟩:=hNa FI;obtain⟨x,hx'⟩:=Gl (l:=dig a) (k:=n1) FI;have ex:=hx n1 x hx';unfold bY at ex;rw[Ho] at ex;have hxl:x < 1000000000:=(aO a).get hx';have hx1:1<=x:=by
  have h1:=uG a;rw[List.getLast?_eq_getElem?,show(dig a).length - 1=n1 by omega,hx'] at h1;rcases H6 x with h | h
  ·exact absurd (by rw[h]) h1
  ·exact h
 have hlb:=aV hba;rw[<-hn] at hc hl3 hla hlb ⊢;replace HA:=Ag (show Ah w F (Gw (some ⟨bk,o,none⟩) n c) a by rw[hn]; exact HA.o);have HX:=Ag (show(dig a).getD (n - 1) 0=x by rw[show n - 1=n1 by omega]; exact aJ hx');have HN:=Ag hn;have i1:(n:Int) - 1=(n1:Int):=FI;have hn1l:n1 < n:=FI;clear hx hx' hNa hb hn hn1;go_in;go_wp2_with fail
 have hl0:w.heap.size < w.heap.size+1+1:=FI;go_loopw [] (λwr=>∃ i T:Nat,10 ^ i*T=LB/\i<=9/\x*10 ^ i < LB/\Row wr w.heap.size 3 [GV GU (n:Int)]/\Row wr (w.heap.size+1) 136 [.int .u64 ((10 ^ i:Nat):Int)]/\Below w.heap.size w wr) (λwr=>(match wr.cell? ⟨w.heap.size+1,0,none⟩ with | some v=>LB - (intOf v).toNat | none=>0))
 case atStart =>
  refine⟨0,LB,aA,FI,by simpa using hxl,?_,?_,?_⟩
  ·exact(Row.new w 3 #[GV GU (n:Int)]).alloc _
  ·have h:=Row.new (w.alloc (.cells #[GV GU (n:Int)] 3)) 136 #[.int .u64 1];simpa using h
  ·exact((GR _ _).alloc (Gy _) _).alloc aA _
 case round =>
  obtain⟨i,T,hT,hi,hxi,hr0,hr1,hbel⟩:=hrel;have ex':=(aK hbel bk (o+n1) hbk).trans ex;have e0:=hr0.cell (i:=0) rfl;have e1:=hr1.cell (i:=0) rfl;have y1:=hr1.frozen 0;obtain⟨t,ht⟩:=Gp (10 ^ i);have HT:=Ag (show t=10 ^ i/\t*T=LB from⟨ht,by rw[ht]; exact hT⟩);rw[<-ht] at hxi e1 hr1 hT;have HXI:=Ag hxi;have ht1:1<=t:=by rw[ht];exact Nat.pow_pos au
  have htl:t<=1000000000:=by
   have:1*t<=x*t:=II _ hx1;unfold LB at hxi;omega
  obtain⟨p,hp⟩:=Gp (x*t);have hpI:(x:Int)*(t:Int)=(p:Int):=by rw[hp,Int.natCast_mul]
  have hpl:p < 1000000000:=by rw[hp];exact hxi
  have hpt:t<=p:=by
   have:1*t<=x*t:=II _ hx1;omega
  have HP:=Ag hp;clear ht hT hxi hp;by_cases hcd:p*10 < 1000000000
  ·have hd:decide ((p:Int)*10 < 1000000000)=true:=LK FI;have ht10:t*10 < 1000000000:=FI;have hi9:i < 9:=by
    rcases Nat.lt_or_ge i 9 with h | h
    ·exact h
    ·have h2:10 ^ 9<=10 ^ i:=Nat.pow_le_pow_right au h;have h3:=HT.o.1;have h4:(10:Nat) ^ 9=1000000000:=au;omega
   have HI1:=Ag (show 10 ^ (i+1)=t*10 by rw[Ll,<-HT.o.1]);have hT10:=Ag (show t*10*(T / 10)=LB by
    have h1:=HT.o.2;have h2:10 ∣ T:=by
     have h3:T=10 ^ (9 - i):=by
      have h4:10 ^ i*10 ^ (9 - i)=LB:=by rw[<-Nat.pow_add,show i+(9 - i)=9 by omega]
      rw[HT.o.1] at h1;exact Nat.eq_of_mul_eq_mul_left (Nat.pow_pos au) (h1.trans h4.symm)
     rw[h3,show 9 - i=(9 - i - 1)+1 by omega,Ll];exact⟨_,Nat.mul_comm _ _⟩
    obtain⟨q,hq⟩:=h2;rw[hq,Nat.mul_div_cancel_left _ au,KJ,<-hq]; exact h1)
   have HX10:=Ag (show x*(t*10) < LB by rw[<-KJ,<-HP.o]; exact hcd);go_wp2
   go_quiet (fail)
   go_wp2
   go_roundw
   case rel =>
    refine⟨i+1,T / 10,by rw[HI1.o]; exact hT10.o,FI,by rw[HI1.o]; exact HX10.o,?_,?_,?_⟩
    ·exact(hr0.dN _).other (a:=⟨w.heap.size+1,0,none⟩) aA _
    ·rw[HI1.o];have h:=(hr1.dN nq).set 0 (.int .u64 ((t*10:Nat):Int));simpa using h
    ·exact(aG hbel nq).setCell (p:=⟨w.heap.size+1,0,none⟩) aA _
   case measure =>
    have h1:=((hr1.dN nq).set 0 (.int .u64 ((t:Int)*10))).cell (i:=0) rfl;rw[h1,e1];simp only[intOf];unfold LB;omega
  ·have hd:decide ((p:Int)*10 < 1000000000)=false:=LJ FI;go_wp2
   go_quiet (fail)
   go_wp2_with fail
   have hB1:=aG hbel nq;have e0d:(wr.drewN nq).cell? ⟨w.heap.size,0,none⟩=some (GV GU (n:Int)):=e0;have e1d:(wr.drewN nq).cell? ⟨w.heap.size+1,0,none⟩=some (.int .u64 (t:Int)):=e1;obtain⟨wq,hwq⟩:∃ W:GK,W=wr.drewN nq:=⟨_,rfl⟩;rw[<-hwq] at hB1 e0d e1d ⊢;clear hwq e0 e1;have HTT:=HT.o.2;have hxt:(dig a).getD (n - 1) 0*t < LB:=by rw[HX.o];exact HXI.o
   have hla2:(dig a).length=n:=HN.o.symm;have anp:=am9 hla2 hl3 HTT (aO a) hxt;have HM:=Ag (show 0 < LB ^ (n - 3)*T by
    refine Nat.mul_pos (BK _) ?_;rcases H6 T with h | h
    ·rw[h,Nat.mul_zero] at HTT;cases HTT
    ·exact h)
   have hltb:aF (dig b) / (LB ^ (n - 3)*T) < 1000000000000000000:=by
    refine Nat.lt_of_le_of_lt ?_ anp;rw[aZ,aZ];exact Nat.div_le_div_right FI
   refine(aen _ F _ (dig a) n t T _ _ (HA.o.below hB1) (aO a) FI hl3 hla HTT e0d e1d anp).mono ?_;rintro e w1 ⟨_,rfl,hb1,rfl⟩;have e0':=ah e0d hb1;have e1':=ah e1d hb1;dsimp only;go_wp2_with fail
   refine(aen _ F _ (dig b) n t T _ _ ((HB.o.below hB1).below hb1) (aO b) FI hl3 hla HTT e0' e1' hltb).mono ?_;rintro e w2 ⟨_,rfl,hb2,rfl⟩;rw[aZ,aZ];rw[aZ] at anp;dsimp only;go_wp2
   go_ret2;exact⟨_,rfl,hB1.trans ((hb1.trans (hb2.mono hb1.size)).mono hB1.size),_,_,_,rfl,HM.o,rfl,rfl,anp⟩
theorem enters' {f:FuncId} {fn:Func} (hf:Tryz.prog.funcs[f]? = some fn) (hn:(fn.name == "runtime.NumGoroutine")=false) (hb:fn.body.isNone=false) (args:Array GN) (w:GK):(callFunc f args).run GI w = .ok (.enter f args) w:=by
 have h1:fn.name ≠ "runtime.NumGoroutine" := by simpa using hn
 obtain⟨b,hb⟩:∃ b,fn.body=some b:=by cases h:fn.body <;> simp_all
 simp[callFunc,hf,h1,hb,Sem.run]
theorem aj8 {α:Type} {xs:List α} {f:α->Raw} {L:List RV} {x:α} {q:RV} (hL:L.map RV.r=(xs.take k).map f) (hx:xs[k]? = some x) (hq:q.r=f x):(L ++ [q]).map RV.r=(xs.take (k+1)).map f:=by rw[Hf,hL,Gv hx,Hf,Ju,Ju,hq]; rfl
theorem alN {L:List RV} {q:RV} (hl:L.length=k) (hk:k < n):(L++GX (n - k) rv0).set k q=(L ++ [q])++GX (n - (k+1)) rv0:=by
 rw[show n - k=(n - (k+1))+1 by omega,List.replicate_succ];subst hl;simp
open List renaming getElem_toArray → lq1, getElem_cons_zero → lq2, getElem_cons_succ → lq3, setIfInBounds_toArray → lq4, set_cons_zero → lq5, set_cons_succ → lq6
theorem aj9 (w:GK) (F:Gq) (va vb:GN) (x y:Rat) (ha:NmV w F va x) (hb:NmV w F vb y) (hlx:rl x<=20000) (hly:rl y<=20000) (hx0:x≠0) (hy0:y≠0) :
  Calls GI 26 #[va,vb] w (Ret w λv w'=>NmV w' (Ext F w.heap.size) v (x*y)):=by
 refine zdf ?_;intro HX HY;obtain⟨A,c,B,d,rfl,hn,hd⟩:=ha.open;obtain⟨A',c',B',d',rfl,hn',hd'⟩:=hb.open;clear hn hd hn' hd' ha hb;refine zc2 ?_;intro dx dy lx;have lx2:=fV x;have ly:=fU y;have ly2:=fV y;go_in;go_wp2_with fail
 generalize hW:G5 _ _=W;refine zcF ?_;clear hW HX HY;intro rz hB hz;intro HX HY hz x0 x1 x2 y0 y1 y2;refine(iE _ _ _ x HX.o).mono ?_;rintro e wn ⟨_,rfl,hb,rfl⟩;rw[dx];refine Za ?_;clear x0 x1 x2 y0 y1 y2 HX HY;intro x0 x1 x2 y0 y1 y2 HX HY;refine zbj ?_;clear rz hz hB hb;intro rz hz hB;go_wp2_with fail
 refine(iE _ _ _ y HY.o).mono ?_;rintro e wn ⟨_,rfl,hb,rfl⟩;rw[dy];refine Za ?_;clear x0 x1 x2 y0 y1 y2 HX HY;intro x0 x1 x2 y0 y1 y2 HX HY;refine zbj ?_;clear rz hz hB hb;intro rz hz hB;go_wp2_with fail
 refine Zi ?_;intro hHeld;refine zac ?_;intro hb;refine Za ?_;clear x0 x1 x2 y0 y1 y2 HX HY;intro x0 x1 x2 y0 y1 y2 HX HY;refine ZA ?_;clear rz hz hB hb;intro rz hz hB;generalize wn.drew=wn at *;refine tkm [0,2] ?_;refine tk2 1 aj rfl λK hK=>?_
 go_simp;refine(l7 _ _ _ x HX.o).mono ?_;rintro e wn ⟨vdx,rfl,hb,hu⟩;have HDX:=Ag (hu.mono (G:=(Ext (Old F w.heap.size) (w.heap.size+3))) (λb hb _=>hb.elim .inl λh=>.inr FI));clear hu;refine Za ?_;clear x0 x1 x2 y0 y1 y2 HX HY;intro x0 x1 x2 y0 y1 y2 HX HY;refine ZL ?_;clear rz hz hB hb hHeld hK K;intro rz hz hB hHeld;refine tk2 3 aj rfl λK hK=>?_
 go_simp;refine(l7 _ _ _ y HY.o).mono ?_;rintro e wn ⟨vdy,rfl,hb,hu⟩;refine zbK ?_;intro HDY;clear hu;refine Za ?_;clear x0 x1 x2 y0 y1 y2 HX HY;intro x0 x1 x2 y0 y1 y2 HX HY;replace HDX:=Ag (HDX.o.below hb);refine ZL ?_;clear rz hz hB hb hHeld hK K;intro rz hz hB hHeld;refine tkm [4,5] ?_;refine Z8 ?_;clear hHeld;go_wp2_with fail
 obtain⟨_,_,hh,hn,hd⟩:=HX.o;refine Ym ?_;intro HNX;cases hh;clear hn hd;obtain⟨_,_,hh,hn,hd⟩:=HY.o;refine ZY ?_;intro HNY;cases hh;clear hn hd;refine Zi ?_;intro hHeld;refine zac ?_;intro hb;refine Za ?_;clear x0 x1 x2 y0 y1 y2 HX HY;intro x0 x1 x2 y0 y1 y2 HX HY;replace HDX:=Ag (HDX.o.below hb);replace HDY:=Ag (HDY.o.below hb);replace HNX:=Ag (HNX.o.below hb);replace HNY:=Ag (HNY.o.below hb);refine ZA ?_;clear rz hz hB hb;intro rz hz hB;generalize wn.drew=wn at *;refine tkm [0,1,2,4,5,6] ?_;refine tk2 3 aj rfl λK hK=>?_
 go_simp;refine(sV _ _ _ _ x.num.natAbs y.den HNX.o HDY.o FI FI).mono ?_;rintro e wn ⟨vf,rfl,hb,hu⟩;have HF:=Ag (hu.mono (G:=(Ext (Old F w.heap.size) (w.heap.size+3))) (λb hb _=>hb.elim id λh=>.inr FI));clear hu;refine Za ?_;clear x0 x1 x2 y0 y1 y2 HX HY;intro x0 x1 x2 y0 y1 y2 HX HY;replace HDX:=Ag (HDX.o.below hb);replace HDY:=Ag (HDY.o.below hb);replace HNX:=Ag (HNX.o.below hb);replace HNY:=Ag (HNY.o.below hb);refine ZL ?_;clear rz hz hB hb hHeld hK K;intro rz hz hB hHeld;refine tk2 7 aj rfl λK hK=>?_
 go_simp;refine(sV _ _ _ _ y.num.natAbs x.den HNY.o HDX.o FI FI).mono ?_;rintro e wn ⟨vg,rfl,hb,hu⟩;have HG:=Ag (hu.mono (G:=(Ext (Old F w.heap.size) (w.heap.size+3))) (λb hb _=>hb.elim id λh=>.inr FI));clear hu;refine Za ?_;clear x0 x1 x2 y0 y1 y2 HX HY;intro x0 x1 x2 y0 y1 y2 HX HY;replace HDX:=Ag (HDX.o.below hb);replace HDY:=Ag (HDY.o.below hb);replace HNX:=Ag (HNX.o.below hb);replace HNY:=Ag (HNY.o.below hb);replace HF:=Ag (HF.o.below hb);refine ZL ?_;clear rz hz hB hb hHeld hK K;intro rz hz hB hHeld;refine tkm [8,9] ?_;refine Z8 ?_;clear hHeld;go_wp2_with fail
 obtain⟨f,hf⟩:=Gp (Hr x.num.natAbs y.den);obtain⟨g,hg⟩:=Gp (Hr y.num.natAbs x.den);have hf0:f≠0:=by rw[hf];exact Lj (Jw _ y.den_pos)
 have hg0:g≠0:=by rw[hg];exact Lj (Jw _ x.den_pos)
 have hlf:(dig f).length<=20000:=He (aV (by rw[hf]; exact Kw _ y.den_pos)) FI;have hlg:(dig g).length<=20000:=He (aV (by rw[hg]; exact Kw _ x.den_pos)) FI;rw[<-hf] at HF;rw[<-hg] at HG;have HFE:=Ag hf;have HGE:=Ag hg;clear hf hg;refine aP (λw'=>w'.cell? ⟨w.heap.size,0,none⟩=some (G7 (ay x).neg)/\w'.cell? ⟨w.heap.size,1,none⟩=some (Gw A (ay x).num.length c)/\w'.cell? ⟨w.heap.size,2,none⟩=some (Gw B (ay x).den.length d)/\w'.cell? ⟨w.heap.size+1,0,none⟩=some (G7 (ay y).neg)/\w'.cell? ⟨w.heap.size+1,1,none⟩=some (Gw A' (ay y).num.length c')/\w'.cell? ⟨w.heap.size+1,2,none⟩=some (Gw B' (ay y).den.length d')) 22 1 aj rfl aj ⟨x0,x1,x2,y0,y1,y2⟩ λhHeld=>?_
 refine Zo ?_;refine zac ?_;intro hb;refine ZB ?_;clear x0 x1 x2 y0 y1 y2 HX HY HDX HDY HNX HNY HF HG;intro x0 x1 x2 y0 y1 y2 HX HY HDX HDY HNX HNY HF HG;refine ZA ?_;clear rz hz hB hb;intro rz hz hB;generalize wn.drew=wn at *;refine tkm [0,1,2,3,4,5,6,7,9,10,11,14,15,17,18] ?_;refine tk2 8 aj rfl λK hK=>?_
 go_simp;refine(mX _ _ _ _ (x.num.natAbs) f HNX.o HF.o hf0 FI FI).mono ?_;rintro e wn ⟨v8,rfl,hb,hu⟩;have HP1:=Ag (hu.mono (G:=(Ext (Old F w.heap.size) (w.heap.size+3))) (λb hb _=>hb.elim id λh=>.inr FI));clear hu;refine ZB ?_;clear x0 x1 x2 y0 y1 y2 HX HY HDX HDY HNX HNY HF HG;intro x0 x1 x2 y0 y1 y2 HX HY HDX HDY HNX HNY HF HG;refine ZL ?_;clear rz hz hB hb hHeld hK K;intro rz hz hB hHeld;refine tk2 12 aj rfl λK hK=>?_
 go_simp;refine(mX _ _ _ _ (y.num.natAbs) g HNY.o HG.o hg0 FI FI).mono ?_;rintro e wn ⟨v12,rfl,hb,hu⟩;have HP2:=Ag (hu.mono (G:=(Ext (Old F w.heap.size) (w.heap.size+3))) (λb hb _=>hb.elim id λh=>.inr FI));clear hu;refine ZB ?_;clear x0 x1 x2 y0 y1 y2 HX HY HDX HDY HNX HNY HF HG;intro x0 x1 x2 y0 y1 y2 HX HY HDX HDY HNX HNY HF HG;replace HP1:=Ag (HP1.o.below hb);refine ZL ?_;clear rz hz hB hb hHeld hK K;intro rz hz hB hHeld;refine tk2 13 aj rfl λK hK=>?_
 go_simp;refine(lZ _ _ _ _ (x.num.natAbs / f) (y.num.natAbs / g) HP1.o HP2.o (by have:=bW x.num.natAbs f; have:=bW y.num.natAbs g; have:=bW x.den g; have:=bW y.den f; omega) (by have:=bW x.num.natAbs f; have:=bW y.num.natAbs g; have:=bW x.den g; have:=bW y.den f; omega)).mono ?_;rintro e wn ⟨v13,rfl,hb,hu⟩;have HT1:=Ag (hu.mono (G:=(Ext (Old F w.heap.size) (w.heap.size+3))) (λb hb _=>hb.elim id λh=>.inr FI));clear hu;refine ZB ?_;clear x0 x1 x2 y0 y1 y2 HX HY HDX HDY HNX HNY HF HG;intro x0 x1 x2 y0 y1 y2 HX HY HDX HDY HNX HNY HF HG;replace HP1:=Ag (HP1.o.below hb);replace HP2:=Ag (HP2.o.below hb);refine ZL ?_;clear rz hz hB hb hHeld hK K;intro rz hz hB hHeld;refine tk2 16 aj rfl λK hK=>?_
 go_simp;refine(mX _ _ _ _ (x.den) g HDX.o HG.o hg0 FI FI).mono ?_;rintro e wn ⟨v16,rfl,hb,hu⟩;have HP3:=Ag (hu.mono (G:=(Ext (Old F w.heap.size) (w.heap.size+3))) (λb hb _=>hb.elim id λh=>.inr FI));clear hu;refine ZB ?_;clear x0 x1 x2 y0 y1 y2 HX HY HDX HDY HNX HNY HF HG;intro x0 x1 x2 y0 y1 y2 HX HY HDX HDY HNX HNY HF HG;refine zdY ?_;clear HP1 HP2 HT1;intro HP1 HP2 HT1;refine ZL ?_;clear rz hz hB hb hHeld hK K;intro rz hz hB hHeld;refine tk2 19 aj rfl λK hK=>?_
 go_simp;refine(mX _ _ _ _ (y.den) f HDY.o HF.o hf0 FI FI).mono ?_;rintro e wn ⟨v19,rfl,hb,hu⟩;have HP4:=Ag (hu.mono (G:=(Ext (Old F w.heap.size) (w.heap.size+3))) (λb hb _=>hb.elim id λh=>.inr FI));clear hu;refine ZB ?_;clear x0 x1 x2 y0 y1 y2 HX HY HDX HDY HNX HNY HF HG;intro x0 x1 x2 y0 y1 y2 HX HY HDX HDY HNX HNY HF HG;refine zdY ?_;clear HP1 HP2 HT1;intro HP1 HP2 HT1;replace HP3:=Ag (HP3.o.below hb);refine ZL ?_;clear rz hz hB hb hHeld hK K;intro rz hz hB hHeld;refine tk2 20 aj rfl λK hK=>?_
 go_simp;refine(lZ _ _ _ _ (x.den / g) (y.den / f) HP3.o HP4.o (by have:=bW x.num.natAbs f; have:=bW y.num.natAbs g; have:=bW x.den g; have:=bW y.den f; omega) (by have:=bW x.num.natAbs f; have:=bW y.num.natAbs g; have:=bW x.den g; have:=bW y.den f; omega)).mono ?_;rintro e wn ⟨v20,rfl,hb,hu⟩;have HT2:=Ag (hu.mono (G:=(Ext (Old F w.heap.size) (w.heap.size+3))) (λb hb _=>hb.elim id λh=>.inr FI));clear hu;refine ZB ?_;clear x0 x1 x2 y0 y1 y2 HX HY HDX HDY HNX HNY HF HG;intro x0 x1 x2 y0 y1 y2 HX HY HDX HDY HNX HNY HF HG;refine zdY ?_;clear HP1 HP2 HT1;intro HP1 HP2 HT1;replace HP3:=Ag (HP3.o.below hb);replace HP4:=Ag (HP4.o.below hb);refine ZL ?_;clear rz hz hB hb hHeld hK K;intro rz hz hB hHeld;have hmp:=ajE x y;rw[<-HFE.o,<-HGE.o] at hmp;rw[<-hmp.1] at HT1;rw[<-hmp.2.1] at HT2;have hneg:dh (x*y)=(dh x != dh y):=hmp.2.2 hx0 hy0;have HNG:=Ag hneg;clear hmp hneg;have lm:=jQ x y;have lmd:=fV (x*y);refine tk2 21 aj rfl λK hK=>?_
 go_simp;refine(uM _ _ _ _ _ (x*y).num.natAbs (x*y).den (dig (x*y).den) HT1.o HT2.o (.inl rfl) (x*y).den_nz (jC _) FI).mono ?_;rintro e wn ⟨vm,rfl,hb,hu⟩;have hu2:NmV wn (Ext (Old F w.heap.size) (w.heap.size+3)) vm (x*y):=by rw[show(!(ay x).neg==(ay y).neg)=dh (x*y) from HNG.o.symm,aa0] at hu;exact hu
 have HM:=Ag hu2;obtain⟨Am,cm,Bm,dm,rfl,hn,hd⟩:=hu2.open;clear hn hd hu hu2;refine ZB ?_;clear x0 x1 x2 y0 y1 y2 HX HY HDX HDY HNX HNY HF HG;intro x0 x1 x2 y0 y1 y2 HX HY HDX HDY HNX HNY HF HG;refine zdY ?_;clear HP1 HP2 HT1;intro HP1 HP2 HT1;replace HP3:=Ag (HP3.o.below hb);replace HP4:=Ag (HP4.o.below hb);replace HT2:=Ag (HT2.o.below hb);refine za1 ?_;clear rz hz hB hb hHeld hK K x0 x1 x2 y0 y1 y2;intro rz hz hB;intro q0 y0 q1 y1 q2 y2;go_wp2
 refine Z4 ?_;go_wp2
 obtain⟨Wz,hWz,hrz,hwz,hkz⟩:=aY rz (G7 (ay (x*y)).neg) (Gw Am (ay (x*y)).num.length cm) (Gw Bm (ay (x*y)).den.length dm);refine Zg ?_;clear hWz q0 q1 q2 y0 y1 y2;intro t0 t1 t2;refine bodyPost_ret (v:=.agg #[G7 (ay (x*y)).neg,Gw Am (ay (x*y)).num.length cm,Gw Bm (ay (x*y)).den.length dm]) (by simp[results,Tryz.results26,go_sem,t0,t1,t2]) rfl ?_;exact Zq
theorem uN (w:GK) (F:Gq) (va vb:GN) (x y:Rat) (ha:NmV w F va x) (hb:NmV w F vb y) (hlx:rl x<=20000) (hly:rl y<=20000) :
  Calls GI 26 #[va,vb] w (Ret w λv w'=>NmV w' (Ext F w.heap.size) v (x*y)):=by
 by_cases hx0:x=0
 ·skip
  refine zdf ?_;intro HX HY;obtain⟨A,c,B,d,rfl,hn,hd⟩:=ha.open;obtain⟨A',c',B',d',rfl,hn',hd'⟩:=hb.open;clear hn hd hn' hd' ha hb hlx hly;have dx:decide (x=0)=true:=LK hx0;have HZ:=Ag (show x*y=0 by rw[hx0,Rat.zero_mul]);clear hx0;go_in;go_wp2_with fail
  refine Y0 ?_;clear HX HY;intro W rz hB HX HY x0 x1 x2 y0 y1 y2;rintro e wn ⟨_,rfl,hb,rfl⟩;rw[dx];refine Za ?_;clear x0 x1 x2 y0 y1 y2 HX HY;intro x0 x1 x2 y0 y1 y2 HX HY;replace rz:=rz.below hb rz.lt;refine YQ ?_;clear hB hb;intro hB;have hz:=rz.lt;refine Zk ?_;intro q0 y0 q1 y1 q2 y2;go_wp2
  refine zbe ?_;clear q0 q1 q2 y0 y1 y2;intro Wz hrz hwz hkz;intro t0 t1 t2;refine bodyPost_ret (v:=.agg #[G7 false,Gw none 0 0,Gw none 0 0]) (by simp[results,Tryz.results26,go_sem,t0,t1,t2]) rfl ?_;exact zce
 by_cases hy0:y=0
 ·skip
  refine zdf ?_;intro HX HY;obtain⟨A,c,B,d,rfl,hn,hd⟩:=ha.open;obtain⟨A',c',B',d',rfl,hn',hd'⟩:=hb.open;clear hn hd hn' hd' ha hb hlx hly;have dx:decide (x=0)=false:=LJ hx0;have dy:decide (y=0)=true:=LK hy0;have HZ:=Ag (show x*y=0 by rw[hy0,Rat.mul_zero]);clear hx0 hy0;go_in;go_wp2_with fail
  refine Y0 ?_;clear HX HY;intro W rz hB HX HY x0 x1 x2 y0 y1 y2;rintro e wn ⟨_,rfl,hb,rfl⟩;rw[dx];refine Za ?_;clear x0 x1 x2 y0 y1 y2 HX HY;intro x0 x1 x2 y0 y1 y2 HX HY;replace rz:=rz.below hb rz.lt;refine YQ ?_;clear hB hb;intro hB;go_wp2_with fail
  refine(iE _ _ _ y HY.o).mono ?_;rintro e wn ⟨_,rfl,hb,rfl⟩;rw[dy];refine Za ?_;clear x0 x1 x2 y0 y1 y2 HX HY;intro x0 x1 x2 y0 y1 y2 HX HY;replace rz:=rz.below hb rz.lt;refine YQ ?_;clear hB hb;intro hB;have hz:=rz.lt;refine Zk ?_;intro q0 y0 q1 y1 q2 y2;go_wp2
  refine zbe ?_;clear q0 q1 q2 y0 y1 y2;intro Wz hrz hwz hkz;intro t0 t1 t2;refine bodyPost_ret (v:=.agg #[G7 false,Gw none 0 0,Gw none 0 0]) (by simp[results,Tryz.results26,go_sem,t0,t1,t2]) rfl ?_;exact zce
 exact aj9 w F va vb x y ha hb hlx hly hx0 hy0
theorem agA (w:GK) (F:Gq) (va vb:GN) (x y:Rat) (ha:NmV w F va x) (hb:NmV w F vb y) (hlx:rl x<=20000) (hly:rl y<=20000) (hy0:y≠0) :
  Calls GI 119 #[va,vb] w (Ret w λv w'=>NmV w' (Ext F w.heap.size) v (x / y)):=by
 have hiv:=aa1 hy0;have ly:=fU y;have ly2:=fV y;have lyi:=ahE hy0;have hn0:y.num.natAbs≠0:=λh=>hy0 ((kP y).1 h)
 have ah4:Hr y.den y.num.natAbs=1:=by rw[Nat.gcd_comm];exact jC y
 have HIV:=Ag (show mkRat (sgI (ay y).neg y.den) y.num.natAbs=y⁻¹ by rw[<-hiv.1,<-hiv.2.1,vN,<-hiv.2.2,aa0]);have HXY:=Ag (show x*y⁻¹=x / y from(Rat.div_def x y).symm);clear hiv hy0;refine zdf ?_;intro HX HY;obtain⟨A,c,B,d,rfl,hn,hd⟩:=ha.open;obtain⟨A',c',B',d',rfl,hn',hd'⟩:=hb.open;clear hn hd hn' hd' ha hb;go_in;go_wp2_with fail
 generalize hW:G5 _ _=W;refine zcF ?_;clear hW HX HY;intro rz hB hz;intro HX HY hz x0 x1 x2 y0 y1 y2;obtain⟨_,_,hh,hn,hd⟩:=HY.o;refine ZY ?_;intro HNY;cases hh;clear hn hd;refine aP (λw'=>w'.cell? ⟨w.heap.size,0,none⟩=some (G7 (ay x).neg)/\w'.cell? ⟨w.heap.size,1,none⟩=some (Gw A (ay x).num.length c)/\w'.cell? ⟨w.heap.size,2,none⟩=some (Gw B (ay x).den.length d)/\w'.cell? ⟨w.heap.size+1,0,none⟩=some (G7 (ay y).neg)/\w'.cell? ⟨w.heap.size+1,1,none⟩=some (Gw A' (ay y).num.length c')/\w'.cell? ⟨w.heap.size+1,2,none⟩=some (Gw B' (ay y).den.length d')) 9 1 aj rfl aj ⟨x0,x1,x2,y0,y1,y2⟩ λhHeld=>?_
 refine Zo ?_;refine Yx ?_;intro hb;refine Za ?_;clear x0 x1 x2 y0 y1 y2 HX HY;intro x0 x1 x2 y0 y1 y2 HX HY;replace HNY:=Ag (HNY.o.below hb);refine ZA ?_;clear rz hz hB hb;intro rz hz hB;generalize W.drew=wn at *;refine tkm [0,1,2,3,5,6] ?_;refine tk2 4 aj rfl λK hK=>?_
 go_simp;refine(l7 _ _ _ y HY.o).mono ?_;rintro e wn ⟨vdy,rfl,hb,hu⟩;refine zbK ?_;intro HDY;clear hu;refine Za ?_;clear x0 x1 x2 y0 y1 y2 HX HY;intro x0 x1 x2 y0 y1 y2 HX HY;replace HNY:=Ag (HNY.o.below hb);refine ZL ?_;clear rz hz hB hb hHeld hK K;intro rz hz hB hHeld;refine tk2 7 aj rfl λK hK=>?_
 go_simp;refine(uM _ _ _ _ _ y.den y.num.natAbs (dig y.num.natAbs) HDY.o HNY.o (.inl rfl) hn0 ah4 FI).mono ?_;rintro e wn ⟨vi,rfl,hb,hu⟩;rw[HIV.o] at hu;have HI:=Ag hu;clear hu;refine Za ?_;clear x0 x1 x2 y0 y1 y2 HX HY;intro x0 x1 x2 y0 y1 y2 HX HY;replace HNY:=Ag (HNY.o.below hb);replace HDY:=Ag (HDY.o.below hb);refine ZL ?_;clear rz hz hB hb hHeld hK K;intro rz hz hB hHeld;refine tk2 8 aj rfl λK hK=>?_
 go_simp;refine(uN _ (Ext (Old F w.heap.size) (w.heap.size+3)) _ _ x y⁻¹ (Ak.mono HX.o (λb hb _=>.inl hb)) HI.o hlx FI).mono ?_;rintro e wn ⟨vm,rfl,hb,hu⟩;rw[HXY.o] at hu;have hu2:NmV wn (Ext (Old F w.heap.size) (w.heap.size+3)) vm (x / y):=hu.mono (λb hb _=>hb.elim id λh=>.inr FI);have HM:=Ag hu2;obtain⟨Am,cm,Bm,dm,rfl,hn,hd⟩:=hu2.open;clear hn hd hu hu2;refine Za ?_;clear x0 x1 x2 y0 y1 y2 HX HY;intro x0 x1 x2 y0 y1 y2 HX HY;replace HNY:=Ag (HNY.o.below hb);replace HDY:=Ag (HDY.o.below hb);replace HI:=Ag (HI.o.below hb);refine za1 ?_;clear rz hz hB hb hHeld hK K x0 x1 x2 y0 y1 y2;intro rz hz hB;intro q0 y0 q1 y1 q2 y2;go_wp2
 refine Z4 ?_;go_wp2
 obtain⟨Wz,hWz,hrz,hwz,hkz⟩:=aY rz (G7 (ay (x / y)).neg) (Gw Am (ay (x / y)).num.length cm) (Gw Bm (ay (x / y)).den.length dm);refine Zg ?_;clear hWz q0 q1 q2 y0 y1 y2;intro t0 t1 t2;refine bodyPost_ret (v:=.agg #[G7 (ay (x / y)).neg,Gw Am (ay (x / y)).num.length cm,Gw Bm (ay (x / y)).den.length dm]) (by simp[results,Tryz.results119,go_sem,t0,t1,t2]) rfl ?_;exact Zq
theorem afj (w:GK) (F:Gq) (va vb:GN) (a b:Nat) (ha:Ah w F va a) (hb:Ah w F vb b) (hla:(dig a).length<=1000000) (hlb:(dig b).length<=1000000) :
  Calls GI 100 #[va,vb] w (Ret w λv _=>v = GV GU (bZ a b)):=by
 refine(jF w F va vb a b ha hb hla hlb).mono ?_;rintro e w' ⟨rfl,z0,rfl⟩;exact⟨_,rfl,aG (GR _ w) _,rfl⟩
theorem acV (x:Rat):oz x = -1\/oz x=0\/oz x=1:=by grind [oz]
theorem ah5 (a b:Nat):-1<=bZ a b/\bZ a b<=1:=by grind [bZ]
theorem uO (w:GK) (F:Gq) (va vb:GN) (x y:Rat) (ha:NmV w F va x) (hb:NmV w F vb y) (hlx:rl x<=20000) (hly:rl y<=20000) :
  Calls GI 72 #[va,vb] w (Ret w λv _=>v = GV GU (iR x y)):=by
 have lx:=fU x;have lx2:=fV x;have ly:=fU y;have ly2:=fV y;have hm1:(dig (x.num.natAbs*y.den)).length<=40000:=He (dY _ _) FI;have hm2:(dig (y.num.natAbs*x.den)).length<=40000:=He (dY _ _) FI;obtain⟨s,hs⟩:=Gp (oz x);obtain⟨t,ht⟩:=Gp (oz y);have hsc:=acV x;rw[<-hs] at hsc;have htc:=acV y;rw[<-ht] at htc;have h1:=Ag (λh:s < t=>(af6 (x:=x) (y:=y) (by rw[<-hs,<-ht]; exact h)).1);have h2:=Ag (λh:t < s=>(af6 (x:=y) (y:=x) (by rw[<-hs,<-ht]; exact h)).2);have h3:=Ag (λ(h:s=t) (h0:s=0)=>alh (x:=x) (y:=y) (by rw[<-hs,<-ht]; exact h) (by rw[<-hs]; exact h0));have h4:=Ag (λ(h:s=t) (h0:s≠0)=>ali (x:=x) (y:=y) (by rw[<-hs,<-ht]; exact h) (by rw[<-hs]; exact h0));have HS:=Ag hs;have HT:=Ag ht;clear hs ht;refine zdf ?_;intro HX HY;obtain⟨A,c,B,d,rfl,hn,hd⟩:=ha.open;obtain⟨A',c',B',d',rfl,hn',hd'⟩:=hb.open;clear hn hd hn' hd' ha hb;go_in;go_wp2_with fail
 generalize hW:G5 _ _=W;obtain⟨rx,ry,hB,hz⟩:=gW hW;clear hW;replace HX:=Ag (HX.o.on (GL hB _));replace HY:=Ag (HY.o.on (GL hB _));have hz:w.heap.size+2<=W.heap.size:=hz;refine Zd ?_;intro x0 x1 x2;have y0:=ry.cell (i:=0) rfl;have y1:=ry.cell (i:=1) rfl;have y2:=ry.cell (i:=2) rfl;clear rx ry;refine Zi ?_;intro hHeld;refine Yx ?_;intro hb;refine Za ?_;clear x0 x1 x2 y0 y1 y2 HX HY;intro x0 x1 x2 y0 y1 y2 HX HY;refine Zf ?_;clear hz hB hb;intro hz hB;generalize W.drew=wn at *;refine tkm [0,2] ?_;refine tk2 1 aj rfl λK hK=>?_
 go_simp;refine(aeo _ _ _ x HX.o).mono ?_;rintro e wn ⟨_,rfl,hb,rfl⟩;rw[<-HS.o];refine Za ?_;clear x0 x1 x2 y0 y1 y2 HX HY;intro x0 x1 x2 y0 y1 y2 HX HY;refine Zc ?_;clear hz hB hb hHeld hK K;intro hz hB hHeld;refine tk2 3 aj rfl λK hK=>?_
 go_simp;refine(aeo _ _ _ y HY.o).mono ?_;rintro e wn ⟨_,rfl,hb,rfl⟩;rw[<-HT.o];refine Za ?_;clear x0 x1 x2 y0 y1 y2 HX HY;intro x0 x1 x2 y0 y1 y2 HX HY;refine Zc ?_;clear hz hB hb hHeld hK K;intro hz hB hHeld;refine tkm [4,5] ?_;refine Z8 ?_;clear hHeld;by_cases hlt:s < t
 ·have hd:=LK hlt;have HR:=Ag (h1.o hlt);exact zdW
 have hd:=LJ hlt;by_cases hgt:t < s
 ·have hd2:=LK hgt;have HR:=Ag (h2.o hgt);exact zdW
 have hd2:=LJ hgt;have hst:s=t:=FI;by_cases h0:s=0
 ·have HR:=Ag (h3.o hst h0);have he:(s==0)=true:=by rw[h0];rfl
  clear h0 hst;exact zdW
 have he:(s==0)=false:=beq_false_of_ne h0;have HR:=Ag (h4.o hst h0);have hs1:s=1\/s = -1:=FI;clear hst hlt hgt hsc htc h0 h1 h2 h3 h4;obtain⟨_,_,hh,hn,hd⟩:=HX.o;have HNX:=Ag (Ah.mono (n:=x.num.natAbs) (G:=(Ext (Old F w.heap.size) (w.heap.size+2))) hn (λb hb _=>.inl hb));cases hh;clear hn hd;obtain⟨_,_,hh,hn,hd⟩:=HY.o;have HNY:=Ag (Ah.mono (n:=y.num.natAbs) (G:=(Ext (Old F w.heap.size) (w.heap.size+2))) hn (λb hb _=>.inl hb));cases hh;clear hn hd;go_wp2_with fail
 refine Zi ?_;intro hHeld;refine zac ?_;intro hb;refine YK ?_;clear x0 x1 x2 y0 y1 y2 HX HY HNX HNY;intro x0 x1 x2 y0 y1 y2 HX HY HNX HNY;refine Zf ?_;clear hz hB hb;intro hz hB;generalize wn.drew=wn at *;refine tkm [0,1,2,3,6,7,8] ?_;refine tk2 4 aj rfl λK hK=>?_
 go_simp;refine(l7 _ _ _ y HY.o).mono ?_;rintro e wn ⟨vdy,rfl,hb,hu⟩;have HDY:=Ag (hu.mono (G:=(Ext (Old F w.heap.size) (w.heap.size+2))) (λb hb _=>hb.elim .inl λh=>.inr FI));clear hu;refine YK ?_;clear x0 x1 x2 y0 y1 y2 HX HY HNX HNY;intro x0 x1 x2 y0 y1 y2 HX HY HNX HNY;refine Zc ?_;clear hz hB hb hHeld hK K;intro hz hB hHeld;refine tk2 5 aj rfl λK hK=>?_
 go_simp;refine(lZ _ _ _ _ x.num.natAbs y.den HNX.o HDY.o FI FI).mono ?_;rintro e wn ⟨vt1,rfl,hb,hu⟩;have HT1:=Ag (hu.mono (G:=(Ext (Old F w.heap.size) (w.heap.size+2))) (λb hb _=>hb.elim id λh=>.inr FI));clear hu;refine YK ?_;clear x0 x1 x2 y0 y1 y2 HX HY HNX HNY;intro x0 x1 x2 y0 y1 y2 HX HY HNX HNY;replace HDY:=Ag (HDY.o.below hb);refine Zc ?_;clear hz hB hb hHeld hK K;intro hz hB hHeld;refine tk2 9 aj rfl λK hK=>?_
 go_simp;refine(l7 _ _ _ x HX.o).mono ?_;rintro e wn ⟨vdx,rfl,hb,hu⟩;have HDX:=Ag (hu.mono (G:=(Ext (Old F w.heap.size) (w.heap.size+2))) (λb hb _=>hb.elim .inl λh=>.inr FI));clear hu;refine YK ?_;clear x0 x1 x2 y0 y1 y2 HX HY HNX HNY;intro x0 x1 x2 y0 y1 y2 HX HY HNX HNY;replace HDY:=Ag (HDY.o.below hb);replace HT1:=Ag (HT1.o.below hb);refine Zc ?_;clear hz hB hb hHeld hK K;intro hz hB hHeld;refine tk2 10 aj rfl λK hK=>?_
 go_simp;refine(lZ _ _ _ _ y.num.natAbs x.den HNY.o HDX.o FI FI).mono ?_;rintro e wn ⟨vt2,rfl,hb,hu⟩;have HT2:=Ag (hu.mono (G:=(Ext (Old F w.heap.size) (w.heap.size+2))) (λb hb _=>hb.elim id λh=>.inr FI));clear hu;refine YK ?_;clear x0 x1 x2 y0 y1 y2 HX HY HNX HNY;intro x0 x1 x2 y0 y1 y2 HX HY HNX HNY;replace HDY:=Ag (HDY.o.below hb);replace HT1:=Ag (HT1.o.below hb);replace HDX:=Ag (HDX.o.below hb);refine Zc ?_;clear hz hB hb hHeld hK K;intro hz hB hHeld;refine tk2 11 aj rfl λK hK=>?_
 go_simp;refine(afj _ _ _ _ (x.num.natAbs*y.den) (y.num.natAbs*x.den) HT1.o HT2.o FI FI).mono ?_;rintro e wn ⟨_,rfl,hb,rfl⟩;obtain⟨ho1,ho2⟩:=ah5 (x.num.natAbs*y.den) (y.num.natAbs*x.den);generalize bZ (x.num.natAbs*y.den) (y.num.natAbs*x.den)=od at *;refine YK ?_;clear x0 x1 x2 y0 y1 y2 HX HY HNX HNY;intro x0 x1 x2 y0 y1 y2 HX HY HNX HNY;replace HDY:=Ag (HDY.o.below hb);replace HT1:=Ag (HT1.o.below hb);replace HDX:=Ag (HDX.o.below hb);replace HT2:=Ag (HT2.o.below hb);refine Zc ?_;clear hz hB hb hHeld hK K;intro hz hB hHeld
 rcases hs1 with rfl | rfl
 all_goals
  refine tkm [12,13] ?_;refine Z8 ?_;clear hHeld;go_wp2
  go_ret;exact⟨_,rfl,hB,by rw[HR.o,<-HS.o]; simp; exact IntWalk.i64_in _ FI⟩
theorem aeu (w:GK) (a b:Int) (ha1:-1000000000000<=a) (ha2:a<=1000000000000) (hb1:-1000000000000<=b) (hb2:b<=1000000000000) (hb0:b≠0) :
  Calls GI 84 #[GV GU a,GV GU b] w (Ret w λv w'=>NmV w' (λb=>w.heap.size<=b) v ((a:Rat) / (b:Rat))):=by
 have hla:rl (a:Rat)<=20000:=by
  rw[ae0];have:(dig a.natAbs).length<=2:=bC (by unfold LB; omega);omega
 have hlb:rl (b:Rat)<=20000:=by
  rw[ae0];have:(dig b.natAbs).length<=2:=bC (by unfold LB; omega);omega
 have agB:(b:Rat)≠0:=by intro h;exact hb0 (Rat.intCast_eq_zero_iff.1 h)
 go_in;go_wp2_with fail
 generalize hW:G5 _ _=W;obtain⟨hr,hB,hWz⟩:=aI hW;clear hW;have hz:w.heap.size+1<=W.heap.size:=hr.lt;refine(lG W a ha1 ha2).mono ?_;rintro e wn ⟨va,rfl,hb,hu⟩;have HA:=Ag (hu.mono (G:=(λb=>w.heap.size+1<=b)) (λb hb _=>by omega));clear hu;refine Ye ?_;clear hr hz hB hb;intro hr hz hB;dsimp only;go_wp2_with fail
 refine(lG _ b hb1 hb2).mono ?_;rintro e wn ⟨vb,rfl,hb,hu⟩;have HB:=Ag (hu.mono (G:=(λb=>w.heap.size+1<=b)) (λb hb _=>by omega));clear hu;replace HA:=Ag (HA.o.below hb);refine Ye ?_;clear hr hz hB hb;intro hr hz hB;dsimp only;go_wp2_with fail
 refine(agA _ (λb=>w.heap.size+1<=b) _ _ (a:Rat) (b:Rat) HA.o HB.o hla hlb agB).mono ?_;rintro e wn ⟨vm,rfl,hb,hu⟩;have hu2:NmV wn (λb=>w.heap.size+1<=b) vm ((a:Rat) / (b:Rat)):=hu.mono (λb hb _=>hb.elim id λh=>by omega);have HM:=Ag hu2;obtain⟨Am,cm,Bm,dm,rfl,hn,hd⟩:=hu2.open;clear hn hd hu hu2;replace HA:=Ag (HA.o.below hb);replace HB:=Ag (HB.o.below hb);refine Ye ?_;clear hr hz hB hb;intro hr hz hB;refine Zt ?_;intro q0 y0 q1 y1 q2 y2;go_wp2
 obtain⟨Wz,hWz,hrz,hwz,hkz⟩:=aY hr (G7 (ay ((a:Rat) / (b:Rat))).neg) (Gw Am (ay ((a:Rat) / (b:Rat))).num.length cm) (Gw Bm (ay ((a:Rat) / (b:Rat))).den.length dm);refine Zg ?_;clear hWz q0 q1 q2 y0 y1 y2;intro t0 t1 t2;refine bodyPost_ret (v:=.agg #[G7 (ay ((a:Rat) / (b:Rat))).neg,Gw Am (ay ((a:Rat) / (b:Rat))).num.length cm,Gw Bm (ay ((a:Rat) / (b:Rat))).den.length dm]) (by simp[results,Tryz.results84,go_sem,t0,t1,t2]) rfl ?_;exact zak
theorem anq (x y:Rat) (l r:Nat):sgI (dh x) (x.num.natAbs*r)+sgI (dh y) (y.num.natAbs*l)=x.num*r+y.num*l:=by grind [sO,qA]
theorem aop (w:GK) (F:Gq) (va vb:GN) (x y:Rat) (ha:NmV w F va x) (hb:NmV w F vb y) (hlx:rl x<=20000) (hly:rl y<=20000) (hx0:x=0) :
  Calls GI 40 #[va,vb] w (Ret w λv w'=>NmV w' (Ext F w.heap.size) v (x+y)):=by
 have dx:decide (x=0)=true:=LK hx0;have HZ:=Ag (show x+y=y by rw[hx0,Rat.zero_add]);clear hx0;refine zdf ?_;intro HX HY;obtain⟨A,c,B,d,rfl,hn,hd⟩:=ha.open;obtain⟨A',c',B',d',rfl,hn',hd'⟩:=hb.open;clear hn hd hn' hd' ha hb;go_in;go_wp2_with fail
 generalize hW:G5 _ _=W;refine zcF ?_;clear hW HX HY;intro rz hB hz;intro HX HY hz x0 x1 x2 y0 y1 y2;refine(iE _ _ _ x HX.o).mono ?_;rintro e wn ⟨_,rfl,hb,rfl⟩;rw[dx];refine Za ?_;clear x0 x1 x2 y0 y1 y2 HX HY;intro x0 x1 x2 y0 y1 y2 HX HY;refine zbj ?_;clear rz hz hB hb;intro rz hz hB;refine Zk ?_;intro q0 y0 q1 y1 q2 y2;go_wp2
 obtain⟨Wz,hWz,hrz,hwz,hkz⟩:=aY rz (G7 (ay y).neg) (Gw A' (ay y).num.length c') (Gw B' (ay y).den.length d');refine Zg ?_;clear hWz q0 q1 q2 y0 y1 y2;intro t0 t1 t2;refine bodyPost_ret (v:=.agg #[G7 (ay y).neg,Gw A' (ay y).num.length c',Gw B' (ay y).den.length d']) (by simp[results,J9,go_sem,t0,t1,t2]) rfl ?_;exact⟨_,rfl,hwz _ _ FI hB,by rw[HZ.o]; exact(HY.o.on (hkz _ (λh=>by have:=h.2; omega))).mono (λb hb _=>.inl hb.1)⟩
theorem aoq (w:GK) (F:Gq) (va vb:GN) (x y:Rat) (ha:NmV w F va x) (hb:NmV w F vb y) (hlx:rl x<=20000) (hly:rl y<=20000) (hx0:x≠0) (hy0:y=0) :
  Calls GI 40 #[va,vb] w (Ret w λv w'=>NmV w' (Ext F w.heap.size) v (x+y)):=by
 have dx:decide (x=0)=false:=LJ hx0;have dy:decide (y=0)=true:=LK hy0;have HZ:=Ag (show x+y=x by rw[hy0,Rat.add_zero]);clear hx0 hy0;refine zdf ?_;intro HX HY;obtain⟨A,c,B,d,rfl,hn,hd⟩:=ha.open;obtain⟨A',c',B',d',rfl,hn',hd'⟩:=hb.open;clear hn hd hn' hd' ha hb;go_in;go_wp2_with fail
 generalize hW:G5 _ _=W;refine zcF ?_;clear hW HX HY;intro rz hB hz;intro HX HY hz x0 x1 x2 y0 y1 y2;refine(iE _ _ _ x HX.o).mono ?_;rintro e wn ⟨_,rfl,hb,rfl⟩;rw[dx];refine Za ?_;clear x0 x1 x2 y0 y1 y2 HX HY;intro x0 x1 x2 y0 y1 y2 HX HY;refine zbj ?_;clear rz hz hB hb;intro rz hz hB;go_wp2_with fail
 refine(iE _ _ _ y HY.o).mono ?_;rintro e wn ⟨_,rfl,hb,rfl⟩;rw[dy];refine Za ?_;clear x0 x1 x2 y0 y1 y2 HX HY;intro x0 x1 x2 y0 y1 y2 HX HY;refine zbj ?_;clear rz hz hB hb;intro rz hz hB;refine Zk ?_;intro q0 y0 q1 y1 q2 y2;go_wp2
 obtain⟨Wz,hWz,hrz,hwz,hkz⟩:=aY rz (G7 (ay x).neg) (Gw A (ay x).num.length c) (Gw B (ay x).den.length d);refine Zg ?_;clear hWz q0 q1 q2 y0 y1 y2;intro t0 t1 t2;refine bodyPost_ret (v:=.agg #[G7 (ay x).neg,Gw A (ay x).num.length c,Gw B (ay x).den.length d]) (by simp[results,J9,go_sem,t0,t1,t2]) rfl ?_;exact⟨_,rfl,hwz _ _ FI hB,by rw[HZ.o]; exact(HX.o.on (hkz _ (λh=>by have:=h.2; omega))).mono (λb hb _=>.inl hb.1)⟩
theorem ah6 (w:GK) (F:Gq) (va vb:GN) (x y:Rat) (ha:NmV w F va x) (hb:NmV w F vb y) (hlx:rl x<=20000) (hly:rl y<=20000) (hx0:x≠0) (hy0:y≠0) (hxd:x.den=1) (hyd:y.den=1) :
  Calls GI 40 #[va,vb] w (Ret w λv w'=>NmV w' (Ext F w.heap.size) v (x+y)):=by
 refine zc2 ?_;intro dx dy lx;have ly:=fU y;have hlx1:(((ay x).den.length:Int)==0)=true:=by rw[pI hxd];rfl
 have hly1:(((ay y).den.length:Int)==0)=true:=by rw[pI hyd];rfl
 have HS:=Ag (ajG hxd hyd);have HXN:=Ag (qA x);have HYN:=Ag (qA y);clear hx0 hy0 hxd hyd;refine zdf ?_;intro HX HY;obtain⟨A,c,B,d,rfl,hn,hd⟩:=ha.open;obtain⟨A',c',B',d',rfl,hn',hd'⟩:=hb.open;clear hn hd hn' hd' ha hb;go_in;go_wp2_with fail
 generalize hW:G5 _ _=W;refine zcF ?_;clear hW HX HY;intro rz hB hz;intro HX HY hz x0 x1 x2 y0 y1 y2;refine(iE _ _ _ x HX.o).mono ?_;rintro e wn ⟨_,rfl,hb,rfl⟩;rw[dx];refine Za ?_;clear x0 x1 x2 y0 y1 y2 HX HY;intro x0 x1 x2 y0 y1 y2 HX HY;refine zbj ?_;clear rz hz hB hb;intro rz hz hB;go_wp2_with fail
 refine(iE _ _ _ y HY.o).mono ?_;rintro e wn ⟨_,rfl,hb,rfl⟩;rw[dy];refine Za ?_;clear x0 x1 x2 y0 y1 y2 HX HY;intro x0 x1 x2 y0 y1 y2 HX HY;refine zbj ?_;clear rz hz hB hb;intro rz hz hB;go_wp2_with fail
 obtain⟨_,_,hh,hn,hd⟩:=HX.o;refine Ym ?_;intro HNX;cases hh;clear hn hd;obtain⟨_,_,hh,hn,hd⟩:=HY.o;refine ZY ?_;intro HNY;cases hh;clear hn hd;refine(abL _ _ (dh x) (dh y) _ _ x.num.natAbs y.num.natAbs HNX.o HNY.o FI FI).mono ?_;rintro e wn ⟨_,rfl,hb,neg,t,rfl,hu,hs⟩;rw[HXN.o,HYN.o,<-HS.o.2] at hu hs;have HT:=Ag (hu.mono (G:=(Ext (Old F w.heap.size) (w.heap.size+3))) (λb hb _=>.inr FI));clear hu;have HSG:=Ag (show mkRat (sgI neg (x+y).num.natAbs) 1=x+y by rw[<-hs,<-HS.o.1,Rat.mkRat_self]);clear hs;refine YK ?_;clear x0 x1 x2 y0 y1 y2 HX HY HNX HNY;intro x0 x1 x2 y0 y1 y2 HX HY HNX HNY;refine zbj ?_;clear rz hz hB hb;intro rz hz hB;go_wp2_with fail
 refine(uM _ _ _ _ _ (x+y).num.natAbs 1 [] HT.o (gV _ _ _ _) (.inr ⟨rfl,rfl⟩) au (Nat.gcd_one_right _) aA).mono ?_;rintro e wn ⟨vm,rfl,hb,hu⟩;rw[HSG.o] at hu;have HM:=Ag hu;obtain⟨Am,cm,Bm,dm,rfl,hn,hd⟩:=hu.open;clear hn hd hu;refine YK ?_;clear x0 x1 x2 y0 y1 y2 HX HY HNX HNY;intro x0 x1 x2 y0 y1 y2 HX HY HNX HNY;replace HT:=Ag (HT.o.below hb);refine zbj ?_;clear rz hz hB hb;intro rz hz hB;clear x0 x1 x2 y0 y1 y2;refine Zk ?_;intro q0 y0 q1 y1 q2 y2;go_wp2
 obtain⟨Wz,hWz,hrz,hwz,hkz⟩:=aY rz (G7 (ay (x+y)).neg) (Gw Am (ay (x+y)).num.length cm) (Gw Bm (ay (x+y)).den.length dm);refine Zg ?_;clear hWz q0 q1 q2 y0 y1 y2;intro t0 t1 t2;refine bodyPost_ret (v:=.agg #[G7 (ay (x+y)).neg,Gw Am (ay (x+y)).num.length cm,Gw Bm (ay (x+y)).den.length dm]) (by simp[results,J9,go_sem,t0,t1,t2]) rfl ?_;exact Zq
theorem akb (w:GK) (F:Gq) (va vb:GN) (x y:Rat) (ha:NmV w F va x) (hb:NmV w F vb y) (hlx:rl x<=20000) (hly:rl y<=20000) (hx0:x≠0) (hy0:y≠0) (hw:x.den≠1\/(x.den=1/\y.den≠1)) :
  Calls GI 40 #[va,vb] w (Ret w λv w'=>NmV w' (Ext F w.heap.size) v (x+y)):=by
 refine zc2 ?_;intro dx dy lx;have ly:=fU y;have lx2:=fV x;have ly2:=fV y;obtain⟨g,hg⟩:=Gp (Hr x.den y.den);obtain⟨l,hl⟩:=Gp (x.den / g);obtain⟨r,hr⟩:=Gp (y.den / g);obtain⟨t,ht⟩:=Gp (x.num*r+y.num*l);obtain⟨f,hf⟩:=Gp (Hr t.natAbs g);have hap:=ajD x y hg hl hr ht hf;have hsum:=anq x y l r;rw[<-ht] at hsum;have hg0:g≠0:=by rw[hg];exact Lj (Nat.gcd_pos_of_pos_left _ x.den_pos)
 have hf0:f≠0:=by rw[hf];exact Lj (Jw _ FI)
 have hlg:(dig g).length<=20000:=He (aV (by rw[hg]; exact Kw _ y.den_pos)) FI;have hlf:(dig f).length<=20000:=He (aV (by rw[hf]; exact Kw _ FI)) hlg;have hll:(dig l).length<=20000:=by rw[hl];exact He (bW _ _) FI
 have hlr:(dig r).length<=20000:=by rw[hr];exact He (bW _ _) FI
 have hlxr:(dig (x.num.natAbs*r)).length<=40000:=He (dY _ _) FI;have hlyl:(dig (y.num.natAbs*l)).length<=40000:=He (dY _ _) FI;have hlt:(dig t.natAbs).length<=40001:=by
  have h1:t.natAbs<=x.num.natAbs*r+y.num.natAbs*l:=by rw[ht];refine He (Int.natAbs_add_le _ _) ?_;rw[Int.natAbs_mul,Int.natAbs_mul];exact Gy _
  have h2:=aV h1;have h3:=wK (x.num.natAbs*r) (y.num.natAbs*l);omega
 have hlfy:(dig (y.den / f)).length<=20000:=He (bW _ _) FI;have hlxy:=acw x y;have hlxd:=fV (x+y);have HAP:=Ag hap;have Ef:=Ag hsum;have HGE:=Ag hg;have HLE:=Ag hl;have HRE:=Ag hr;have HFE:=Ag hf;have hbx:((((ay x).den.length:Int)==0)=false)\/((((ay x).den.length:Int)==0)=true/\(((ay y).den.length:Int)==0)=false):=by
  have key:∀ z:Rat,z.den≠1->(((ay z).den.length:Int)==0)=false:=by intro z hz;rw[rH hz];have:=bD.2 z.den_nz;exact beq_false_of_ne FI
  rcases hw with h | ⟨h,h2⟩
  ·exact .inl (key x h)
  ·exact .inr ⟨by rw[pI h]; rfl,key y h2⟩
 clear hw hx0 hy0 hap hsum hg hl hr ht hf;refine zdf ?_;intro HX HY;obtain⟨A,c,B,d,rfl,hn,hd⟩:=ha.open;obtain⟨A',c',B',d',rfl,hn',hd'⟩:=hb.open;clear hn hd hn' hd' ha hb;go_in;go_wp2_with fail
 generalize hW:G5 _ _=W;refine zcF ?_;clear hW HX HY;intro rz hB hz;intro HX HY hz x0 x1 x2 y0 y1 y2;refine(iE _ _ _ x HX.o).mono ?_;rintro e wn ⟨_,rfl,hb,rfl⟩;rw[dx];refine Za ?_;clear x0 x1 x2 y0 y1 y2 HX HY;intro x0 x1 x2 y0 y1 y2 HX HY;refine zbj ?_;clear rz hz hB hb;intro rz hz hB;go_wp2_with fail
 refine(iE _ _ _ y HY.o).mono ?_;rintro e wn ⟨_,rfl,hb,rfl⟩;rw[dy];refine Za ?_;clear x0 x1 x2 y0 y1 y2 HX HY;intro x0 x1 x2 y0 y1 y2 HX HY;refine zbj ?_;clear rz hz hB hb;intro rz hz hB;obtain⟨_,_,hh,hn,hd⟩:=HX.o;refine Ym ?_;intro HNX;cases hh;clear hn hd;obtain⟨_,_,hh,hn,hd⟩:=HY.o;refine ZY ?_;intro HNY;cases hh;clear hn hd;rcases hbx with hb1 | ⟨hb1,hb2⟩
 all_goals
  go_wp2_with fail
  refine Zi ?_;intro hHeld;refine zac ?_;intro hb;refine YK ?_;clear x0 x1 x2 y0 y1 y2 HX HY HNX HNY;intro x0 x1 x2 y0 y1 y2 HX HY HNX HNY;refine ZA ?_;clear rz hz hB hb;intro rz hz hB;generalize wn.drew=wn at *;refine tkm [0,2] ?_;refine tk2 1 aj rfl λK hK=>?_
  go_simp;refine(l7 _ _ _ x HX.o).mono ?_;rintro e wn ⟨vdx,rfl,hb,hu⟩;have HDX:=Ag (hu.mono (G:=(Ext (Old F w.heap.size) (w.heap.size+3))) (λb hb _=>hb.elim .inl λh=>.inr FI));clear hu;refine YK ?_;clear x0 x1 x2 y0 y1 y2 HX HY HNX HNY;intro x0 x1 x2 y0 y1 y2 HX HY HNX HNY;refine ZL ?_;clear rz hz hB hb hHeld hK K;intro rz hz hB hHeld;refine tk2 3 aj rfl λK hK=>?_
  go_simp;refine(l7 _ _ _ y HY.o).mono ?_;rintro e wn ⟨vdy,rfl,hb,hu⟩;refine zbK ?_;intro HDY;clear hu;refine YK ?_;clear x0 x1 x2 y0 y1 y2 HX HY HNX HNY;intro x0 x1 x2 y0 y1 y2 HX HY HNX HNY;replace HDX:=Ag (HDX.o.below hb);refine ZL ?_;clear rz hz hB hb hHeld hK K;intro rz hz hB hHeld;refine tkm [4,5] ?_;refine Z8 ?_;clear hHeld;go_wp2_with fail
  refine(sV _ _ _ _ x.den y.den HDX.o HDY.o FI FI).mono ?_;rintro e wn ⟨vg,rfl,hb,hu⟩;rw[<-HGE.o] at hu;have HG:=Ag (hu.mono (G:=(Ext (Old F w.heap.size) (w.heap.size+3))) (λb hb _=>hb.elim id λh=>.inr FI));clear hu;refine Zh ?_;clear x0 x1 x2 y0 y1 y2 HX HY HNX HNY HDX HDY;intro x0 x1 x2 y0 y1 y2 HX HY HNX HNY HDX HDY;refine zbj ?_;clear rz hz hB hb;intro rz hz hB;go_wp2_with fail
  refine(mX _ _ _ _ x.den g HDX.o HG.o hg0 FI FI).mono ?_;rintro e wn ⟨vl,rfl,hb,hu⟩;rw[<-HLE.o] at hu;have HL:=Ag (hu.mono (G:=(Ext (Old F w.heap.size) (w.heap.size+3))) (λb hb _=>hb.elim id λh=>.inr FI));clear hu;refine Zh ?_;clear x0 x1 x2 y0 y1 y2 HX HY HNX HNY HDX HDY;intro x0 x1 x2 y0 y1 y2 HX HY HNX HNY HDX HDY;replace HG:=Ag (HG.o.below hb);refine zbj ?_;clear rz hz hB hb;intro rz hz hB;go_wp2_with fail
  refine(mX _ _ _ _ y.den g HDY.o HG.o hg0 FI FI).mono ?_;rintro e wn ⟨vr,rfl,hb,hu⟩;rw[<-HRE.o] at hu;have HR:=Ag (hu.mono (G:=(Ext (Old F w.heap.size) (w.heap.size+3))) (λb hb _=>hb.elim id λh=>.inr FI));clear hu;refine Zh ?_;clear x0 x1 x2 y0 y1 y2 HX HY HNX HNY HDX HDY;intro x0 x1 x2 y0 y1 y2 HX HY HNX HNY HDX HDY;replace HG:=Ag (HG.o.below hb);replace HL:=Ag (HL.o.below hb);refine zbj ?_;clear rz hz hB hb;intro rz hz hB;go_wp2_with fail
  refine Zi ?_;intro hHeld;refine zac ?_;intro hb;refine Zh ?_;clear x0 x1 x2 y0 y1 y2 HX HY HNX HNY HDX HDY;intro x0 x1 x2 y0 y1 y2 HX HY HNX HNY HDX HDY;refine zdx ?_;clear HG HL HR;intro HG HL HR;refine ZA ?_;clear rz hz hB hb;intro rz hz hB;generalize wn.drew=wn at *;refine tkm [0,1,2,3,4,6,7,8,9,10] ?_;refine tk2 5 aj rfl λK hK=>?_
  go_simp;refine(lZ _ _ _ _ x.num.natAbs r HNX.o HR.o FI FI).mono ?_;rintro e wn ⟨vt1,rfl,hb,hu⟩;have HT1:=Ag (hu.mono (G:=(Ext (Old F w.heap.size) (w.heap.size+3))) (λb hb _=>hb.elim id λh=>.inr FI));clear hu;refine Zh ?_;clear x0 x1 x2 y0 y1 y2 HX HY HNX HNY HDX HDY;intro x0 x1 x2 y0 y1 y2 HX HY HNX HNY HDX HDY;refine zdx ?_;clear HG HL HR;intro HG HL HR;refine ZL ?_;clear rz hz hB hb hHeld hK K;intro rz hz hB hHeld;refine tk2 11 aj rfl λK hK=>?_
  go_simp;refine(lZ _ _ _ _ y.num.natAbs l HNY.o HL.o FI FI).mono ?_;rintro e wn ⟨vt2,rfl,hb,hu⟩;have HT2:=Ag (hu.mono (G:=(Ext (Old F w.heap.size) (w.heap.size+3))) (λb hb _=>hb.elim id λh=>.inr FI));clear hu;refine Zh ?_;clear x0 x1 x2 y0 y1 y2 HX HY HNX HNY HDX HDY;intro x0 x1 x2 y0 y1 y2 HX HY HNX HNY HDX HDY;refine zdx ?_;clear HG HL HR;intro HG HL HR;replace HT1:=Ag (HT1.o.below hb);refine ZL ?_;clear rz hz hB hb hHeld hK K;intro rz hz hB hHeld;refine tk2 12 aj rfl λK hK=>?_
  go_simp;refine(abL _ _ (dh x) (dh y) _ _ (x.num.natAbs*r) (y.num.natAbs*l) HT1.o HT2.o FI FI).mono ?_;rintro e wn ⟨_,rfl,hb,neg,vt,rfl,hu,hs⟩;rw[Ef.o] at hu hs;have HT:=Ag (hu.mono (G:=(Ext (Old F w.heap.size) (w.heap.size+3))) (λb hb _=>.inr FI));have HNE:=Ag hs;clear hs;have hvt:∃ At ct,vt = Gw At (dig t.natAbs).length ct:=by obtain⟨At,ct,h,_⟩:=hu;exact⟨At,ct,h⟩
  obtain⟨At,ct,rfl⟩:=hvt;clear hu;refine Zh ?_;clear x0 x1 x2 y0 y1 y2 HX HY HNX HNY HDX HDY;intro x0 x1 x2 y0 y1 y2 HX HY HNX HNY HDX HDY;refine zdx ?_;clear HG HL HR;intro HG HL HR;replace HT1:=Ag (HT1.o.below hb);replace HT2:=Ag (HT2.o.below hb);refine ZL ?_;clear rz hz hB hb hHeld hK K;intro rz hz hB hHeld;refine tkm [13,14,15,16,17] ?_;refine Z8 ?_;clear hHeld;by_cases ht0:t=0
  ·have hl0:(((dig t.natAbs).length:Int)==0)=true:=by rw[ht0];simp[bK]
   have HZ:=Ag (show x+y=0 by refine(kP _).1 ?_; rw[HAP.o.1,ht0]; simp);clear ht0;refine Zk ?_;intro q0 y0 q1 y1 q2 y2;go_wp2
   refine zbe ?_;clear q0 q1 q2 y0 y1 y2;intro Wz hrz hwz hkz;intro t0 t1 t2;refine bodyPost_ret (v:=.agg #[G7 false,Gw none 0 0,Gw none 0 0]) (by simp[results,J9,go_sem,t0,t1,t2]) rfl ?_;exact zce
  ·have hl0:(((dig t.natAbs).length:Int)==0)=false:=by have:=(bD (n:=t.natAbs)).2 FI;exact beq_false_of_ne FI
   have HNG:=Ag (show neg=dh (x+y) by rw[HAP.o.2.2,HNE.o]; exact(aag FI).symm);clear ht0;clear x0 x1 x2 y0 y1 y2;go_wp2_with fail
   refine(sV _ _ _ _ t.natAbs g HT.o HG.o FI FI).mono ?_;rintro e wn ⟨vf,rfl,hb,hu⟩;rw[<-HFE.o] at hu;have HF:=Ag (hu.mono (G:=(Ext (Old F w.heap.size) (w.heap.size+3))) (λb hb _=>hb.elim id λh=>.inr FI));clear hu;refine Zz ?_;clear HX HY HNX HNY HDX HDY HG HL HR HT1 HT2 HT;intro HX HY HNX HNY HDX HDY HG HL HR HT1 HT2 HT;refine zbj ?_;clear rz hz hB hb;intro rz hz hB;go_wp2_with fail
   refine(mX _ _ _ _ t.natAbs f HT.o HF.o hf0 FI FI).mono ?_;rintro e wn ⟨vp,rfl,hb,hu⟩;rw[<-HAP.o.1] at hu;have HP:=Ag (hu.mono (G:=(Ext (Old F w.heap.size) (w.heap.size+3))) (λb hb _=>hb.elim id λh=>.inr FI));clear hu;refine Zz ?_;clear HX HY HNX HNY HDX HDY HG HL HR HT1 HT2 HT;intro HX HY HNX HNY HDX HDY HG HL HR HT1 HT2 HT;replace HF:=Ag (HF.o.below hb);refine zbj ?_;clear rz hz hB hb;intro rz hz hB;go_wp2_with fail
   refine(mX _ _ _ _ y.den f HDY.o HF.o hf0 FI FI).mono ?_;rintro e wn ⟨vq,rfl,hb,hu⟩;have HQ:=Ag (hu.mono (G:=(Ext (Old F w.heap.size) (w.heap.size+3))) (λb hb _=>hb.elim id λh=>.inr FI));clear hu;refine Zz ?_;clear HX HY HNX HNY HDX HDY HG HL HR HT1 HT2 HT;intro HX HY HNX HNY HDX HDY HG HL HR HT1 HT2 HT;replace HF:=Ag (HF.o.below hb);replace HP:=Ag (HP.o.below hb);refine zbj ?_;clear rz hz hB hb;intro rz hz hB;go_wp2_with fail
   refine(lZ _ _ _ _ l (y.den / f) HL.o HQ.o FI FI).mono ?_;rintro e wn ⟨vd,rfl,hb,hu⟩;rw[<-HAP.o.2.1] at hu;have HD:=Ag (hu.mono (G:=(Ext (Old F w.heap.size) (w.heap.size+3))) (λb hb _=>hb.elim id λh=>.inr FI));clear hu;refine Zz ?_;clear HX HY HNX HNY HDX HDY HG HL HR HT1 HT2 HT;intro HX HY HNX HNY HDX HDY HG HL HR HT1 HT2 HT;replace HF:=Ag (HF.o.below hb);replace HP:=Ag (HP.o.below hb);replace HQ:=Ag (HQ.o.below hb);refine zbj ?_;clear rz hz hB hb;intro rz hz hB;go_wp2_with fail
   refine(uM _ _ _ _ _ (x+y).num.natAbs (x+y).den (dig (x+y).den) HP.o HD.o (.inl rfl) (x+y).den_nz (jC _) FI).mono ?_;rintro e wn ⟨vm,rfl,hb,hu⟩;rw[HNG.o,aa0] at hu;have HM:=Ag hu;obtain⟨Am,cm,Bm,dm,rfl,hn,hd⟩:=hu.open;clear hn hd hu;refine Zz ?_;clear HX HY HNX HNY HDX HDY HG HL HR HT1 HT2 HT;intro HX HY HNX HNY HDX HDY HG HL HR HT1 HT2 HT;replace HF:=Ag (HF.o.below hb);replace HP:=Ag (HP.o.below hb);replace HQ:=Ag (HQ.o.below hb);replace HD:=Ag (HD.o.below hb);refine zbj ?_;clear rz hz hB hb;intro rz hz hB;refine Zk ?_;intro q0 y0 q1 y1 q2 y2;go_wp2
   obtain⟨Wz,hWz,hrz,hwz,hkz⟩:=aY rz (G7 (ay (x+y)).neg) (Gw Am (ay (x+y)).num.length cm) (Gw Bm (ay (x+y)).den.length dm);refine Zg ?_;clear hWz q0 q1 q2 y0 y1 y2;intro t0 t1 t2;refine bodyPost_ret (v:=.agg #[G7 (ay (x+y)).neg,Gw Am (ay (x+y)).num.length cm,Gw Bm (ay (x+y)).den.length dm]) (by simp[results,J9,go_sem,t0,t1,t2]) rfl ?_;exact Zq
theorem acW (w:GK) (F:Gq) (va vb:GN) (x y:Rat) (ha:NmV w F va x) (hb:NmV w F vb y) (hlx:rl x<=20000) (hly:rl y<=20000) :
  Calls GI 40 #[va,vb] w (Ret w λv w'=>NmV w' (Ext F w.heap.size) v (x+y)):=by grind [aop,aoq,ah6,akb]
def aat:GN->Option Nat
 | .slice (some a) _ _=>some a.block
 | .pointer (some a)=>some a.block
 | _=>none
def upd (e:Nat->GN) (j:Nat) (v:GN):Nat->GN:=λk=>if k=j then v else e k
theorem agC {e:Nat->GN} {u v:GN} (h:i≠j):upd (upd e i u) j v=upd (upd e j v) i u:=by grind [upd]
structure Says where
 uses:Nat->List Nat
 F:Nat->List GN->Hold
 cu:List Nat
 G:Nat->List GN->GK->GK->Prop
 mks:List Nat
def Says.R (s:Says) (i:Nat) (e:Nat->GN) (w:GK):Prop:=(s.F i ((i :: s.uses i).map e)).p w
def Says.T (s:Says) (j:Nat) (e:Nat->GN) (w w':GK):Prop:=bif s.cu.contains j then s.G j ((j :: s.uses j).map e) w w' else Below w.heap.size w w'
def Says.Apart (s:Says) (E:List Nat) (e:Nat->GN):Prop:=∀ p∈E,∀ q∈E,p∈s.mks->q∈s.mks->p≠q->∀ b,aat (e p)=some b->aat (e q)≠some b
theorem aji {l:List Nat} {e:Nat->GN} {v:GN} (h:j ∉ l):l.map (upd e j v)=l.map e :=
 List.map_congr_left λk hk=>LG (by rintro rfl; exact h hk)
theorem Says.Et (s:Says) {e:Nat->GN} {v:GN} {w:GK} (h:j ∉ i :: s.uses i):s.R i (upd e j v) w↔s.R i e w:=by unfold Says.R; rw[aji h]
theorem Says.FY (s:Says) {e:Nat->GN} {v:GN} {w w':GK} (h:j ∉ i :: s.uses i):s.T i (upd e j v) w w'↔s.T i e w w':=by unfold Says.T; rw[aji h]
section
variable {P:Program} {ops:Array Oper} {Q:Exit->Act->GK->Prop} {S:Hold} {s:Says}
def Dt (s:Says) (e:Nat->GN) (w:GK) (i:Nat) (u:GN) (w':GK):Prop:=s.T i (upd e i u) w w'/\s.R i (upd e i u) w'/\(i∈s.mks->∀ b,aat u=some b->w.heap.size<=b)
def Fp (P:Program) (ops:Array Oper) (s:Says) (i:Nat) (e:Nat->GN) (a:Act) (w:GK):Prop:=Step P ops (λ_ _=>True) (Dt s e w) i a w
def AZ (P:Program) (ops:Array Oper) (Q:Exit->Act->GK->Prop) (S:Hold) (s:Says):List Nat->List Nat->(Nat->GN)->Act->Prop
 | [],E,e,a=>∀ w,S.p w->(∀ i∈E,s.R i e w)->s.Apart E e->Q .normal a w
 | j :: js,E,e,a=>(∀ w,S.p w->(∀ i∈E,dep .any ops j i=true->s.R i e w)->Fp P ops s j e a w)/\∀ v,AZ P ops Q S s js (j :: E) (upd e j v) (a.put (iQ ops j) v)
theorem Step.weak {T:GK->GK->Prop} {R R':Nat->GN->GK->Prop} {w:GK} (h:Step P ops T R i a w) (f:∀ u w',R i u w'->R' i u w'):Step P ops T R' i a w :=
 λo ho K hK=>h o ho K λu w' ht hr=>hK u w' ht (f u w' hr)
theorem Dt.upd {e:Nat->GN} {w w':GK} {u v:GN} (hij:i≠j) (h:j ∉ i :: s.uses i):Dt s (upd e j v) w i u w'↔Dt s e w i u w':=by
 unfold Dt;rw[<-agC (e:=e) (u:=u) (v:=v) hij,s.FY h,s.Et h]
theorem AZ.perm:∀ {js E E':List Nat} {e:Nat->GN} {a:Act},(∀ p,p∈E'↔p∈E)->AZ P ops Q S s js E e a->AZ P ops Q S s js E' e a
 | [],_,_,_,_,h,H=>λw hS hf hA=>H w hS (λp hp=>hf p ((h p).2 hp)) (λp hp q hq=>hA p ((h p).2 hp) q ((h q).2 hq))
 | j :: js,_,_,_,_,h,H=>⟨λw hS hf=>H.1 w hS (λp hp hd=>hf p ((h p).2 hp) hd),λv=>AZ.perm (λp=>by simp[h p]) (H.2 v)⟩
def alO (ops:Array Oper):Bool:=(Ig ops.size).all λi=>match ops[i]? with
 | some o=>o.after.all λe=>!Region.binds .any e||decide (e.on < i)
 | none=>true
theorem ah7 {ops:Array Oper} (hs:listed.size=ops.size) (hb:alO ops=true) (hr:H8 .any ops listed = []):∀ i,i < ops.size->listed.getD i true=true:=by
 intro i;induction i using Nat.strongRecOn with
 | _ i ih =>
   intro hi;by_cases hl:listed.getD i true=false
   ·exfalso
    have:i∈H8 .any ops listed:=by
      rw[mem_ready];refine⟨hl,ops[i],by simp[hi],λe he hbe=>?_⟩;have h:=List.all_eq_true.1 hb i (List.mem_range.2 hi);grind [Array.all_eq_true']
    grind
   grind
def an2 (ops:Array Oper) (listed:Array Bool) (js:List Nat) (fuel:Nat):Bool :=
 Jp ops&&alO ops&&oJ .any ops js&&decide (js.length<=fuel)&&js.all (λj=>decide (j < ops.size))&&decide (js.Nodup)&&decide (listed.size=ops.size)&&(Ig ops.size).all (λj=>js.contains j == !listed.getD j true)
structure D9 (ops:Array Oper) (s:Says) (js E:List Nat):Prop where
 apart:∀ k∈E,k ∉ js
 dep:∀ k∈E,∀ j∈js,dep .any ops k j=false
 uses:∀ k,k∈E\/k∈js->∀ x∈s.uses k,Go.Proofs.YtenaplhghbcjhaaGreatDoor.dep .any ops k x=true
 there:∀ k∈js,∀ x∈s.uses k,x∈E\/x∈js
theorem D9.cons {j:Nat} {js E:List Nat} (h:D9 ops s (j :: js) E) (hok:∀ i∈js,far .any ops j i=true) (hnd:j ∉ js):D9 ops s js (j :: E):=by
 refine⟨λk hk hkj=>?_,λk hk i hi=>?_,λk hk=>?_,λk hk x hx=>?_⟩
 ·rcases List.mem_cons.1 hk with rfl | hk
  ·exact hnd hkj
  ·exact h.apart k hk (Iz _ hkj)
 ·rcases List.mem_cons.1 hk with rfl | hk
  ·grind [aes]
  ·exact h.dep k hk i (Iz _ hi)
 ·refine h.uses k ?_;grind
 ·rcases h.there k (Iz _ hk) x hx with h1 | h1
  all_goals grind
theorem AZ.pull (hn:Jp ops=true) {i:Nat}:∀ {js E:List Nat} {e:Nat->GN} {a:Act},(∀ j∈js,j < ops.size)->oJ .any ops js=true->js.Nodup->i∈js->(∀ j∈js,dep .any ops i j=false)->D9 ops s js E->AZ P ops Q S s js E e a ->
  (∀ w,S.p w->(∀ k∈E,dep .any ops i k=true->s.R k e w)->Fp P ops s i e a w)/\∀ u,AZ P ops Q S s (js.erase i) (i :: E) (upd e i u) (a.put (iQ ops i) u)
 | [],_,_,_,_,_,_,hi,_,_,_=>by cases hi
 | j :: js,E,e,a,hlt,hok,hnd,hi,yP,hD,H=>by
  by_cases hji:j=i
  ·subst hji;rw[Lu];exact H
  ·have hi':i∈js:=by
    rcases List.mem_cons.1 hi with h | h
    ·exact absurd h.symm hji
    ·exact h
   simp only[oJ,Ib,Jz] at hok;refine zcR ?_;intro ano x hx y hy f1 f2 f3 f3' ex ey;have hji':j ∉ i :: s.uses i:=λh=>by
    rcases List.mem_cons.1 h with h | h
    ·exact hji h
    ·have h1:=hD.uses i (.inr hi) j h;rw[yP j aA] at h1;cases h1
   have hij':i ∉ j :: s.uses j:=λh=>by
    rcases List.mem_cons.1 h with h | h
    ·exact hji h.symm
    ·have h1:=hD.uses j (.inr aA) i h;rw[aes ano] at h1;cases h1
   have hkE:∀ z∈j :: js,∀ k∈E,z ∉ k :: s.uses k:=λz hz k hk h=>by
    rcases List.mem_cons.1 h with h | h
    ·subst h;exact hD.apart _ hk hz
    ·have h1:=hD.uses k (.inl hk) z h;rw[hD.dep k hk z hz] at h1;cases h1
   have IH:=λv=>AZ.pull hn (i:=i) (js:=js) (E:=j :: E) (e:=upd e j v) (a:=a.put (iQ ops j) v) (λk hk=>hlt k (Iz _ hk)) hok.2 (List.nodup_cons.1 hnd).2 hi' (λk hk=>yP k (Iz _ hk)) (hD.cons hok.1 (List.nodup_cons.1 hnd).1) (H.2 v)
   refine⟨λw hS hf=>?_,λu=>?_⟩
   ·have h1:=(IH undef).1 w hS (λk hk hd=>by
     rcases List.mem_cons.1 hk with h | h
     ·subst h;rw[yP k aA] at hd;cases hd
     ·exact(s.Et (hkE j aA k h)).2 (hf k h hd))
    refine Step.weak (Step.an1 h1 hn (λo ho d hd=>?_)) (λu w' h=>(Dt.upd (λh=>hji h.symm) hji').1 h);rw[hy] at ho;cases ho;rw[ex] at hd;exact f3' d hd
   ·rw[List.erase_cons_tail (by simpa using hji)];refine⟨λw hS hf=>?_,λv=>?_⟩
    ·have h1:=H.1 w hS (λk hk hd=>(s.Et (hkE i hi k hk)).1 (hf k (Iz _ hk) hd));refine Step.weak (Step.put h1 hn (λo ho d hd=>?_)) (λu w' h=>(Dt.upd hji hij').2 h);rw[hx] at ho;cases ho;rw[ey] at hd;exact f1 d hd
    ·have h1:=(IH v).2 u;have e1:(a.put (iQ ops i) u).put (iQ ops j) v=(a.put (iQ ops j) v).put (iQ ops i) u:=by
      rw[ex,ey];exact Act.put_comm a u v f2
     rw[e1,agC (λh=>hji h.symm)];exact zdF
theorem adQ (hn:Jp ops=true) (hb:alO ops=true) (hM:∀ k∈s.mks,∀ e w,s.R k e w->∀ b,aat (e k)=some b->b < w.heap.size)
  {js0:List Nat} (hC:∀ j∈s.cu,∀ E e w w',(∀ k∈E,k∈js0)->(∀ k∈s.uses j,k∈E)->j ∉ E->(∀ i∈E,s.R i e w)->s.Apart E e->S.p w->s.G j ((j :: s.uses j).map e) w w'->S.p w'/\∀ i∈E,s.R i e w') :
  ∀ (n:Nat) (fuel:Nat) (js E:List Nat) (e:Nat->GN) (listed:Array Bool) (a:Act) (w:GK),js.length=n->n<=fuel->(∀ j∈js,j < ops.size)->oJ .any ops js=true->js.Nodup->(∀ k,k∈E\/k∈js->k∈js0)->D9 ops s js E ->
   (∀ j,j < ops.size->(j∈js↔listed.getD j true=false))->listed.size=ops.size->AZ P ops Q S s js E e a->S.p w->(∀ i∈E,s.R i e w)->s.Apart E e->wpAnyH P .any ops Q S.p fuel listed a w:=by
 intro n;induction n with
 | zero =>
  intro fuel js E e listed a w hl _ hlt _ _ _ _ hun hsz H hS hf hA;obtain rfl:=List.eq_nil_of_length_eq_zero hl;refine wpAnyH_done ?_ (H w hS hf hA) fuel;cases hr:H8 .any ops listed with
  | nil=>rfl
  | cons i rs =>
   have hi:i∈H8 .any ops listed:=by rw[hr];simp
   obtain⟨h1,o,ho,_⟩:=mem_ready.1 hi;have:=(hun i (Array.getElem?_eq_some_iff.1 ho).1).2 h1;cases this
 | succ n ih =>
  intro fuel js E e listed a w hl hfu hlt hok hnd h0 hD hun hsz H hS hf hA;cases fuel with
  | zero=>omega
  | succ fuel =>
   by_cases hr0:H8 .any ops listed = []
   ·exfalso
    have hall:=ah7 hsz hb hr0;cases js with
    | nil=>simp at hl
    | cons j js =>
     have hjl:=hlt j aA;have h3:=(hun j hjl).1 aA;have h2:=hall j hjl;have hjs:j < listed.size:=FI;rw[h2] at h3;cases h3
   refine wpAnyH_all rfl hr0 λi hi=>?_
   obtain⟨h1,o,ho,hall⟩:=mem_ready.1 hi;have hil:=(Array.getElem?_eq_some_iff.1 ho).1;have hij:=(hun i hil).2 h1;have yP:∀ j∈js,dep .any ops i j=false:=by
    intro j hj;unfold dep;rw[ho];simp only;rw[Bool.eq_false_iff];intro he;obtain⟨x,hem,hb⟩:=Array.any_eq_true'.1 he;simp only[Ib,beq_iff_eq] at hb;have h2:=hall x hem hb.1;rw[hb.2] at h2;have h3:=(hun j (hlt j hj)).1 hj;have hjs:j < listed.size:=by rw[hsz];exact hlt j hj
    simp[Ia,hjs] at h2 h3;rw[h2] at h3;cases h3
   obtain⟨p1,p2⟩:=AZ.pull hn hlt hok hnd hij yP hD H;have hiE:i ∉ E:=λh=>hD.apart i h hij
   refine Step.wpOp ho (p1 w hS (λk hk _=>hf k hk)) (λu w' _ hR0=>?_);obtain⟨hT,hR,hF⟩:=hR0;have hf1:∀ k∈E,s.R k (upd e i u) w:=λk hk=>(s.Et λh=>by
    rcases List.mem_cons.1 h with h | h
    ·subst h;exact hiE hk
    ·have h1:=hD.uses k (.inl hk) i h;rw[hD.dep k hk i hij] at h1; cases h1).2 (hf k hk)
   have hne:∀ k∈E,(upd e i u) k=e k:=λk hk=>LG (by rintro rfl; exact hiE hk)
   have hA1:s.Apart E (upd e i u):=λp hp q hq a1 a2 a3 b=>by rw[hne p hp,hne q hq];exact hA p hp q hq a1 a2 a3 b
   have hnext:S.p w'/\∀ k∈E,s.R k (upd e i u) w':=by
    unfold Says.T at hT;cases hcu:s.cu.contains i with
    | true =>
     rw[hcu,cond_true] at hT;refine hC i (by simpa using hcu) E (upd e i u) w w' (λk hk=>h0 k (.inl hk)) (λk hk=>?_) hiE hf1 hA1 hS hT;rcases hD.there i hij k hk with h | h
     ·exact h
     ·have h1:=hD.uses i (.inr hij) k hk;rw[yP k h] at h1;cases h1
    | false =>
     rw[hcu,cond_false] at hT;exact⟨S.keep w w' hS hT,λk hk=>Hold.keep _ w w' (hf1 k hk) hT⟩
   have hd:iQ ops i=o.dst:=by simp[iQ,ho]
   rw[<-hd];refine⟨hnext.1,ih fuel (js.erase i) (i :: E) (upd e i u) _ _ w' (by rw[List.length_erase_of_mem hij,hl]; rfl) FI (λj hj=>hlt j (IZ hj)) ?_ (hnd.erase i) (λk hk=>h0 k (hk.elim (λh=>(List.mem_cons.1 h).elim (λh=>.inr (h▸hij)) .inl) λh=>.inr (IZ h))) ?_ ?_ (by simp[hsz]) (p2 u) hnext.1 ?_ ?_⟩
   ·clear hl hlt hnd hun H hij yP p1 p2 hD hiE h0;induction js with
    | nil=>exact hok
    | cons j js ih =>
     simp only[oJ,Ib,Jz] at hok;by_cases hji:j=i
     ·subst hji;rw[Lu];exact hok.2
     ·exact zbT
   ·refine⟨λk hk hkj=>?_,λk hk j hj=>?_,λk hk=>?_,λk hk x hx=>?_⟩
    ·rcases List.mem_cons.1 hk with rfl | hk
     ·exact(hnd.mem_erase_iff.1 hkj).1 rfl
     ·exact hD.apart k hk (IZ hkj)
    ·rcases List.mem_cons.1 hk with rfl | hk
     ·exact yP j (IZ hj)
     ·exact hD.dep k hk j (IZ hj)
    ·refine hD.uses k ?_;rcases hk with hk | hk
     ·rcases List.mem_cons.1 hk with rfl | hk
      ·exact .inr hij
      ·exact .inl hk
     ·exact .inr (IZ hk)
    ·by_cases hxi:x=i
     ·subst hxi;exact .inl aA
     ·rcases hD.there k (IZ hk) x hx with h | h
      ·exact .inl (Iz _ h)
      ·exact .inr (hnd.mem_erase_iff.2 ⟨hxi,h⟩)
   ·intro j hj;rw[hnd.mem_erase_iff];by_cases hji:j=i
    ·subst hji;simp only[ne_eq,not_true_eq_false,false_and,false_iff];have:j < listed.size:=by rw[hsz];exact hj
     simp[Ia,this]
    ·rw[Go.getD_set_ne true (Ne.symm hji)];simp[hji,hun j hj]
   ·intro k hk;rcases List.mem_cons.1 hk with rfl | hk
    ·exact hR
    ·exact hnext.2 k hk
   ·have hii:(upd e i u) i=u:=LH rfl;intro p hp q hq g1 g2 hpq b hb;rcases List.mem_cons.1 hp with h | hp'
    ·rcases List.mem_cons.1 hq with h' | hq'
     ·exact absurd (h.trans h'.symm) hpq
     ·intro hc;rw[h,hii] at hb;have e1:=hF (h▸g1) b hb;have e2:=hM _ g2 _ _ (hf1 q hq') b hc;omega
    ·rcases List.mem_cons.1 hq with h' | hq'
     ·intro hc;rw[h',hii] at hc;have e1:=hF (h'▸g2) b hc;have e2:=hM _ g1 _ _ (hf1 p hp') b hb;omega
     ·exact hA1 p hp' q hq' g1 g2 hpq b hb
def useB (ops:Array Oper) (s:Says) (js:List Nat):Bool:=js.all λi=>(s.uses i).all λk=>dep .any ops i k&&js.contains k
theorem afk {w:GK} {S':GK->Prop} (S:Hold) (s:Says) (hok:an2 ops listed js fuel=true) (hus:useB ops s js=true) (hS:S.p w) (hSS:∀ w,S.p w->S' w)
  (hM:∀ k∈s.mks,∀ e w,s.R k e w->∀ b,aat (e k)=some b->b < w.heap.size)
  (hC:∀ j∈s.cu,∀ E e w w',(∀ k∈E,k∈js)->(∀ k∈s.uses j,k∈E)->j ∉ E->(∀ i∈E,s.R i e w)->s.Apart E e->S.p w->s.G j ((j :: s.uses j).map e) w w'->S.p w'/\∀ i∈E,s.R i e w')
  (h:AZ P ops Q S s js [] (λ_=>undef) a):wpAnyH P .any ops Q S' fuel listed a w:=by
 simp only[an2,Ib,Jz,decide_eq_true_eq,List.mem_range,beq_iff_eq] at hok;obtain⟨⟨⟨⟨⟨⟨⟨h1,h2⟩,h3⟩,h4⟩,h5⟩,h6⟩,h7⟩,h8⟩:=hok;simp only[useB,Jz,Ib,List.contains_iff_mem] at hus;exact sW hSS (adQ h1 h2 hM hC js.length fuel js [] _ listed a w rfl h4 h5 h3 h6 (λk hk=>hk.resolve_left aA)
  ⟨λk hk=>(by cases hk),λk hk=>(by cases hk),λk hk x hx=>(hus k (hk.resolve_left aA) x hx).1,λk hk x hx=>.inr (hus k hk x hx).2⟩
  (λj hj=>by
   have:=h8 j hj;rw[<-List.contains_iff_mem,this];cases listed.getD j true <;> simp) h7 h hS (λp hp=>by cases hp) (λp hp=>by cases hp))
theorem AZ.cons {j:Nat} {js E:List Nat} {e:Nat->GN} {a:Act} {o:Oper} (ho:ops[j]? = some o)
  (h1:∀ w,S.p w->(∀ i∈E,dep .any ops j i=true->s.R i e w)->∀ K:Act->GK->Prop,Shut (∀ u w',Dt s e w j u w'->K (a.put o.dst u) w')->if Region.wanted o (yielded ops a.tmps)=true then Oper.wp P o a w K (λ_ _ _=>False) else K (a.put o.dst undef) w)
  (h2:∀ v,AZ P ops Q S s js (j :: E) (upd e j v) (a.put o.dst v)):AZ P ops Q S s (j :: js) E e a:=by
 refine⟨λw hS hf o' ho' K hK=>?_,λv=>?_⟩
 ·rw[ho] at ho';cases ho';exact h1 w hS hf K (λu w' h=>hK u w' trivial h)
 ·have:iQ ops j=o.dst:=by simp[iQ,ho]
  rw[this];exact h2 v
theorem AZ.nil {e:Nat->GN} (h:∀ w,S.p w->(∀ i∈E,s.R i e w)->s.Apart E e->Q .normal a w):AZ P ops Q S s [] E e a:=h
theorem ifA {c:Bool} {p q:Prop} (h:c=true) (hp:p):if c=true then p else q:=by rw[LH h]; exact hp
def Hold.made (B:Nat) (t:TypeId) (n:Nat) (l:List GN) (v:GN):Hold:=⟨λw=>∃ b,v = Gw (some ⟨b,0,none⟩) n n/\B<=b/\Row w b t l,λ_ _ h hb=>let ⟨b,h1,h2,h3⟩:=h; ⟨b,h1,h2,h3.below hb h3.lt⟩⟩
def Hold.tt:Hold:=⟨λ_=>True,λ_ _ _ _=>trivial⟩
def Hold.eq (u v:GN):Hold:=⟨λ_=>v=u,λ_ _ h _=>h⟩
theorem afl {l:List GN} {v:GN} {w:GK} (h:(Hold.made B t n l v).p w) (b:Nat) (hb:aat v=some b):b < w.heap.size:=by
 obtain⟨c,rfl,_,h⟩:=h;cases hb;exact h.lt
theorem zK {x:Nat} {l:List GN} {u v:GN} {w:GK} (hx:x < B) (h:(Hold.made B t n l v).p w):(Hold.made B t n l v).p (w.setCell ⟨x,k,none⟩ u):=by
 obtain⟨c,h1,h2,h3⟩:=h;exact⟨c,h1,h2,h3.other (a:=⟨x,k,none⟩) (show c≠x by omega) _⟩
theorem ah8 {s:Says} {e:Nat->GN} (h:s.Apart E e) {b c:Nat} (hi:i∈E) (hk:k∈E) (mi:i∈s.mks) (mk':k∈s.mks) (hne:i≠k) (hu:aat (e i)=some b) (hv:aat (e k)=some c):b≠c:=by
 rintro rfl;exact h _ hi _ hk mi mk' hne b hu hv
end
def fP (x:Rat):Int:=if 1024 < rl x then 5 else 0
def dR (x:Rat):Raw:=if 1024 < rl x then ⟨false,[],[]⟩ else ak x
theorem aau (x:Rat):(ay x).den.length<=(dig x.den).length:=by
 unfold ay;split <;> simp
theorem Ak.zero (w:GK) (F:Gq) (A B:Option Addr) (c d:Nat):Ak w F (.agg #[G7 false,Gw A 0 c,Gw B 0 d]) ⟨false,[],[]⟩:=by grind [Ak.make,gV]
theorem akc (w:GK) (F:Gq) (va:GN) (x:Rat) (ha:NmV w F va x) (hl:rl x<=100000) (hov:1024 < rl x) :
  Calls GI 42 #[va] w (Ret w λv w'=>∃ u,v = .tuple #[u,GV GU (fP x)]/\Ak w' (λb=>w.heap.size<=b) u (dR x)):=by
 have HO:=Ag (show fP x=5 by unfold fP; rw[LH hov]);have HR:=Ag (show dR x=⟨false,[],[]⟩ by unfold dR; rw[LH hov]);have hor:(1024 < (ay x).num.length)\/((ay x).num.length<=1024/\1024 < (ay x).den.length):=by
  rw[oH];by_cases h:1024 < (dig x.num.natAbs).length
  ·exact .inl h
  ·refine .inr ⟨FI,?_⟩;have h2:1024 < (dig x.den).length:=by unfold rl at hov;omega
   rw[rH (by intro e; rw[e,ji] at h2; simp at h2)];exact h2
 clear hov;rcases hor with h1 | ⟨h1,h2⟩
 ·have d1:decide ((1024:Int) < ((ay x).num.length:Int))=true:=aB;have HX:=Ag ha.old;obtain⟨A,c,B,d,rfl,hn,hd⟩:=ha.open;clear hn hd ha;go_in;go_wp2_with fail
  refine zdB ?_;clear HX;intro W rz hB hz;intro HX hz x0 x1 x2;have t0:=rz.cell (i:=0) rfl;have y0:=rz.frozen 0;have t1:=rz.cell (i:=1) rfl;have y1:=rz.frozen 1;have t2:=rz.cell (i:=2) rfl;have y2:=rz.frozen 2;go_wp2
  refine bodyPost_ret (v:=.tuple #[.agg #[G7 false,Gw none 0 0,Gw none 0 0],GV GU 5]) (by simp[results,KN,go_sem,t0,t1,t2]) rfl ?_;exact⟨_,rfl,hB,_,by rw[HO.o],by rw[HR.o]; exact Ak.zero _ _ _ _ _ _⟩
 ·have d1:decide ((1024:Int) < ((ay x).num.length:Int))=false:=aB;have d2:decide ((1024:Int) < ((ay x).den.length:Int))=true:=aB;have HX:=Ag ha.old;obtain⟨A,c,B,d,rfl,hn,hd⟩:=ha.open;clear hn hd ha;go_in;go_wp2_with fail
  refine zdB ?_;clear HX;intro W rz hB hz;intro HX hz x0 x1 x2;have t0:=rz.cell (i:=0) rfl;have y0:=rz.frozen 0;have t1:=rz.cell (i:=1) rfl;have y1:=rz.frozen 1;have t2:=rz.cell (i:=2) rfl;have y2:=rz.frozen 2;go_wp2
  refine bodyPost_ret (v:=.tuple #[.agg #[G7 false,Gw none 0 0,Gw none 0 0],GV GU 5]) (by simp[results,KN,go_sem,t0,t1,t2]) rfl ?_;exact⟨_,rfl,hB,_,by rw[HO.o],by rw[HR.o]; exact Ak.zero _ _ _ _ _ _⟩
theorem ah9 (w:GK) (F:Gq) (va:GN) (x:Rat) (ha:NmV w F va x) (hl:rl x<=100000) (hov:rl x<=1024) (hd1:x.den=1) :
  Calls GI 42 #[va] w (Ret w λv w'=>∃ u,v = .tuple #[u,GV GU (fP x)]/\Ak w' (λb=>w.heap.size<=b) u (dR x)):=by
 have HO:=Ag (show fP x=0 by unfold fP; rw[LG FI]);have HR:=Ag (show dR x=ak x by unfold dR; rw[LG FI]);have l1:=fU x;have l2:=fV x;have l3:=aau x;have h1:(ay x).num.length<=1024:=by rw[oH];omega
 refine zdZ ?_;intro h2 d1 d2;have h3:(((ay x).den.length:Int)==0)=true:=by rw[pI hd1];rfl
 have HD1:=Ag hd1;clear hd1 l3;have HX:=Ag ha.old;obtain⟨A,c,B,d,rfl,hn,hd⟩:=ha.open;clear hn hd ha;go_in;go_wp2_with fail
 generalize hW:G5 _ _=W;obtain⟨rx,rz,hB,hz⟩:=gW hW;refine Yv ?_;clear hW HX rx;intro HX hz x0 x1 x2;obtain⟨_,_,hh,hn,hd⟩:=HX.o;have HNX:=Ag (Ah.mono (n:=x.num.natAbs) (G:=Old F w.heap.size) hn (λb hb _=>hb));cases hh;clear hn hd;refine aP (λw'=>w'.cell? ⟨w.heap.size,0,none⟩=some (G7 (ay x).neg)/\w'.cell? ⟨w.heap.size,1,none⟩=some (Gw A (ay x).num.length c)/\w'.cell? ⟨w.heap.size,2,none⟩=some (Gw B (ay x).den.length d)) 7 2 aj rfl aj ⟨x0,x1,x2⟩ λhHeld=>?_
 refine Zo ?_;refine Yx ?_;intro hb;refine Zx ?_;clear x0 x1 x2;intro x0 x1 x2;replace HX:=Ag (HX.o.below hb);replace HNX:=Ag (HNX.o.below hb);refine ZA ?_;clear rz hz hB hb;intro rz hz hB;generalize W.drew=wn at *;refine tkm [0,1,2,3] ?_;have hB0:=hB;refine jH (js:=[4,5,6]) ((Hold.cell (w.heap.size) 0 (G7 (ay x).neg)).and ((Hold.cell (w.heap.size) 1 (Gw A (ay x).num.length c)).and ((Hold.cell (w.heap.size) 2 (Gw B (ay x).den.length d)).and ((Hold.of (Fact.nat (Old F w.heap.size) x.num.natAbs) (Gw A (ay x).num.length c)).and (Hold.below (w.heap.size+2) wn))))) [(4,Fact.nat (λb=>w.heap.size+2<=b) x.num.natAbs),(5,Fact.nat (λb=>w.heap.size+2<=b) x.den),(6,Fact.raw (λb=>w.heap.size+2<=b) (ak x))] aj ⟨x0,x1,x2,HNX.o,⟨hz,(GR _ _).mono (Gy _)⟩⟩ (λ_ h=>⟨h.1,h.2.1,h.2.2.1⟩) ?_;refine Flow.cons (o:=_) rfl (λwk hS hf K hK=>?_) (λv4=>?_)
 ·go_simp;refine(zH wk _ _ x.num.natAbs hS.2.2.2.1 FI).mono ?_;rintro e w' ⟨u,rfl,hb,hu⟩;exact hK.out _ _ hb (hu.mono (λb hb _=>He hS.2.2.2.2.1 hb))
 refine Zb ?_;refine Flow.cons (o:=_) rfl (λwk hS hf K hK=>?_) (λv5=>?_)
 ·go_simp;refine hK.out _ _ ((GR _ _).alloc (Gy _) _) ?_;exact(afg wk x.den HD1.o).mono (λb hb _=>He hS.2.2.2.2.1 hb)
 refine Zb ?_;refine Flow.cons (o:=_) rfl (λwk hS hf K hK=>?_) (λv6=>?_)
 ·have f4:=aX (hf (4,v4) aA aj) rfl;have f5:=aX (hf (5,v5) aA aj) rfl;have g4:=f4;have g5:=f5;obtain⟨A4,c4,rfl,_,_⟩:=g4;obtain⟨A5,c5,rfl,_,_⟩:=g5;go_simp;exact hK.out _ _ (GR _ _) (Ak.make rfl f4 f5)
 refine Zb ?_;refine Flow.nil (λwE hS hf=>?_);have f6:=aX (hf (6,v6) aA) rfl;have hBe:=hS.2.2.2.2.2;obtain⟨A6,c6,B6,d6,hv6,_,_⟩:=Ak.open f6;dsimp only at hv6;subst hv6;have hrz:=rz.of_block (hBe.block _ FI);have hBE:Below w.heap.size w wE:=hB.trans (hBe.mono FI);have HF:=Ag f6;clear hf hS f6 x0 x1 x2 rz;refine zdr ?_;refine zcg ?_;intro q0 y0 q1 y1 q2 y2;go_wp2
 refine zdr ?_;go_wp2
 refine Z4 ?_;go_wp2
 obtain⟨Wz,hWz,hrz,hwz,hkz⟩:=aY hrz (G7 (ak x).neg) (Gw A6 (ak x).num.length c6) (Gw B6 (ak x).den.length d6);refine Zg ?_;clear hWz q0 q1 q2 y0 y1 y2;intro t0 t1 t2;refine bodyPost_ret (v:=.tuple #[.agg #[G7 (ak x).neg,Gw A6 (ak x).num.length c6,Gw B6 (ak x).den.length d6],GV GU 0]) (by simp[results,KN,go_sem,t0,t1,t2]) rfl ?_;exact⟨_,rfl,hwz _ _ FI hBE,_,by rw[HO.o],by rw[HR.o]; exact HF.o.keep (λb hb _=>He (Nat.le_add_right _ 2) hb) (hkz _ (λh=>by omega))⟩
theorem akd (w:GK) (F:Gq) (va:GN) (x:Rat) (ha:NmV w F va x) (hl:rl x<=100000) (hov:rl x<=1024) (hd1:x.den≠1) :
  Calls GI 42 #[va] w (Ret w λv w'=>∃ u,v = .tuple #[u,GV GU (fP x)]/\Ak w' (λb=>w.heap.size<=b) u (dR x)):=by
 have HO:=Ag (show fP x=0 by unfold fP; rw[LG FI]);have HR:=Ag (show dR x=ak x by unfold dR; rw[LG FI]);have l1:=fU x;have l2:=fV x;have l3:=aau x;have h1:(ay x).num.length<=1024:=by rw[oH];omega
 refine zdZ ?_;intro h2 d1 d2;have h3:(((ay x).den.length:Int)==0)=false:=by rw[rH hd1];have:=bD.2 x.den_nz;exact beq_false_of_ne FI
 have HWD:=Ag (rH hd1);clear hd1 l3;have HX:=Ag ha.old;obtain⟨A,c,B,d,rfl,hn,hd⟩:=ha.open;clear hn hd ha;go_in;go_wp2_with fail
 generalize hW:G5 _ _=W;obtain⟨rx,rz,hB,hz⟩:=gW hW;refine Yv ?_;clear hW HX rx;intro HX hz x0 x1 x2;obtain⟨_,_,hh,hn,hd⟩:=HX.o;have HNX:=Ag (Ah.mono (n:=x.num.natAbs) (G:=Old F w.heap.size) hn (λb hb _=>hb));cases hh;have hd2:Ah W (Old F w.heap.size) (Gw B (ay x).den.length d) x.den:=by unfold Ah;rw[<-HWD.o];exact hd
 have HDX:=Ag hd2;clear hn hd hd2;refine aP (λw'=>w'.cell? ⟨w.heap.size,0,none⟩=some (G7 (ay x).neg)/\w'.cell? ⟨w.heap.size,1,none⟩=some (Gw A (ay x).num.length c)/\w'.cell? ⟨w.heap.size,2,none⟩=some (Gw B (ay x).den.length d)) 9 2 aj rfl aj ⟨x0,x1,x2⟩ λhHeld=>?_
 refine Zo ?_;refine Yx ?_;intro hb;refine Zx ?_;clear x0 x1 x2;intro x0 x1 x2;replace HX:=Ag (HX.o.below hb);refine zbx ?_;clear HNX HDX;intro HNX HDX;refine ZA ?_;clear rz hz hB hb;intro rz hz hB;generalize W.drew=wn at *;refine tkm [0,1,2,3,5,6] ?_;refine tk2 4 aj rfl λK hK=>?_
 go_simp;refine(zH _ _ _ x.num.natAbs HNX.o FI).mono ?_;rintro e wn ⟨u,rfl,hb,hu⟩;have H4:=Ag (hu.mono (G:=(λb=>w.heap.size+2<=b)) (λb hb _=>by omega));obtain⟨A4,c4,rfl,_,_⟩:=hu;refine Zx ?_;clear x0 x1 x2;intro x0 x1 x2;replace HX:=Ag (HX.o.below hb);refine zbx ?_;clear HNX HDX;intro HNX HDX;refine ZA ?_;clear rz hz hB hb;intro rz hz hB;refine ZJ ?_;clear hHeld hK K;intro hHeld;refine tk2 7 aj rfl λK hK=>?_
 go_simp;refine(zH _ _ _ x.den HDX.o FI).mono ?_;rintro e wn ⟨u,rfl,hb,hu⟩;have H7:=Ag (hu.mono (G:=(λb=>w.heap.size+2<=b)) (λb hb _=>by omega));obtain⟨A7,c7,rfl,_,_⟩:=hu;refine Zx ?_;clear x0 x1 x2;intro x0 x1 x2;replace HX:=Ag (HX.o.below hb);refine zbx ?_;clear HNX HDX;intro HNX HDX;replace H4:=Ag (H4.o.below hb);refine ZA ?_;clear rz hz hB hb;intro rz hz hB;refine ZJ ?_;clear hHeld hK K;intro hHeld;refine tkm [8] ?_;refine Zp ?_;clear hHeld;clear x0 x1 x2;refine Zk ?_;intro q0 y0 q1 y1 q2 y2;go_wp2
 refine zdr ?_;go_wp2
 refine Z4 ?_;go_wp2
 obtain⟨Wz,hWz,hrz,hwz,hkz⟩:=aY rz (G7 (ay x).neg) (Gw A4 (dig x.num.natAbs).length c4) (Gw A7 (dig x.den).length c7);refine Zg ?_;clear hWz q0 q1 q2 y0 y1 y2;intro t0 t1 t2;refine bodyPost_ret (v:=.tuple #[.agg #[G7 (ay x).neg,Gw A4 (dig x.num.natAbs).length c4,Gw A7 (dig x.den).length c7],GV GU 0]) (by simp[results,KN,go_sem,t0,t1,t2]) rfl ?_;exact⟨_,rfl,hwz _ _ FI hB,_,by rw[HO.o],by rw[HR.o]; exact(Ak.make (r:=ak x) rfl H4.o H7.o).keep (λb hb _=>He (Nat.le_add_right _ 2) hb) (hkz _ (λh=>by omega))⟩
theorem acX (w:GK) (F:Gq) (va:GN) (x:Rat) (ha:NmV w F va x) (hl:rl x<=100000) :
  Calls GI 42 #[va] w (Ret w λv w'=>∃ u,v = .tuple #[u,GV GU (fP x)]/\Ak w' (λb=>w.heap.size<=b) u (dR x)):=by grind [akc,ah9,akd]
theorem anr {x:Rat}:fP x=0\/fP x=5:=by grind [fP]
def nH (xs:List Rat):Int:=if xs.any (λx=>decide (1024 < rl x)) then 5 else 0
theorem adR (w:GK) (F:Gq) (v1 v2:GN) (l1 l2:List Nat) (h1:Aj w F v1 l1) (h2:Aj w F v2 l2) (hl1:l1.length < 1000000) (hl2:l2.length < 1000000) :
  Calls GI 48 #[v1,v2] w λe w'=>e = .returned (G7 (decide (l1=l2)))/\∃ n,w'=w.drewN n:=by
 obtain⟨A1,c1,rfl,hc1,r1⟩:=h1;obtain⟨A2,c2,rfl,hc2,r2⟩:=h2;by_cases hl:l1.length=l2.length
 ·have R1:=Ag r1;clear r1;have R2:=Ag r2;clear r2;have HL:=Ag hl;have hb:((l1.length:Int) != (l2.length:Int))=false:=by simp[hl]
  clear hl;go_in;go_wp2
  go_loopw [5] (λi wr=>∃ k:Nat,k<=l1.length/\i = GV GU k/\l1.take k=l2.take k/\∃ n,wr=w.drewN n) (λi _=>l1.length - (intOf i).toNat)
  case atStart=>exact⟨0,FI,rfl,aA,0,rfl⟩
  case round =>
   obtain⟨k,hk,rfl,hpre,n,rfl⟩:=hrel;have HP:=Ag hpre;clear hpre;by_cases hlt:k < l1.length
   ·obtain⟨b1,o1,rfl,hb1,_,hcell1⟩:=R1.o FI;have hk2:k < l2.length:=by have:=HL.o;omega
    obtain⟨b2,o2,rfl,hb2,_,hcell2⟩:=R2.o FI;obtain⟨x,hx⟩:=Gl hlt;obtain⟨y,hy⟩:=Gl hk2;have e1:=hcell1 k x hx;have e2:=hcell2 k y hy;unfold bY at e1 e2;rw[Ho] at e1 e2;clear hcell1 hcell2;have HX:=Ag hx;clear hx;have HY:=Ag hy;clear hy;by_cases he:x=y
    ·subst he;go_wp2
     go_quiet (fail)
     go_wp2
     go_roundw
     case rel=>exact⟨k+1,FI,by go_num,qX HX.o HY.o HP.o,_,rfl⟩
     case measure=>exact zMs
    ·have hne:((x:Int) != (y:Int))=true:=aB;have hfin:decide (l1=l2)=false:=by
      simp only[decide_eq_false_iff_not];rintro rfl;have h3:=HX.o;rw[HY.o] at h3;cases h3;exact he rfl
     have HF:=Ag hfin;clear hfin he;go_wp2
     go_quiet (fail)
     go_wp2
     go_ret;exact⟨by rw[HF.o]; rfl,n+nq,by rw[World.drewN_drewN]⟩
   ·go_wp2
    go_ret;have:k=l1.length:=FI;have h3:=HP.o;have h4:=HL.o;refine⟨?_,_,rfl⟩;have h5:l1=l2:=by
     exact zad
    simp[h5]
 ·have hb:((l1.length:Int) != (l2.length:Int))=true:=aB;go_in;go_wp2
  go_ret;refine⟨?_,0,rfl⟩;have:l1≠l2:=by rintro rfl;exact hl rfl
  simp[this]
theorem y8 (w:GK) (F:Gq) (v1 v2:GN) (l1 l2:List Nat) (h1:Aj w F v1 l1) (h2:Aj w F v2 l2) (hl1:l1.length < 1000000) (hl2:l2.length < 1000000) :
  Calls GI 48 #[v1,v2] w (Ret w λv _=>v = G7 (decide (l1=l2))):=by
 refine(adR w F v1 v2 l1 l2 h1 h2 hl1 hl2).mono ?_;rintro e w' ⟨rfl,n,rfl⟩;exact⟨_,rfl,aG (GR _ w) _,rfl⟩

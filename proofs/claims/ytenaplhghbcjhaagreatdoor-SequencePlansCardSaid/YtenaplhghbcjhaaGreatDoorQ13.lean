import Derived.Test.YtenaplhghbcjhaaGreatDoorQ12
import Derived.Deep.LoopGhost
set_option linter.all false
set_option maxRecDepth 100000
set_option maxHeartbeats 0
namespace Go.Proofs.YtenaplhghbcjhaaGreatDoor
open And renaming intro->Iu
open Go.RowKit.Below renaming refl->GR
open Below renaming same'->GL
open Go.IntKind renaming i64->GU
open Go renaming Value->GN,World->GK
open Go.Value renaming bool->G7,int->GV,slice->Gw
open Go.IntWalk renaming u64_in->JY
open Nat renaming eq_zero_or_pos->H6,gcd->Hr,gcd_comm->IK,le_refl->Gy,mod_lt->Ja
open Same renaming drewN->Jv,setCell->J5
open Go.Proofs.Tryz renaming prog->GI
open Go.World renaming block_lt_of_cell?->Hl
open Go.RowKit
variable {na nb:Bool} {a b:Nat} {x:Rat}
theorem sV (w:GK) (F:Gq) (va vb:GN) (a0 b0:Nat) (ha:Ah w F va a0) (hb:Ah w F vb b0) (hla:(dig a0).length<=100000) (hlb:(dig b0).length<=100000) :
  Calls GI 54 #[va,vb] w (Ret w λv w'=>Ah w' (Ext F w.heap.size) v (Hr a0 b0)):=by
 have HA:=Ag ha;have HB:=Ag hb;clear ha hb;obtain⟨G,hG⟩:=Gp (Hr a0 b0);rw[<-hG];have HG:=Ag hG;clear hG;go_in;go_wp2_with fail
 refine(jF w F _ _ a0 b0 HA.o HB.o FI FI).mono ?_;rintro e w' ⟨rfl,z0,rfl⟩;go_upto_if 15 with fail
 go_cut [0,1] from 12 to 17 (λva vb wx=>∃ a b,wx=w.drewN z0/\Ah wx (Ext F w.heap.size) va a/\Ah wx (Ext F w.heap.size) vb b/\b<=a/\G=Hr a b/\(dig a).length<=100000)
 case first =>
  by_cases h:a0 < b0
  ·have hord:decide (bZ a0 b0 < 0)=true:=by rw[iL h];rfl
   have hod:bZ a0 b0 < 0:=by rw[iL h];decide
   generalize bZ a0 b0=od at *;go_wp2_with fail
   go_meet
   exact zcD
  ·have hord:decide (bZ a0 b0 < 0)=false:=by
    refine zcW ?_;split <;> (try split) <;> omega
   have hod:0<=bZ a0 b0:=by have:=of_decide_eq_false hord;omega
   generalize bZ a0 b0=od at *;go_wp2_with fail
   go_meet
   exact zda
 case rest =>
 obtain⟨a,b,rfl,hna,hnb,hba,aas,hlen⟩:=hcut;have HS:=Ag (Iu hna (Iu hnb aas));clear HA HB hna hnb aas hla hlb HG;go_wp2
 go_loopg [0,1] b (λf va vb wr=>∃ a b,b=f/\Ah wr (Ext F w.heap.size) va a/\Ah wr (Ext F w.heap.size) vb b/\b<=a/\G=Hr a b/\(dig a).length<=100000/\Below w.heap.size w wr)
 case atStart=>exact⟨a,b,rfl,HS.o.1,HS.o.2.1,hba,HS.o.2.2,hlen,aG (GR _ w) z0⟩
 case round =>
  clear HS hba hlen;obtain⟨a,b,rfl,hna,hnb,hba,aas,hlen,hbel⟩:=hrel;have HNA:=Ag hna;have HNB:=Ag hnb;have HGC:=Ag aas;obtain⟨A,c,rfl,hc,_⟩:=hna;obtain⟨B,d,rfl,hd,_⟩:=hnb;have hlb:(dig b).length<=(dig a).length:=aV hba;have hz:=hbel.size;clear aas;by_cases h2:2 < (dig a).length
  ·by_cases hb0:b=0
   ·have hd0:(((dig b).length:Int)==0)=true:=by rw[hb0,bK];rfl
    exact zcw
   ·have hd0:(((dig b).length:Int)==0)=false:=by have:=bD.2 hb0;exact beq_false_of_ne FI
    have HB0:=Ag hb0;clear hb0;go_wp2_with fail
    refine(aj0 wr (Ext F w.heap.size) _ _ a b HNA.o HNB.o hba FI hlen).mono ?_;rintro e w1 ⟨v,rfl,hb1,hres⟩;have hz1:=hb1.size;rcases hres with rfl | ⟨vx,vy,x,y,rfl,hvx,hvy,hyx,hxa,hyb,hg⟩
    ·go_wp2_with fail
     refine(abK w1 (Ext F w.heap.size) _ _ a b (HNA.o.below hb1) (HNB.o.below hb1) HB0.o hlen FI).mono ?_;rintro e w2 ⟨_,rfl,hb2,vq,vr,rfl,hq,hr⟩;have HR:=Ag hr;clear hq hr;have hml:a % b < b:=Ja _ (by have:=HB0.o; omega);go_wp2
     go_roundg (a % b)
     case measure=>exact hml
     case rel=>exact⟨b,a % b,rfl,(HNB.o.below hb1).below hb2,HR.o.mono (λb hb _=>hb.elim id λh=>.inr FI),FI,by rw[HGC.o,IK,Nat.gcd_rec,IK],FI,hbel.trans ((hb1.mono hz).trans (hb2.mono FI))⟩
    ·have HX:=Ag (Iu hvx (Iu hvy hg));clear hvx hvy hg;go_wp2
     go_roundg y
     case measure=>exact hyb
     case rel=>exact⟨x,y,rfl,HX.o.1.mono (λb hb _=>.inr FI),HX.o.2.1.mono (λb hb _=>.inr FI),hyx,by rw[HGC.o]; exact HX.o.2.2.symm,by have:=aV hxa; omega,hbel.trans (hb1.mono hz)⟩
  ·have hdl:decide (2 < (dig a).length)=false:=LJ h2;go_wp2_with fail
   refine(acH wr (Ext F w.heap.size) _ a HNA.o FI).mono ?_;rintro e w' ⟨rfl,rfl⟩;go_wp2_with fail
   refine(acH wr (Ext F w.heap.size) _ b HNB.o FI).mono ?_;rintro e w' ⟨rfl,rfl⟩;have ha18:=yj (n:=a) FI;have hb18:b < 1000000000000000000:=FI;go_wp2
   go_loopw [10,11] (λxv yv wi=>∃ x y z:Nat,xv = .int .u64 (x:Int)/\yv = .int .u64 (y:Int)/\x < 1000000000000000000/\y < 1000000000000000000/\G=Hr x y/\wi=wr.drewN z) (λ_ yv _=>(intOf yv).toNat)
   case atStart=>exact⟨a,b,0,rfl,rfl,ha18,hb18,HGC.o,rfl⟩
   case round =>
    obtain⟨x,y,z,rfl,rfl,hx,hy,hg,rfl⟩:=hrel;have HGX:=Ag hg;clear hg;rcases H6 y with h0 | h0
    ·subst h0;have HF:=Ag (show G=x by rw[HGX.o,Nat.gcd_zero_right]);go_wp2_with fail
     refine(vM _ x FI).mono ?_;rintro e w1 ⟨v,rfl,hb1,hv⟩;have HV:=Ag hv;clear hv;have hz1:=hb1.size;go_wp2
     go_ret;exact⟨_,rfl,(aG hbel z).trans (hb1.mono (by simpa using hz)),by rw[HF.o]; exact HV.o.mono (λb hb _=>.inr (Nat.le_trans hz hb))⟩
    ·have hml:x % y < y:=Ja _ h0;have hmI:(x:Int) % (y:Int)=((x % y:Nat):Int):=uK x y;have HM:=Ag hmI;clear hmI;go_wp2
     go_quiet (fail)
     go_wp2
     go_roundw
     case rel=>exact⟨y,x % y,_,rfl,by rw[HM.o],hy,FI,by rw[HGX.o,IK,Nat.gcd_rec,IK],by simp only[World.drewN_drewN]; rfl⟩
     case measure=>simp only[intOf]; rw[HM.o]; simp; exact hml
theorem qE {fn:Func} {t u v x:Tmp} (h:fn.results = #[.tmp t,.tmp u,.tmp v,.tmp x]) (tmps:Array GN) (P:Program) (w:GK) :
  (results fn tmps).run P w = .ok (.tuple #[tmps.getD t undef,tmps.getD u undef,tmps.getD v undef,tmps.getD x undef]) w:=by simp[results,h]
def EM (a b M p0 q0 al be:Int) (e:Ending):Prop :=
 ∃ p q A B C D:Int,e = .returned (.tuple #[GV GU A,GV GU B,GV GU C,GV GU D])/\Leh a b M p0 q0 al be p q A B C D∧-1000000000 < A/\A < 1000000000∧-1000000000 < B/\B < 1000000000∧-1000000000 < C/\C < 1000000000∧-1000000000 < D/\D < 1000000000
def Ey (w:GK) (a b M p0 q0 al be:Int) (e:Ending) (w':GK):Prop:=EM a b M p0 q0 al be e/\w=w'
theorem ah0 (w:GK) (a b:Nat) (M al be:Int) (p0 q0:Int) (hst:Leh (a:Int) (b:Int) M p0 q0 al be p0 q0 1 0 0 1) (hp0:p0 < 1000000000000000000) :
  Calls GI 172 #[GV GU p0,GV GU q0] w (Ey w (a:Int) (b:Int) M p0 q0 al be):=by
 have HST:=Ag hst;clear hst;go_in;go_wp2
 go_loopw [0,1,4,5,6,7] (λpv qv av bv cv dv wr=>∃ p q A B C D:Int,pv = GV GU p/\qv = GV GU q/\av = GV GU A/\bv = GV GU B/\cv = GV GU C/\dv = GV GU D/\Leh (a:Int) (b:Int) M p0 q0 al be p q A B C D /\
  -1000000000 < A/\A < 1000000000∧-1000000000 < B/\B < 1000000000∧-1000000000 < C/\C < 1000000000∧-1000000000 < D/\D < 1000000000/\w=wr) (λ_ qv _ _ cv dv _=>(intOf cv*a+intOf dv*b).toNat)
 case atStart=>exact⟨_,_,_,_,_,_,rfl,rfl,rfl,rfl,rfl,rfl,HST.o,FI,FI,FI,FI,FI,FI,FI,FI,rfl⟩
 case round =>
  clear HST;obtain⟨p,q,A,B,C,D,rfl,rfl,rfl,rfl,rfl,rfl,kE,a1,a2,b1,b2,c1,c2,d1,d2,rfl⟩:=hrel;have HLE:=Ag kE;have pA:=kE.pA;have pB:=kE.pB;have qC:=kE.qC;have qD:=kE.qD;have pA1:=kE.pA1;have pB1:=kE.pB1;have qC1:=kE.qC1;have qD1:=kE.qD1;have pn:=kE.af4;have qn:=kE.acv;clear kE;by_cases hC:q+C=0
  ·have t1:(q+C != 0)=false:=by simp[hC]
   clear hC;exact YS
  ·have t1:(q+C != 0)=true:=by simp[hC]
   have hC':0 < q+C:=FI;by_cases hD:q+D=0
   ·have t2:(q+D != 0)=false:=by simp[hD]
    have HC:=Ag hC;clear hC hD;exact YS
   ·have t2:(q+D != 0)=true:=by simp[hD]
    have hD':0 < q+D:=FI;obtain⟨k,hk⟩:∃ k,(p+A) / (q+C)=k:=⟨_,rfl⟩;obtain⟨k2,hk2⟩:∃ k,(p+B) / (q+D)=k:=⟨_,rfl⟩;have kn:0<=k:=by rw[<-hk];exact Int.ediv_nonneg pA qC
    have k2n:0<=k2:=by rw[<-hk2];exact Int.ediv_nonneg pB qD
    have kle:k<=p+A:=by rw[<-hk];exact Int.ediv_le_self _ pA
    have k2le:k2<=p+B:=by rw[<-hk2];exact Int.ediv_le_self _ pB
    have HC:=Ag hC;have HD:=Ag hD;clear hC hD;by_cases hkk:k=k2
    ·subst hkk;have t3:(k != k)=false:=aA;obtain⟨_,kb,kq1,kq2,kc1,kc2,kd1,kd2⟩:=HLE.o.bounds HC.o HD.o hk.symm hk2.symm;have HST:=Ag (HLE.o.step HC.o HD.o hk.symm hk2.symm);obtain⟨kc,hkc⟩:∃ kc,k*C=kc:=⟨_,rfl⟩;obtain⟨kd,hkd⟩:∃ kd,k*D=kd:=⟨_,rfl⟩;obtain⟨kq,hkq⟩:∃ kq,k*q=kq:=⟨_,rfl⟩;rw[hkc] at kc1 kc2 HST;rw[hkd] at kd1 kd2 HST;rw[hkq] at kq1 kq2 HST;have hm4:=agu;by_cases hmx:1000000000<=adP (A - kc) (-(A - kc)) (B - kd) (-(B - kd))
     ·have t5:decide (1000000000<=adP (A - kc) (-(A - kc)) (B - kd) (-(B - kd)))=true:=LK hmx;clear hmx;exact YS
     ·refine zbO ?_;clear hmx;intro t5 n1 n2 n3 n4;go_wp2
      go_roundw
      case rel=>exact⟨q,p - kq,C,D,A - kc,B - kd,rfl,rfl,rfl,rfl,rfl,rfl,HST.o.1,FI,FI,FI,FI,FI,FI,FI,FI,by first | rfl | trivial⟩
      case measure =>
       have h1:=HST.o.2;have h2:=HST.o.1.y0;simp only[intOf];omega
    ·have t3:(k != k2)=true:=by simp[hkk]
     clear hkk;exact YS
theorem anl {f:FuncId} {fn:Func} (hf:Tryz.prog.funcs[f]? = some fn) (hn:(fn.name == "runtime.NumGoroutine")=false) (hb:fn.body.isNone=false) (args:Array GN) (w:GK):(callFunc f args).run GI w = .ok (.enter f args) w:=by
 have h1:fn.name ≠ "runtime.NumGoroutine" := by simpa using hn
 obtain⟨b,hb⟩:∃ b,fn.body=some b:=by cases h:fn.body <;> simp_all
 simp[callFunc,hf,h1,hb,Sem.run]
theorem alH (w:GK) (F:Gq) (v:GN) (l:List Nat) (i p:Nat) (hv:Aj w F v l) (hp:w.cell? ⟨p,0,none⟩=some v) (hlim:Limbs l) (hl:l.length<=1000000) :
  Calls GI 186 #[GV GU (i:Int),.pointer (some ⟨p,0,none⟩)] w λe w'=>e = .returned (.int .u64 ((l.getD i 0:Nat):Int))/\w'=w:=by
 obtain⟨A,c,rfl,hc,hN⟩:=hv;by_cases hlt:i < l.length
 ·obtain⟨b,o,rfl,_,hb,hx⟩:=hN FI;obtain⟨x,hx'⟩:=Gl hlt;have ex:=hx i x hx';unfold bY at ex;rw[Nat.mul_one] at ex;have hxl:x < 1000000000:=hlim.get hx';rw[aJ hx'];clear hx hx' hN;exact zbo
 ·have hdd:decide (i < l.length)=false:=LJ hlt;rw[gI FI];clear hN;exact zbo
theorem ah1 {x y z lq P Q R:Nat} (hx:x < 1000000000) (hy:y < 1000000000) (hz:z < 1000000000) (hP:((x:Int)*1000000000+(y:Int))*(lq:Int)=(P:Int)) (hQ:(z:Int)*(lq:Int)=(Q:Int)) (hPl:P < 1000000000000000000) (hQl:Q<=1000000000000000000) (hR:P+Q / 1000000000=R) (hRl:R < 1000000000000000000) :
  wrap64 (IntKind.u64.wrap (IntKind.u64.wrap (IntKind.u64.wrap (IntKind.u64.wrap ((x:Int)*1000000000)+(y:Int))*(lq:Int))+IntKind.u64.wrap ((IntKind.u64.wrap ((z:Int)*(lq:Int))).tdiv 1000000000)))=(R:Int):=by
 rw[JY ((x:Int)*1000000000) FI,JY ((x:Int)*1000000000+(y:Int)) FI,hP,hQ,JY (P:Int) FI,JY (Q:Int) FI,IntWalk.u64_quo _ _ FI,JY _ FI];unfold wrap64;omega
theorem aen (w:GK) (F:Gq) (v:GN) (l:List Nat) (n lq T b1 b2:Nat) (hv:Aj w F v l) (hlim:Limbs l) (hl:l.length<=n) (hn3:3<=n) (hn:n<=100000) (hT:lq*T=LB) (h1:w.cell? ⟨b1,0,none⟩=some (GV GU (n:Int))) (h2:w.cell? ⟨b2,0,none⟩=some (.int .u64 (lq:Int))) (hlt:aF l / (LB ^ (n - 3)*T) < 1000000000000000000) :
  Calls GI 185 #[v,.pointer (some ⟨b1,0,none⟩),.pointer (some ⟨b2,0,none⟩)] w (Ret w λu _=>u = GV GU ((aF l / (LB ^ (n - 3)*T):Nat):Int)):=by
 refine zcM ?_;intro n1 hn1;obtain⟨n2,hn2⟩:∃ n2,n2+2=n:=⟨n - 2,FI⟩;obtain⟨n3,hn3'⟩:∃ n3,n3+3=n:=⟨n - 3,FI⟩;have i1:(n:Int) - 1=(n1:Int):=FI;have i2:(n:Int) - 2=(n2:Int):=FI;have i3:(n:Int) - 3=(n3:Int):=FI;have hle:=am8 hl hn3 hT hlim;obtain⟨R,hR⟩:=Gp (aF l / (LB ^ (n - 3)*T));rw[<-hR] at hle hlt ⊢;rw[show n - 1=n1 by omega,show n - 2=n2 by omega,show n - 3=n3 by omega] at hle;have hx:=hlim.getD n1;have hy:=hlim.getD n2;have hz:=hlim.getD n3;obtain⟨x,ex⟩:=Gp (l.getD n1 0);obtain⟨y,ey⟩:=Gp (l.getD n2 0);obtain⟨z,ez⟩:=Gp (l.getD n3 0);rw[<-ex,<-ey,<-ez] at hle;rw[<-ex] at hx;rw[<-ey] at hy;rw[<-ez] at hz;have htl:lq<=1000000000:=by
  rcases H6 T with h | h
  ·subst h;simp at hT
  ·have:lq*1<=lq*T:=Nat.mul_le_mul_left _ h;rw[hT] at this;unfold LB at this;omega
 obtain⟨P,hP⟩:=Gp ((x*LB+y)*lq);obtain⟨Q,hQ⟩:=Gp (z*lq);rw[<-hP,<-hQ] at hle;have hQl:Q<=1000000000000000000:=by
  rw[hQ];have:=Nat.mul_le_mul (show z<=999999999 by unfold LB at hz; omega) htl;omega
 have hPI:((x:Int)*1000000000+(y:Int))*(lq:Int)=(P:Int):=by rw[hP];simp
 have hQI:(z:Int)*(lq:Int)=(Q:Int):=by rw[hQ];simp
 have hle2:P+Q / 1000000000=R:=hle;have hxl:x < 1000000000:=hx;have hyl:y < 1000000000:=hy;have hzl:z < 1000000000:=hz;have hPl:P < 1000000000000000000:=FI;have HLE:=Ag hle2;have HEX:=Ag (Iu ex (Iu ey ez));have HV:=Ag hv;have HLM:=Ag hlim;have hl2:l.length<=1000000:=FI;refine Z9 ?_;intro hmf;have hb1:b1 < w.heap.size:=Hl w _ h1;have hb2:b2 < w.heap.size:=Hl w _ h2;obtain⟨A,c,rfl,hc,_⟩:=hv;clear hle hle2 ex ey ez hP hQ hlim hT hR hn1 hn2 hn3' hx hy hz;go_in;go_wp2
 obtain⟨W,hW⟩:∃ W:GK,W=w.alloc (.cells #[Gw A l.length c] 40):=⟨_,rfl⟩;have cW:W.cell? ⟨w.heap.size,0,none⟩=some (Gw A l.length c):=by rw[hW];simp
 have hBW:Below w.heap.size w W:=by rw[hW];exact(GR _ w).alloc (Gy _) _
 have c1:W.cell? ⟨b1,0,none⟩=some (GV GU (n:Int)):=(aK hBW b1 0 hb1).trans h1;have c2:W.cell? ⟨b2,0,none⟩=some (.int .u64 (lq:Int)):=(aK hBW b2 0 hb2).trans h2;have hvW:Aj W F (Gw A l.length c) l:=by rw[hW];exact HV.o.on (Same.alloc _ _ _)
 have HVW:=Ag hvW;rw[<-hW];clear hW hvW h1 h2;have hent:=anl Tryz.func186 (by decide +kernel) (by decide +kernel);go_quiet ((go_at_call 186; refine Calls.quiet_of_same ((alH _ F (Gw A l.length c) l _ w.heap.size (HVW.o.on (Jv _ _ _)) cW HLM.o hl2))))
 go_wp2
 go_ret;refine⟨_,rfl,aG hBW _,?_⟩;have h:=ah1 hxl hyl hzl hPI hQI hPl hQl HLE.o hlt;rw[HEX.o.1,HEX.o.2.1,HEX.o.2.2] at h;simp only[List.getD_eq_getElem?_getD] at h;exact congrArg (Value.int .i64) h
theorem Ak.open {w:GK} {F:Gq} {v:GN} {r:Raw} (h:Ak w F v r):∃ A c B d,v = .agg #[G7 r.neg,Gw A r.num.length c,Gw B r.den.length d]/\Aj w F (Gw A r.num.length c) r.num/\Aj w F (Gw B r.den.length d) r.den:=by
 obtain⟨vn,vd,rfl,h1,h2⟩:=h;obtain⟨A,c,rfl,hc,hN⟩:=h1;obtain⟨B,d,rfl,hd,hM⟩:=h2;exact⟨A,c,B,d,rfl,⟨A,c,rfl,hc,hN⟩,⟨B,d,rfl,hd,hM⟩⟩
theorem oH (x:Rat):(ay x).num=dig x.num.natAbs:=rfl
theorem vN (x:Rat):(ay x).neg=dh x:=rfl
theorem pI (h:x.den=1):(ay x).den = []:=by unfold ay; simp[h]
theorem rH (h:x.den≠1):(ay x).den=dig x.den:=by unfold ay; simp[h]
theorem acR (h:x=0):(((dig x.num.natAbs).length:Int)==0)=true:=by subst h; simp[bK]
theorem acS (h:x≠0):(((dig x.num.natAbs).length:Int)==0)=false:=by grind [kP,bD]
theorem iE (w:GK) (F:Gq) (v:GN) (x:Rat) (hv:NmV w F v x) :
  Calls GI 52 #[v] w (Ret w λu _=>u = G7 (decide (x=0))):=by
 obtain⟨A,c,B,d,rfl,hn,hd⟩:=hv.open;clear hn hd hv;rw[vN,oH];generalize (ay x).den.length=dl;by_cases h:x=0
 ·exact zd9
 ·exact zd4
theorem aeo (w:GK) (F:Gq) (v:GN) (x:Rat) (hv:NmV w F v x) :
  Calls GI 117 #[v] w (Ret w λu _=>u = GV GU (oz x)):=by
 obtain⟨A,c,B,d,rfl,hn,hd⟩:=hv.open;clear hn hd hv;rw[vN,oH];generalize (ay x).den.length=dl;by_cases h:x=0
 ·have h0:=acR h;have HD:=Ag (show oz x=0 by subst h; rfl);clear h;exact ZX
 ·have h0:=acS h;have hz:¬ x.num.natAbs=0:=λe=>h ((kP x).1 e)
  have HD:=Ag (show oz x=if dh x then -1 else 1 by unfold oz; rw[LG hz]);clear h hz;cases hb:dh x
  ·rw[hb] at HD;exact ZX
  ·rw[hb] at HD;exact ZX
theorem afg (w:GK) (k:Nat) (hk:k=1):Ah (w.alloc (.cells #[.int .u32 1] 103)) (λb=>w.heap.size<=b) (Gw (some ⟨w.heap.size,0,none⟩) 1 1) k:=by
 subst hk;unfold Ah;rw[ji];have h:=Row.new w 103 #[.int .u32 1];have h2:=Row.limbs (l:=[1]) (by simpa [aW] using h) (F:=λb=>w.heap.size<=b) (Gy _) (n:=1) (c:=1) aA (Gy _);grind
theorem l7 (w:GK) (F:Gq) (v:GN) (x:Rat) (hv:NmV w F v x) :
  Calls GI 53 #[v] w (Ret w λu w'=>Ah w' (Ext F w.heap.size) u x.den):=by
 obtain⟨A,c,B,d,rfl,hn,hd⟩:=hv.open;have HD:=Ag hd;clear hn hd hv;rw[vN,oH];by_cases h:x.den=1
 ·rw[pI h];clear HD;have HX:=Ag h;clear h;go_in;go_wp2
  go_ret;refine⟨_,rfl,((GR w.heap.size w).alloc (Gy _) _).alloc aA _,?_⟩;have h:=afg (w.alloc (.cells #[G7 (dh x),Gw A (dig x.num.natAbs).length c,Gw B 0 d] 74)) x.den HX.o;simpa using h.mono (G:=Ext F w.heap.size) (λb hb _=>.inr (by simp at hb; omega))
 ·rw[rH h] at HD ⊢;have h0:(((dig x.den).length:Int)==0)=false:=by
   have:=bD.2 x.den_nz;exact beq_false_of_ne FI
  clear h;go_in;go_wp2
  go_ret;refine⟨_,rfl,(GR _ _).alloc (Gy _) _,?_⟩;exact Ah.keep (n:=x.den) HD.o (λb hb _=>.inl hb) (Same.alloc _ _ _)
theorem mX (w:GK) (F:Gq) (va vb:GN) (a b:Nat) (ha:Ah w F va a) (hb:Ah w F vb b) (hb0:b≠0) (hla:(dig a).length<=100000) (hlb:(dig b).length<=100000) :
  Calls GI 57 #[va,vb] w (Ret w λv w'=>Ah w' (Ext F w.heap.size) v (a / b)):=by
 have HA:=Ag ha;have HB:=Ag hb;have HB0:=Ag hb0;clear ha hb hb0;go_in;go_wp2_with fail
 refine(lY w F _ b HB.o FI).mono ?_;rintro e w' ⟨rfl,rfl⟩;by_cases h:b=1
 ·have hd:decide (b=1)=true:=LK h;rw[hd];have H1:=Ag h;clear h hd;go_wp2
  go_ret;exact⟨_,rfl,GR _ _,by rw[H1.o,Nat.div_one]; exact HA.o.mono λb hb _=>.inl hb⟩
 ·have hd:decide (b=1)=false:=LJ h;rw[hd];clear h hd;go_wp2_with fail
  refine(abK w F _ _ a b HA.o HB.o HB0.o hla hlb).mono ?_;rintro e w1 ⟨_,rfl,hb1,vq,vr,rfl,hq,hr⟩;have HQ:=Ag hq;clear hq hr;go_wp2
  go_ret;exact⟨_,rfl,hb1,HQ.o⟩
theorem aY {w:GK} {t:TypeId} {a0 a1 a2:GN} (h:Row w b t [a0,a1,a2]) (v0 v1 v2:GN):∃ W,W=(((w.setCell ⟨b,0,none⟩ v0).setCell ⟨b,1,none⟩ v1).setCell ⟨b,2,none⟩ v2) /\
  Row W b t [v0,v1,v2]/\(∀ B a,B<=b->Below B a w->Below B a W)/\∀ F:Gq,¬ F b->Same F w W:=by
 refine⟨_,rfl,((h.set 0 v0).set 1 v1).set 2 v2,λB a hb hbel=>?_,λF hF=>?_⟩
 ·exact((hbel.setCell (p:=⟨b,0,none⟩) hb v0).setCell (p:=⟨b,1,none⟩) hb v1).setCell (p:=⟨b,2,none⟩) hb v2
 ·exact((J5 F w (p:=⟨b,0,none⟩) hF v0).trans (J5 F _ (p:=⟨b,1,none⟩) hF v1)).trans (J5 F _ (p:=⟨b,2,none⟩) hF v2)
theorem alI {neg:Bool} {n d:Nat} (hd:d≠0) (hg:Hr n d=1) (hn:n≠0):ay (mkRat (sgI neg n) d)=⟨neg,dig n,if d=1 then [] else dig d⟩:=by grind [ou,ay,lT,aag]
theorem aje (neg:Bool) (d:Nat):mkRat (sgI neg 0) d=0:=by rw[af5]; simp
theorem uM (w:GK) (F:Gq) (neg:Bool) (vn vd:GN) (n d:Nat) (ld:List Nat) (hn:Ah w F vn n) (hd:Aj w F vd ld) (hld:ld=dig d\/(ld = []/\d=1)) (hd0:d≠0) (hg:Hr n d=1) (hl:ld.length<=1000000) :
  Calls GI 55 #[G7 neg,vn,vd] w (Ret w λv w'=>NmV w' F v (mkRat (sgI neg n) d)):=by
 have HN:=Ag hn;have HD:=Ag hd;obtain⟨A,c,rfl,hc,hN⟩:=hn;obtain⟨B,e,rfl,he,hM⟩:=hd;clear hN hM;have HL:=Ag hld;have HD0:=Ag hd0;have HG:=Ag hg;clear hld hd0 hg;by_cases h0:n=0
 ·have hl0:(((dig n).length:Int)==0)=true:=by rw[h0,bK];rfl
  have H0:=Ag h0;clear h0;go_in;go_wp2_with fail
  refine zdA ?_;intro W hW hr hWb hWz;clear hW hWz;have t0:=hr.cell (i:=0) rfl;have y0:=hr.frozen 0;have t1:=hr.cell (i:=1) rfl;have y1:=hr.frozen 1;have t2:=hr.cell (i:=2) rfl;have y2:=hr.frozen 2;go_wp2
  refine bodyPost_ret (v:=.agg #[G7 false,Gw none 0 0,Gw none 0 0]) (by simp[results,Tryz.results55,go_sem,t0,t1,t2]) rfl ?_;exact⟨_,rfl,hWb,by rw[H0.o,aje]; exact NmV.zero _ _ _ _ _ _⟩
 ·have hl0:(((dig n).length:Int)==0)=false:=by have:=bD.2 h0;exact beq_false_of_ne FI
  have H0:=Ag h0;clear h0;go_in;go_wp2_with fail
  refine zdA ?_;intro W hW hr hWb hWz;clear hW hWz;obtain⟨dd,hdd⟩:∃ dd,ld=dig dd/\decide (dd=1)=decide (ld≠[]/\d=1):=by
   rcases HL.o with h | ⟨h,h1⟩
   ·exact⟨d,h,by rw[h]; simp[qV,HD0.o]⟩
   ·exact⟨0,by rw[h,bK],by rw[h]; simp⟩
  have hdn:Ah w F (Gw B ld.length e) dd:=by unfold Ah;rw[<-hdd.1];exact HD.o
  have HDN:=Ag hdn;have HDD:=Ag hdd.2;have hll:(dig dd).length<=1000000:=by rw[<-hdd.1];exact hl
  clear hdn hdd;go_wp2_with fail
  refine(lY W F _ dd (HDN.o.below hWb) hll).mono ?_;rintro e' w' ⟨rfl,rfl⟩;by_cases h1:ld≠[]/\d=1
  ·have hb:decide (dd=1)=true:=by rw[HDD.o,LK h1]
   rw[hb];have H1:=Ag h1.2;clear h1 hb;refine Zt ?_;intro q0 y0 q1 y1 q2 y2;go_wp2
   obtain⟨Wz,hWz,hrz,hwz,hkz⟩:=aY hr (G7 neg) (Gw A (dig n).length c) (Gw none 0 0);refine Zg ?_;clear hWz q0 q1 q2 y0 y1 y2;intro t0 t1 t2;refine bodyPost_ret (v:=.agg #[G7 neg,Gw A (dig n).length c,Gw none 0 0]) (by simp[results,Tryz.results55,go_sem,t0,t1,t2]) rfl ?_;exact⟨_,rfl,hwz _ _ (Gy _) hWb,by unfold NmV; rw[alI HD0.o HG.o H0.o]; exact Ak.make rfl (Ah.keep HN.o (λ_ h _=>h) (GL (hwz _ _ (Gy _) hWb) F)) (by rw[LH H1.o]; exact gV _ _ _ _)⟩
  ·have hb:decide (dd=1)=false:=by rw[HDD.o,LJ h1]
   rw[hb];have H1:=Ag (show(if d=1 then [] else dig d)=ld by
    rcases HL.o with h | ⟨h,h2⟩
    ·by_cases hd:d=1
     ·exact absurd ⟨by rw[h,hd,ji]; simp,hd⟩ h1
     ·rw[LG hd,h]
    ·rw[LH h2,h])
   clear h1 hb;refine Zt ?_;intro q0 y0 q1 y1 q2 y2;go_wp2
   obtain⟨Wz,hWz,hrz,hwz,hkz⟩:=aY hr (G7 neg) (Gw A (dig n).length c) (Gw B ld.length e);refine Zg ?_;clear hWz q0 q1 q2 y0 y1 y2;intro t0 t1 t2;refine bodyPost_ret (v:=.agg #[G7 neg,Gw A (dig n).length c,Gw B ld.length e]) (by simp[results,Tryz.results55,go_sem,t0,t1,t2]) rfl ?_;exact⟨_,rfl,hwz _ _ (Gy _) hWb,by unfold NmV; rw[alI HD0.o HG.o H0.o]; exact Ak.make rfl (Ah.keep HN.o (λ_ h _=>h) (GL (hwz _ _ (Gy _) hWb) F)) (by rw[H1.o]; exact Aj.keep HD.o (λ_ h _=>h) (GL (hwz _ _ (Gy _) hWb) F))⟩
theorem alJ (x:Rat):mkRat (sgI (dh x) x.num.natAbs) x.den=x:=aa0 x
theorem kU (w:GK) (F:Gq) (v:GN) (x:Rat) (hv:RtV w F v x) (hl:rl x<=100000) :
  Calls GI 27 #[v] w (Ret w λu w'=>NmV w' F u x):=by
 have ln:=fU x;have ld:=fV x;obtain⟨A,c,B,d,rfl,hn,hd⟩:=hv.open;have HN:=Ag hn;have HD:=Ag hd;clear hn hd hv;show Calls _ _ #[.agg #[G7 (dh x),Gw A (dig x.num.natAbs).length c,Gw B (dig x.den).length d]] _ _;obtain⟨neg,hneg⟩:=Gp (dh x);rw[<-hneg];have HE:=Ag hneg;clear hneg;go_in;go_wp2_with fail
 generalize hW2:World.alloc _ _=W2;obtain⟨hb1,hr2,hB2,hz2⟩:=gW hW2;clear hW2;have x0:=hb1.cell (i:=0) rfl;have x1:=hb1.cell (i:=1) rfl;have x2:=hb1.cell (i:=2) rfl;go_wp2_with fail
 refine(uM W2 (Old F w.heap.size) neg _ _ x.num.natAbs x.den (dig x.den) (Ah.below (n:=x.num.natAbs) HN.o.old hB2) (Aj.on HD.o.old (GL hB2 _)) (.inl rfl) x.den_nz (jC x) FI).mono ?_;rintro e w3 ⟨u,rfl,hb3,hu⟩;rw[HE.o,alJ] at hu;have HU:=Ag hu;obtain⟨A',c',B',d',rfl,hn',hd'⟩:=hu.open;clear hn' hd' hu x0 x1 x2 hb1;have hr3:=hr2.below hb3 hr2.lt;have hB3:=hB2.trans (hb3.mono hB2.size);clear hb3 hr2 hB2 hz2;dsimp only;have q0:=hr3.cell (i:=0) rfl;have y0:=hr3.frozen 0;have q1:=hr3.cell (i:=1) rfl;have y1:=hr3.frozen 1;have q2:=hr3.cell (i:=2) rfl;have y2:=hr3.frozen 2;go_wp2
 obtain⟨Wz,hWz,hrz,hwz,hkz⟩:=aY hr3 (G7 (ay x).neg) (Gw A' (ay x).num.length c') (Gw B' (ay x).den.length d');refine Zg ?_;clear hWz q0 q1 q2 y0 y1 y2;intro t0 t1 t2;refine bodyPost_ret (v:=.agg #[G7 (ay x).neg,Gw A' (ay x).num.length c',Gw B' (ay x).den.length d']) (by simp[results,Tryz.results27,go_sem,t0,t1,t2]) rfl ?_;exact⟨_,rfl,hwz _ _ FI hB3,HU.o.keep (λb hb _=>hb.1) (hkz _ (λh=>by have:=h.2; omega))⟩
theorem aep (na:Bool) (a b:Nat):sgI na a+sgI na b=sgI na (a+b):=by grind [sgI]
theorem ajf (h:na≠nb) (hab:b<=a):sgI na a+sgI nb b=sgI na (a - b):=by grind [sgI]
theorem ajg (h:na≠nb) (hab:a < b):sgI na a+sgI nb b=sgI nb (b - a):=by grind [sgI]
theorem abL (w:GK) (F:Gq) (na nb:Bool) (va vb:GN) (a b:Nat) (ha:Ah w F va a) (hb:Ah w F vb b) (hla:(dig a).length<=100000) (hlb:(dig b).length<=100000) :
  Calls GI 85 #[G7 na,va,G7 nb,vb] w (Ret w λv w'=>∃ neg t,v = .tuple #[G7 neg,t]/\Ah w' (λb=>w.heap.size<=b) t (sgI na a+sgI nb b).natAbs/\sgI na a+sgI nb b=sgI neg (sgI na a+sgI nb b).natAbs):=by
 have HA:=Ag ha;have HB:=Ag hb;clear ha hb;by_cases hs:na=nb
 ·subst hs;have HS:=Ag (aep na a b);have hbb:(na==na)=true:=aA;go_in;go_wp2_with fail
  refine(ajQ _ F _ _ a b HA.o HB.o hla hlb).mono ?_;rintro e w1 ⟨v,rfl,hb1,hv⟩;have HV:=Ag hv;clear hv;go_wp2
  go_ret2;exact⟨_,rfl,hb1,_,_,rfl,by rw[HS.o,vF]; exact HV.o,by rw[HS.o,vF]⟩
 ·have hbb:(na==nb)=false:=by simp[hs]
  have HN:=Ag hs;clear hs;by_cases hab:b<=a
  ·have HS:=Ag (ajf HN.o hab);have HAB:=Ag hab;have hord:decide (0<=bZ a b)=true:=by
    refine LK ?_;unfold bZ;split <;> (try split) <;> omega
   clear hab;go_in;go_wp2_with fail
   refine(jF _ F _ _ a b HA.o HB.o FI FI).mono ?_;rintro e w' ⟨rfl,z0,rfl⟩;have hod:0<=bZ a b:=of_decide_eq_true hord;generalize bZ a b=od at *;go_wp2_with fail
   refine(acJ _ F _ _ a b (HA.o.on (Jv _ _ _)) (HB.o.on (Jv _ _ _)) HAB.o hla).mono ?_;rintro e w1 ⟨v,rfl,hb1,hv⟩;have HV:=Ag hv;clear hv;go_wp2
   go_ret2;exact zdm
  ·have HS:=Ag (ajg HN.o (by omega:a < b));have HAB:=Ag (show a<=b by omega);have hod:bZ a b < 0:=by unfold bZ;rw[LH FI];decide
   have hord:decide (0<=bZ a b)=false:=LJ FI;clear hab;go_in;go_wp2_with fail
   refine(jF _ F _ _ a b HA.o HB.o FI FI).mono ?_;rintro e w' ⟨rfl,z0,rfl⟩;generalize bZ a b=od at *;go_wp2_with fail
   refine(acJ _ F _ _ b a (HB.o.on (Jv _ _ _)) (HA.o.on (Jv _ _ _)) HAB.o hlb).mono ?_;rintro e w1 ⟨v,rfl,hb1,hv⟩;have HV:=Ag hv;clear hv;go_wp2
   go_ret2;exact zdm
theorem aj1 (n:Int):(n:Rat).num.natAbs=n.natAbs/\(n:Rat).den=1/\dh (n:Rat)=decide (n < 0):=by grind [Rat.num_intCast,Rat.den_intCast,dh]
theorem acT (n:Int):ay (n:Rat)=⟨decide (n < 0),dig n.natAbs,[]⟩:=by grind [aj1,ay]
theorem lG (w:GK) (n:Int) (h1:-1000000000000<=n) (h2:n<=1000000000000) :
  Calls GI 41 #[GV GU n] w (Ret w λv w'=>NmV w' (λb=>w.heap.size<=b) v (n:Rat)):=by
 by_cases hn:n < 0
 ·have dn:decide (n < 0)=true:=LK hn;obtain⟨m,hm⟩:∃ m:Nat,m=n.natAbs:=⟨_,rfl⟩;have hmn:n = -(m:Int):=FI;have hmb:m < 18446744073709551616:=FI;have hm1:1<=m:=FI;have hmt:m<=1000000000000:=FI;have HW:=Ag (show ay (-((m:Int):Rat))=⟨true,dig m,[]⟩ by rw[<-Rat.intCast_neg,<-hmn,acT,dn,hm]);have hc:((-(n+1):Int))+1=(m:Int):=FI;clear hm;subst hmn;go_in;go_wp2_with fail
  refine zdA ?_;intro W hW hr hWb hWz;clear hW;refine(vM W m hmb).mono ?_;rintro e wn ⟨v,rfl,hb,hv⟩;have hz1:w.heap.size < W.heap.size:=hr.lt;replace hr:=hr.below hb hr.lt;have hB:=hWb.trans (hb.mono hWb.size);have HV:=Ag hv;obtain⟨A,c,rfl,hc,hN⟩:=hv;clear hN hb hWb;refine Zt ?_;intro q0 y0 q1 y1 q2 y2;go_wp2
  obtain⟨Wz,hWz,hrz,hwz,hkz⟩:=aY hr (G7 true) (Gw A (dig m).length c) (Gw none 0 0);refine Zg ?_;clear hWz q0 q1 q2 y0 y1 y2;intro t0 t1 t2;refine bodyPost_ret (v:=.agg #[G7 true,Gw A (dig m).length c,Gw none 0 0]) (by simp[results,Tryz.results41,go_sem,t0,t1,t2]) rfl ?_;exact zbB
 ·have dn:decide (n < 0)=false:=LJ hn;obtain⟨m,hm⟩:∃ m:Nat,m=n.natAbs:=⟨_,rfl⟩;have hmn:n=(m:Int):=FI;have hmb:m < 18446744073709551616:=FI;have hmt:m<=1000000000000:=FI;have HW:=Ag (show ay (n:Rat)=⟨false,dig m,[]⟩ by rw[acT,dn,hm]);clear hm hn;subst hmn;go_in;go_wp2_with fail
  refine zdA ?_;intro W hW hr hWb hWz;clear hW;refine(vM W m hmb).mono ?_;rintro e wn ⟨v,rfl,hb,hv⟩;have hz1:w.heap.size < W.heap.size:=hr.lt;replace hr:=hr.below hb hr.lt;have hB:=hWb.trans (hb.mono hWb.size);have HV:=Ag hv;obtain⟨A,c,rfl,hc,hN⟩:=hv;clear hN hb hWb;refine Zt ?_;intro q0 y0 q1 y1 q2 y2;go_wp2
  obtain⟨Wz,hWz,hrz,hwz,hkz⟩:=aY hr (G7 false) (Gw A (dig m).length c) (Gw none 0 0);refine Zg ?_;clear hWz q0 q1 q2 y0 y1 y2;intro t0 t1 t2;refine bodyPost_ret (v:=.agg #[G7 false,Gw A (dig m).length c,Gw none 0 0]) (by simp[results,Tryz.results41,go_sem,t0,t1,t2]) rfl ?_;exact zbB

/- Part of a claim. -/
import Derived.Test.YtnmeejofpkhlkaaGreatDoorE12
import Derived.Deep.LoopGhost
set_option linter.all false
set_option maxRecDepth 100000
set_option maxHeartbeats 12800000
namespace Go.Proofs.YtnmeejofpkhlkaaGreatDoor
open And renaming intro->Ij
open Go.RowKit.Below renaming refl->F9
open Below renaming same'->FZ
open Go.IntKind renaming i64->F5
open Go renaming Value->F7,World->FW
open Go.Value renaming bool->Gj,int->F6,slice->FQ
open Go.IntWalk renaming u64_in->J3
open Nat renaming eq_zero_or_pos->Gt,gcd->Gv,gcd_comm->Iy,le_refl->FV,mod_lt->IK
open Rat renaming num_intCast->Kv
open Same renaming drewN->Jl,setCell->Lc
open Go.Proofs.Tryz renaming prog->FY
open Go.World renaming block_lt_of_cell?->Gg
open Lib renaming hid → Ac
open Go.RowKit
variable {na nb:Bool} {a b:Nat} {x:Rat}
theorem su (w:FW) (F:FI) (va vb:F7) (a0 b0:Nat) (ha:Ae w F va a0) (hb:Ae w F vb b0) (hla:(dig a0).length<=100000) (hlb:(dig b0).length<=100000) :
  Calls FY 144 #[va,vb] w (Ret w λv w'=>Ae w' (Ext F w.heap.size) v (Gv a0 b0)):=by
 have HA:=Ac ha;have HB:=Ac hb;clear ha hb;obtain⟨G,hG⟩:=FH (Gv a0 b0);rw[<-hG];have HG:=Ac hG;clear hG;go_in;go_wp2_with fail
 refine(jU w F _ _ a0 b0 HA.out HB.out EN EN).mono ?_;rintro e w' ⟨rfl,z0,rfl⟩;go_upto_if 15 with fail
 go_cut [0,1] from 12 to 17 (λva vb wx=>∃ a b,wx=w.drewN z0/\Ae wx (Ext F w.heap.size) va a/\Ae wx (Ext F w.heap.size) vb b/\b<=a/\G=Gv a b/\(dig a).length<=100000)
 case first =>
  by_cases h:a0 < b0
  ·have hord:decide (dB a0 b0 < 0)=true:=by rw[je h];rfl
   have hod:dB a0 b0 < 0:=by rw[je h];decide
   generalize dB a0 b0=od at *;go_wp2_with fail
   go_meet
   exact zcl
  ·have hord:decide (dB a0 b0 < 0)=false:=by
    refine zcF ?_;split <;> (try split) <;> omega
   have hod:0<=dB a0 b0:=by have:=of_decide_eq_false hord;omega
   generalize dB a0 b0=od at *;go_wp2_with fail
   go_meet
   exact zcQ
 case rest =>
 obtain⟨a,b,rfl,hna,hnb,hba,zN,hlen⟩:=hcut;have HS:=Ac (Ij hna (Ij hnb zN));clear HA HB hna hnb zN hla hlb HG;go_wp2
 go_loopg [0,1] b (λf va vb wr=>∃ a b,b=f/\Ae wr (Ext F w.heap.size) va a/\Ae wr (Ext F w.heap.size) vb b/\b<=a/\G=Gv a b/\(dig a).length<=100000/\Below w.heap.size w wr)
 case atStart=>exact⟨a,b,rfl,HS.out.1,HS.out.2.1,hba,HS.out.2.2,hlen,aI (F9 _ w) z0⟩
 case round =>
  clear HS hba hlen;obtain⟨a,b,rfl,hna,hnb,hba,zN,hlen,hbel⟩:=hrel;have HNA:=Ac hna;have HNB:=Ac hnb;have HGC:=Ac zN;obtain⟨A,c,rfl,hc,_⟩:=hna;obtain⟨B,d,rfl,hd,_⟩:=hnb;have hlb:(dig b).length<=(dig a).length:=aT hba;have hz:=hbel.size;clear zN;by_cases h2:2 < (dig a).length
  ·by_cases hb0:b=0
   ·have hd0:(((dig b).length:Int)==0)=true:=by rw[hb0,bD];rfl
    exact zce
   ·have hd0:(((dig b).length:Int)==0)=false:=by have:=bg.2 hb0;exact beq_false_of_ne EN
    have HB0:=Ac hb0;clear hb0;go_wp2_with fail
    refine(aj0 wr (Ext F w.heap.size) _ _ a b HNA.out HNB.out hba EN hlen).mono ?_;rintro e w1 ⟨v,rfl,hb1,hres⟩;have hz1:=hb1.size;rcases hres with rfl | ⟨vx,vy,x,y,rfl,hvx,hvy,hyx,hxa,hyb,hg⟩
    ·go_wp2_with fail
     refine(abh w1 (Ext F w.heap.size) _ _ a b (HNA.out.below hb1) (HNB.out.below hb1) HB0.out hlen EN).mono ?_;rintro e w2 ⟨_,rfl,hb2,vq,vr,rfl,hq,hr⟩;have HR:=Ac hr;clear hq hr;have hml:a % b < b:=IK _ (by have:=HB0.out; omega);go_wp2
     go_roundg (a % b)
     case measure=>exact hml
     case rel=>exact⟨b,a % b,rfl,(HNB.out.below hb1).below hb2,HR.out.mono (λb hb _=>hb.elim id λh=>.inr EN),EN,by rw[HGC.out,Iy,Nat.gcd_rec,Iy],EN,hbel.trans ((hb1.mono hz).trans (hb2.mono EN))⟩
    ·have HX:=Ac (Ij hvx (Ij hvy hg));clear hvx hvy hg;go_wp2
     go_roundg y
     case measure=>exact hyb
     case rel=>exact⟨x,y,rfl,HX.out.1.mono (λb hb _=>.inr EN),HX.out.2.1.mono (λb hb _=>.inr EN),hyx,by rw[HGC.out]; exact HX.out.2.2.symm,by have:=aT hxa; omega,hbel.trans (hb1.mono hz)⟩
  ·have hdl:decide (2 < (dig a).length)=false:=L9 h2;go_wp2_with fail
   refine(ach wr (Ext F w.heap.size) _ a HNA.out EN).mono ?_;rintro e w' ⟨rfl,rfl⟩;go_wp2_with fail
   refine(ach wr (Ext F w.heap.size) _ b HNB.out EN).mono ?_;rintro e w' ⟨rfl,rfl⟩;have ha18:=xg (n:=a) EN;have hb18:b < 1000000000000000000:=EN;go_wp2
   go_loopw [10,11] (λxv yv wi=>∃ x y z:Nat,xv = .int .u64 (x:Int)/\yv = .int .u64 (y:Int)/\x < 1000000000000000000/\y < 1000000000000000000/\G=Gv x y/\wi=wr.drewN z) (λ_ yv _=>(intOf yv).toNat)
   case atStart=>exact⟨a,b,0,rfl,rfl,ha18,hb18,HGC.out,rfl⟩
   case round =>
    obtain⟨x,y,z,rfl,rfl,hx,hy,hg,rfl⟩:=hrel;have HGX:=Ac hg;clear hg;rcases Gt y with h0 | h0
    ·subst h0;have HF:=Ac (show G=x by rw[HGX.out,Nat.gcd_zero_right]);go_wp2_with fail
     refine(uI _ x EN).mono ?_;rintro e w1 ⟨v,rfl,hb1,hv⟩;have HV:=Ac hv;clear hv;have hz1:=hb1.size;go_wp2
     go_ret;exact⟨_,rfl,(aI hbel z).trans (hb1.mono (by simpa using hz)),by rw[HF.out]; exact HV.out.mono (λb hb _=>.inr (Nat.le_trans hz hb))⟩
    ·have hml:x % y < y:=IK _ h0;have hmI:(x:Int) % (y:Int)=((x % y:Nat):Int):=tV x y;have HM:=Ac hmI;clear hmI;go_wp2
     go_quiet (fail)
     go_wp2
     go_roundw
     case rel=>exact⟨y,x % y,_,rfl,by rw[HM.out],hy,EN,by rw[HGX.out,Iy,Nat.gcd_rec,Iy],by simp only[World.drewN_drewN]; rfl⟩
     case measure=>simp only[intOf]; rw[HM.out]; simp; exact hml
theorem qJ {fn:Func} {t u v x:Tmp} (h:fn.results = #[.tmp t,.tmp u,.tmp v,.tmp x]) (tmps:Array F7) (P:Program) (w:FW) :
  (results fn tmps).run P w = .ok (.tuple #[tmps.getD t undef,tmps.getD u undef,tmps.getD v undef,tmps.getD x undef]) w:=by simp[results,h]
def Ec (a b M p0 q0 al be:Int) (e:Ending):Prop :=
 ∃ p q A B C D:Int,e = .returned (.tuple #[F6 F5 A,F6 F5 B,F6 F5 C,F6 F5 D])/\Leh a b M p0 q0 al be p q A B C D∧-1000000000 < A/\A < 1000000000∧-1000000000 < B/\B < 1000000000∧-1000000000 < C/\C < 1000000000∧-1000000000 < D/\D < 1000000000
def DW (w:FW) (a b M p0 q0 al be:Int) (e:Ending) (w':FW):Prop:=Ec a b M p0 q0 al be e/\w=w'
theorem ahF (w:FW) (a b:Nat) (M al be:Int) (p0 q0:Int) (hst:Leh (a:Int) (b:Int) M p0 q0 al be p0 q0 1 0 0 1) (hp0:p0 < 1000000000000000000) :
  Calls FY 183 #[F6 F5 p0,F6 F5 q0] w (DW w (a:Int) (b:Int) M p0 q0 al be):=by
 have HST:=Ac hst;clear hst;go_in;go_wp2
 go_loopw [0,1,4,5,6,7] (λpv qv av bv cv dv wr=>∃ p q A B C D:Int,pv = F6 F5 p/\qv = F6 F5 q/\av = F6 F5 A/\bv = F6 F5 B/\cv = F6 F5 C/\dv = F6 F5 D/\Leh (a:Int) (b:Int) M p0 q0 al be p q A B C D /\
  -1000000000 < A/\A < 1000000000∧-1000000000 < B/\B < 1000000000∧-1000000000 < C/\C < 1000000000∧-1000000000 < D/\D < 1000000000/\w=wr) (λ_ qv _ _ cv dv _=>(intOf cv*a+intOf dv*b).toNat)
 case atStart=>exact⟨_,_,_,_,_,_,rfl,rfl,rfl,rfl,rfl,rfl,HST.out,EN,EN,EN,EN,EN,EN,EN,EN,rfl⟩
 case round =>
  clear HST;obtain⟨p,q,A,B,C,D,rfl,rfl,rfl,rfl,rfl,rfl,kU,a1,a2,b1,b2,c1,c2,d1,d2,rfl⟩:=hrel;have HLE:=Ac kU;have pA:=kU.pA;have pB:=kU.pB;have qC:=kU.qC;have qD:=kU.qD;have pA1:=kU.pA1;have pB1:=kU.pB1;have qC1:=kU.qC1;have qD1:=kU.qD1;have pn:=kU.afP;have qn:=kU.ab3;clear kU;by_cases hC:q+C=0
  ·have t1:(q+C != 0)=false:=by simp[hC]
   clear hC;exact YV
  ·have t1:(q+C != 0)=true:=by simp[hC]
   have hC':0 < q+C:=EN;by_cases hD:q+D=0
   ·have t2:(q+D != 0)=false:=by simp[hD]
    have HC:=Ac hC;clear hC hD;exact YV
   ·have t2:(q+D != 0)=true:=by simp[hD]
    have hD':0 < q+D:=EN;obtain⟨k,hk⟩:∃ k,(p+A) / (q+C)=k:=⟨_,rfl⟩;obtain⟨k2,hk2⟩:∃ k,(p+B) / (q+D)=k:=⟨_,rfl⟩;have kn:0<=k:=by rw[<-hk];exact Int.ediv_nonneg pA qC
    have k2n:0<=k2:=by rw[<-hk2];exact Int.ediv_nonneg pB qD
    have kle:k<=p+A:=by rw[<-hk];exact Int.ediv_le_self _ pA
    have k2le:k2<=p+B:=by rw[<-hk2];exact Int.ediv_le_self _ pB
    have HC:=Ac hC;have HD:=Ac hD;clear hC hD;by_cases hkk:k=k2
    ·subst hkk;have t3:(k != k)=false:=aF;obtain⟨_,kb,kq1,kq2,kc1,kc2,kd1,kd2⟩:=HLE.out.bounds HC.out HD.out hk.symm hk2.symm;have HST:=Ac (HLE.out.step HC.out HD.out hk.symm hk2.symm);obtain⟨kc,hkc⟩:∃ kc,k*C=kc:=⟨_,rfl⟩;obtain⟨kd,hkd⟩:∃ kd,k*D=kd:=⟨_,rfl⟩;obtain⟨kq,hkq⟩:∃ kq,k*q=kq:=⟨_,rfl⟩;rw[hkc] at kc1 kc2 HST;rw[hkd] at kd1 kd2 HST;rw[hkq] at kq1 kq2 HST;have hm4:=agb;by_cases hmx:1000000000<=adu (A - kc) (-(A - kc)) (B - kd) (-(B - kd))
     ·have t5:decide (1000000000<=adu (A - kc) (-(A - kc)) (B - kd) (-(B - kd)))=true:=Mc hmx;clear hmx;exact YV
     ·refine zbE ?_;clear hmx;intro t5 n1 n2 n3 n4;go_wp2
      go_roundw
      case rel=>exact⟨q,p - kq,C,D,A - kc,B - kd,rfl,rfl,rfl,rfl,rfl,rfl,HST.out.1,EN,EN,EN,EN,EN,EN,EN,EN,by first | rfl | trivial⟩
      case measure =>
       have h1:=HST.out.2;have h2:=HST.out.1.y0;simp only[intOf];omega
    ·have t3:(k != k2)=true:=by simp[hkk]
     clear hkk;exact YV
theorem am4 {f:FuncId} {fn:Func} (hf:Tryz.prog.funcs[f]? = some fn) (hn:(fn.name == "runtime.NumGoroutine")=false) (hb:fn.body.isNone=false) (args:Array F7) (w:FW):(callFunc f args).run FY w = .ok (.enter f args) w:=by
 have h1:fn.name ≠ "runtime.NumGoroutine" := by simpa using hn
 obtain⟨b,hb⟩:∃ b,fn.body=some b:=by cases h:fn.body <;> simp_all
 simp[callFunc,hf,h1,hb,Sem.run]
theorem alE (w:FW) (F:FI) (v:F7) (l:List Nat) (i p:Nat) (hv:Ag w F v l) (hp:w.cell? ⟨p,0,none⟩=some v) (hlim:Limbs l) (hl:l.length<=1000000) :
  Calls FY 206 #[F6 F5 (i:Int),.pointer (some ⟨p,0,none⟩)] w λe w'=>e = .returned (.int .u64 ((l.getD i 0:Nat):Int))/\w'=w:=by
 obtain⟨A,c,rfl,hc,hN⟩:=hv;by_cases hlt:i < l.length
 ·obtain⟨b,o,rfl,_,hb,hx⟩:=hN EN;obtain⟨x,hx'⟩:=FC hlt;have ex:=hx i x hx';unfold dF at ex;rw[Nat.mul_one] at ex;have hxl:x < 1000000000:=hlim.get hx';rw[aN hx'];clear hx hx' hN;exact zbU
 ·have hdd:decide (i < l.length)=false:=L9 hlt;rw[eU EN];clear hN;exact zbU
theorem ahG {x y z jY P Q R:Nat} (hx:x < 1000000000) (hy:y < 1000000000) (hz:z < 1000000000) (hP:((x:Int)*1000000000+(y:Int))*(jY:Int)=(P:Int)) (hQ:(z:Int)*(jY:Int)=(Q:Int)) (hPl:P < 1000000000000000000) (hQl:Q<=1000000000000000000) (hR:P+Q / 1000000000=R) (hRl:R < 1000000000000000000) :
  wrap64 (IntKind.u64.wrap (IntKind.u64.wrap (IntKind.u64.wrap (IntKind.u64.wrap ((x:Int)*1000000000)+(y:Int))*(jY:Int))+IntKind.u64.wrap ((IntKind.u64.wrap ((z:Int)*(jY:Int))).tdiv 1000000000)))=(R:Int):=by
 rw[J3 ((x:Int)*1000000000) EN,J3 ((x:Int)*1000000000+(y:Int)) EN,hP,hQ,J3 (P:Int) EN,J3 (Q:Int) EN,IntWalk.u64_quo _ _ EN,J3 _ EN];unfold wrap64;omega
theorem ad3 (w:FW) (F:FI) (v:F7) (l:List Nat) (n jY T b1 b2:Nat) (hv:Ag w F v l) (hlim:Limbs l) (hl:l.length<=n) (hn3:3<=n) (hn:n<=100000) (hT:jY*T=LB) (h1:w.cell? ⟨b1,0,none⟩=some (F6 F5 (n:Int))) (h2:w.cell? ⟨b2,0,none⟩=some (.int .u64 (jY:Int))) (hlt:aH l / (LB ^ (n - 3)*T) < 1000000000000000000) :
  Calls FY 205 #[v,.pointer (some ⟨b1,0,none⟩),.pointer (some ⟨b2,0,none⟩)] w (Ret w λu _=>u = F6 F5 ((aH l / (LB ^ (n - 3)*T):Nat):Int)):=by
 refine zcr ?_;intro n1 hn1;obtain⟨n2,hn2⟩:∃ n2,n2+2=n:=⟨n - 2,EN⟩;obtain⟨n3,hn3'⟩:∃ n3,n3+3=n:=⟨n - 3,EN⟩;have i1:(n:Int) - 1=(n1:Int):=EN;have i2:(n:Int) - 2=(n2:Int):=EN;have i3:(n:Int) - 3=(n3:Int):=EN;have hle:=amO hl hn3 hT hlim;obtain⟨R,hR⟩:=FH (aH l / (LB ^ (n - 3)*T));rw[<-hR] at hle hlt ⊢;rw[show n - 1=n1 by omega,show n - 2=n2 by omega,show n - 3=n3 by omega] at hle;have hx:=hlim.getD n1;have hy:=hlim.getD n2;have hz:=hlim.getD n3;obtain⟨x,ex⟩:=FH (l.getD n1 0);obtain⟨y,ey⟩:=FH (l.getD n2 0);obtain⟨z,ez⟩:=FH (l.getD n3 0);rw[<-ex,<-ey,<-ez] at hle;rw[<-ex] at hx;rw[<-ey] at hy;rw[<-ez] at hz;have htl:jY<=1000000000:=by
  rcases Gt T with h | h
  ·subst h;simp at hT
  ·have:jY*1<=jY*T:=Nat.mul_le_mul_left _ h;rw[hT] at this;unfold LB at this;omega
 obtain⟨P,hP⟩:=FH ((x*LB+y)*jY);obtain⟨Q,hQ⟩:=FH (z*jY);rw[<-hP,<-hQ] at hle;have hQl:Q<=1000000000000000000:=by
  rw[hQ];have:=Nat.mul_le_mul (show z<=999999999 by unfold LB at hz; omega) htl;omega
 have hPI:((x:Int)*1000000000+(y:Int))*(jY:Int)=(P:Int):=by rw[hP];simp
 have hQI:(z:Int)*(jY:Int)=(Q:Int):=by rw[hQ];simp
 have hle2:P+Q / 1000000000=R:=hle;have hxl:x < 1000000000:=hx;have hyl:y < 1000000000:=hy;have hzl:z < 1000000000:=hz;have hPl:P < 1000000000000000000:=EN;have HLE:=Ac hle2;have HEX:=Ac (Ij ex (Ij ey ez));have HV:=Ac hv;have HLM:=Ac hlim;have hl2:l.length<=1000000:=EN;refine zdc ?_;intro hmf;have hb1:b1 < w.heap.size:=Gg w _ h1;have hb2:b2 < w.heap.size:=Gg w _ h2;obtain⟨A,c,rfl,hc,_⟩:=hv;clear hle hle2 ex ey ez hP hQ hlim hT hR hn1 hn2 hn3' hx hy hz;go_in;go_wp2
 obtain⟨W,hW⟩:∃ W:FW,W=w.alloc (.cells #[FQ A l.length c] 40):=⟨_,rfl⟩;have cW:W.cell? ⟨w.heap.size,0,none⟩=some (FQ A l.length c):=by rw[hW];simp
 have hBW:Below w.heap.size w W:=by rw[hW];exact(F9 _ w).alloc (FV _) _
 have c1:W.cell? ⟨b1,0,none⟩=some (F6 F5 (n:Int)):=(aS hBW b1 0 hb1).trans h1;have c2:W.cell? ⟨b2,0,none⟩=some (.int .u64 (jY:Int)):=(aS hBW b2 0 hb2).trans h2;have hvW:Ag W F (FQ A l.length c) l:=by rw[hW];exact HV.out.on (Same.alloc _ _ _)
 have HVW:=Ac hvW;rw[<-hW];clear hW hvW h1 h2;have hent:=am4 Tryz.func206 (by decide +kernel) (by decide +kernel);go_quiet ((go_at_call 206; refine Calls.quiet_of_same ((alE _ F (FQ A l.length c) l _ w.heap.size (HVW.out.on (Jl _ _ _)) cW HLM.out hl2))))
 go_wp2
 go_ret;refine⟨_,rfl,aI hBW _,?_⟩;have h:=ahG hxl hyl hzl hPI hQI hPl hQl HLE.out hlt;rw[HEX.out.1,HEX.out.2.1,HEX.out.2.2] at h;simp only[List.getD_eq_getElem?_getD] at h;exact congrArg (Value.int .i64) h
theorem Ah.open {w:FW} {F:FI} {v:F7} {r:Raw} (h:Ah w F v r):∃ A c B d,v = .agg #[Gj r.neg,FQ A r.num.length c,FQ B r.den.length d]/\Ag w F (FQ A r.num.length c) r.num/\Ag w F (FQ B r.den.length d) r.den:=by
 obtain⟨vn,vd,rfl,h1,h2⟩:=h;obtain⟨A,c,rfl,hc,hN⟩:=h1;obtain⟨B,d,rfl,hd,hM⟩:=h2;exact⟨A,c,B,d,rfl,⟨A,c,rfl,hc,hN⟩,⟨B,d,rfl,hd,hM⟩⟩
theorem oN (x:Rat):(aB x).num=dig x.num.natAbs:=rfl
theorem uO (x:Rat):(aB x).neg=dI x:=rfl
theorem pR (h:x.den=1):(aB x).den = []:=by unfold aB; simp[h]
theorem qY (h:x.den≠1):(aB x).den=dig x.den:=by unfold aB; simp[h]
theorem acz (h:x=0):(((dig x.num.natAbs).length:Int)==0)=true:=by subst h; simp[bD]
theorem acA (h:x≠0):(((dig x.num.natAbs).length:Int)==0)=false:=by
 have:x.num.natAbs≠0:=λe=>h ((lF x).1 e)
 have:=bg.2 this;exact beq_false_of_ne EN
theorem iU (w:FW) (F:FI) (v:F7) (x:Rat) (hv:NmV w F v x) :
  Calls FY 85 #[v] w (Ret w λu _=>u = Gj (decide (x=0))):=by
 obtain⟨A,c,B,d,rfl,hn,hd⟩:=hv.open;clear hn hd hv;rw[uO,oN];generalize (aB x).den.length=dl;by_cases h:x=0
 ·exact zdJ
 ·exact zdD
theorem ad4 (w:FW) (F:FI) (v:F7) (x:Rat) (hv:NmV w F v x) :
  Calls FY 119 #[v] w (Ret w λu _=>u = F6 F5 (nT x)):=by
 obtain⟨A,c,B,d,rfl,hn,hd⟩:=hv.open;clear hn hd hv;rw[uO,oN];generalize (aB x).den.length=dl;by_cases h:x=0
 ·have h0:=acz h;have HD:=Ac (show nT x=0 by subst h; rfl);clear h;exact Yc
 ·have h0:=acA h;have hz:¬ x.num.natAbs=0:=λe=>h ((lF x).1 e)
  have HD:=Ac (show nT x=if dI x then -1 else 1 by unfold nT; rw[L6 hz]);clear h hz;cases hb:dI x
  ·rw[hb] at HD;exact Yc
  ·rw[hb] at HD;exact Yc
theorem aeZ (w:FW) (k:Nat) (hk:k=1):Ae (w.alloc (.cells #[.int .u32 1] 103)) (λb=>w.heap.size<=b) (FQ (some ⟨w.heap.size,0,none⟩) 1 1) k:=by
 subst hk;unfold Ae;rw[iL];have h:=Row.new w 103 #[.int .u32 1];have h2:=Row.limbs (l:=[1]) (by simpa [aU] using h) (F:=λb=>w.heap.size<=b) (FV _) (n:=1) (c:=1) aF (FV _);simpa using h2
theorem mM (w:FW) (F:FI) (v:F7) (x:Rat) (hv:NmV w F v x) :
  Calls FY 122 #[v] w (Ret w λu w'=>Ae w' (Ext F w.heap.size) u x.den):=by
 obtain⟨A,c,B,d,rfl,hn,hd⟩:=hv.open;have HD:=Ac hd;clear hn hd hv;rw[uO,oN];by_cases h:x.den=1
 ·rw[pR h];clear HD;have HX:=Ac h;clear h;go_in;go_wp2
  go_ret;refine⟨_,rfl,((F9 w.heap.size w).alloc (FV _) _).alloc aF _,?_⟩;have h:=aeZ (w.alloc (.cells #[Gj (dI x),FQ A (dig x.num.natAbs).length c,FQ B 0 d] 114)) x.den HX.out;simpa using h.mono (G:=Ext F w.heap.size) (λb hb _=>.inr (by simp at hb; omega))
 ·rw[qY h] at HD ⊢;have h0:(((dig x.den).length:Int)==0)=false:=by
   have:=bg.2 x.den_nz;exact beq_false_of_ne EN
  clear h;go_in;go_wp2
  go_ret;refine⟨_,rfl,(F9 _ _).alloc (FV _) _,?_⟩;exact Ae.keep (n:=x.den) HD.out (λb hb _=>.inl hb) (Same.alloc _ _ _)
theorem nG (w:FW) (F:FI) (va vb:F7) (a b:Nat) (ha:Ae w F va a) (hb:Ae w F vb b) (hb0:b≠0) (hla:(dig a).length<=100000) (hlb:(dig b).length<=100000) :
  Calls FY 145 #[va,vb] w (Ret w λv w'=>Ae w' (Ext F w.heap.size) v (a / b)):=by
 have HA:=Ac ha;have HB:=Ac hb;have HB0:=Ac hb0;clear ha hb hb0;go_in;go_wp2_with fail
 refine(mF w F _ b HB.out EN).mono ?_;rintro e w' ⟨rfl,rfl⟩;by_cases h:b=1
 ·have hd:decide (b=1)=true:=Mc h;rw[hd];have H1:=Ac h;clear h hd;go_wp2
  go_ret;exact⟨_,rfl,F9 _ _,by rw[H1.out,Nat.div_one]; exact HA.out.mono λb hb _=>.inl hb⟩
 ·have hd:decide (b=1)=false:=L9 h;rw[hd];clear h hd;go_wp2_with fail
  refine(abh w F _ _ a b HA.out HB.out HB0.out hla hlb).mono ?_;rintro e w1 ⟨_,rfl,hb1,vq,vr,rfl,hq,hr⟩;have HQ:=Ac hq;clear hq hr;go_wp2
  go_ret;exact⟨_,rfl,hb1,HQ.out⟩
theorem bG {w:FW} {t:TypeId} {a0 a1 a2:F7} (h:Row w b t [a0,a1,a2]) (v0 v1 v2:F7):∃ W,W=(((w.setCell ⟨b,0,none⟩ v0).setCell ⟨b,1,none⟩ v1).setCell ⟨b,2,none⟩ v2) /\
  Row W b t [v0,v1,v2]/\(∀ B a,B<=b->Below B a w->Below B a W)/\∀ F:FI,¬ F b->Same F w W:=by
 refine⟨_,rfl,((h.set 0 v0).set 1 v1).set 2 v2,λB a hb hbel=>?_,λF hF=>?_⟩
 ·exact((hbel.setCell (p:=⟨b,0,none⟩) hb v0).setCell (p:=⟨b,1,none⟩) hb v1).setCell (p:=⟨b,2,none⟩) hb v2
 ·exact((Lc F w (p:=⟨b,0,none⟩) hF v0).trans (Lc F _ (p:=⟨b,1,none⟩) hF v1)).trans (Lc F _ (p:=⟨b,2,none⟩) hF v2)
theorem alF {neg:Bool} {n d:Nat} (hd:d≠0) (hg:Gv n d=1) (hn:n≠0):aB (mkRat (sgI neg n) d)=⟨neg,dig n,if d=1 then [] else dig d⟩:=by
 have h:=oG (neg:=neg) hd hg;unfold aB;rw[h.1,h.2,mg _ hd,xk hn]
theorem ai9 (neg:Bool) (d:Nat):mkRat (sgI neg 0) d=0:=by rw[ab4]; simp
theorem tX (w:FW) (F:FI) (neg:Bool) (vn vd:F7) (n d:Nat) (ld:List Nat) (hn:Ae w F vn n) (hd:Ag w F vd ld) (hld:ld=dig d\/(ld = []/\d=1)) (hd0:d≠0) (hg:Gv n d=1) (hl:ld.length<=1000000) :
  Calls FY 126 #[Gj neg,vn,vd] w (Ret w λv w'=>NmV w' F v (mkRat (sgI neg n) d)):=by
 have HN:=Ac hn;have HD:=Ac hd;obtain⟨A,c,rfl,hc,hN⟩:=hn;obtain⟨B,e,rfl,he,hM⟩:=hd;clear hN hM;have HL:=Ac hld;have HD0:=Ac hd0;have HG:=Ac hg;clear hld hd0 hg;by_cases h0:n=0
 ·have hl0:(((dig n).length:Int)==0)=true:=by rw[h0,bD];rfl
  have H0:=Ac h0;clear h0;go_in;go_wp2_with fail
  refine zc4 ?_;intro W hW hr hWb hWz;clear hW hWz;have t0:=hr.cell (i:=0) rfl;have y0:=hr.frozen 0;have t1:=hr.cell (i:=1) rfl;have y1:=hr.frozen 1;have t2:=hr.cell (i:=2) rfl;have y2:=hr.frozen 2;go_wp2
  refine bodyPost_ret (v:=.agg #[Gj false,FQ none 0 0,FQ none 0 0]) (by simp[results,Tryz.results126,go_sem,t0,t1,t2]) rfl ?_;exact⟨_,rfl,hWb,by rw[H0.out,ai9]; exact NmV.zero _ _ _ _ _ _⟩
 ·have hl0:(((dig n).length:Int)==0)=false:=by have:=bg.2 h0;exact beq_false_of_ne EN
  have H0:=Ac h0;clear h0;go_in;go_wp2_with fail
  refine zc4 ?_;intro W hW hr hWb hWz;clear hW hWz;obtain⟨dd,hdd⟩:∃ dd,ld=dig dd/\decide (dd=1)=decide (ld≠[]/\d=1):=by
   rcases HL.out with h | ⟨h,h1⟩
   ·exact⟨d,h,by rw[h]; simp[oC,HD0.out]⟩
   ·exact⟨0,by rw[h,bD],by rw[h]; simp⟩
  have hdn:Ae w F (FQ B ld.length e) dd:=by unfold Ae;rw[<-hdd.1];exact HD.out
  have HDN:=Ac hdn;have HDD:=Ac hdd.2;have hll:(dig dd).length<=1000000:=by rw[<-hdd.1];exact hl
  clear hdn hdd;go_wp2_with fail
  refine(mF W F _ dd (HDN.out.below hWb) hll).mono ?_;rintro e' w' ⟨rfl,rfl⟩;by_cases h1:ld≠[]/\d=1
  ·have hb:decide (dd=1)=true:=by rw[HDD.out,Mc h1]
   rw[hb];have H1:=Ac h1.2;clear h1 hb;refine Zu ?_;intro q0 y0 q1 y1 q2 y2;go_wp2
   obtain⟨Wz,hWz,hrz,hwz,hkz⟩:=bG hr (Gj neg) (FQ A (dig n).length c) (FQ none 0 0);refine Zh ?_;clear hWz q0 q1 q2 y0 y1 y2;intro t0 t1 t2;refine bodyPost_ret (v:=.agg #[Gj neg,FQ A (dig n).length c,FQ none 0 0]) (by simp[results,Tryz.results126,go_sem,t0,t1,t2]) rfl ?_;exact⟨_,rfl,hwz _ _ (FV _) hWb,by unfold NmV; rw[alF HD0.out HG.out H0.out]; exact Ah.make rfl (Ae.keep HN.out (λ_ h _=>h) (FZ (hwz _ _ (FV _) hWb) F)) (by rw[L8 H1.out]; exact iT _ _ _ _)⟩
  ·have hb:decide (dd=1)=false:=by rw[HDD.out,L9 h1]
   rw[hb];have H1:=Ac (show(if d=1 then [] else dig d)=ld by
    rcases HL.out with h | ⟨h,h2⟩
    ·by_cases hd:d=1
     ·exact absurd ⟨by rw[h,hd,iL]; simp,hd⟩ h1
     ·rw[L6 hd,h]
    ·rw[L8 h2,h])
   clear h1 hb;refine Zu ?_;intro q0 y0 q1 y1 q2 y2;go_wp2
   obtain⟨Wz,hWz,hrz,hwz,hkz⟩:=bG hr (Gj neg) (FQ A (dig n).length c) (FQ B ld.length e);refine Zh ?_;clear hWz q0 q1 q2 y0 y1 y2;intro t0 t1 t2;refine bodyPost_ret (v:=.agg #[Gj neg,FQ A (dig n).length c,FQ B ld.length e]) (by simp[results,Tryz.results126,go_sem,t0,t1,t2]) rfl ?_;exact⟨_,rfl,hwz _ _ (FV _) hWb,by unfold NmV; rw[alF HD0.out HG.out H0.out]; exact Ah.make rfl (Ae.keep HN.out (λ_ h _=>h) (FZ (hwz _ _ (FV _) hWb) F)) (by rw[H1.out]; exact Ag.keep HD.out (λ_ h _=>h) (FZ (hwz _ _ (FV _) hWb) F))⟩
theorem alG (x:Rat):mkRat (sgI (dI x) x.num.natAbs) x.den=x:=yF x
theorem xG (w:FW) (F:FI) (v:F7) (x:Rat) (hv:RtV w F v x) (hl:rl x<=100000) :
  Calls FY 76 #[v] w (Ret w λu w'=>NmV w' F u x):=by
 have ln:=gy x;have ld:=gB x;obtain⟨A,c,B,d,rfl,hn,hd⟩:=hv.open;have HN:=Ac hn;have HD:=Ac hd;clear hn hd hv;show Calls _ _ #[.agg #[Gj (dI x),FQ A (dig x.num.natAbs).length c,FQ B (dig x.den).length d]] _ _;obtain⟨neg,hneg⟩:=FH (dI x);rw[<-hneg];have HE:=Ac hneg;clear hneg;go_in;go_wp2_with fail
 obtain⟨W2,hW2,hb1,hr2,hB2,hz2⟩:=alloc2 w 42 #[Gj neg,FQ A (dig x.num.natAbs).length c,FQ B (dig x.den).length d] 114 #[Gj false,FQ none 0 0,FQ none 0 0];rw[<-hW2];clear hW2;have x0:=hb1.cell (i:=0) rfl;have x1:=hb1.cell (i:=1) rfl;have x2:=hb1.cell (i:=2) rfl;go_wp2_with fail
 refine(tX W2 (Old F w.heap.size) neg _ _ x.num.natAbs x.den (dig x.den) (Ae.below (n:=x.num.natAbs) HN.out.old hB2) (Ag.on HD.out.old (FZ hB2 _)) (.inl rfl) x.den_nz (jQ x) EN).mono ?_;rintro e w3 ⟨u,rfl,hb3,hu⟩;rw[HE.out,alG] at hu;have HU:=Ac hu;obtain⟨A',c',B',d',rfl,hn',hd'⟩:=hu.open;clear hn' hd' hu x0 x1 x2 hb1;have hr3:=hr2.below hb3 hr2.lt;have hB3:=hB2.trans (hb3.mono hB2.size);clear hb3 hr2 hB2 hz2;dsimp only;have q0:=hr3.cell (i:=0) rfl;have y0:=hr3.frozen 0;have q1:=hr3.cell (i:=1) rfl;have y1:=hr3.frozen 1;have q2:=hr3.cell (i:=2) rfl;have y2:=hr3.frozen 2;go_wp2
 obtain⟨Wz,hWz,hrz,hwz,hkz⟩:=bG hr3 (Gj (aB x).neg) (FQ A' (aB x).num.length c') (FQ B' (aB x).den.length d');refine Zh ?_;clear hWz q0 q1 q2 y0 y1 y2;intro t0 t1 t2;refine bodyPost_ret (v:=.agg #[Gj (aB x).neg,FQ A' (aB x).num.length c',FQ B' (aB x).den.length d']) (by simp[results,Tryz.results76,go_sem,t0,t1,t2]) rfl ?_;exact⟨_,rfl,hwz _ _ EN hB3,HU.out.keep (λb hb _=>hb.1) (hkz _ (λh=>by have:=h.2; omega))⟩
theorem ad5 (na:Bool) (a b:Nat):sgI na a+sgI na b=sgI na (a+b):=by unfold sgI; cases na <;> simp <;> omega
theorem aja (h:na≠nb) (hab:b<=a):sgI na a+sgI nb b=sgI na (a - b):=by
 unfold sgI;cases na <;> cases nb <;> simp at h ⊢ <;> omega
theorem ajb (h:na≠nb) (hab:a < b):sgI na a+sgI nb b=sgI nb (b - a):=by
 unfold sgI;cases na <;> cases nb <;> simp at h ⊢ <;> omega
theorem abj (w:FW) (F:FI) (na nb:Bool) (va vb:F7) (a b:Nat) (ha:Ae w F va a) (hb:Ae w F vb b) (hla:(dig a).length<=100000) (hlb:(dig b).length<=100000) :
  Calls FY 143 #[Gj na,va,Gj nb,vb] w (Ret w λv w'=>∃ neg t,v = .tuple #[Gj neg,t]/\Ae w' (λb=>w.heap.size<=b) t (sgI na a+sgI nb b).natAbs/\sgI na a+sgI nb b=sgI neg (sgI na a+sgI nb b).natAbs):=by
 have HA:=Ac ha;have HB:=Ac hb;clear ha hb;by_cases hs:na=nb
 ·subst hs;have HS:=Ac (ad5 na a b);have hbb:(na==na)=true:=aF;go_in;go_wp2_with fail
  refine(ajP _ F _ _ a b HA.out HB.out hla hlb).mono ?_;rintro e w1 ⟨v,rfl,hb1,hv⟩;have HV:=Ac hv;clear hv;go_wp2
  go_ret2;exact⟨_,rfl,hb1,_,_,rfl,by rw[HS.out,qG]; exact HV.out,by rw[HS.out,qG]⟩
 ·have hbb:(na==nb)=false:=by simp[hs]
  have HN:=Ac hs;clear hs;by_cases hab:b<=a
  ·have HS:=Ac (aja HN.out hab);have HAB:=Ac hab;have hord:decide (0<=dB a b)=true:=by
    refine Mc ?_;unfold dB;split <;> (try split) <;> omega
   clear hab;go_in;go_wp2_with fail
   refine(jU _ F _ _ a b HA.out HB.out EN EN).mono ?_;rintro e w' ⟨rfl,z0,rfl⟩;have hod:0<=dB a b:=of_decide_eq_true hord;generalize dB a b=od at *;go_wp2_with fail
   refine(acn _ F _ _ a b (HA.out.on (Jl _ _ _)) (HB.out.on (Jl _ _ _)) HAB.out hla).mono ?_;rintro e w1 ⟨v,rfl,hb1,hv⟩;have HV:=Ac hv;clear hv;go_wp2
   go_ret2;exact zcY
  ·have HS:=Ac (ajb HN.out (by omega:a < b));have HAB:=Ac (show a<=b by omega);have hod:dB a b < 0:=by unfold dB;rw[L8 EN];decide
   have hord:decide (0<=dB a b)=false:=L9 EN;clear hab;go_in;go_wp2_with fail
   refine(jU _ F _ _ a b HA.out HB.out EN EN).mono ?_;rintro e w' ⟨rfl,z0,rfl⟩;generalize dB a b=od at *;go_wp2_with fail
   refine(acn _ F _ _ b a (HB.out.on (Jl _ _ _)) (HA.out.on (Jl _ _ _)) HAB.out hlb).mono ?_;rintro e w1 ⟨v,rfl,hb1,hv⟩;have HV:=Ac hv;clear hv;go_wp2
   go_ret2;exact zcY
theorem aj1 (n:Int):(n:Rat).num.natAbs=n.natAbs/\(n:Rat).den=1/\dI (n:Rat)=decide (n < 0):=by
 refine⟨by rw[Kv],Rat.den_intCast _,?_⟩;unfold dI;rw[Kv]
theorem acB (n:Int):aB (n:Rat)=⟨decide (n < 0),dig n.natAbs,[]⟩:=by
 have h:=aj1 n;unfold aB;rw[h.1,h.2.1,h.2.2,L8 rfl]
theorem qZ (w:FW) (n:Int) (h1:-1000000000000<=n) (h2:n<=1000000000000) :
  Calls FY 78 #[F6 F5 n] w (Ret w λv w'=>NmV w' (λb=>w.heap.size<=b) v (n:Rat)):=by
 by_cases hn:n < 0
 ·have dn:decide (n < 0)=true:=Mc hn;obtain⟨m,hm⟩:∃ m:Nat,m=n.natAbs:=⟨_,rfl⟩;have hmn:n = -(m:Int):=EN;have hmb:m < 18446744073709551616:=EN;have hm1:1<=m:=EN;have hmt:m<=1000000000000:=EN;have HW:=Ac (show aB (-((m:Int):Rat))=⟨true,dig m,[]⟩ by rw[<-Rat.intCast_neg,<-hmn,acB,dn,hm]);have hc:((-(n+1):Int))+1=(m:Int):=EN;clear hm;subst hmn;go_in;go_wp2_with fail
  refine zc4 ?_;intro W hW hr hWb hWz;clear hW;refine(uI W m hmb).mono ?_;rintro e wn ⟨v,rfl,hb,hv⟩;have hz1:w.heap.size < W.heap.size:=hr.lt;replace hr:=hr.below hb hr.lt;have hB:=hWb.trans (hb.mono hWb.size);have HV:=Ac hv;obtain⟨A,c,rfl,hc,hN⟩:=hv;clear hN hb hWb;refine Zu ?_;intro q0 y0 q1 y1 q2 y2;go_wp2
  obtain⟨Wz,hWz,hrz,hwz,hkz⟩:=bG hr (Gj true) (FQ A (dig m).length c) (FQ none 0 0);refine Zh ?_;clear hWz q0 q1 q2 y0 y1 y2;intro t0 t1 t2;refine bodyPost_ret (v:=.agg #[Gj true,FQ A (dig m).length c,FQ none 0 0]) (by simp[results,Tryz.results78,go_sem,t0,t1,t2]) rfl ?_;exact zbr
 ·have dn:decide (n < 0)=false:=L9 hn;obtain⟨m,hm⟩:∃ m:Nat,m=n.natAbs:=⟨_,rfl⟩;have hmn:n=(m:Int):=EN;have hmb:m < 18446744073709551616:=EN;have hmt:m<=1000000000000:=EN;have HW:=Ac (show aB (n:Rat)=⟨false,dig m,[]⟩ by rw[acB,dn,hm]);clear hm hn;subst hmn;go_in;go_wp2_with fail
  refine zc4 ?_;intro W hW hr hWb hWz;clear hW;refine(uI W m hmb).mono ?_;rintro e wn ⟨v,rfl,hb,hv⟩;have hz1:w.heap.size < W.heap.size:=hr.lt;replace hr:=hr.below hb hr.lt;have hB:=hWb.trans (hb.mono hWb.size);have HV:=Ac hv;obtain⟨A,c,rfl,hc,hN⟩:=hv;clear hN hb hWb;refine Zu ?_;intro q0 y0 q1 y1 q2 y2;go_wp2
  obtain⟨Wz,hWz,hrz,hwz,hkz⟩:=bG hr (Gj false) (FQ A (dig m).length c) (FQ none 0 0);refine Zh ?_;clear hWz q0 q1 q2 y0 y1 y2;intro t0 t1 t2;refine bodyPost_ret (v:=.agg #[Gj false,FQ A (dig m).length c,FQ none 0 0]) (by simp[results,Tryz.results78,go_sem,t0,t1,t2]) rfl ?_;exact zbr
end Go.Proofs.YtnmeejofpkhlkaaGreatDoor

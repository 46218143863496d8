/- The greatest common divisor: wide.common. -/
import Derived.Test.YtnmeejofpkhlkaaGreatDoorR12
import Derived.Deep.LoopGhost
set_option linter.all false
set_option maxRecDepth 100000
set_option maxHeartbeats 12800000
namespace Go.Proofs.YtnmeejofpkhlkaaGreatDoor
open Lib renaming hid → Ag
open Go.RowKit
theorem pJ (w:World) (F:Foot) (va vb:Value) (a0 b0:Nat) (ha:Ah w F va a0) (hb:Ah w F vb b0) (hla:(dig a0).length≤100000) (hlb:(dig b0).length≤100000) :
  Calls Tryz.prog 144 #[va,vb] w (Ret w fun v w'=>Ah w' (Ext F w.heap.size) v (Nat.gcd a0 b0)):=by
 have HA:=Ag ha;have HB:=Ag hb;clear ha hb;obtain⟨G,hG⟩:=named (Nat.gcd a0 b0);rw[← hG];have HG:=Ag hG;clear hG;go_in;go_wp2_with fail
 refine(jd w F _ _ a0 b0 HA.out HB.out byOmega byOmega).mono ?_;rintro e w' ⟨rfl,z0,rfl⟩;go_upto_if 15 with fail
 go_cut [0,1] from 12 to 17 (fun va vb wx=>∃ a b,wx=w.drewN z0∧Ah wx (Ext F w.heap.size) va a∧Ah wx (Ext F w.heap.size) vb b∧b≤a∧G=Nat.gcd a b∧(dig a).length≤100000)
 case first =>
  by_cases h:a0 < b0
  ·have hord:decide (bZ a0 b0 < 0)=true:=by rw[iy h];rfl
   have hod:bZ a0 b0 < 0:=by rw[iy h];decide
   generalize bZ a0 b0=od at *;go_wp2_with fail
   go_meet
   exact zbh
  ·have hord:decide (bZ a0 b0 < 0)=false:=by
    refine zbx ?_;split <;> (try split) <;> omega
   have hod:0≤bZ a0 b0:=by have:=of_decide_eq_false hord;omega
   generalize bZ a0 b0=od at *;go_wp2_with fail
   go_meet
   exact zbJ
 case rest =>
 obtain⟨a,b,rfl,hna,hnb,hba,wJ,hlen⟩:=hcut;have HS:=Ag (And.intro hna (And.intro hnb wJ));clear HA HB hna hnb wJ hla hlb HG;go_wp2
 go_loopg [0,1] b (fun f va vb wr=>∃ a b,b=f∧Ah wr (Ext F w.heap.size) va a∧Ah wr (Ext F w.heap.size) vb b∧b≤a∧G=Nat.gcd a b∧(dig a).length≤100000∧Below w.heap.size w wr)
 case atStart=>exact⟨a,b,rfl,HS.out.1,HS.out.2.1,hba,HS.out.2.2,hlen,aI (Below.refl _ w) z0⟩
 case round =>
  clear HS hba hlen;obtain⟨a,b,rfl,hna,hnb,hba,wJ,hlen,hbel⟩:=hrel;have HNA:=Ag hna;have HNB:=Ag hnb;have HGC:=Ag wJ;obtain⟨A,c,rfl,hc,_⟩:=hna;obtain⟨B,d,rfl,hd,_⟩:=hnb;have hlb:(dig b).length≤(dig a).length:=aU hba;have hz:=hbel.size;clear wJ;by_cases h2:2 < (dig a).length
  ·by_cases hb0:b=0
   ·have hd0:(((dig b).length:Int)==0)=true:=by rw[hb0,bD];rfl
    exact zbb
   ·have hd0:(((dig b).length:Int)==0)=false:=by have:=bG.2 hb0;exact beq_false_of_ne byOmega
    have HB0:=Ag hb0;clear hb0;go_wp2_with fail
    refine(ag3 wr (Ext F w.heap.size) _ _ a b HNA.out HNB.out hba byOmega hlen).mono ?_;rintro e w1 ⟨v,rfl,hb1,hres⟩;have hz1:=hb1.size;rcases hres with rfl | ⟨vx,vy,x,y,rfl,hvx,hvy,hyx,hxa,hyb,hg⟩
    ·go_wp2_with fail
     refine(yQ w1 (Ext F w.heap.size) _ _ a b (HNA.out.below hb1) (HNB.out.below hb1) HB0.out hlen byOmega).mono ?_;rintro e w2 ⟨_,rfl,hb2,vq,vr,rfl,hq,hr⟩;have HR:=Ag hr;clear hq hr;have hml:a % b < b:=Nat.mod_lt _ (by have:=HB0.out; omega);go_wp2
     go_roundg (a % b)
     case measure=>exact hml
     case rel=>exact⟨b,a % b,rfl,(HNB.out.below hb1).below hb2,HR.out.mono (fun b hb _=>hb.elim id fun h=>.inr byOmega),byOmega,by rw[HGC.out,Nat.gcd_comm,Nat.gcd_rec,Nat.gcd_comm],byOmega,hbel.trans ((hb1.mono hz).trans (hb2.mono byOmega))⟩
    ·have HX:=Ag (And.intro hvx (And.intro hvy hg));clear hvx hvy hg;go_wp2
     go_roundg y
     case measure=>exact hyb
     case rel=>exact⟨x,y,rfl,HX.out.1.mono (fun b hb _=>.inr byOmega),HX.out.2.1.mono (fun b hb _=>.inr byOmega),hyx,by rw[HGC.out]; exact HX.out.2.2.symm,by have:=aU hxa; omega,hbel.trans (hb1.mono hz)⟩
  ·have hdl:decide (2 < (dig a).length)=false:=decide_eq_false h2;go_wp2_with fail
   refine(aak wr (Ext F w.heap.size) _ a HNA.out byOmega).mono ?_;rintro e w' ⟨rfl,rfl⟩;go_wp2_with fail
   refine(aak wr (Ext F w.heap.size) _ b HNB.out byOmega).mono ?_;rintro e w' ⟨rfl,rfl⟩;have ha18:=tV (n:=a) byOmega;have hb18:b < 1000000000000000000:=byOmega;go_wp2
   go_loopw [10,11] (fun xv yv wi=>∃ x y z:Nat,xv = .int .u64 (x:Int)∧yv = .int .u64 (y:Int)∧x < 1000000000000000000∧y < 1000000000000000000∧G=Nat.gcd x y∧wi=wr.drewN z) (fun _ yv _=>(intOf yv).toNat)
   case atStart=>exact⟨a,b,0,rfl,rfl,ha18,hb18,HGC.out,rfl⟩
   case round =>
    obtain⟨x,y,z,rfl,rfl,hx,hy,hg,rfl⟩:=hrel;have HGX:=Ag hg;clear hg;rcases Nat.eq_zero_or_pos y with h0 | h0
    ·subst h0;have HF:=Ag (show G=x by rw[HGX.out,Nat.gcd_zero_right]);go_wp2_with fail
     refine(qQ _ x byOmega).mono ?_;rintro e w1 ⟨v,rfl,hb1,hv⟩;have HV:=Ag hv;clear hv;have hz1:=hb1.size;go_wp2
     go_ret;exact⟨_,rfl,(aI hbel z).trans (hb1.mono (by simpa using hz)),by rw[HF.out]; exact HV.out.mono (fun b hb _=>.inr (Nat.le_trans hz hb))⟩
    ·have hml:x % y < y:=Nat.mod_lt _ h0;have hmI:(x:Int) % (y:Int)=((x % y:Nat):Int):=qE x y;have HM:=Ag hmI;clear hmI;go_wp2
     go_quiet (fail)
     go_wp2
     go_roundw
     case rel=>exact⟨y,x % y,_,rfl,by rw[HM.out],hy,byOmega,by rw[HGX.out,Nat.gcd_comm,Nat.gcd_rec,Nat.gcd_comm],by simp only[World.drewN_drewN]; rfl⟩
     case measure=>simp only[intOf]; rw[HM.out]; simp; exact hml
theorem nS {fn:Func} {t u v x:Tmp} (h:fn.results = #[.tmp t,.tmp u,.tmp v,.tmp x]) (tmps:Array Value) (P:Program) (w:World) :
  (results fn tmps).run P w = .ok (.tuple #[tmps.getD t undef,tmps.getD u undef,tmps.getD v undef,tmps.getD x undef]) w:=by simp[results,h]
def D8 (a b M p0 q0 al be:Int) (e:Ending):Prop :=
 ∃ p q A B C D:Int,e = .returned (.tuple #[.int .i64 A,.int .i64 B,.int .i64 C,.int .i64 D])∧Leh a b M p0 q0 al be p q A B C D∧-1000000000 < A∧A < 1000000000∧-1000000000 < B∧B < 1000000000∧-1000000000 < C∧C < 1000000000∧-1000000000 < D∧D < 1000000000
def DN (w:World) (a b M p0 q0 al be:Int) (e:Ending) (w':World):Prop:=D8 a b M p0 q0 al be e∧w=w'
theorem afm (w:World) (a b:Nat) (M al be:Int) (p0 q0:Int) (hst:Leh (a:Int) (b:Int) M p0 q0 al be p0 q0 1 0 0 1) (hp0:p0 < 1000000000000000000) :
  Calls Tryz.prog 183 #[.int .i64 p0,.int .i64 q0] w (DN w (a:Int) (b:Int) M p0 q0 al be):=by
 have HST:=Ag hst;clear hst;go_in;go_wp2
 go_loopw [0,1,4,5,6,7] (fun pv qv av bv cv dv wr=>∃ p q A B C D:Int,pv = .int .i64 p∧qv = .int .i64 q∧av = .int .i64 A∧bv = .int .i64 B∧cv = .int .i64 C∧dv = .int .i64 D∧Leh (a:Int) (b:Int) M p0 q0 al be p q A B C D ∧
  -1000000000 < A∧A < 1000000000∧-1000000000 < B∧B < 1000000000∧-1000000000 < C∧C < 1000000000∧-1000000000 < D∧D < 1000000000∧w=wr) (fun _ qv _ _ cv dv _=>(intOf cv*a+intOf dv*b).toNat)
 case atStart=>exact⟨_,_,_,_,_,_,rfl,rfl,rfl,rfl,rfl,rfl,HST.out,byOmega,byOmega,byOmega,byOmega,byOmega,byOmega,byOmega,byOmega,rfl⟩
 case round =>
  clear HST;obtain⟨p,q,A,B,C,D,rfl,rfl,rfl,rfl,rfl,rfl,jH,a1,a2,b1,b2,c1,c2,d1,d2,rfl⟩:=hrel;have HLE:=Ag jH;have pA:=jH.pA;have pB:=jH.pB;have qC:=jH.qC;have qD:=jH.qD;have pA1:=jH.pA1;have pB1:=jH.pB1;have qC1:=jH.qC1;have qD1:=jH.qD1;have pn:=jH.adx;have qn:=jH.zW;clear jH;by_cases hC:q+C=0
  ·have t1:(q+C != 0)=false:=by simp[hC]
   clear hC;exact Yr
  ·have t1:(q+C != 0)=true:=by simp[hC]
   have hC':0 < q+C:=byOmega;by_cases hD:q+D=0
   ·have t2:(q+D != 0)=false:=by simp[hD]
    have HC:=Ag hC;clear hC hD;exact Yr
   ·have t2:(q+D != 0)=true:=by simp[hD]
    have hD':0 < q+D:=byOmega;obtain⟨k,hk⟩:∃ k,(p+A) / (q+C)=k:=⟨_,rfl⟩;obtain⟨k2,hk2⟩:∃ k,(p+B) / (q+D)=k:=⟨_,rfl⟩;have kn:0≤k:=by rw[← hk];exact Int.ediv_nonneg pA qC
    have k2n:0≤k2:=by rw[← hk2];exact Int.ediv_nonneg pB qD
    have kle:k≤p+A:=by rw[← hk];exact Int.ediv_le_self _ pA
    have k2le:k2≤p+B:=by rw[← hk2];exact Int.ediv_le_self _ pB
    have HC:=Ag hC;have HD:=Ag hD;clear hC hD;by_cases hkk:k=k2
    ·subst hkk;have t3:(k != k)=false:=aB;obtain⟨_,kb,kq1,kq2,kc1,kc2,kd1,kd2⟩:=HLE.out.bounds HC.out HD.out hk.symm hk2.symm;have HST:=Ag (HLE.out.step HC.out HD.out hk.symm hk2.symm);obtain⟨kc,hkc⟩:∃ kc,k*C=kc:=⟨_,rfl⟩;obtain⟨kd,hkd⟩:∃ kd,k*D=kd:=⟨_,rfl⟩;obtain⟨kq,hkq⟩:∃ kq,k*q=kq:=⟨_,rfl⟩;rw[hkc] at kc1 kc2 HST;rw[hkd] at kd1 kd2 HST;rw[hkq] at kq1 kq2 HST;have hm4:=adQ;by_cases hmx:1000000000≤abb (A - kc) (-(A - kc)) (B - kd) (-(B - kd))
     ·have t5:decide (1000000000≤abb (A - kc) (-(A - kc)) (B - kd) (-(B - kd)))=true:=decide_eq_true hmx;clear hmx;exact Yr
     ·refine zaL ?_;clear hmx;intro t5 n1 n2 n3 n4;go_wp2
      go_roundw
      case rel=>exact⟨q,p - kq,C,D,A - kc,B - kd,rfl,rfl,rfl,rfl,rfl,rfl,HST.out.1,byOmega,byOmega,byOmega,byOmega,byOmega,byOmega,byOmega,byOmega,by first | rfl | trivial⟩
      case measure =>
       have h1:=HST.out.2;have h2:=HST.out.1.y0;simp only[intOf];omega
    ·have t3:(k != k2)=true:=by simp[hkk]
     clear hkk;exact Yr
theorem ajL {f:FuncId} {fn:Func} (hf:Tryz.prog.funcs[f]? = some fn) (hn:(fn.name == "runtime.NumGoroutine")=false) (hb:fn.body.isNone=false) (args:Array Value) (w:World):(callFunc f args).run Tryz.prog w = .ok (.enter f args) w:=by
 have h1:fn.name ≠ "runtime.NumGoroutine" := by simpa using hn
 obtain⟨b,hb⟩:∃ b,fn.body=some b:=by cases h:fn.body <;> simp_all
 simp[callFunc,hf,h1,hb,Sem.run]
theorem air (w:World) (F:Foot) (v:Value) (l:List Nat) (i p:Nat) (hv:Aj w F v l) (hp:w.cell? ⟨p,0,none⟩=some v) (hlim:Limbs l) (hl:l.length≤1000000) :
  Calls Tryz.prog 206 #[.int .i64 (i:Int),.pointer (some ⟨p,0,none⟩)] w fun e w'=>e = .returned (.int .u64 ((l.getD i 0:Nat):Int))∧w'=w:=by
 obtain⟨A,c,rfl,hc,hN⟩:=hv;by_cases hlt:i < l.length
 ·obtain⟨b,o,rfl,_,hb,hx⟩:=hN byOmega;obtain⟨x,hx'⟩:=getSome hlt;have ex:=hx i x hx';unfold dB at ex;rw[Nat.mul_one] at ex;have hxl:x < 1000000000:=hlim.get hx';rw[aN hx'];clear hx hx' hN;exact zat
 ·have hdd:decide (i < l.length)=false:=decide_eq_false hlt;rw[eF byOmega];clear hN;exact zat
theorem afn {x y z jf P Q R:Nat} (hx:x < 1000000000) (hy:y < 1000000000) (hz:z < 1000000000) (hP:((x:Int)*1000000000+(y:Int))*(jf:Int)=(P:Int)) (hQ:(z:Int)*(jf:Int)=(Q:Int)) (hPl:P < 1000000000000000000) (hQl:Q≤1000000000000000000) (hR:P+Q / 1000000000=R) (hRl:R < 1000000000000000000) :
  wrap64 (IntKind.u64.wrap (IntKind.u64.wrap (IntKind.u64.wrap (IntKind.u64.wrap ((x:Int)*1000000000)+(y:Int))*(jf:Int))+IntKind.u64.wrap ((IntKind.u64.wrap ((z:Int)*(jf:Int))).tdiv 1000000000)))=(R:Int):=by
 rw[IntWalk.u64_in ((x:Int)*1000000000) byOmega,IntWalk.u64_in ((x:Int)*1000000000+(y:Int)) byOmega,hP,hQ,IntWalk.u64_in (P:Int) byOmega,IntWalk.u64_in (Q:Int) byOmega,IntWalk.u64_quo _ _ byOmega,IntWalk.u64_in _ byOmega];unfold wrap64;omega
theorem abK (w:World) (F:Foot) (v:Value) (l:List Nat) (n jf T b1 b2:Nat) (hv:Aj w F v l) (hlim:Limbs l) (hl:l.length≤n) (hn3:3≤n) (hn:n≤100000) (hT:jf*T=LB) (h1:w.cell? ⟨b1,0,none⟩=some (.int .i64 (n:Int))) (h2:w.cell? ⟨b2,0,none⟩=some (.int .u64 (jf:Int))) (hlt:aH l / (LB ^ (n - 3)*T) < 1000000000000000000) :
  Calls Tryz.prog 205 #[v,.pointer (some ⟨b1,0,none⟩),.pointer (some ⟨b2,0,none⟩)] w (Ret w fun u _=>u = .int .i64 ((aH l / (LB ^ (n - 3)*T):Nat):Int)):=by
 refine zbo ?_;intro n1 hn1;obtain⟨n2,hn2⟩:∃ n2,n2+2=n:=⟨n - 2,byOmega⟩;obtain⟨n3,hn3'⟩:∃ n3,n3+3=n:=⟨n - 3,byOmega⟩;have i1:(n:Int) - 1=(n1:Int):=byOmega;have i2:(n:Int) - 2=(n2:Int):=byOmega;have i3:(n:Int) - 3=(n3:Int):=byOmega;have hle:=ajA hl hn3 hT hlim;obtain⟨R,hR⟩:=named (aH l / (LB ^ (n - 3)*T));rw[← hR] at hle hlt ⊢;rw[show n - 1=n1 by omega,show n - 2=n2 by omega,show n - 3=n3 by omega] at hle;have hx:=hlim.getD n1;have hy:=hlim.getD n2;have hz:=hlim.getD n3;obtain⟨x,ex⟩:=named (l.getD n1 0);obtain⟨y,ey⟩:=named (l.getD n2 0);obtain⟨z,ez⟩:=named (l.getD n3 0);rw[← ex,← ey,← ez] at hle;rw[← ex] at hx;rw[← ey] at hy;rw[← ez] at hz;have htl:jf≤1000000000:=by
  rcases Nat.eq_zero_or_pos T with h | h
  ·subst h;simp at hT
  ·have:jf*1≤jf*T:=Nat.mul_le_mul_left _ h;rw[hT] at this;unfold LB at this;omega
 obtain⟨P,hP⟩:=named ((x*LB+y)*jf);obtain⟨Q,hQ⟩:=named (z*jf);rw[← hP,← hQ] at hle;have hQl:Q≤1000000000000000000:=by
  rw[hQ];have:=Nat.mul_le_mul (show z≤999999999 by unfold LB at hz; omega) htl;omega
 have hPI:((x:Int)*1000000000+(y:Int))*(jf:Int)=(P:Int):=by rw[hP];simp
 have hQI:(z:Int)*(jf:Int)=(Q:Int):=by rw[hQ];simp
 have hle2:P+Q / 1000000000=R:=hle;have hxl:x < 1000000000:=hx;have hyl:y < 1000000000:=hy;have hzl:z < 1000000000:=hz;have hPl:P < 1000000000000000000:=byOmega;have HLE:=Ag hle2;have HEX:=Ag (And.intro ex (And.intro ey ez));have HV:=Ag hv;have HLM:=Ag hlim;have hl2:l.length≤1000000:=byOmega;refine ZV ?_;intro hmf;have hb1:b1 < w.heap.size:=World.block_lt_of_cell? w _ h1;have hb2:b2 < w.heap.size:=World.block_lt_of_cell? w _ h2;obtain⟨A,c,rfl,hc,_⟩:=hv;clear hle hle2 ex ey ez hP hQ hlim hT hR hn1 hn2 hn3' hx hy hz;go_in;go_wp2
 obtain⟨W,hW⟩:∃ W:World,W=w.alloc (.cells #[.slice A l.length c] 40):=⟨_,rfl⟩;have cW:W.cell? ⟨w.heap.size,0,none⟩=some (.slice A l.length c):=by rw[hW];simp
 have hBW:Below w.heap.size w W:=by rw[hW];exact(Below.refl _ w).alloc (Nat.le_refl _) _
 have c1:W.cell? ⟨b1,0,none⟩=some (.int .i64 (n:Int)):=(aQ hBW b1 0 hb1).trans h1;have c2:W.cell? ⟨b2,0,none⟩=some (.int .u64 (jf:Int)):=(aQ hBW b2 0 hb2).trans h2;have hvW:Aj W F (.slice A l.length c) l:=by rw[hW];exact HV.out.on (Same.alloc _ _ _)
 have HVW:=Ag hvW;rw[← hW];clear hW hvW h1 h2;have hent:=ajL Tryz.func206 (by decide +kernel) (by decide +kernel);go_quiet ((go_at_call 206; refine Calls.quiet_of_same ((air _ F (.slice A l.length c) l _ w.heap.size (HVW.out.on (Same.drewN _ _ _)) cW HLM.out hl2))))
 go_wp2
 go_ret;refine⟨_,rfl,aI hBW _,?_⟩;have h:=afn hxl hyl hzl hPI hQI hPl hQl HLE.out hlt;rw[HEX.out.1,HEX.out.2.1,HEX.out.2.2] at h;simp only[List.getD_eq_getElem?_getD] at h;exact congrArg (Value.int .i64) h
theorem Ak.open {w:World} {F:Foot} {v:Value} {r:Raw} (h:Ak w F v r):∃ A c B d,v = .agg #[.bool r.neg,.slice A r.num.length c,.slice B r.den.length d]∧Aj w F (.slice A r.num.length c) r.num∧Aj w F (.slice B r.den.length d) r.den:=by
 obtain⟨vn,vd,rfl,h1,h2⟩:=h;obtain⟨A,c,rfl,hc,hN⟩:=h1;obtain⟨B,d,rfl,hd,hM⟩:=h2;exact⟨A,c,B,d,rfl,⟨A,c,rfl,hc,hN⟩,⟨B,d,rfl,hd,hM⟩⟩
theorem lZ (x:Rat):(au x).num=dig x.num.natAbs:=rfl
theorem qR (x:Rat):(au x).neg=dF x:=rfl
theorem mY {x:Rat} (h:x.den=1):(au x).den = []:=by unfold au; simp[h]
theorem oK {x:Rat} (h:x.den≠1):(au x).den=dig x.den:=by unfold au; simp[h]
theorem aaw {x:Rat} (h:x=0):(((dig x.num.natAbs).length:Int)==0)=true:=by subst h; simp[bD]
theorem aax {x:Rat} (h:x≠0):(((dig x.num.natAbs).length:Int)==0)=false:=by
 have:x.num.natAbs≠0:=fun e=>h ((nM x).1 e)
 have:=bG.2 this;exact beq_false_of_ne byOmega
theorem ig (w:World) (F:Foot) (v:Value) (x:Rat) (hv:NmV w F v x) :
  Calls Tryz.prog 85 #[v] w (Ret w fun u _=>u = .bool (decide (x=0))):=by
 obtain⟨A,c,B,d,rfl,hn,hd⟩:=hv.open;clear hn hd hv;rw[qR,lZ];generalize (au x).den.length=dl;by_cases h:x=0
 ·exact zcr
 ·exact zcp
theorem abL (w:World) (F:Foot) (v:Value) (x:Rat) (hv:NmV w F v x) :
  Calls Tryz.prog 119 #[v] w (Ret w fun u _=>u = .int .i64 (lU x)):=by
 obtain⟨A,c,B,d,rfl,hn,hd⟩:=hv.open;clear hn hd hv;rw[qR,lZ];generalize (au x).den.length=dl;by_cases h:x=0
 ·have h0:=aaw h;have HD:=Ag (show lU x=0 by subst h; rfl);clear h;exact ZN
 ·have h0:=aax h;have hz:¬ x.num.natAbs=0:=fun e=>h ((nM x).1 e)
  have HD:=Ag (show lU x=if dF x then -1 else 1 by unfold lU; rw[if_neg hz]);clear h hz;cases hb:dF x
  ·rw[hb] at HD;exact ZN
  ·rw[hb] at HD;exact ZN
theorem acE (w:World) (k:Nat) (hk:k=1):Ah (w.alloc (.cells #[.int .u32 1] 103)) (fun b=>w.heap.size≤b) (.slice (some ⟨w.heap.size,0,none⟩) 1 1) k:=by
 subst hk;unfold Ah;rw[iZ];have h:=Row.new w 103 #[.int .u32 1];have h2:=Row.limbs (l:=[1]) (by simpa [aT] using h) (F:=fun b=>w.heap.size≤b) (Nat.le_refl _) (n:=1) (c:=1) aB (Nat.le_refl _);simpa using h2
theorem kE (w:World) (F:Foot) (v:Value) (x:Rat) (hv:NmV w F v x) :
  Calls Tryz.prog 122 #[v] w (Ret w fun u w'=>Ah w' (Ext F w.heap.size) u x.den):=by
 obtain⟨A,c,B,d,rfl,hn,hd⟩:=hv.open;have HD:=Ag hd;clear hn hd hv;rw[qR,lZ];by_cases h:x.den=1
 ·rw[mY h];clear HD;have HX:=Ag h;clear h;go_in;go_wp2
  go_ret;refine⟨_,rfl,((Below.refl w.heap.size w).alloc (Nat.le_refl _) _).alloc aB _,?_⟩;have h:=acE (w.alloc (.cells #[.bool (dF x),.slice A (dig x.num.natAbs).length c,.slice B 0 d] 114)) x.den HX.out;simpa using h.mono (G:=Ext F w.heap.size) (fun b hb _=>.inr (by simp at hb; omega))
 ·rw[oK h] at HD ⊢;have h0:(((dig x.den).length:Int)==0)=false:=by
   have:=bG.2 x.den_nz;exact beq_false_of_ne byOmega
  clear h;go_in;go_wp2
  go_ret;refine⟨_,rfl,(Below.refl _ _).alloc (Nat.le_refl _) _,?_⟩;exact Ah.keep (n:=x.den) HD.out (fun b hb _=>.inl hb) (Same.alloc _ _ _)
theorem kM (w:World) (F:Foot) (va vb:Value) (a b:Nat) (ha:Ah w F va a) (hb:Ah w F vb b) (hb0:b≠0) (hla:(dig a).length≤100000) (hlb:(dig b).length≤100000) :
  Calls Tryz.prog 145 #[va,vb] w (Ret w fun v w'=>Ah w' (Ext F w.heap.size) v (a / b)):=by
 have HA:=Ag ha;have HB:=Ag hb;have HB0:=Ag hb0;clear ha hb hb0;go_in;go_wp2_with fail
 refine(jZ w F _ b HB.out byOmega).mono ?_;rintro e w' ⟨rfl,rfl⟩;by_cases h:b=1
 ·have hd:decide (b=1)=true:=decide_eq_true h;rw[hd];have H1:=Ag h;clear h hd;go_wp2
  go_ret;exact⟨_,rfl,Below.refl _ _,by rw[H1.out,Nat.div_one]; exact HA.out.mono fun b hb _=>.inl hb⟩
 ·have hd:decide (b=1)=false:=decide_eq_false h;rw[hd];clear h hd;go_wp2_with fail
  refine(yQ w F _ _ a b HA.out HB.out HB0.out hla hlb).mono ?_;rintro e w1 ⟨_,rfl,hb1,vq,vr,rfl,hq,hr⟩;have HQ:=Ag hq;clear hq hr;go_wp2
  go_ret;exact⟨_,rfl,hb1,HQ.out⟩
theorem bW {w:World} {b:Nat} {t:TypeId} {a0 a1 a2:Value} (h:Row w b t [a0,a1,a2]) (v0 v1 v2:Value):∃ W,W=(((w.setCell ⟨b,0,none⟩ v0).setCell ⟨b,1,none⟩ v1).setCell ⟨b,2,none⟩ v2) ∧
  Row W b t [v0,v1,v2]∧(∀ B a,B≤b→Below B a w→Below B a W)∧∀ F:Foot,¬ F b→Same F w W:=by
 refine⟨_,rfl,((h.set 0 v0).set 1 v1).set 2 v2,fun B a hb hbel=>?_,fun F hF=>?_⟩
 ·exact((hbel.setCell (p:=⟨b,0,none⟩) hb v0).setCell (p:=⟨b,1,none⟩) hb v1).setCell (p:=⟨b,2,none⟩) hb v2
 ·exact((Same.setCell F w (p:=⟨b,0,none⟩) hF v0).trans (Same.setCell F _ (p:=⟨b,1,none⟩) hF v1)).trans (Same.setCell F _ (p:=⟨b,2,none⟩) hF v2)
theorem ais {neg:Bool} {n d:Nat} (hd:d≠0) (hg:Nat.gcd n d=1) (hn:n≠0):au (mkRat (sgI neg n) d)=⟨neg,dig n,if d=1 then [] else dig d⟩:=by
 have h:=lT (neg:=neg) hd hg;unfold au;rw[h.1,h.2,jX _ hd,tX hn]
theorem agn (neg:Bool) (d:Nat):mkRat (sgI neg 0) d=0:=by rw[zX]; simp
theorem ou (w:World) (F:Foot) (neg:Bool) (vn vd:Value) (n d:Nat) (ld:List Nat) (hn:Ah w F vn n) (hd:Aj w F vd ld) (hld:ld=dig d∨(ld = []∧d=1)) (hd0:d≠0) (hg:Nat.gcd n d=1) (hl:ld.length≤1000000) :
  Calls Tryz.prog 126 #[.bool neg,vn,vd] w (Ret w fun v w'=>NmV w' F v (mkRat (sgI neg n) d)):=by
 have HN:=Ag hn;have HD:=Ag hd;obtain⟨A,c,rfl,hc,hN⟩:=hn;obtain⟨B,e,rfl,he,hM⟩:=hd;clear hN hM;have HL:=Ag hld;have HD0:=Ag hd0;have HG:=Ag hg;clear hld hd0 hg;by_cases h0:n=0
 ·have hl0:(((dig n).length:Int)==0)=true:=by rw[h0,bD];rfl
  have H0:=Ag h0;clear h0;go_in;go_wp2_with fail
  refine zbS ?_;intro W hW hr hWb hWz;clear hW hWz;have t0:=hr.cell (i:=0) rfl;have y0:=hr.frozen 0;have t1:=hr.cell (i:=1) rfl;have y1:=hr.frozen 1;have t2:=hr.cell (i:=2) rfl;have y2:=hr.frozen 2;go_wp2
  refine bodyPost_ret (v:=.agg #[.bool false,.slice none 0 0,.slice none 0 0]) (by simp[results,Tryz.results126,go_sem,t0,t1,t2]) rfl ?_;exact⟨_,rfl,hWb,by rw[H0.out,agn]; exact NmV.zero _ _ _ _ _ _⟩
 ·have hl0:(((dig n).length:Int)==0)=false:=by have:=bG.2 h0;exact beq_false_of_ne byOmega
  have H0:=Ag h0;clear h0;go_in;go_wp2_with fail
  refine zbS ?_;intro W hW hr hWb hWz;clear hW hWz;obtain⟨dd,hdd⟩:∃ dd,ld=dig dd∧decide (dd=1)=decide (ld≠[]∧d=1):=by
   rcases HL.out with h | ⟨h,h1⟩
   ·exact⟨d,h,by rw[h]; simp[lQ,HD0.out]⟩
   ·exact⟨0,by rw[h,bD],by rw[h]; simp⟩
  have hdn:Ah w F (.slice B ld.length e) dd:=by unfold Ah;rw[← hdd.1];exact HD.out
  have HDN:=Ag hdn;have HDD:=Ag hdd.2;have hll:(dig dd).length≤1000000:=by rw[← hdd.1];exact hl
  clear hdn hdd;go_wp2_with fail
  refine(jZ W F _ dd (HDN.out.below hWb) hll).mono ?_;rintro e' w' ⟨rfl,rfl⟩;by_cases h1:ld≠[]∧d=1
  ·have hb:decide (dd=1)=true:=by rw[HDD.out,decide_eq_true h1]
   rw[hb];have H1:=Ag h1.2;clear h1 hb;dsimp only;refine Zp ?_;intro q0 y0 q1 y1 q2 y2;go_wp2
   obtain⟨Wz,hWz,hrz,hwz,hkz⟩:=bW hr (.bool neg) (.slice A (dig n).length c) (.slice none 0 0);refine Zj ?_;clear hWz q0 q1 q2 y0 y1 y2;intro t0 t1 t2;refine bodyPost_ret (v:=.agg #[.bool neg,.slice A (dig n).length c,.slice none 0 0]) (by simp[results,Tryz.results126,go_sem,t0,t1,t2]) rfl ?_;exact⟨_,rfl,hwz _ _ (Nat.le_refl _) hWb,by unfold NmV; rw[ais HD0.out HG.out H0.out]; exact Ak.make rfl (Ah.keep HN.out (fun _ h _=>h) (Below.same' (hwz _ _ (Nat.le_refl _) hWb) F)) (by rw[if_pos H1.out]; exact iF _ _ _ _)⟩
  ·have hb:decide (dd=1)=false:=by rw[HDD.out,decide_eq_false h1]
   rw[hb];have H1:=Ag (show(if d=1 then [] else dig d)=ld by
    rcases HL.out with h | ⟨h,h2⟩
    ·by_cases hd:d=1
     ·exact absurd ⟨by rw[h,hd,iZ]; simp,hd⟩ h1
     ·rw[if_neg hd,h]
    ·rw[if_pos h2,h])
   clear h1 hb;dsimp only;refine Zp ?_;intro q0 y0 q1 y1 q2 y2;go_wp2
   obtain⟨Wz,hWz,hrz,hwz,hkz⟩:=bW hr (.bool neg) (.slice A (dig n).length c) (.slice B ld.length e);refine Zj ?_;clear hWz q0 q1 q2 y0 y1 y2;intro t0 t1 t2;refine bodyPost_ret (v:=.agg #[.bool neg,.slice A (dig n).length c,.slice B ld.length e]) (by simp[results,Tryz.results126,go_sem,t0,t1,t2]) rfl ?_;exact⟨_,rfl,hwz _ _ (Nat.le_refl _) hWb,by unfold NmV; rw[ais HD0.out HG.out H0.out]; exact Ak.make rfl (Ah.keep HN.out (fun _ h _=>h) (Below.same' (hwz _ _ (Nat.le_refl _) hWb) F)) (by rw[H1.out]; exact Aj.keep HD.out (fun _ h _=>h) (Below.same' (hwz _ _ (Nat.le_refl _) hWb) F))⟩
theorem ait (x:Rat):mkRat (sgI (dF x) x.num.natAbs) x.den=x:=rO x
theorem qF (w:World) (F:Foot) (v:Value) (x:Rat) (hv:RtV w F v x) (hl:rl x≤100000) :
  Calls Tryz.prog 76 #[v] w (Ret w fun u w'=>NmV w' F u x):=by
 have ln:=gJ x;have ld:=gK x;obtain⟨A,c,B,d,rfl,hn,hd⟩:=hv.open;have HN:=Ag hn;have HD:=Ag hd;clear hn hd hv;show Calls _ _ #[.agg #[.bool (dF x),.slice A (dig x.num.natAbs).length c,.slice B (dig x.den).length d]] _ _;obtain⟨neg,hneg⟩:=named (dF x);rw[← hneg];have HE:=Ag hneg;clear hneg;go_in;go_wp2_with fail
 obtain⟨W2,hW2,hb1,hr2,hB2,hz2⟩:=alloc2 w 42 #[.bool neg,.slice A (dig x.num.natAbs).length c,.slice B (dig x.den).length d] 114 #[.bool false,.slice none 0 0,.slice none 0 0];rw[← hW2];clear hW2;have x0:=hb1.cell (i:=0) rfl;have x1:=hb1.cell (i:=1) rfl;have x2:=hb1.cell (i:=2) rfl;go_wp2_with fail
 refine(ou W2 (Old F w.heap.size) neg _ _ x.num.natAbs x.den (dig x.den) (Ah.below (n:=x.num.natAbs) HN.out.old hB2) (Aj.on HD.out.old (Below.same' hB2 _)) (.inl rfl) x.den_nz (iH x) byOmega).mono ?_;rintro e w3 ⟨u,rfl,hb3,hu⟩;rw[HE.out,ait] at hu;have HU:=Ag hu;obtain⟨A',c',B',d',rfl,hn',hd'⟩:=hu.open;clear hn' hd' hu x0 x1 x2 hb1;have hr3:=hr2.below hb3 hr2.lt;have hB3:=hB2.trans (hb3.mono hB2.size);clear hb3 hr2 hB2 hz2;dsimp only;have q0:=hr3.cell (i:=0) rfl;have y0:=hr3.frozen 0;have q1:=hr3.cell (i:=1) rfl;have y1:=hr3.frozen 1;have q2:=hr3.cell (i:=2) rfl;have y2:=hr3.frozen 2;go_wp2
 obtain⟨Wz,hWz,hrz,hwz,hkz⟩:=bW hr3 (.bool (au x).neg) (.slice A' (au x).num.length c') (.slice B' (au x).den.length d');refine Zj ?_;clear hWz q0 q1 q2 y0 y1 y2;intro t0 t1 t2;refine bodyPost_ret (v:=.agg #[.bool (au x).neg,.slice A' (au x).num.length c',.slice B' (au x).den.length d']) (by simp[results,Tryz.results76,go_sem,t0,t1,t2]) rfl ?_;exact zbT
theorem ag4 (na:Bool) (a b:Nat):sgI na a+sgI na b=sgI na (a+b):=by unfold sgI; cases na <;> simp <;> omega
theorem ajM {na nb:Bool} {a b:Nat} (h:na≠nb) (hab:b≤a):sgI na a+sgI nb b=sgI na (a - b):=by
 unfold sgI;cases na <;> cases nb <;> simp at h ⊢ <;> omega
theorem ajN {na nb:Bool} {a b:Nat} (h:na≠nb) (hab:a < b):sgI na a+sgI nb b=sgI nb (b - a):=by
 unfold sgI;cases na <;> cases nb <;> simp at h ⊢ <;> omega
theorem yR (w:World) (F:Foot) (na nb:Bool) (va vb:Value) (a b:Nat) (ha:Ah w F va a) (hb:Ah w F vb b) (hla:(dig a).length≤100000) (hlb:(dig b).length≤100000) :
  Calls Tryz.prog 143 #[.bool na,va,.bool nb,vb] w (Ret w fun v w'=>∃ neg t,v = .tuple #[.bool neg,t]∧Ah w' (fun b=>w.heap.size≤b) t (sgI na a+sgI nb b).natAbs∧sgI na a+sgI nb b=sgI neg (sgI na a+sgI nb b).natAbs):=by
 have HA:=Ag ha;have HB:=Ag hb;clear ha hb;by_cases hs:na=nb
 ·subst hs;have HS:=Ag (ag4 na a b);have hbb:(na==na)=true:=aB;go_in;go_wp2_with fail
  refine(agU _ F _ _ a b HA.out HB.out hla hlb).mono ?_;rintro e w1 ⟨v,rfl,hb1,hv⟩;have HV:=Ag hv;clear hv;go_wp2
  go_ret2;exact⟨_,rfl,hb1,_,_,rfl,by rw[HS.out,nK]; exact HV.out,by rw[HS.out,nK]⟩
 ·have hbb:(na==nb)=false:=by simp[hs]
  have HN:=Ag hs;clear hs;by_cases hab:b≤a
  ·have HS:=Ag (ajM HN.out hab);have HAB:=Ag hab;have hord:decide (0≤bZ a b)=true:=by
    refine decide_eq_true ?_;unfold bZ;split <;> (try split) <;> omega
   clear hab;go_in;go_wp2_with fail
   refine(jd _ F _ _ a b HA.out HB.out byOmega byOmega).mono ?_;rintro e w' ⟨rfl,z0,rfl⟩;have hod:0≤bZ a b:=of_decide_eq_true hord;generalize bZ a b=od at *;go_wp2_with fail
   refine(aan _ F _ _ a b (HA.out.on (Same.drewN _ _ _)) (HB.out.on (Same.drewN _ _ _)) HAB.out hla).mono ?_;rintro e w1 ⟨v,rfl,hb1,hv⟩;have HV:=Ag hv;clear hv;go_wp2
   go_ret2;exact zbO
  ·have HS:=Ag (ajN HN.out (by omega:a < b));have HAB:=Ag (show a≤b by omega);have hod:bZ a b < 0:=by unfold bZ;rw[if_pos byOmega];decide
   have hord:decide (0≤bZ a b)=false:=decide_eq_false byOmega;clear hab;go_in;go_wp2_with fail
   refine(jd _ F _ _ a b HA.out HB.out byOmega byOmega).mono ?_;rintro e w' ⟨rfl,z0,rfl⟩;generalize bZ a b=od at *;go_wp2_with fail
   refine(aan _ F _ _ b a (HB.out.on (Same.drewN _ _ _)) (HA.out.on (Same.drewN _ _ _)) HAB.out hlb).mono ?_;rintro e w1 ⟨v,rfl,hb1,hv⟩;have HV:=Ag hv;clear hv;go_wp2
   go_ret2;exact zbO
theorem ag5 (n:Int):(n:Rat).num.natAbs=n.natAbs∧(n:Rat).den=1∧dF (n:Rat)=decide (n < 0):=by
 refine⟨by rw[Rat.num_intCast],Rat.den_intCast _,?_⟩;unfold dF;rw[Rat.num_intCast]
theorem aay (n:Int):au (n:Rat)=⟨decide (n < 0),dig n.natAbs,[]⟩:=by
 have h:=ag5 n;unfold au;rw[h.1,h.2.1,h.2.2,if_pos rfl]
theorem mZ (w:World) (n:Int) (h1:-1000000000000≤n) (h2:n≤1000000000000) :
  Calls Tryz.prog 78 #[.int .i64 n] w (Ret w fun v w'=>NmV w' (fun b=>w.heap.size≤b) v (n:Rat)):=by
 by_cases hn:n < 0
 ·have dn:decide (n < 0)=true:=decide_eq_true hn;obtain⟨m,hm⟩:∃ m:Nat,m=n.natAbs:=⟨_,rfl⟩;have hmn:n = -(m:Int):=byOmega;have hmb:m < 18446744073709551616:=byOmega;have hm1:1≤m:=byOmega;have hmt:m≤1000000000000:=byOmega;have HW:=Ag (show au (-((m:Int):Rat))=⟨true,dig m,[]⟩ by rw[← Rat.intCast_neg,← hmn,aay,dn,hm]);have hc:((-(n+1):Int))+1=(m:Int):=byOmega;clear hm;subst hmn;go_in;go_wp2_with fail
  refine zbS ?_;intro W hW hr hWb hWz;clear hW;refine(qQ W m hmb).mono ?_;rintro e wn ⟨v,rfl,hb,hv⟩;have hz1:w.heap.size < W.heap.size:=hr.lt;replace hr:=hr.below hb hr.lt;have hB:=hWb.trans (hb.mono hWb.size);have HV:=Ag hv;obtain⟨A,c,rfl,hc,hN⟩:=hv;clear hN hb hWb;dsimp only;refine Zp ?_;intro q0 y0 q1 y1 q2 y2;go_wp2
  obtain⟨Wz,hWz,hrz,hwz,hkz⟩:=bW hr (.bool true) (.slice A (dig m).length c) (.slice none 0 0);refine Zj ?_;clear hWz q0 q1 q2 y0 y1 y2;intro t0 t1 t2;refine bodyPost_ret (v:=.agg #[.bool true,.slice A (dig m).length c,.slice none 0 0]) (by simp[results,Tryz.results78,go_sem,t0,t1,t2]) rfl ?_;exact zaC
 ·have dn:decide (n < 0)=false:=decide_eq_false hn;obtain⟨m,hm⟩:∃ m:Nat,m=n.natAbs:=⟨_,rfl⟩;have hmn:n=(m:Int):=byOmega;have hmb:m < 18446744073709551616:=byOmega;have hmt:m≤1000000000000:=byOmega;have HW:=Ag (show au (n:Rat)=⟨false,dig m,[]⟩ by rw[aay,dn,hm]);clear hm hn;subst hmn;go_in;go_wp2_with fail
  refine zbS ?_;intro W hW hr hWb hWz;clear hW;refine(qQ W m hmb).mono ?_;rintro e wn ⟨v,rfl,hb,hv⟩;have hz1:w.heap.size < W.heap.size:=hr.lt;replace hr:=hr.below hb hr.lt;have hB:=hWb.trans (hb.mono hWb.size);have HV:=Ag hv;obtain⟨A,c,rfl,hc,hN⟩:=hv;clear hN hb hWb;dsimp only;refine Zp ?_;intro q0 y0 q1 y1 q2 y2;go_wp2
  obtain⟨Wz,hWz,hrz,hwz,hkz⟩:=bW hr (.bool false) (.slice A (dig m).length c) (.slice none 0 0);refine Zj ?_;clear hWz q0 q1 q2 y0 y1 y2;intro t0 t1 t2;refine bodyPost_ret (v:=.agg #[.bool false,.slice A (dig m).length c,.slice none 0 0]) (by simp[results,Tryz.results78,go_sem,t0,t1,t2]) rfl ?_;exact zaC
end Go.Proofs.YtnmeejofpkhlkaaGreatDoor

/- The greatest common divisor: long.One, long.Gcd, long.Coprime. -/
import Derived.Test.YthmklhapjegfdaaGreatDoorK19
import Derived.Test.YthmklhapjegfdaaGreatDoorK16
set_option linter.all false
set_option maxRecDepth 100000
set_option maxHeartbeats 12800000
namespace Go.Proofs.YthmklhapjegfdaaGreatDoor
open Lib renaming hid → Ac
open Go.RowKit
theorem acU (w:World):Ah (w.alloc (.cells #[.int .u32 1] 166)) (fun b=>w.heap.size≤b) (.slice (some ⟨w.heap.size,0,none⟩) 1 1) 1:=aeU w 1 rfl
theorem acV (w:World):Calls Tryz.prog 217 #[] w (Ret w fun v w'=>Ah w' (fun b=>w.heap.size≤b) v 1):=by
 go_enter Tryz.func217,Tryz.ntmps217;go_wp2
 go_ret;exact⟨_,rfl,(Below.refl _ _).alloc (Nat.le_refl _) _,acU w⟩
theorem Leh.nat {a b M p0 q0 al be p q A B C D:Int} {a' b':Nat} (h:Leh a b M p0 q0 al be p q A B C D) (ea:a=a') (eb:b=b'):∃ X Y:Nat,A*a'+B*b'=(X:Int)∧C*a'+D*b'=(Y:Int)∧Y≤X∧X≤a'∧(B=0∨Y < b')∧Nat.gcd X Y=Nat.gcd a' b':=by
 subst ea eb;obtain⟨X,hX⟩:∃ X:Nat,A*a'+B*b'=(X:Int):=⟨(A*a'+B*b').toNat,by have:=h.y0; have:=h.yx; omega⟩;obtain⟨Y,hY⟩:∃ Y:Nat,C*a'+D*b'=(Y:Int):=⟨(C*a'+D*b').toNat,by have:=h.y0; omega⟩;refine⟨X,Y,hX,hY,by have:=h.yx; omega,by have:=h.xa; omega,by have:=h.prog; omega,?_⟩;have:=h.gcd;rw[hX,hY] at this;simpa using this
theorem ad3 (w:World) (F:Ag) (va vb:Value) (a b:Nat) (ha:Ah w F va a) (hb:Ah w F vb b) (hla:(dig a).length≤2) (hlb:(dig b).length≤2) (hT:BF w) :
  Calls Tryz.prog 194 #[va,vb] w (Ret w fun v w'=>Ah w' (fun b=>w.heap.size≤b) v (Nat.gcd a b)):=by
 have HA:=Ac ha; have HB:=Ac hb;obtain⟨A,c,rfl,hc,hN⟩:=ha;obtain⟨B,d,rfl,hd,hM⟩:=hb;clear hN hM;have ha18:=rM hla; have hb18:=rM hlb;have d1:decide (((dig a).length:Int)≤2)=true:=decide_eq_true (by omega);have d2:decide (((dig b).length:Int)≤2)=true:=decide_eq_true (by omega);obtain⟨g,hg⟩:∃ g,g=Nat.gcd a b:=⟨_,rfl⟩;have hgl:g < 18446744073709551616:=by
  rcases Nat.eq_zero_or_pos a with h | h
  ·rw[hg,h,Nat.gcd_zero_left]; omega
  ·have:=Nat.gcd_le_left b h; omega
 have HG:=Ac hg;rw[← hg];clear hg;go_enter Tryz.func194,Tryz.ntmps194;go_wp2_with fail
 refine(mg w F _ a HA.out hla).mono ?_;rintro e w' ⟨rfl,rfl⟩;go_wp2_with fail
 refine(mg w F _ b HB.out hlb).mono ?_;rintro e w' ⟨rfl,rfl⟩;go_wp2_with fail
 refine(uh w a b ha18 hb18 hT).mono ?_;rintro e w1 ⟨_,rfl,hb1,rfl⟩;rw[← HG.out];dsimp only;go_wp2_with fail
 refine(abp w1 g hgl).mono ?_;rintro e w2 ⟨v,rfl,hb2,hv⟩;have HV:=Ac hv; clear hv;have hz:=hb1.size;go_wp2
 go_ret;exact⟨_,rfl,hb1.trans (hb2.mono hz),HV.out.mono fun b hb _=>by omega⟩
theorem agZ (w:World) (F:Ag) (va vb:Value) (a b:Nat) (ha:Ah w F va a) (hb:Ah w F vb b) (hla:(dig a).length≤100000) (hlb:(dig b).length≤100000) (hbig:¬ ((dig a).length≤2∧(dig b).length≤2)) (h1:a=1∨b=1) :
  Calls Tryz.prog 194 #[va,vb] w (Ret w fun v w'=>Ah w' (fun b=>w.heap.size≤b) v (Nat.gcd a b)):=by
 have HA:=Ac ha; have HB:=Ac hb;obtain⟨A,c,rfl,hc,hN⟩:=ha;obtain⟨B,d,rfl,hd,hM⟩:=hb;clear hN hM;have HG:=Ac (show Nat.gcd a b=1 by rcases h1 with h | h <;> simp[h]);rw[HG.out];have hl1:(dig 1).length=1:=by rw[ig]; rfl
 by_cases ha1:a=1
 ·have d1:decide (((dig a).length:Int)≤2)=true:=decide_eq_true (by rw[ha1]; omega);have d2:decide (((dig b).length:Int)≤2)=false:=decide_eq_false (by rw[ha1,hl1] at hbig; omega);have e1:decide (a=1)=true:=decide_eq_true ha1;clear hbig h1 ha1;go_enter Tryz.func194,Tryz.ntmps194;go_wp2_with fail
  refine(kV w F _ a HA.out (by omega)).mono ?_;rintro e w' ⟨rfl,rfl⟩;rw[e1];dsimp only;go_wp2_with fail
  refine(acV w).mono ?_;rintro e w1 ⟨v,rfl,hb1,hv⟩;have HV:=Ac hv; clear hv;go_wp2
  go_ret;exact⟨_,rfl,hb1,HV.out⟩
 ·have hb1:b=1:=h1.resolve_left ha1;have d1:decide (((dig a).length:Int)≤2)=false:=decide_eq_false (by rw[hb1,hl1] at hbig; omega);have e1:decide (a=1)=false:=decide_eq_false ha1;have e2:decide (b=1)=true:=decide_eq_true hb1;clear hbig h1 ha1 hb1;go_enter Tryz.func194,Tryz.ntmps194;go_wp2_with fail
  refine(kV w F _ a HA.out (by omega)).mono ?_;rintro e w' ⟨rfl,rfl⟩;rw[e1];dsimp only;go_wp2_with fail
  refine(kV w F _ b HB.out (by omega)).mono ?_;rintro e w' ⟨rfl,rfl⟩;rw[e2];dsimp only;go_wp2_with fail
  refine(acV w).mono ?_;rintro e w1 ⟨v,rfl,hb1,hv⟩;have HV:=Ac hv; clear hv;go_wp2
  go_ret;exact⟨_,rfl,hb1,HV.out⟩
theorem ag0 (w:World) (F:Ag) (va vb:Value) (a0 b0:Nat) (ha:Ah w F va a0) (hb:Ah w F vb b0) (hla:(dig a0).length≤100000) (hlb:(dig b0).length≤100000) (hbig:¬ ((dig a0).length≤2∧(dig b0).length≤2)) (ha1:a0≠1) (hb1:b0≠1) (hT:BF w) :
  Calls Tryz.prog 194 #[va,vb] w (Ret w fun v w'=>Ah w' (fun b=>w.heap.size≤b) v (Nat.gcd a0 b0)):=by
 have HA:=Ac ha; have HB:=Ac hb;obtain⟨A,c,rfl,hc,hN⟩:=ha;obtain⟨B,d,rfl,hd,hM⟩:=hb;clear hN hM;obtain⟨G,hG⟩:∃ G,G=Nat.gcd a0 b0:=⟨_,rfl⟩;rw[← hG];have HG:=Ac hG; clear hG;have e1:decide (a0=1)=false:=decide_eq_false ha1;have e2:decide (b0=1)=false:=decide_eq_false hb1;have hd12:(decide (((dig a0).length:Int)≤2)=false)∨(decide (((dig a0).length:Int)≤2)=true∧decide (((dig b0).length:Int)≤2)=false):=by
  by_cases h:(dig a0).length≤2
  ·exact .inr ⟨decide_eq_true (by omega),decide_eq_false (by omega)⟩
  ·exact .inl (decide_eq_false (by omega))
 have HB3:=Ac hbig;clear ha1 hb1 hbig;have hT0:=hT.lt;go_enter Tryz.func194,Tryz.ntmps194;rcases hd12 with d1 | ⟨d1,d2⟩
 all_goals
  go_wp2_with fail
  refine(kV w F _ a0 HA.out (by omega)).mono ?_;rintro e w' ⟨rfl,rfl⟩;rw[e1];dsimp only;go_wp2_with fail
  refine(kV w F _ b0 HB.out (by omega)).mono ?_;rintro e w' ⟨rfl,rfl⟩;rw[e2];dsimp only;clear d1 e1 e2;go_wp2_with fail
  refine(uQ w F _ _ a0 b0 HA.out HB.out (by omega) (by omega)).mono ?_;rintro e w' ⟨rfl,z0,rfl⟩;go_upto_if 37 with fail
  go_cut [0,1] from 34 to 39 (fun va vb wx=>∃ a b,wx=w.drewN z0∧Ah wx (Ext F w.heap.size) va a∧Ah wx (Ext F w.heap.size) vb b∧b≤a∧G=Nat.gcd a b∧(dig a).length≤100000)
  case first =>
   by_cases h:a0 < b0
   ·have hord:decide (bM a0 b0 < 0)=true:=by rw[fJ h]; rfl
    have hod:bM a0 b0 < 0:=by rw[fJ h]; decide
    generalize bM a0 b0=od at *;go_wp2_with fail
    go_meet
    exact⟨b0,a0,rfl,HB.out.ext (aF (Below.refl _ w) z0),HA.out.ext (aF (Below.refl _ w) z0),by omega,by rw[HG.out,Nat.gcd_comm],hlb⟩
   ·have hord:decide (bM a0 b0 < 0)=false:=by
     refine decide_eq_false ?_;unfold bM; split <;> (try split) <;> omega
    have hod:0≤bM a0 b0:=by have:=of_decide_eq_false hord; omega
    generalize bM a0 b0=od at *;go_wp2_with fail
    go_meet
    exact⟨a0,b0,rfl,HA.out.ext (aF (Below.refl _ w) z0),HB.out.ext (aF (Below.refl _ w) z0),by omega,HG.out,hla⟩
  case rest =>
  obtain⟨a,b,rfl,hna,hnb,hba,uV,hlen⟩:=hcut;have HS:=Ac (And.intro hna (And.intro hnb uV));clear HA HB hna hnb uV hla hlb HG;go_wp2
  go_loopg [0,1] b (fun f va vb wr=>∃ a b,b=f∧Ah wr (Ext F w.heap.size) va a∧Ah wr (Ext F w.heap.size) vb b∧b≤a∧G=Nat.gcd a b∧(dig a).length≤100000∧Below w.heap.size w wr)
  case atStart=>exact⟨a,b,rfl,HS.out.1,HS.out.2.1,hba,HS.out.2.2,hlen,aF (Below.refl _ w) z0⟩
  case round =>
   clear HS hba hlen;obtain⟨a,b,rfl,hna,hnb,hba,uV,hlen,hbel⟩:=hrel;have HNA:=Ac hna; have HNB:=Ac hnb; have HGC:=Ac uV;obtain⟨A',c',rfl,hc',_⟩:=hna;obtain⟨B',d',rfl,hd',_⟩:=hnb;have hlb:(dig b).length≤(dig a).length:=aQ hba;have hz:=hbel.size;have HTW:=Ac (hT.below hT0 hbel);clear uV;by_cases h2:2 < (dig b).length
   ·have d2':decide ((2:Int) < ((dig b).length:Int))=true:=decide_eq_true (by omega);have hbp:0 < b:=by
     rcases Nat.eq_zero_or_pos b with h | h
     ·rw[h,aY] at h2; simp at h2
     ·exact h
    go_wp2_with fail
    refine(lead_any wr (Ext F w.heap.size) _ _ a b HNA.out HNB.out hba (by omega) hlen).mono ?_;rintro e w1 ⟨_,rfl,hb1,M,p,q,rfl,hM,hp,hq,hp18⟩;have hpq:q≤p:=by rw[hp,hq]; exact Nat.div_le_div_right hba
    have hst:=Leh.start (a:=(a:Int)) (b:=(b:Int)) (M:=(M:Int)) (p0:=(p:Int)) (q0:=(q:Int)) (al:=((a % M:Nat):Int)) (be:=((b % M:Nat):Int))
     (by rw[hp]; have:=Nat.div_add_mod' a M; exact_mod_cast this.symm) (by rw[hq]; have:=Nat.div_add_mod' b M; exact_mod_cast this.symm) (by omega) (by have:=Nat.mod_lt a hM; omega) (by omega) (by have:=Nat.mod_lt b hM; omega) (by omega) (by omega) (by omega) (by omega)
    have HST:=Ac hst;clear hst hp hq hpq;have hz1:=hb1.size;have hB1:=hbel.trans (hb1.mono hz);dsimp only;go_wp2_with fail
    refine(adW w1 a b _ _ _ (p:Int) (q:Int) HST.out (by omega)).mono ?_;rintro e w' ⟨⟨p',q',xA,xB,xC,xD,rfl,iZ,a1,a2,b1,b2,c1,c2,d1,d2⟩,rfl⟩;obtain⟨X,Y,hX,hY,hyx,hxa,hyb,hg⟩:=iZ.nat rfl rfl;have HXY:=Ac (And.intro hX (And.intro hY hg));clear iZ HST hX hY hg;dsimp only;by_cases hB0:xB=0
    ·have tB:(xB==0)=true:=by rw[hB0]; rfl
     clear hB0 hyb;go_wp2_with fail
     refine(acJ w1 (Ext F w.heap.size) _ _ a b (HNA.out.below hb1) (HNB.out.below hb1) (by omega) hlen (by omega)).mono ?_;rintro e w2 ⟨_,rfl,hb2,vq,vr,rfl,hq,hr⟩;have HR:=Ac hr;clear hq hr;have hml:a % b < b:=Nat.mod_lt _ hbp;go_wp2
     go_roundg (a % b)
     case measure=>exact hml
     case rel=>exact⟨b,a % b,rfl,(HNB.out.below hb1).below hb2,HR.out.mono (fun b hb _=>hb.elim id fun h=>.inr (by omega)),by omega,by rw[HGC.out,Nat.gcd_comm,Nat.gcd_rec,Nat.gcd_comm],by omega,hB1.trans (hb2.mono (by omega))⟩
    ·have tB:(xB==0)=false:=beq_false_of_ne hB0;have hYb:=hyb.resolve_left hB0;clear hB0 hyb;go_wp2_with fail
     refine(acK w1 (Ext F w.heap.size) _ _ a b xA xB X (HNA.out.below hb1) (HNB.out.below hb1) hlen hlb (by omega) (by omega) (by omega) (by omega) HXY.out.1 hxa).mono ?_;rintro e w2 ⟨vx,rfl,hb2,hvx⟩;have HVX:=Ac hvx; clear hvx;have hz2:=hb2.size;go_wp2_with fail
     refine(acK w2 (Ext F w.heap.size) _ _ a b xC xD Y ((HNA.out.below hb1).below hb2) ((HNB.out.below hb1).below hb2) hlen hlb (by omega) (by omega) (by omega) (by omega) HXY.out.2.1 (by omega)).mono ?_;rintro e w3 ⟨vy,rfl,hb3,hvy⟩;have HVY:=Ac hvy; clear hvy;have hXl:(dig X).length≤100000:=by have:=aQ hxa; omega
     go_wp2
     go_roundg Y
     case measure=>exact hYb
     case rel=>exact⟨X,Y,rfl,(HVX.out.below hb3).mono (fun b hb _=>.inr (by omega)),HVY.out.mono (fun b hb _=>.inr (by omega)),hyx,by rw[HGC.out]; exact HXY.out.2.2.symm,hXl,hB1.trans ((hb2.trans (hb3.mono hz2)).mono (by omega))⟩
   ·have d2':decide ((2:Int) < ((dig b).length:Int))=false:=decide_eq_false (by omega);by_cases hb0:b=0
    ·have e0:(((dig b).length:Int)==0)=true:=by rw[hb0,aY]; rfl
     have HF:=Ac (show G=a by rw[HGC.out,hb0,Nat.gcd_zero_right]);clear hb0;go_wp2_with fail
     refine(aaT wr (Ext F w.heap.size) _ a HNA.out (by omega)).mono ?_;rintro e w1 ⟨v,rfl,hb1,hv⟩;have HV:=Ac hv; clear hv;go_wp2
     go_ret;exact⟨_,rfl,hbel.trans (hb1.mono hz),by rw[HF.out]; exact HV.out.mono fun b hb _=>by omega⟩
    ·have e0:(((dig b).length:Int)==0)=false:=by have:=aX.2 hb0; exact beq_false_of_ne (by omega)
     go_wp2_with fail
     refine(acJ wr (Ext F w.heap.size) _ _ a b HNA.out HNB.out hb0 hlen (by omega)).mono ?_;rintro e w1 ⟨_,rfl,hb1,vq,vr,rfl,hq,hr⟩;have HR:=Ac hr;clear hq hr;have hz1:=hb1.size;have hml:a % b < b:=Nat.mod_lt _ (by omega);have hlr:(dig (a % b)).length≤2:=Nat.le_trans (aQ (Nat.le_of_lt hml)) (by omega);have hb18:b < 1000000000000000000:=rM (by omega);obtain⟨r,hr⟩:∃ r,r=a % b:=⟨_,rfl⟩;rw[← hr] at hml hlr HR;have HF:=Ac (show G=Nat.gcd b r by rw[HGC.out,hr,Nat.gcd_comm,Nat.gcd_rec,Nat.gcd_comm]);clear hr hb0;have hGl:Nat.gcd b r < 18446744073709551616:=by
      have:=Nat.gcd_le_left r (show 0 < b by omega); omega
     dsimp only;go_wp2_with fail
     refine(mg w1 (Ext F w.heap.size) _ b (HNB.out.below hb1) (by omega)).mono ?_;rintro e w' ⟨rfl,rfl⟩;go_wp2_with fail
     refine(mg w1 (Ext (Ext F w.heap.size) wr.heap.size) _ r HR.out hlr).mono ?_;rintro e w' ⟨rfl,rfl⟩;go_wp2_with fail
     refine(uh w1 b r hb18 (by omega) (HTW.out.on hb1)).mono ?_;rintro e w2 ⟨_,rfl,hb2,rfl⟩;rw[← HF.out];rw[← HF.out] at hGl;have hz2:=hb2.size;dsimp only;go_wp2_with fail
     refine(abp w2 G hGl).mono ?_;rintro e w3 ⟨v,rfl,hb3,hv⟩;have HV:=Ac hv; clear hv;go_wp2
     go_ret;exact⟨_,rfl,hbel.trans ((hb1.trans ((hb2.trans (hb3.mono hz2)).mono hz1)).mono hz),HV.out.mono fun b hb _=>by omega⟩
theorem ag1 (w:World) (F:Ag) (va vb:Value) (a b:Nat) (ha:Ah w F va a) (hb:Ah w F vb b) (hla:(dig a).length≤100000) (hlb:(dig b).length≤100000) (hT:BF w) :
  Calls Tryz.prog 194 #[va,vb] w (Ret w fun v w'=>Ah w' (fun b=>w.heap.size≤b) v (Nat.gcd a b)):=by
 by_cases h:(dig a).length≤2∧(dig b).length≤2
 ·exact ad3 w F va vb a b ha hb h.1 h.2 hT
 by_cases h1:a=1∨b=1
 ·exact agZ w F va vb a b ha hb hla hlb h h1
 ·exact ag0 w F va vb a b ha hb hla hlb h (fun e=>h1 (.inl e)) (fun e=>h1 (.inr e)) hT
theorem abD (w:World) (F:Ag) (va vb:Value) (a b:Nat) (ha:Ah w F va a) (hb:Ah w F vb b) (hla:(dig a).length≤100000) (hlb:(dig b).length≤100000) (hT:BF w) :
  Calls Tryz.prog 163 #[va,vb] w (Ret w fun v _=>v = .bool (decide (Nat.gcd a b=1))):=by
 have HA:=Ac ha; have HB:=Ac hb;obtain⟨A,c,rfl,hc,hN⟩:=ha;obtain⟨B,d,rfl,hd,hM⟩:=hb;clear hN hM;obtain⟨g,hg⟩:∃ g,g=Nat.gcd a b:=⟨_,rfl⟩;have HG:=Ac hg;have HD:=Ac (show decide (Nat.gcd a b=1)=decide (g=1) from decide_eq_decide.2 (by rw[hg]));have hgl:(dig g).length≤100000:=by
  rcases Nat.eq_zero_or_pos a with h | h
  ·rw[hg,h,Nat.gcd_zero_left]; exact hlb
  ·exact Nat.le_trans (aQ (by rw[hg]; exact Nat.gcd_le_left b h)) hla
 clear hg;by_cases hs:(dig a).length≤2∧(dig b).length≤2
 ·have d1:decide (((dig a).length:Int)≤2)=true:=decide_eq_true (by omega);have d2:decide (((dig b).length:Int)≤2)=true:=decide_eq_true (by omega);have ha18:=rM hs.1; have hb18:=rM hs.2;have hs1:=hs.1; have hs2:=hs.2;have HI:=Ac (show((g:Int)==1)=decide (g=1) by
   by_cases h:g=1
   ·subst h; rfl
   ·rw[decide_eq_false h]; exact beq_false_of_ne (by omega))
  clear hs;go_enter Tryz.func163,Tryz.ntmps163;go_wp2_with fail
  refine(mg w F _ a HA.out hs1).mono ?_;rintro e w' ⟨rfl,rfl⟩;go_wp2_with fail
  refine(mg w F _ b HB.out hs2).mono ?_;rintro e w' ⟨rfl,rfl⟩;go_wp2_with fail
  refine(uh w a b ha18 hb18 hT).mono ?_;rintro e w1 ⟨_,rfl,hb1,rfl⟩;rw[← HG.out];dsimp only;go_wp2
  go_ret;exact⟨_,rfl,hb1,by rw[HD.out,← HI.out]; rfl⟩
 ·have hd12:(decide (((dig a).length:Int)≤2)=false)∨(decide (((dig a).length:Int)≤2)=true∧decide (((dig b).length:Int)≤2)=false):=by
   by_cases h:(dig a).length≤2
   ·exact .inr ⟨decide_eq_true (by omega),decide_eq_false (by omega)⟩
   ·exact .inl (decide_eq_false (by omega))
  clear hs;go_enter Tryz.func163,Tryz.ntmps163;rcases hd12 with d1 | ⟨d1,d2⟩
  all_goals
   go_wp2_with fail
   refine(ag1 w F _ _ a b HA.out HB.out hla hlb hT).mono ?_;rintro e w1 ⟨v,rfl,hb1,hv⟩;rw[← HG.out] at hv;have HV:=Ac hv; clear hv;dsimp only;go_wp2_with fail
   refine(kV w1 _ _ g HV.out (by omega)).mono ?_;rintro e w' ⟨rfl,rfl⟩;dsimp only;go_wp2
   go_ret;exact⟨_,rfl,hb1,by rw[HD.out]; rfl⟩
theorem sO {α:Type} {p:α→Bool} {l:List α} {k:Nat} {x:α} (hx:l[k]? = some x) (h:(l.take k).any p=false) (hp:p x=false):(l.take (k+1)).any p=false:=by
 rw[take_snoc hx,List.any_append,h]; simp[hp]
theorem uY (w:World) (F:Ag) (v:Value) (l:List Nat) (hv:Aj w F v l) (hu:∀ x∈l,x < 4294967296) (hl:l.length≤1000000) :
  Calls Tryz.prog 190 #[v] w fun e w'=>e = .returned (.int .i64 (bV l))∧w=w':=by
 obtain⟨A,c,rfl,hc,hN⟩:=hv;have HN:=Ac hN; clear hN;have HU:=Ac hu; clear hu;by_cases h1:1024 < l.length
 ·have HE:=Ac (show bV l=4 by unfold bV; rw[if_pos h1]);have d1:decide ((1024:Int) < (l.length:Int))=true:=decide_eq_true (by omega);clear h1;go_enter Tryz.func190,Tryz.ntmps190;go_wp2
  go_ret;exact⟨by rw[HE.out]; rfl,rfl⟩
 have d1:decide ((1024:Int) < (l.length:Int))=false:=decide_eq_false (by omega);have H1:=Ac h1;go_enter Tryz.func190,Tryz.ntmps190;go_wp2
 go_loopw [10] (fun i wr=>∃ k:Nat,k≤l.length∧i = .int .i64 (k:Int)∧(l.take k).any (fun x=>decide (LB≤x))=false∧w=wr) (fun i _=>l.length - (intOf i).toNat)
 case atStart=>exact⟨0,by omega,rfl,rfl,rfl⟩
 case round =>
  obtain⟨k,hk,rfl,hpre,rfl⟩:=hrel;have HP:=Ac hpre; clear hpre;by_cases hlt:k < l.length
  ·obtain⟨b,o,rfl,_,hb,hx⟩:=HN.out (by omega);obtain⟨x,hx'⟩:=ak hlt;have ex:=hx k x hx';unfold bP at ex; rw[Nat.mul_one] at ex;have hxu:=HU.out x (List.mem_of_getElem? hx');have HX:=Ac hx';clear hx hx';by_cases hbad:1000000000≤x
   ·have HE:=Ac (show bV l=3 by
     unfold bV;rw[if_neg H1.out,if_pos (List.any_eq_true.2 ⟨x,List.mem_of_getElem? HX.out,decide_eq_true hbad⟩)])
    have d2:decide ((1000000000:Int)≤(x:Int))=true:=decide_eq_true (by omega);clear hbad;go_wp2
    go_ret;exact⟨by rw[HE.out]; rfl,rfl⟩
   ·have d2:decide ((1000000000:Int)≤(x:Int))=false:=decide_eq_false (by omega);have HB:=Ac (show(decide (LB≤x))=false from decide_eq_false hbad);go_wp2
    go_roundw
    case rel=>exact⟨k+1,by omega,by go_num,sO HX.out HP.out HB.out,by first | rfl | trivial⟩
    case measure=>simp[intOf]; omega
  ·have HA:=Ac (show l.any (fun x=>decide (LB≤x))=false by have:=HP.out; rwa [List.take_of_length_le (by omega)] at this);by_cases h0:0 < l.length
   ·obtain⟨b,o,rfl,_,hb,hx⟩:=HN.out h0;obtain⟨n1,hn1⟩:∃ n1,n1+1=l.length:=⟨l.length - 1,by omega⟩;obtain⟨x,hx'⟩:=ak (l:=l) (k:=n1) (by omega);have ex:=hx n1 x hx';unfold bP at ex; rw[Nat.mul_one] at ex;have HX:=Ac (show bV l=if x=0 then 3 else 0 by
     unfold bV;rw[if_neg H1.out,HA.out,if_neg (by decide),List.getLast?_eq_getElem?,show l.length - 1=n1 by omega,hx'];simp)
    have i1:(l.length:Int) - 1=(n1:Int):=by omega
    clear hx hx' hn1;by_cases hz:x=0
    ·have d3:((x:Int)==0)=true:=by rw[hz]; rfl
     have HE:=Ac (show bV l=3 by rw[HX.out,if_pos hz]);clear hz;go_wp2
     go_ret;exact⟨by rw[HE.out]; rfl,rfl⟩
    ·have d3:((x:Int)==0)=false:=beq_false_of_ne (by omega);have HE:=Ac (show bV l=0 by rw[HX.out,if_neg hz]);clear hz;go_wp2
     go_ret;exact⟨by rw[HE.out]; rfl,rfl⟩
   ·have HE:=Ac (show bV l=0 by
     have:l = []:=List.eq_nil_of_length_eq_zero (by omega);rw[this]; rfl)
    have d3:decide ((0:Int) < (l.length:Int))=false:=decide_eq_false (by omega);go_wp2
    go_ret;exact⟨by rw[HE.out]; rfl,rfl⟩
theorem abE (w:World) (F:Ag) (vn vd:Value) (num den:List Nat) (hn:Aj w F vn num) (hd:Aj w F vd den) (hnu:∀ x∈num,x < 4294967296) (hdu:∀ x∈den,x < 4294967296) (hln:num.length≤1000000) (hld:den.length≤1000000) :
  Calls Tryz.prog 162 #[vn,vd] w fun e w'=>e = .returned (.int .i64 (dh num den))∧w=w':=by
 have HN:=Ac hn; have HD:=Ac hd;obtain⟨A,c,rfl,hc,hN⟩:=hn;obtain⟨B,d,rfl,hd,hM⟩:=hd;clear hN hM;have HNU:=Ac hnu; have HDU:=Ac hdu; clear hnu hdu;have HP:=Ac (show dh num den=if bV num≠0 then bV num else if bV den≠0 then bV den else if den.length=0 then 6 else 0 from rfl);go_enter Tryz.func162,Tryz.ntmps162;go_wp2_with fail
 refine(uY w F _ num HN.out HNU.out hln).mono ?_;rintro e w' ⟨rfl,rfl⟩;generalize bV num=e1 at *;by_cases h1:e1=0
 ·have t1:(e1 != 0)=false:=by rw[h1]; rfl
  go_wp2_with fail
  refine(uY w F _ den HD.out HDU.out hld).mono ?_;rintro e w' ⟨rfl,rfl⟩;generalize bV den=e2 at *;by_cases h2:e2=0
  ·have t2:(e2 != 0)=false:=by rw[h2]; rfl
   by_cases h3:den.length=0
   ·have t3:((den.length:Int)==0)=true:=by rw[h3]; rfl
    have HE:=Ac (show dh num den=6 by rw[HP.out,if_neg (by simpa using h1),if_neg (by simpa using h2),if_pos h3]);clear h1 h2 h3;go_wp2
    go_ret;exact⟨by rw[HE.out]; rfl,rfl⟩
   ·have t3:((den.length:Int)==0)=false:=beq_false_of_ne (by omega);have HE:=Ac (show dh num den=0 by rw[HP.out,if_neg (by simpa using h1),if_neg (by simpa using h2),if_neg h3]);clear h1 h2 h3;go_wp2
    go_ret;exact⟨by rw[HE.out]; rfl,rfl⟩
  ·have t2:(e2 != 0)=true:=by simp[h2]
   have HE:=Ac (show dh num den=e2 by rw[HP.out,if_neg (by simpa using h1),if_pos h2]);clear h1 h2;go_wp2
   go_ret;exact⟨by rw[HE.out]; rfl,rfl⟩
 ·have t1:(e1 != 0)=true:=by simp[h1]
  have HE:=Ac (show dh num den=e1 by rw[HP.out,if_pos h1]);clear h1;go_wp2
  go_ret;exact⟨by rw[HE.out]; rfl,rfl⟩
def U32 (r:Raw):Prop:=(∀ x∈r.num,x < 4294967296)∧∀ x∈r.den,x < 4294967296
theorem abG (w:World) (F:Ag) (v:Value) (r:Raw) (hv:AB w F v r) (hu:U32 r) (hln:r.num.length≤100000) (hld:r.den.length≤100000) (hT:BF w) :
  Calls Tryz.prog 112 #[v] w (Ret w fun u _=>u = .int .i64 (dS r)):=by
 obtain⟨A,c,B,d,rfl,hn,hd⟩:=hv.open;have HN:=Ac hn; have HD:=Ac hd;clear hv hn hd;have HR:=Ac (show dS r=if dh r.num r.den≠0 then dh r.num r.den else if (r.num.length=0∧r.neg=true)∨Nat.gcd (au r.num) (au r.den)≠1 then 3 else 0 from rfl);have HU:=Ac hu; clear hu;have HK:=Ac (fun h=>qM (num:=r.num) (den:=r.den) h);obtain⟨neg,num,den⟩:=r;dsimp only at *;go_enter Tryz.func112,Tryz.ntmps112;go_wp2_with fail
 obtain⟨W,hW,rx,hB,hz⟩:=aN w 83 #[.bool neg,.slice A num.length c,.slice B den.length d];rw[← hW];clear hW;have HTW:=Ac (hT.on hB);replace HN:=Ac (Aj.on HN.out (Below.same' hB F)); replace HD:=Ac (Aj.on HD.out (Below.same' hB F));have x0:=rx.cell (i:=0) rfl;have x1:=rx.cell (i:=1) rfl;have x2:=rx.cell (i:=2) rfl;clear rx hz;go_wp2_with fail
 refine(abE W F _ _ num den HN.out HD.out HU.out.1 HU.out.2 (by omega) (by omega)).mono ?_;rintro e w' ⟨rfl,rfl⟩;generalize dh num den=pe at *;by_cases h1:pe=0
 ·have t1:(pe != 0)=false:=by rw[h1]; rfl
  have hk:=HK.out h1;have hnn:Ah W F (.slice A num.length c) (au num):=by unfold Ah; rw[← hk.1]; exact HN.out
  have hdd:Ah W F (.slice B den.length d) (au den):=by unfold Ah; rw[← hk.2.1]; exact HD.out
  have hl1:(dig (au num)).length≤100000:=by rw[← hk.1]; exact hln
  have hl2:(dig (au den)).length≤100000:=by rw[← hk.2.1]; exact hld
  have HNN:=Ac hnn; have HDD:=Ac hdd;clear hnn hdd hk HK;by_cases h2:num.length=0∧neg=true
  ·have t2:((num.length:Int)==0)=true:=by rw[h2.1]; rfl
   have HE:=Ac (show dS ⟨neg,num,den⟩=3 by rw[HR.out,if_neg (by simpa using h1),if_pos (.inl h2)]);have h3:=h2.2;subst h3;clear h1 h2;go_wp2
   go_ret;exact⟨_,rfl,hB,by rw[HE.out]; rfl⟩
  ·have hor:(((num.length:Int)==0)=false)∨((((num.length:Int)==0)=true)∧neg=false):=by
    by_cases h:num.length=0
    ·refine .inr ⟨by rw[h]; rfl,?_⟩;cases hneg:neg
     ·rfl
     ·exact absurd ⟨h,hneg⟩ h2
    ·exact .inl (beq_false_of_ne (by omega))
   have HE:=Ac (show dS ⟨neg,num,den⟩=if Nat.gcd (au num) (au den)=1 then 0 else 3 by
    rw[HR.out,if_neg (by simpa using h1)];by_cases hg:Nat.gcd (au num) (au den)=1
    ·rw[if_neg (fun h=>h.elim h2 (fun h=>h hg)),if_pos hg]
    ·rw[if_pos (.inr hg),if_neg hg])
   clear h1 h2 HR;rcases hor with t2 | ⟨t2,rfl⟩
   all_goals
    go_wp2_with fail
    refine(abD W F _ _ (au num) (au den) HNN.out HDD.out hl1 hl2 HTW.out).mono ?_;rintro e w1 ⟨_,rfl,hb1,rfl⟩;have hB1:=hB.trans (hb1.mono hB.size);by_cases hg:Nat.gcd (au num) (au den)=1
    ·have hdg:decide (Nat.gcd (au num) (au den)=1)=true:=decide_eq_true hg;rw[hdg];have HE2:=Ac (HE.out.trans (if_pos hg));clear hg hdg;dsimp only;go_wp2
     go_ret;exact⟨_,rfl,hB1,by rw[HE2.out]; rfl⟩
    ·have hdg:decide (Nat.gcd (au num) (au den)=1)=false:=decide_eq_false hg;rw[hdg];have HE2:=Ac (HE.out.trans (if_neg hg));clear hg hdg;dsimp only;go_wp2
     go_ret;exact⟨_,rfl,hB1,by rw[HE2.out]; rfl⟩
 ·have t1:(pe != 0)=true:=by simp[h1]
  have HE:=Ac (show dS ⟨neg,num,den⟩=pe by rw[HR.out,if_pos h1]);clear h1;go_wp2
  go_ret;exact⟨_,rfl,hB,by rw[HE.out]; rfl⟩
theorem pJ (w:World) (F:Ag) (va vb:Value) (a b:Nat) (ha:Ah w F va a) (hb:Ah w F vb b) (hla:(dig a).length≤1000000) (hlb:(dig b).length≤1000000) :
  Calls Tryz.prog 121 #[va,vb] w (Ret w fun v _=>v = .int .i64 (bM a b)):=by
 refine(adK w F va vb a b ha hb hla hlb).mono ?_;rintro e w' ⟨rfl,z0,rfl⟩;exact⟨_,rfl,aF (Below.refl _ w) _,rfl⟩
theorem aaY (w:World) (x:Nat):Aj (w.alloc (.cells #[.int .u32 (x:Int)] 166)) (fun b=>w.heap.size≤b) (.slice (some ⟨w.heap.size,0,none⟩) 1 1) [x]:=by
 have h:=Row.new w 166 #[.int .u32 (x:Int)];have h2:=Row.limbs (l:=[x]) (by simpa [aP] using h) (F:=fun b=>w.heap.size≤b) (Nat.le_refl _) (n:=1) (c:=1) (by simp) (Nat.le_refl _);simpa using h2
theorem um (w:World) (x:Nat) (hx:x < 1000000000) :
  Calls Tryz.prog 198 #[.int .u32 (x:Int)] w (Ret w fun v w'=>Ah w' (fun b=>w.heap.size≤b) v x):=by
 go_enter Tryz.func198,Tryz.ntmps198;go_wp2_with fail
 refine(jM _ (fun b=>w.heap.size≤b) _ 1 1 [x] rfl (aaY w x) (by omega)).mono ?_;rintro e w' ⟨rfl,rfl⟩;have ht:=Aj.trim (l:=[x]) rfl (aaY w x) (fun y hy=>by simp at hy; subst hy; exact hx);have hn:au [x]=x:=by simp[au]
 rw[hn] at ht;have HT:=Ac ht; clear ht hn;go_wp2
 go_ret;exact⟨_,rfl,(Below.refl _ _).alloc (Nat.le_refl _) _,HT.out⟩
theorem aiN {c:Bool} {p q:Prop} (h:c=true) (hp:p):if c=true then p else q:=by rw[if_pos h]; exact hp
theorem ad4 {P:Program} (w:World) {o:Oper} {a:Act} {K:Act→World→Prop} {Q:Exit→Act→World→Prop} (l c:Operand) (t:TypeId) (hop:o.op=Op.makeSlice t l c)
  (e:TypeId) (z:Value) (bytes:Nat) (ht:P.underlying t=some (.slice e)) (hinfo:(P.info? e).map (fun i=>(i.zero,i.size,i.bytes))=some (some z,1,bytes)) (hz1:z.cells = #[z])
  (n:Nat) (hl:a.eval l = .int .i64 (n:Int)) (hc:a.eval c = .int .i64 (n:Int)) (hn:n≤1000000) (hb:bytes≤1000)
  (hK:∀ w1,Below w.heap.size w w1→w1.heap.size=w.heap.size+1→Row w1 w.heap.size e (List.replicate n z)→K (a.put o.dst (.slice (some ⟨w.heap.size,0,none⟩) n n)) w1) :
  Oper.wp P o a w K Q:=by
 have hbytes:bytes*n≤281474976710656:=by
  have:bytes*n≤1000*1000000:=Nat.mul_le_mul hb hn;omega
 have hrun:=run_make_row' (P:=P) t e z bytes ht hinfo hz1 .i64 .i64 n hbytes (by omega) w;unfold Oper.wp;simp[execOp,hop,hl,hc,hrun,Result.andThen];have hbel:Below w.heap.size w (w.alloc (.cells (madeCells #[z] n) e)):=(Below.refl _ _).alloc (Nat.le_refl _) _;exact hK _ hbel (by simp) (Row.made w z n e)
theorem zk {w:World} {F:Ag} {o:Oper} {a:Act} {K:Act→World→Prop} {Q:Exit→Act→World→Prop} (s x:Operand) (t:TypeId) (ht:Tryz.prog.underlying t=some (.slice 166)) (ho:o.op = .call { callee:=.builtin .append,args:=#[s,x],argTypes:=#[t,t] })
  (base:Option Addr) (hbase:∀ a,base=some a→∃ b,a=⟨b,0,none⟩) (v:Value) (l:List Nat) (hs:a.eval s = .slice base 0 0) (hx:a.eval x=v) (hv:Aj w F v l) (hm:l.length≤1000000)
  (h:∀ u w',Below w.heap.size w w'→AZ w.heap.size l u w'→K (a.put o.dst u) w'):Oper.wp Tryz.prog o a w K Q:=by
 obtain⟨A',cap,w',hrun,h2,h3,h4⟩:=sJ w F t o.type ht base hbase v l hv hm;unfold Oper.wp execOp;simp only[ho,resolve,invoke,builtin,Sem.run_bind,Sem.run_pure,Result.andThen_ok,List.map_toArray,List.map_cons,List.map_nil,hs,hx,hrun];refine h _ w' h2 ⟨A',cap,rfl,h3,fun h0=>?_⟩;obtain⟨e,rest,hrow⟩:=h4 h0;exact⟨_,rest,e,Nat.le_refl _,hrow⟩
def Fact.limbs (F:Ag) (l:List Nat):Fact:=⟨fun v w=>Aj w F v l,fun _ _ _ h hb=>h.on (Below.same' hb F)⟩
def Fact.zeros (B m:Nat):Fact:=⟨fun v w=>∃ b,v = .slice (some ⟨b,0,none⟩) m m∧B≤b∧Row w b 166 (aP (List.replicate m 0)),fun _ _ _ ⟨b,h1,h2,h3⟩ hb=>⟨b,h1,h2,h3.below hb h3.lt⟩⟩
theorem abH {w:World} {F:Ag} {ops:Array Oper} {rest:List Oper} {o:Oper} {a:Act} {Q:Exit→Act→World→Prop} (hgd:o.guard=none) (s x:Operand) (t:TypeId) (ht:Tryz.prog.underlying t=some (.slice 166))
  (ho:o.op = .call { callee:=.builtin .append,args:=#[s,x],argTypes:=#[t,t] })
  (base:Nat) (v u:Value) (l m:List Nat) (hs:a.eval s=v) (hown:w.ownsRow base 166 1 v l.length (aP l)) (hx:a.eval x=u) (hu:Aj w F u m) (hm:0 < m.length) (hlen:l.length+m.length≤1000000) (hbase:base≤w.heap.size)
  (h:∀ g cap w',w'.ownsRow base 166 1 (.slice (some ⟨g,0,none⟩) (l.length+m.length) cap) (l++m).length (aP (l++m))→w.grownBy w' v.ownBlock→g < w'.heap.size →
   wpList Tryz.prog ops Q rest (a.put o.dst (.slice (some ⟨g,0,none⟩) (l.length+m.length) cap)) w') :
  wpList Tryz.prog ops Q (o :: rest) a w:=by
 obtain⟨i0,hi,hz0,hz1,hz2⟩:=info_parts Tryz.infoU32;obtain⟨A,c,rfl,hc,hr⟩:=hu;obtain⟨b,off,rfl,_,_,hcell⟩:=hr hm;refine wpList_append_lies w hgd s x _ ho base _ i0 _ 1 4 ht hi hz0 hz1 hz2 rfl (by omega) v l.length _ hs hown ⟨b,off,none⟩ m.length c (aP m) hx (by simp) (fun j y hj=>?_) (by simp[Value.oneCell']) hm (by unfold maxLen; omega) (by omega) hbase w.heap.size rfl ?_
 ·rw[List.getElem?_map] at hj;obtain⟨y,hy,rfl⟩:=Option.map_eq_some_iff.1 hj;have:=hcell j y hy;unfold bP at this;rw[Nat.mul_one] at this;rw[Addr.add_lit];exact this
 ·intro g cap w' h1 h2 h3 h4;exact h g cap w' (by simpa [aP] using h1) h2 h4
theorem Aj.drop {w:World} {F:Ag} {A:Option Addr} {c:Nat} {l:List Nat} (h:Aj w F (.slice A l.length c) l) {k:Nat} (hk:k≤l.length):∀ b o,A=some ⟨b,o,none⟩→Aj w F (.slice (some ⟨b,o+k,none⟩) (l.drop k).length (c - k)) (l.drop k):=by
 intro b o hA;obtain⟨A',c',he,hc,hr⟩:=h;cases he
 subst hA;refine⟨_,_,rfl,by rw[List.length_drop]; omega,fun h0=>?_⟩;obtain⟨b',o',e,hF,hlt,hx⟩:=hr (by rw[List.length_drop] at h0; omega);cases e
 refine⟨b,o+k,rfl,hF,hlt,fun j x hj=>?_⟩;rw[List.getElem?_drop] at hj;have:=hx _ x hj;rw[show o+k+j*1=o+(k+j)*1 by omega];exact this
theorem ad5 {b n:Nat} (hn:n=(dig b).length) (hb0:b≠0):(dig (b*(LB / ((dig b).getD (n - 1) 0+1)))).length=n:=by
 have h1:=bg (qx hn hb0);have h2:=(nM hb0);rw[← hn] at h2;have h3:=(fV h2.1 h2.2.1).1;have h4:b≤b*(LB / ((dig b).getD (n - 1) 0+1)):=by
  have:b*1≤b*(LB / ((dig b).getD (n - 1) 0+1)):=Nat.mul_le_mul_left _ h3;omega
 have h5:=aQ h4;omega
theorem acW {w W:World} {F:Ag} {ops:Array Oper} {rest:List Oper} {o:Oper} {a:Act} {Q:Exit→Act→World→Prop} (hgd:o.guard=none) (s x:Operand) (t:TypeId) (ht:Tryz.prog.underlying t=some (.slice 166))
  (ho:o.op = .call { callee:=.builtin .append,args:=#[s,x],argTypes:=#[t,t] })
  (y:Nat) (u:Value) (l:List Nat) (hW:W=w.alloc (.cells #[.int .u32 (y:Int)] 166)) (hs:a.eval s = .slice (some ⟨w.heap.size,0,none⟩) 1 1) (hx:a.eval x=u) (hu:Aj w F u l) (hl:l.length≤900000)
  (h:∀ A cap w',Below w.heap.size w w'→Aj w' (fun b=>w.heap.size≤b) (.slice A (l.length+1) cap) (y :: l)→wpList Tryz.prog ops Q rest (a.put o.dst (.slice A (l.length+1) cap)) w') :
  wpList Tryz.prog ops Q (o :: rest) a W:=by
 have hrow:Row W w.heap.size 166 (aP [y]):=by rw[hW]; exact Row.new w 166 #[.int .u32 (y:Int)]
 have hB:Below w.heap.size w W:=by rw[hW]; exact(Below.refl _ w).alloc (Nat.le_refl _) _
 have hsz:w.heap.size < W.heap.size:=by rw[hW]; simp
 have huW:=hu.on (Below.same' hB F);have hown:W.ownsRow w.heap.size 166 1 (.slice (some ⟨w.heap.size,0,none⟩) 1 1) [y].length (aP [y]) :=
  ⟨by simp,.inr ⟨w.heap.size,1,(aP [y]).toArray,rfl,Nat.le_refl _,hrow,Nat.le_refl _,by unfold maxLen; omega,by simp,by simp⟩⟩
 by_cases h0:0 < l.length
 ·refine abH hgd s x t ht ho w.heap.size _ u [y] l hs hown hx huW h0 (by simp; omega) (by omega) ?_;intro g cap w' h1 h2 h3;have hl:=gq h1 (F:=fun b=>w.heap.size≤b) (fun b hb=>(h1.lt b hb).1);have e:[y].length+l.length=l.length+1:=by simp; omega
  rw[e] at hl ⊢;exact h _ _ w' (hB.grown h2 (by omega) (fun k hk=>by cases hk; exact Nat.le_refl _)) hl
 ·have hl0:l = []:=List.eq_nil_of_length_eq_zero (by omega);subst hl0;refine wpList_plain hgd fun K hK=>?_
  obtain⟨i0,hi,hz0,hz1,hz2⟩:=info_parts Tryz.infoU32;obtain⟨A,c,rfl,_,_⟩:=huW;have hsrc:Src Tryz.prog i0.size t (.slice A 0 c) 0 [] W:=by
   cases A with
   | none=>exact Src.ofNil W ht c
   | some ad=>exact Src.ofSlice W ht ad 0 c [] (by simp) (by simp) (by simp)
  have hrun:=run_append_room_src (P:=Tryz.prog) W t t o.type _ i0 ht hi w.heap.size 0 1 1 _ 0 [] hsrc (by omega) (by simp) (by simp);unfold Oper.wp execOp;simp only[ho,resolve,invoke,builtin,Sem.run_bind,Sem.run_pure,Result.andThen_ok,List.map_toArray,List.map_cons,List.map_nil,hs,hx];rw[show(([]:List Nat).length)=0 from rfl,hrun];refine hK _ _ (h _ _ W hB ?_);have h2:=Row.limbs (l:=[y]) hrow (F:=fun b=>w.heap.size≤b) (Nat.le_refl _) (n:=1) (c:=1) (by simp) (Nat.le_refl _);simpa using h2
theorem ag2 (n k:Nat):dig (au ((dig n).drop k))=(dig n).drop k:=by
 refine oH ((aK n).drop k) ?_;rw[List.getLast?_drop];split
 ·simp
 ·exact qw n
theorem ae1 (n k:Nat):au ((dig n).drop k) < LB ^ ((dig n).length - k):=by
 have h:=eF ((aK n).drop k);rwa [List.length_drop] at h
theorem afE {R n x kk L:Nat} (hx:(dig R)[kk]? = some x) (hL:L=au ((dig R).drop (kk+1))):L*LB+x=au ((dig R).drop kk):=by
 rw[bG,← hL,aC hx,Nat.mul_comm,Nat.add_comm]
theorem aap (l:List Nat) (hl:Limbs l) (k:Nat):au (l.drop k)=au l / LB ^ k:=by
 by_cases h:k≤l.length
 ·have h1:=dU l h;have h2:=eF (hl.take k);rw[List.length_take,Nat.min_eq_left h] at h2;rw[h1,Nat.add_mul_div_left _ _ (Ba k),Nat.div_eq_of_lt h2,Nat.zero_add]
 ·rw[List.drop_of_length_le (by omega)];have h2:=eF hl;have h3:LB ^ l.length≤LB ^ k:=Nat.pow_le_pow_right (by decide) (by omega);rw[Nat.div_eq_of_lt (by omega)];rfl
theorem acX {R b n x:Nat} (hR:R < b) (hb:(dig b).length=n) (hx:x < LB):x+LB*R < LB*b∧(dig (x+LB*R)).length≤n+1:=by
 have h1:x+LB*R < LB*b:=by
  have:LB*(R+1)≤LB*b:=Nat.mul_le_mul_left _ hR;rw[Nat.mul_add] at this;omega
 refine⟨h1,bg (Nat.lt_of_lt_of_le h1 ?_)⟩;rw[Nat.pow_succ,Nat.mul_comm];refine Nat.mul_le_mul_right _ ?_;have:=jm b;rw[hb] at this;omega
theorem mZ {w:World} {B:Nat} {l:List Nat} {A:Option Addr} {c:Nat} (h:w.ownsRow B 166 1 (.slice A l.length c) l.length (aP l)) (hl:Limbs l):AZ B (dig (au l)) (.slice A (dD l l.length) c) w:=by
 have ht:=ab6 hl;have hle:=aaG l l.length;have hlen:(dig (au l)).length=dD l l.length:=by rw[← ht,List.length_take,Nat.min_eq_left hle]
 rcases h.2 with⟨e,h0⟩ | ⟨g,cap,cur,e,hb,hg,hnc,_,hsz,htake⟩
 ·injection e with e1 e2 e3
  refine⟨A,c,by rw[hlen],by omega,fun hp=>by omega⟩
 ·injection e with e1 e2 e3
  subst e1; subst e3;refine⟨_,c,by rw[hlen],by omega,fun hp=>⟨g,cur.toList.drop (dD l l.length),rfl,hb,?_⟩⟩;have e:aP (dig (au l))++cur.toList.drop (dD l l.length)=cur.toList:=by
   have h1:aP (dig (au l))=cur.toList.take (dD l l.length):=by
    rw[← ht];have h2:cur.toList.take (dD l l.length)=(aP l).take (dD l l.length):=by
     rw[← htake,List.take_take,Nat.mul_one,Nat.min_eq_left hle]
    rw[h2];unfold aP;rw[List.map_take]
   rw[h1,List.take_append_drop]
  unfold Row;rw[e,hg]
theorem AZ.other {w w':World} {B:Nat} {l:List Nat} {v:Value} (h:AZ B l v w) (hk:∀ g,B≤g→g < w.heap.size→w'.heap[g]? = w.heap[g]?):AZ B l v w':=by
 obtain⟨A,c,rfl,hc,hr⟩:=h;refine⟨A,c,rfl,hc,fun h0=>?_⟩;obtain⟨b,rest,rfl,hb,hrow⟩:=hr h0;exact⟨b,rest,rfl,hb,hrow.of_block (hk b hb hrow.lt)⟩
theorem AZ.lower {w:World} {B B':Nat} {l:List Nat} {v:Value} (h:AZ B l v w) (hB:B'≤B):AZ B' l v w:=by
 obtain⟨A,c,rfl,hc,hr⟩:=h;refine⟨A,c,rfl,hc,fun h0=>?_⟩;obtain⟨b,rest,rfl,hb,hrow⟩:=hr h0;exact⟨b,rest,rfl,Nat.le_trans hB hb,hrow⟩
theorem acY {a b:Nat}:0 < bM a b↔b < a:=by unfold bM; split <;> (try split) <;> omega
end Go.Proofs.YthmklhapjegfdaaGreatDoor

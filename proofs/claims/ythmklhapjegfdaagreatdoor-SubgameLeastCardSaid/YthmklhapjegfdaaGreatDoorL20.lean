/- The greatest common divisor: long.One, long.Gcd, long.Coprime. -/
import Derived.Test.YthmklhapjegfdaaGreatDoorL19
import Derived.Test.YthmklhapjegfdaaGreatDoorL16
set_option linter.all false
set_option maxRecDepth 100000
set_option maxHeartbeats 12800000
namespace Go.Proofs.YthmklhapjegfdaaGreatDoor
open Lib renaming hid → Aa
open Go.RowKit
theorem ahJ (w:World):Ag (w.alloc (.cells #[.int .u32 1] 166)) (fun b=>w.heap.size≤b) (.slice (some ⟨w.heap.size,0,none⟩) 1 1) 1:=afL w 1 rfl
theorem adD (w:World):Calls Tryz.prog 217 #[] w (Ret w fun v w'=>Ag w' (fun b=>w.heap.size≤b) v 1):=by
 go_enter Tryz.func217,Tryz.ntmps217;go_wp2
 go_ret;exact⟨_,rfl,(Below.refl _ _).alloc (Nat.le_refl _) _,ahJ w⟩
theorem Leh.nat {a b M p0 q0 al be p q A B C D:Int} {a' b':Nat} (h:Leh a b M p0 q0 al be p q A B C D) (ea:a=a') (eb:b=b'):∃ X Y:Nat,A*a'+B*b'=(X:Int)∧C*a'+D*b'=(Y:Int)∧Y≤X∧X≤a'∧(B=0∨Y < b')∧Nat.gcd X Y=Nat.gcd a' b':=by
 subst ea eb;obtain⟨X,hX⟩:∃ X:Nat,A*a'+B*b'=(X:Int):=⟨(A*a'+B*b').toNat,by have:=h.y0; have:=h.yx; omega⟩;obtain⟨Y,hY⟩:∃ Y:Nat,C*a'+D*b'=(Y:Int):=⟨(C*a'+D*b').toNat,by have:=h.y0; omega⟩;refine⟨X,Y,hX,hY,by have:=h.yx; omega,by have:=h.xa; omega,by have:=h.prog; omega,?_⟩;have:=h.gcd;rw[hX,hY] at this;simpa using this
theorem aeM (w:World) (F:Ac) (va vb:Value) (a b:Nat) (ha:Ag w F va a) (hb:Ag w F vb b) (hla:(dig a).length≤2) (hlb:(dig b).length≤2) (hT:Bq w) :
  Calls Tryz.prog 194 #[va,vb] w (Ret w fun v w'=>Ag w' (fun b=>w.heap.size≤b) v (Nat.gcd a b)):=by
 have HA:=Aa ha; have HB:=Aa hb;obtain⟨A,c,rfl,hc,hN⟩:=ha;obtain⟨B,d,rfl,hd,hM⟩:=hb;clear hN hM;have ha18:=sF hla; have hb18:=sF hlb;have d1:decide (((dig a).length:Int)≤2)=true:=decide_eq_true (by omega);have d2:decide (((dig b).length:Int)≤2)=true:=decide_eq_true (by omega);obtain⟨g,hg⟩:∃ g,g=Nat.gcd a b:=⟨_,rfl⟩;have hgl:g < 18446744073709551616:=by
  rcases Nat.eq_zero_or_pos a with h | h
  ·rw[hg,h,Nat.gcd_zero_left]; omega
  ·have:=Nat.gcd_le_left b h; omega
 have HG:=Aa hg;rw[← hg];clear hg;go_enter Tryz.func194,Tryz.ntmps194;go_wp2_with fail
 refine(mX w F _ a HA.out hla).mono ?_;rintro e w' ⟨rfl,rfl⟩;go_wp2_with fail
 refine(mX w F _ b HB.out hlb).mono ?_;rintro e w' ⟨rfl,rfl⟩;go_wp2_with fail
 refine(uH w a b ha18 hb18 hT).mono ?_;rintro e w1 ⟨_,rfl,hb1,rfl⟩;rw[← HG.out];dsimp only;go_wp2_with fail
 refine(acf w1 g hgl).mono ?_;rintro e w2 ⟨v,rfl,hb2,hv⟩;have HV:=Aa hv; clear hv;have hz:=hb1.size;go_wp2
 go_ret;exact⟨_,rfl,hb1.trans (hb2.mono hz),HV.out.mono fun b hb _=>by omega⟩
theorem ahK (w:World) (F:Ac) (va vb:Value) (a b:Nat) (ha:Ag w F va a) (hb:Ag w F vb b) (hla:(dig a).length≤100000) (hlb:(dig b).length≤100000) (hbig:¬ ((dig a).length≤2∧(dig b).length≤2)) (h1:a=1∨b=1) :
  Calls Tryz.prog 194 #[va,vb] w (Ret w fun v w'=>Ag w' (fun b=>w.heap.size≤b) v (Nat.gcd a b)):=by
 have HA:=Aa ha; have HB:=Aa hb;obtain⟨A,c,rfl,hc,hN⟩:=ha;obtain⟨B,d,rfl,hd,hM⟩:=hb;clear hN hM;have HG:=Aa (show Nat.gcd a b=1 by rcases h1 with h | h <;> simp[h]);rw[HG.out];have hl1:(dig 1).length=1:=by rw[jQ]; rfl
 by_cases ha1:a=1
 ·have d1:decide (((dig a).length:Int)≤2)=true:=decide_eq_true (by rw[ha1]; omega);have d2:decide (((dig b).length:Int)≤2)=false:=decide_eq_false (by rw[ha1,hl1] at hbig; omega);have e1:decide (a=1)=true:=decide_eq_true ha1;clear hbig h1 ha1;go_enter Tryz.func194,Tryz.ntmps194;go_wp2_with fail
  refine(kX w F _ a HA.out (by omega)).mono ?_;rintro e w' ⟨rfl,rfl⟩;rw[e1];dsimp only;go_wp2_with fail
  refine(adD w).mono ?_;rintro e w1 ⟨v,rfl,hb1,hv⟩;have HV:=Aa hv; clear hv;go_wp2
  go_ret;exact⟨_,rfl,hb1,HV.out⟩
 ·have hb1:b=1:=h1.resolve_left ha1;have d1:decide (((dig a).length:Int)≤2)=false:=decide_eq_false (by rw[hb1,hl1] at hbig; omega);have e1:decide (a=1)=false:=decide_eq_false ha1;have e2:decide (b=1)=true:=decide_eq_true hb1;clear hbig h1 ha1 hb1;go_enter Tryz.func194,Tryz.ntmps194;go_wp2_with fail
  refine(kX w F _ a HA.out (by omega)).mono ?_;rintro e w' ⟨rfl,rfl⟩;rw[e1];dsimp only;go_wp2_with fail
  refine(kX w F _ b HB.out (by omega)).mono ?_;rintro e w' ⟨rfl,rfl⟩;rw[e2];dsimp only;go_wp2_with fail
  refine(adD w).mono ?_;rintro e w1 ⟨v,rfl,hb1,hv⟩;have HV:=Aa hv; clear hv;go_wp2
  go_ret;exact⟨_,rfl,hb1,HV.out⟩
theorem ahL (w:World) (F:Ac) (va vb:Value) (a0 b0:Nat) (ha:Ag w F va a0) (hb:Ag w F vb b0) (hla:(dig a0).length≤100000) (hlb:(dig b0).length≤100000) (hbig:¬ ((dig a0).length≤2∧(dig b0).length≤2)) (ha1:a0≠1) (hb1:b0≠1) (hT:Bq w) :
  Calls Tryz.prog 194 #[va,vb] w (Ret w fun v w'=>Ag w' (fun b=>w.heap.size≤b) v (Nat.gcd a0 b0)):=by
 have HA:=Aa ha; have HB:=Aa hb;obtain⟨A,c,rfl,hc,hN⟩:=ha;obtain⟨B,d,rfl,hd,hM⟩:=hb;clear hN hM;obtain⟨G,hG⟩:∃ G,G=Nat.gcd a0 b0:=⟨_,rfl⟩;rw[← hG];have HG:=Aa hG; clear hG;have e1:decide (a0=1)=false:=decide_eq_false ha1;have e2:decide (b0=1)=false:=decide_eq_false hb1;have hd12:(decide (((dig a0).length:Int)≤2)=false)∨(decide (((dig a0).length:Int)≤2)=true∧decide (((dig b0).length:Int)≤2)=false):=by
  by_cases h:(dig a0).length≤2
  ·exact .inr ⟨decide_eq_true (by omega),decide_eq_false (by omega)⟩
  ·exact .inl (decide_eq_false (by omega))
 have HB3:=Aa hbig;clear ha1 hb1 hbig;have hT0:=hT.lt;go_enter Tryz.func194,Tryz.ntmps194;rcases hd12 with d1 | ⟨d1,d2⟩
 all_goals
  go_wp2_with fail
  refine(kX w F _ a0 HA.out (by omega)).mono ?_;rintro e w' ⟨rfl,rfl⟩;rw[e1];dsimp only;go_wp2_with fail
  refine(kX w F _ b0 HB.out (by omega)).mono ?_;rintro e w' ⟨rfl,rfl⟩;rw[e2];dsimp only;clear d1 e1 e2;go_wp2_with fail
  refine(vM w F _ _ a0 b0 HA.out HB.out (by omega) (by omega)).mono ?_;rintro e w' ⟨rfl,z0,rfl⟩;go_upto_if 37 with fail
  go_cut [0,1] from 34 to 39 (fun va vb wx=>∃ a b,wx=w.drewN z0∧Ag wx (Ext F w.heap.size) va a∧Ag wx (Ext F w.heap.size) vb b∧b≤a∧G=Nat.gcd a b∧(dig a).length≤100000)
  case first =>
   by_cases h:a0 < b0
   ·have hord:decide (bY a0 b0 < 0)=true:=by rw[jA h]; rfl
    have hod:bY a0 b0 < 0:=by rw[jA h]; decide
    generalize bY a0 b0=od at *;go_wp2_with fail
    go_meet
    exact⟨b0,a0,rfl,HB.out.ext (aG (Below.refl _ w) z0),HA.out.ext (aG (Below.refl _ w) z0),by omega,by rw[HG.out,Nat.gcd_comm],hlb⟩
   ·have hord:decide (bY a0 b0 < 0)=false:=by
     refine decide_eq_false ?_;unfold bY; split <;> (try split) <;> omega
    have hod:0≤bY a0 b0:=by have:=of_decide_eq_false hord; omega
    generalize bY a0 b0=od at *;go_wp2_with fail
    go_meet
    exact⟨a0,b0,rfl,HA.out.ext (aG (Below.refl _ w) z0),HB.out.ext (aG (Below.refl _ w) z0),by omega,HG.out,hla⟩
  case rest =>
  obtain⟨a,b,rfl,hna,hnb,hba,aaj,hlen⟩:=hcut;have HS:=Aa (And.intro hna (And.intro hnb aaj));clear HA HB hna hnb aaj hla hlb HG;go_wp2
  go_loopg [0,1] b (fun f va vb wr=>∃ a b,b=f∧Ag wr (Ext F w.heap.size) va a∧Ag wr (Ext F w.heap.size) vb b∧b≤a∧G=Nat.gcd a b∧(dig a).length≤100000∧Below w.heap.size w wr)
  case atStart=>exact⟨a,b,rfl,HS.out.1,HS.out.2.1,hba,HS.out.2.2,hlen,aG (Below.refl _ w) z0⟩
  case round =>
   clear HS hba hlen;obtain⟨a,b,rfl,hna,hnb,hba,aaj,hlen,hbel⟩:=hrel;have HNA:=Aa hna; have HNB:=Aa hnb; have HGC:=Aa aaj;obtain⟨A',c',rfl,hc',_⟩:=hna;obtain⟨B',d',rfl,hd',_⟩:=hnb;have hlb:(dig b).length≤(dig a).length:=aV hba;have hz:=hbel.size;have HTW:=Aa (hT.below hT0 hbel);clear aaj;by_cases h2:2 < (dig b).length
   ·have d2':decide ((2:Int) < ((dig b).length:Int))=true:=decide_eq_true (by omega);have hbp:0 < b:=by
     rcases Nat.eq_zero_or_pos b with h | h
     ·rw[h,aY] at h2; simp at h2
     ·exact h
    go_wp2_with fail
    refine(lead_any wr (Ext F w.heap.size) _ _ a b HNA.out HNB.out hba (by omega) hlen).mono ?_;rintro e w1 ⟨_,rfl,hb1,M,p,q,rfl,hM,hp,hq,hp18⟩;have hpq:q≤p:=by rw[hp,hq]; exact Nat.div_le_div_right hba
    have hst:=Leh.start (a:=(a:Int)) (b:=(b:Int)) (M:=(M:Int)) (p0:=(p:Int)) (q0:=(q:Int)) (al:=((a % M:Nat):Int)) (be:=((b % M:Nat):Int))
     (by rw[hp]; have:=Nat.div_add_mod' a M; exact_mod_cast this.symm) (by rw[hq]; have:=Nat.div_add_mod' b M; exact_mod_cast this.symm) (by omega) (by have:=Nat.mod_lt a hM; omega) (by omega) (by have:=Nat.mod_lt b hM; omega) (by omega) (by omega) (by omega) (by omega)
    have HST:=Aa hst;clear hst hp hq hpq;have hz1:=hb1.size;have hB1:=hbel.trans (hb1.mono hz);dsimp only;go_wp2_with fail
    refine(aeH w1 a b _ _ _ (p:Int) (q:Int) HST.out (by omega)).mono ?_;rintro e w' ⟨⟨p',q',xA,xB,xC,xD,rfl,jC,a1,a2,b1,b2,c1,c2,d1,d2⟩,rfl⟩;obtain⟨X,Y,hX,hY,hyx,hxa,hyb,hg⟩:=jC.nat rfl rfl;have HXY:=Aa (And.intro hX (And.intro hY hg));clear jC HST hX hY hg;dsimp only;by_cases hB0:xB=0
    ·have tB:(xB==0)=true:=by rw[hB0]; rfl
     clear hB0 hyb;go_wp2_with fail
     refine(adt w1 (Ext F w.heap.size) _ _ a b (HNA.out.below hb1) (HNB.out.below hb1) (by omega) hlen (by omega)).mono ?_;rintro e w2 ⟨_,rfl,hb2,vq,vr,rfl,hq,hr⟩;have HR:=Aa hr;clear hq hr;have hml:a % b < b:=Nat.mod_lt _ hbp;go_wp2
     go_roundg (a % b)
     case measure=>exact hml
     case rel=>exact⟨b,a % b,rfl,(HNB.out.below hb1).below hb2,HR.out.mono (fun b hb _=>hb.elim id fun h=>.inr (by omega)),by omega,by rw[HGC.out,Nat.gcd_comm,Nat.gcd_rec,Nat.gcd_comm],by omega,hB1.trans (hb2.mono (by omega))⟩
    ·have tB:(xB==0)=false:=beq_false_of_ne hB0;have hYb:=hyb.resolve_left hB0;clear hB0 hyb;go_wp2_with fail
     refine(adu w1 (Ext F w.heap.size) _ _ a b xA xB X (HNA.out.below hb1) (HNB.out.below hb1) hlen hlb (by omega) (by omega) (by omega) (by omega) HXY.out.1 hxa).mono ?_;rintro e w2 ⟨vx,rfl,hb2,hvx⟩;have HVX:=Aa hvx; clear hvx;have hz2:=hb2.size;go_wp2_with fail
     refine(adu w2 (Ext F w.heap.size) _ _ a b xC xD Y ((HNA.out.below hb1).below hb2) ((HNB.out.below hb1).below hb2) hlen hlb (by omega) (by omega) (by omega) (by omega) HXY.out.2.1 (by omega)).mono ?_;rintro e w3 ⟨vy,rfl,hb3,hvy⟩;have HVY:=Aa hvy; clear hvy;have hXl:(dig X).length≤100000:=by have:=aV hxa; omega
     go_wp2
     go_roundg Y
     case measure=>exact hYb
     case rel=>exact⟨X,Y,rfl,(HVX.out.below hb3).mono (fun b hb _=>.inr (by omega)),HVY.out.mono (fun b hb _=>.inr (by omega)),hyx,by rw[HGC.out]; exact HXY.out.2.2.symm,hXl,hB1.trans ((hb2.trans (hb3.mono hz2)).mono (by omega))⟩
   ·have d2':decide ((2:Int) < ((dig b).length:Int))=false:=decide_eq_false (by omega);by_cases hb0:b=0
    ·have e0:(((dig b).length:Int)==0)=true:=by rw[hb0,aY]; rfl
     have HF:=Aa (show G=a by rw[HGC.out,hb0,Nat.gcd_zero_right]);clear hb0;go_wp2_with fail
     refine(abD wr (Ext F w.heap.size) _ a HNA.out (by omega)).mono ?_;rintro e w1 ⟨v,rfl,hb1,hv⟩;have HV:=Aa hv; clear hv;go_wp2
     go_ret;exact⟨_,rfl,hbel.trans (hb1.mono hz),by rw[HF.out]; exact HV.out.mono fun b hb _=>by omega⟩
    ·have e0:(((dig b).length:Int)==0)=false:=by have:=bJ.2 hb0; exact beq_false_of_ne (by omega)
     go_wp2_with fail
     refine(adt wr (Ext F w.heap.size) _ _ a b HNA.out HNB.out hb0 hlen (by omega)).mono ?_;rintro e w1 ⟨_,rfl,hb1,vq,vr,rfl,hq,hr⟩;have HR:=Aa hr;clear hq hr;have hz1:=hb1.size;have hml:a % b < b:=Nat.mod_lt _ (by omega);have hlr:(dig (a % b)).length≤2:=Nat.le_trans (aV (Nat.le_of_lt hml)) (by omega);have hb18:b < 1000000000000000000:=sF (by omega);obtain⟨r,hr⟩:∃ r,r=a % b:=⟨_,rfl⟩;rw[← hr] at hml hlr HR;have HF:=Aa (show G=Nat.gcd b r by rw[HGC.out,hr,Nat.gcd_comm,Nat.gcd_rec,Nat.gcd_comm]);clear hr hb0;have hGl:Nat.gcd b r < 18446744073709551616:=by
      have:=Nat.gcd_le_left r (show 0 < b by omega); omega
     dsimp only;go_wp2_with fail
     refine(mX w1 (Ext F w.heap.size) _ b (HNB.out.below hb1) (by omega)).mono ?_;rintro e w' ⟨rfl,rfl⟩;go_wp2_with fail
     refine(mX w1 (Ext (Ext F w.heap.size) wr.heap.size) _ r HR.out hlr).mono ?_;rintro e w' ⟨rfl,rfl⟩;go_wp2_with fail
     refine(uH w1 b r hb18 (by omega) (HTW.out.on hb1)).mono ?_;rintro e w2 ⟨_,rfl,hb2,rfl⟩;rw[← HF.out];rw[← HF.out] at hGl;have hz2:=hb2.size;dsimp only;go_wp2_with fail
     refine(acf w2 G hGl).mono ?_;rintro e w3 ⟨v,rfl,hb3,hv⟩;have HV:=Aa hv; clear hv;go_wp2
     go_ret;exact⟨_,rfl,hbel.trans ((hb1.trans ((hb2.trans (hb3.mono hz2)).mono hz1)).mono hz),HV.out.mono fun b hb _=>by omega⟩
theorem ahM (w:World) (F:Ac) (va vb:Value) (a b:Nat) (ha:Ag w F va a) (hb:Ag w F vb b) (hla:(dig a).length≤100000) (hlb:(dig b).length≤100000) (hT:Bq w) :
  Calls Tryz.prog 194 #[va,vb] w (Ret w fun v w'=>Ag w' (fun b=>w.heap.size≤b) v (Nat.gcd a b)):=by
 by_cases h:(dig a).length≤2∧(dig b).length≤2
 ·exact aeM w F va vb a b ha hb h.1 h.2 hT
 by_cases h1:a=1∨b=1
 ·exact ahK w F va vb a b ha hb hla hlb h h1
 ·exact ahL w F va vb a b ha hb hla hlb h (fun e=>h1 (.inl e)) (fun e=>h1 (.inr e)) hT
theorem acs (w:World) (F:Ac) (va vb:Value) (a b:Nat) (ha:Ag w F va a) (hb:Ag w F vb b) (hla:(dig a).length≤100000) (hlb:(dig b).length≤100000) (hT:Bq w) :
  Calls Tryz.prog 163 #[va,vb] w (Ret w fun v _=>v = .bool (decide (Nat.gcd a b=1))):=by
 have HA:=Aa ha; have HB:=Aa hb;obtain⟨A,c,rfl,hc,hN⟩:=ha;obtain⟨B,d,rfl,hd,hM⟩:=hb;clear hN hM;obtain⟨g,hg⟩:∃ g,g=Nat.gcd a b:=⟨_,rfl⟩;have HG:=Aa hg;have HD:=Aa (show decide (Nat.gcd a b=1)=decide (g=1) from decide_eq_decide.2 (by rw[hg]));have hgl:(dig g).length≤100000:=by
  rcases Nat.eq_zero_or_pos a with h | h
  ·rw[hg,h,Nat.gcd_zero_left]; exact hlb
  ·exact Nat.le_trans (aV (by rw[hg]; exact Nat.gcd_le_left b h)) hla
 clear hg;by_cases hs:(dig a).length≤2∧(dig b).length≤2
 ·have d1:decide (((dig a).length:Int)≤2)=true:=decide_eq_true (by omega);have d2:decide (((dig b).length:Int)≤2)=true:=decide_eq_true (by omega);have ha18:=sF hs.1; have hb18:=sF hs.2;have hs1:=hs.1; have hs2:=hs.2;have HI:=Aa (show((g:Int)==1)=decide (g=1) by
   by_cases h:g=1
   ·subst h; rfl
   ·rw[decide_eq_false h]; exact beq_false_of_ne (by omega))
  clear hs;go_enter Tryz.func163,Tryz.ntmps163;go_wp2_with fail
  refine(mX w F _ a HA.out hs1).mono ?_;rintro e w' ⟨rfl,rfl⟩;go_wp2_with fail
  refine(mX w F _ b HB.out hs2).mono ?_;rintro e w' ⟨rfl,rfl⟩;go_wp2_with fail
  refine(uH w a b ha18 hb18 hT).mono ?_;rintro e w1 ⟨_,rfl,hb1,rfl⟩;rw[← HG.out];dsimp only;go_wp2
  go_ret;exact⟨_,rfl,hb1,by rw[HD.out,← HI.out]; rfl⟩
 ·have hd12:(decide (((dig a).length:Int)≤2)=false)∨(decide (((dig a).length:Int)≤2)=true∧decide (((dig b).length:Int)≤2)=false):=by
   by_cases h:(dig a).length≤2
   ·exact .inr ⟨decide_eq_true (by omega),decide_eq_false (by omega)⟩
   ·exact .inl (decide_eq_false (by omega))
  clear hs;go_enter Tryz.func163,Tryz.ntmps163;rcases hd12 with d1 | ⟨d1,d2⟩
  all_goals
   go_wp2_with fail
   refine(ahM w F _ _ a b HA.out HB.out hla hlb hT).mono ?_;rintro e w1 ⟨v,rfl,hb1,hv⟩;rw[← HG.out] at hv;have HV:=Aa hv; clear hv;dsimp only;go_wp2_with fail
   refine(kX w1 _ _ g HV.out (by omega)).mono ?_;rintro e w' ⟨rfl,rfl⟩;dsimp only;go_wp2
   go_ret;exact⟨_,rfl,hb1,by rw[HD.out]; rfl⟩
theorem aa8 {α:Type} {p:α→Bool} {l:List α} {k:Nat} {x:α} (hx:l[k]? = some x) (h:(l.take k).any p=false) (hp:p x=false):(l.take (k+1)).any p=false:=by
 rw[take_snoc hx,List.any_append,h]; simp[hp]
theorem vP (w:World) (F:Ac) (v:Value) (l:List Nat) (hv:Ah w F v l) (hu:∀ x∈l,x < 4294967296) (hl:l.length≤1000000) :
  Calls Tryz.prog 190 #[v] w fun e w'=>e = .returned (.int .i64 (eG l))∧w=w':=by
 obtain⟨A,c,rfl,hc,hN⟩:=hv;have HN:=Aa hN; clear hN;have HU:=Aa hu; clear hu;by_cases h1:1024 < l.length
 ·have HE:=Aa (show eG l=4 by unfold eG; rw[if_pos h1]);have d1:decide ((1024:Int) < (l.length:Int))=true:=decide_eq_true (by omega);clear h1;go_enter Tryz.func190,Tryz.ntmps190;go_wp2
  go_ret;exact⟨by rw[HE.out]; rfl,rfl⟩
 have d1:decide ((1024:Int) < (l.length:Int))=false:=decide_eq_false (by omega);have H1:=Aa h1;go_enter Tryz.func190,Tryz.ntmps190;go_wp2
 go_loopw [10] (fun i wr=>∃ k:Nat,k≤l.length∧i = .int .i64 (k:Int)∧(l.take k).any (fun x=>decide (LB≤x))=false∧w=wr) (fun i _=>l.length - (intOf i).toNat)
 case atStart=>exact⟨0,by omega,rfl,rfl,rfl⟩
 case round =>
  obtain⟨k,hk,rfl,hpre,rfl⟩:=hrel;have HP:=Aa hpre; clear hpre;by_cases hlt:k < l.length
  ·obtain⟨b,o,rfl,_,hb,hx⟩:=HN.out (by omega);obtain⟨x,hx'⟩:=au hlt;have ex:=hx k x hx';unfold dU at ex; rw[Nat.mul_one] at ex;have hxu:=HU.out x (List.mem_of_getElem? hx');have HX:=Aa hx';clear hx hx';by_cases hbad:1000000000≤x
   ·have HE:=Aa (show eG l=3 by
     unfold eG;rw[if_neg H1.out,if_pos (List.any_eq_true.2 ⟨x,List.mem_of_getElem? HX.out,decide_eq_true hbad⟩)])
    have d2:decide ((1000000000:Int)≤(x:Int))=true:=decide_eq_true (by omega);clear hbad;go_wp2
    go_ret;exact⟨by rw[HE.out]; rfl,rfl⟩
   ·have d2:decide ((1000000000:Int)≤(x:Int))=false:=decide_eq_false (by omega);have HB:=Aa (show(decide (LB≤x))=false from decide_eq_false hbad);go_wp2
    go_roundw
    case rel=>exact⟨k+1,by omega,by go_num,aa8 HX.out HP.out HB.out,by first | rfl | trivial⟩
    case measure=>simp[intOf]; omega
  ·have HA:=Aa (show l.any (fun x=>decide (LB≤x))=false by have:=HP.out; rwa [List.take_of_length_le (by omega)] at this);by_cases h0:0 < l.length
   ·obtain⟨b,o,rfl,_,hb,hx⟩:=HN.out h0;obtain⟨n1,hn1⟩:∃ n1,n1+1=l.length:=⟨l.length - 1,by omega⟩;obtain⟨x,hx'⟩:=au (l:=l) (k:=n1) (by omega);have ex:=hx n1 x hx';unfold dU at ex; rw[Nat.mul_one] at ex;have HX:=Aa (show eG l=if x=0 then 3 else 0 by
     unfold eG;rw[if_neg H1.out,HA.out,if_neg (by decide),List.getLast?_eq_getElem?,show l.length - 1=n1 by omega,hx'];simp)
    have i1:(l.length:Int) - 1=(n1:Int):=by omega
    clear hx hx' hn1;by_cases hz:x=0
    ·have d3:((x:Int)==0)=true:=by rw[hz]; rfl
     have HE:=Aa (show eG l=3 by rw[HX.out,if_pos hz]);clear hz;go_wp2
     go_ret;exact⟨by rw[HE.out]; rfl,rfl⟩
    ·have d3:((x:Int)==0)=false:=beq_false_of_ne (by omega);have HE:=Aa (show eG l=0 by rw[HX.out,if_neg hz]);clear hz;go_wp2
     go_ret;exact⟨by rw[HE.out]; rfl,rfl⟩
   ·have HE:=Aa (show eG l=0 by
     have:l = []:=List.eq_nil_of_length_eq_zero (by omega);rw[this]; rfl)
    have d3:decide ((0:Int) < (l.length:Int))=false:=decide_eq_false (by omega);go_wp2
    go_ret;exact⟨by rw[HE.out]; rfl,rfl⟩
theorem acu (w:World) (F:Ac) (vn vd:Value) (num den:List Nat) (hn:Ah w F vn num) (hd:Ah w F vd den) (hnu:∀ x∈num,x < 4294967296) (hdu:∀ x∈den,x < 4294967296) (hln:num.length≤1000000) (hld:den.length≤1000000) :
  Calls Tryz.prog 162 #[vn,vd] w fun e w'=>e = .returned (.int .i64 (fH num den))∧w=w':=by
 have HN:=Aa hn; have HD:=Aa hd;obtain⟨A,c,rfl,hc,hN⟩:=hn;obtain⟨B,d,rfl,hd,hM⟩:=hd;clear hN hM;have HNU:=Aa hnu; have HDU:=Aa hdu; clear hnu hdu;have HP:=Aa (show fH num den=if eG num≠0 then eG num else if eG den≠0 then eG den else if den.length=0 then 6 else 0 from rfl);go_enter Tryz.func162,Tryz.ntmps162;go_wp2_with fail
 refine(vP w F _ num HN.out HNU.out hln).mono ?_;rintro e w' ⟨rfl,rfl⟩;generalize eG num=e1 at *;by_cases h1:e1=0
 ·have t1:(e1 != 0)=false:=by rw[h1]; rfl
  go_wp2_with fail
  refine(vP w F _ den HD.out HDU.out hld).mono ?_;rintro e w' ⟨rfl,rfl⟩;generalize eG den=e2 at *;by_cases h2:e2=0
  ·have t2:(e2 != 0)=false:=by rw[h2]; rfl
   by_cases h3:den.length=0
   ·have t3:((den.length:Int)==0)=true:=by rw[h3]; rfl
    have HE:=Aa (show fH num den=6 by rw[HP.out,if_neg (by simpa using h1),if_neg (by simpa using h2),if_pos h3]);clear h1 h2 h3;go_wp2
    go_ret;exact⟨by rw[HE.out]; rfl,rfl⟩
   ·have t3:((den.length:Int)==0)=false:=beq_false_of_ne (by omega);have HE:=Aa (show fH num den=0 by rw[HP.out,if_neg (by simpa using h1),if_neg (by simpa using h2),if_neg h3]);clear h1 h2 h3;go_wp2
    go_ret;exact⟨by rw[HE.out]; rfl,rfl⟩
  ·have t2:(e2 != 0)=true:=by simp[h2]
   have HE:=Aa (show fH num den=e2 by rw[HP.out,if_neg (by simpa using h1),if_pos h2]);clear h1 h2;go_wp2
   go_ret;exact⟨by rw[HE.out]; rfl,rfl⟩
 ·have t1:(e1 != 0)=true:=by simp[h1]
  have HE:=Aa (show fH num den=e1 by rw[HP.out,if_pos h1]);clear h1;go_wp2
  go_ret;exact⟨by rw[HE.out]; rfl,rfl⟩
def U32 (r:Raw):Prop:=(∀ x∈r.num,x < 4294967296)∧∀ x∈r.den,x < 4294967296
theorem acv (w:World) (F:Ac) (v:Value) (r:Raw) (hv:AQ w F v r) (hu:U32 r) (hln:r.num.length≤100000) (hld:r.den.length≤100000) (hT:Bq w) :
  Calls Tryz.prog 112 #[v] w (Ret w fun u _=>u = .int .i64 (iY r)):=by
 obtain⟨A,c,B,d,rfl,hn,hd⟩:=hv.open;have HN:=Aa hn; have HD:=Aa hd;clear hv hn hd;have HR:=Aa (show iY r=if fH r.num r.den≠0 then fH r.num r.den else if (r.num.length=0∧r.neg=true)∨Nat.gcd (ay r.num) (ay r.den)≠1 then 3 else 0 from rfl);have HU:=Aa hu; clear hu;have HK:=Aa (fun h=>xX (num:=r.num) (den:=r.den) h);obtain⟨neg,num,den⟩:=r;dsimp only at *;go_enter Tryz.func112,Tryz.ntmps112;go_wp2_with fail
 obtain⟨W,hW,rx,hB,hz⟩:=aJ w 83 #[.bool neg,.slice A num.length c,.slice B den.length d];rw[← hW];clear hW;have HTW:=Aa (hT.on hB);replace HN:=Aa (Ah.on HN.out (Below.same' hB F)); replace HD:=Aa (Ah.on HD.out (Below.same' hB F));have x0:=rx.cell (i:=0) rfl;have x1:=rx.cell (i:=1) rfl;have x2:=rx.cell (i:=2) rfl;clear rx hz;go_wp2_with fail
 refine(acu W F _ _ num den HN.out HD.out HU.out.1 HU.out.2 (by omega) (by omega)).mono ?_;rintro e w' ⟨rfl,rfl⟩;generalize fH num den=pe at *;by_cases h1:pe=0
 ·have t1:(pe != 0)=false:=by rw[h1]; rfl
  have hk:=HK.out h1;have hnn:Ag W F (.slice A num.length c) (ay num):=by unfold Ag; rw[← hk.1]; exact HN.out
  have hdd:Ag W F (.slice B den.length d) (ay den):=by unfold Ag; rw[← hk.2.1]; exact HD.out
  have hl1:(dig (ay num)).length≤100000:=by rw[← hk.1]; exact hln
  have hl2:(dig (ay den)).length≤100000:=by rw[← hk.2.1]; exact hld
  have HNN:=Aa hnn; have HDD:=Aa hdd;clear hnn hdd hk HK;by_cases h2:num.length=0∧neg=true
  ·have t2:((num.length:Int)==0)=true:=by rw[h2.1]; rfl
   have HE:=Aa (show iY ⟨neg,num,den⟩=3 by rw[HR.out,if_neg (by simpa using h1),if_pos (.inl h2)]);have h3:=h2.2;subst h3;clear h1 h2;go_wp2
   go_ret;exact⟨_,rfl,hB,by rw[HE.out]; rfl⟩
  ·have hor:(((num.length:Int)==0)=false)∨((((num.length:Int)==0)=true)∧neg=false):=by
    by_cases h:num.length=0
    ·refine .inr ⟨by rw[h]; rfl,?_⟩;cases hneg:neg
     ·rfl
     ·exact absurd ⟨h,hneg⟩ h2
    ·exact .inl (beq_false_of_ne (by omega))
   have HE:=Aa (show iY ⟨neg,num,den⟩=if Nat.gcd (ay num) (ay den)=1 then 0 else 3 by
    rw[HR.out,if_neg (by simpa using h1)];by_cases hg:Nat.gcd (ay num) (ay den)=1
    ·rw[if_neg (fun h=>h.elim h2 (fun h=>h hg)),if_pos hg]
    ·rw[if_pos (.inr hg),if_neg hg])
   clear h1 h2 HR;rcases hor with t2 | ⟨t2,rfl⟩
   all_goals
    go_wp2_with fail
    refine(acs W F _ _ (ay num) (ay den) HNN.out HDD.out hl1 hl2 HTW.out).mono ?_;rintro e w1 ⟨_,rfl,hb1,rfl⟩;have hB1:=hB.trans (hb1.mono hB.size);by_cases hg:Nat.gcd (ay num) (ay den)=1
    ·have hdg:decide (Nat.gcd (ay num) (ay den)=1)=true:=decide_eq_true hg;rw[hdg];have HE2:=Aa (HE.out.trans (if_pos hg));clear hg hdg;dsimp only;go_wp2
     go_ret;exact⟨_,rfl,hB1,by rw[HE2.out]; rfl⟩
    ·have hdg:decide (Nat.gcd (ay num) (ay den)=1)=false:=decide_eq_false hg;rw[hdg];have HE2:=Aa (HE.out.trans (if_neg hg));clear hg hdg;dsimp only;go_wp2
     go_ret;exact⟨_,rfl,hB1,by rw[HE2.out]; rfl⟩
 ·have t1:(pe != 0)=true:=by simp[h1]
  have HE:=Aa (show iY ⟨neg,num,den⟩=pe by rw[HR.out,if_pos h1]);clear h1;go_wp2
  go_ret;exact⟨_,rfl,hB,by rw[HE.out]; rfl⟩
def Fact.limbs (F:Ac) (l:List Nat):Fact:=⟨fun v w=>Ah w F v l,fun _ _ _ h hb=>h.on (Below.same' hb F)⟩
def Fact.zeros (B m:Nat):Fact:=⟨fun v w=>∃ b,v = .slice (some ⟨b,0,none⟩) m m∧B≤b∧Row w b 166 (aQ (List.replicate m 0)),fun _ _ _ ⟨b,h1,h2,h3⟩ hb=>⟨b,h1,h2,h3.below hb h3.lt⟩⟩
theorem Ah.drop {w:World} {F:Ac} {A:Option Addr} {c:Nat} {l:List Nat} (h:Ah w F (.slice A l.length c) l) {k:Nat} (hk:k≤l.length):∀ b o,A=some ⟨b,o,none⟩→Ah w F (.slice (some ⟨b,o+k,none⟩) (l.drop k).length (c - k)) (l.drop k):=by
 intro b o hA;obtain⟨A',c',he,hc,hr⟩:=h;cases he
 subst hA;refine⟨_,_,rfl,by rw[List.length_drop]; omega,fun h0=>?_⟩;obtain⟨b',o',e,hF,hlt,hx⟩:=hr (by rw[List.length_drop] at h0; omega);cases e
 refine⟨b,o+k,rfl,hF,hlt,fun j x hj=>?_⟩;rw[List.getElem?_drop] at hj;have:=hx _ x hj;rw[show o+k+j*1=o+(k+j)*1 by omega];exact this
theorem BO.other {w w':World} {B:Nat} {l:List Nat} {v:Value} (h:BO B l v w) (hk:∀ g,B≤g→g < w.heap.size→w'.heap[g]? = w.heap[g]?):BO B l v w':=by
 obtain⟨A,c,rfl,hc,hr⟩:=h;refine⟨A,c,rfl,hc,fun h0=>?_⟩;obtain⟨b,rest,rfl,hb,hrow⟩:=hr h0;exact⟨b,rest,rfl,hb,hrow.of_block (hk b hb hrow.lt)⟩
end Go.Proofs.YthmklhapjegfdaaGreatDoor

/- The greatest common divisor: long.One, long.Gcd, long.Coprime. -/
import Derived.Test.YtnmeejofpkhlkaaGreatDoorR18
import Derived.Test.YtnmeejofpkhlkaaGreatDoorR15
import Derived.BigQuiet
set_option linter.all false
set_option maxRecDepth 100000
set_option maxHeartbeats 12800000
namespace Go.Proofs.YtnmeejofpkhlkaaGreatDoor
open Lib renaming hid → Ag
open Go.RowKit
theorem aiE (w:World):Ah (w.alloc (.cells #[.int .u32 1] 103)) (fun b=>w.heap.size≤b) (.slice (some ⟨w.heap.size,0,none⟩) 1 1) 1:=acE w 1 rfl
theorem adZ (w:World):Calls Tryz.prog 181 #[] w (Ret w fun v w'=>Ah w' (fun b=>w.heap.size≤b) v 1):=by
 go_in;go_wp2
 go_ret;exact⟨_,rfl,(Below.refl _ _).alloc (Nat.le_refl _) _,aiE w⟩
theorem Leh.nat {a b M p0 q0 al be p q A B C D:Int} {a' b':Nat} (h:Leh a b M p0 q0 al be p q A B C D) (ea:a=a') (eb:b=b'):∃ X Y:Nat,A*a'+B*b'=(X:Int)∧C*a'+D*b'=(Y:Int)∧Y≤X∧X≤a'∧(B=0∨Y < b')∧Nat.gcd X Y=Nat.gcd a' b':=by
 subst ea eb;obtain⟨X,hX⟩:∃ X:Nat,A*a'+B*b'=(X:Int):=⟨(A*a'+B*b').toNat,by have:=h.y0; have:=h.yx; omega⟩;obtain⟨Y,hY⟩:∃ Y:Nat,C*a'+D*b'=(Y:Int):=⟨(C*a'+D*b').toNat,by have:=h.y0; omega⟩;refine⟨X,Y,hX,hY,by have:=h.yx; omega,by have:=h.xa; omega,by have:=h.prog; omega,?_⟩;have:=h.gcd;rw[hX,hY] at this;simpa using this
theorem afx (w:World) (F:Foot) (va vb:Value) (a b:Nat) (ha:Ah w F va a) (hb:Ah w F vb b) (hla:(dig a).length≤2) (hlb:(dig b).length≤2) (hT:Bz w) :
  Calls Tryz.prog 157 #[va,vb] w (Ret w fun v w'=>Ah w' (fun b=>w.heap.size≤b) v (Nat.gcd a b)):=by
 have HA:=Ag ha;have HB:=Ag hb;obtain⟨A,c,rfl,hc,hN⟩:=ha;obtain⟨B,d,rfl,hd,hM⟩:=hb;clear hN hM;have ha18:=tV hla;have hb18:=tV hlb;have d1:decide (((dig a).length:Int)≤2)=true:=decide_eq_true byOmega;have d2:decide (((dig b).length:Int)≤2)=true:=decide_eq_true byOmega;obtain⟨g,hg⟩:=named (Nat.gcd a b);have hgl:g < 18446744073709551616:=by
  rcases Nat.eq_zero_or_pos a with h | h
  ·rw[hg,h,Nat.gcd_zero_left];omega
  ·have:=Nat.gcd_le_left b h;omega
 have HG:=Ag hg;rw[← hg];clear hg;go_in;go_wp2_with fail
 refine(oq w F _ a HA.out hla).mono ?_;rintro e w' ⟨rfl,rfl⟩;go_wp2_with fail
 refine(oq w F _ b HB.out hlb).mono ?_;rintro e w' ⟨rfl,rfl⟩;go_wp2_with fail
 refine(uZ w a b ha18 hb18 hT).mono ?_;rintro e w1 ⟨_,rfl,hb1,rfl⟩;rw[← HG.out];dsimp only;go_wp2_with fail
 refine(acy w1 g hgl).mono ?_;rintro e w2 ⟨v,rfl,hb2,hv⟩;have HV:=Ag hv;clear hv;have hz:=hb1.size;go_wp2
 go_ret;exact⟨_,rfl,hb1.trans (hb2.mono hz),HV.out.mono fun b hb _=>by omega⟩
theorem aiF (w:World) (F:Foot) (va vb:Value) (a b:Nat) (ha:Ah w F va a) (hb:Ah w F vb b) (hla:(dig a).length≤100000) (hlb:(dig b).length≤100000) (hbig:¬ ((dig a).length≤2∧(dig b).length≤2)) (h1:a=1∨b=1) :
  Calls Tryz.prog 157 #[va,vb] w (Ret w fun v w'=>Ah w' (fun b=>w.heap.size≤b) v (Nat.gcd a b)):=by
 have HA:=Ag ha;have HB:=Ag hb;obtain⟨A,c,rfl,hc,hN⟩:=ha;obtain⟨B,d,rfl,hd,hM⟩:=hb;clear hN hM;have HG:=Ag (show Nat.gcd a b=1 by rcases h1 with h | h <;> simp[h]);rw[HG.out];have hl1:(dig 1).length=1:=by rw[iZ];rfl
 by_cases ha1:a=1
 ·have d1:decide (((dig a).length:Int)≤2)=true:=decide_eq_true (by rw[ha1]; omega);have d2:decide (((dig b).length:Int)≤2)=false:=decide_eq_false (by rw[ha1,hl1] at hbig; omega);have e1:decide (a=1)=true:=decide_eq_true ha1;clear hbig h1 ha1;go_in;go_wp2_with fail
  refine(lW w F _ a HA.out byOmega).mono ?_;rintro e w' ⟨rfl,rfl⟩;rw[e1];exact za4
 ·have hb1:b=1:=h1.resolve_left ha1;have d1:decide (((dig a).length:Int)≤2)=false:=decide_eq_false (by rw[hb1,hl1] at hbig; omega);have e1:decide (a=1)=false:=decide_eq_false ha1;have e2:decide (b=1)=true:=decide_eq_true hb1;clear hbig h1 ha1 hb1;go_in;go_wp2_with fail
  refine(lW w F _ a HA.out byOmega).mono ?_;rintro e w' ⟨rfl,rfl⟩;rw[e1];dsimp only;go_wp2_with fail
  refine(lW w F _ b HB.out byOmega).mono ?_;rintro e w' ⟨rfl,rfl⟩;rw[e2];exact za4
theorem aiG (w:World) (F:Foot) (va vb:Value) (a0 b0:Nat) (ha:Ah w F va a0) (hb:Ah w F vb b0) (hla:(dig a0).length≤100000) (hlb:(dig b0).length≤100000) (hbig:¬ ((dig a0).length≤2∧(dig b0).length≤2)) (ha1:a0≠1) (hb1:b0≠1) (hT:Bz w) :
  Calls Tryz.prog 157 #[va,vb] w (Ret w fun v w'=>Ah w' (fun b=>w.heap.size≤b) v (Nat.gcd a0 b0)):=by
 have HA:=Ag ha;have HB:=Ag hb;obtain⟨A,c,rfl,hc,hN⟩:=ha;obtain⟨B,d,rfl,hd,hM⟩:=hb;clear hN hM;obtain⟨G,hG⟩:=named (Nat.gcd a0 b0);rw[← hG];have HG:=Ag hG;clear hG;have e1:decide (a0=1)=false:=decide_eq_false ha1;have e2:decide (b0=1)=false:=decide_eq_false hb1;have hd12:(decide (((dig a0).length:Int)≤2)=false)∨(decide (((dig a0).length:Int)≤2)=true∧decide (((dig b0).length:Int)≤2)=false):=by
  by_cases h:(dig a0).length≤2
  ·exact .inr ⟨decide_eq_true byOmega,decide_eq_false byOmega⟩
  ·exact .inl (decide_eq_false byOmega)
 have HB3:=Ag hbig;clear ha1 hb1 hbig;have hT0:=hT.lt;go_in
 rcases hd12 with d1 | ⟨d1,d2⟩
 all_goals
  go_wp2_with fail
  refine(lW w F _ a0 HA.out byOmega).mono ?_;rintro e w' ⟨rfl,rfl⟩;rw[e1];dsimp only;go_wp2_with fail
  refine(lW w F _ b0 HB.out byOmega).mono ?_;rintro e w' ⟨rfl,rfl⟩;rw[e2];dsimp only;clear d1 e1 e2;go_wp2_with fail
  refine(wF w F _ _ a0 b0 HA.out HB.out byOmega byOmega).mono ?_;rintro e w' ⟨rfl,z0,rfl⟩;go_upto_if 37 with fail
  go_cut [0,1] from 34 to 39 (fun va vb wx=>∃ a b,wx=w.drewN z0∧Ah wx (Ext F w.heap.size) va a∧Ah wx (Ext F w.heap.size) vb b∧b≤a∧G=Nat.gcd a b∧(dig a).length≤100000)
  case first =>
   by_cases h:a0 < b0
   ·have hord:decide (bZ a0 b0 < 0)=true:=by rw[iy h];rfl
    have hod:bZ a0 b0 < 0:=by rw[iy h];decide
    generalize bZ a0 b0=od at *;go_wp2_with fail
    go_meet
    exact zbh
   ·have hord:decide (bZ a0 b0 < 0)=false:=by
     refine zbx ?_;split <;> (try split) <;> omega
    have hod:0≤bZ a0 b0:=by have:=of_decide_eq_false hord;omega
    generalize bZ a0 b0=od at *;go_wp2_with fail
    go_meet
    exact zbJ
  case rest =>
  obtain⟨a,b,rfl,hna,hnb,hba,wJ,hlen⟩:=hcut;have HS:=Ag (And.intro hna (And.intro hnb wJ));clear HA HB hna hnb wJ hla hlb HG;go_wp2
  go_loopg [0,1] b (fun f va vb wr=>∃ a b,b=f∧Ah wr (Ext F w.heap.size) va a∧Ah wr (Ext F w.heap.size) vb b∧b≤a∧G=Nat.gcd a b∧(dig a).length≤100000∧Below w.heap.size w wr)
  case atStart=>exact⟨a,b,rfl,HS.out.1,HS.out.2.1,hba,HS.out.2.2,hlen,aI (Below.refl _ w) z0⟩
  case round =>
   clear HS hba hlen;obtain⟨a,b,rfl,hna,hnb,hba,wJ,hlen,hbel⟩:=hrel;have HNA:=Ag hna;have HNB:=Ag hnb;have HGC:=Ag wJ;obtain⟨A',c',rfl,hc',_⟩:=hna;obtain⟨B',d',rfl,hd',_⟩:=hnb;have hlb:(dig b).length≤(dig a).length:=aU hba;have hz:=hbel.size;have HTW:=Ag (hT.below hT0 hbel);clear wJ;by_cases h2:2 < (dig b).length
   ·have d2':decide ((2:Int) < ((dig b).length:Int))=true:=decide_eq_true byOmega;have hbp:0 < b:=by
     rcases Nat.eq_zero_or_pos b with h | h
     ·rw[h,bD] at h2;simp at h2
     ·exact h
    go_wp2_with fail
    refine(lead_any wr (Ext F w.heap.size) _ _ a b HNA.out HNB.out hba byOmega hlen).mono ?_;rintro e w1 ⟨_,rfl,hb1,M,p,q,rfl,hM,hp,hq,hp18⟩;have hpq:q≤p:=by rw[hp,hq];exact Nat.div_le_div_right hba
    have hst:=Leh.start (a:=(a:Int)) (b:=(b:Int)) (M:=(M:Int)) (p0:=(p:Int)) (q0:=(q:Int)) (al:=((a % M:Nat):Int)) (be:=((b % M:Nat):Int))
     (by rw[hp]; have:=Nat.div_add_mod' a M; exact_mod_cast this.symm) (by rw[hq]; have:=Nat.div_add_mod' b M; exact_mod_cast this.symm) byOmega (by have:=Nat.mod_lt a hM; omega) byOmega (by have:=Nat.mod_lt b hM; omega) byOmega byOmega byOmega byOmega
    have HST:=Ag hst;clear hst hp hq hpq;have hz1:=hb1.size;have hB1:=hbel.trans (hb1.mono hz);dsimp only;go_wp2_with fail
    refine(afm w1 a b _ _ _ (p:Int) (q:Int) HST.out byOmega).mono ?_;rintro e w' ⟨⟨p',q',xA,xB,xC,xD,rfl,jH,a1,a2,b1,b2,c1,c2,d1,d2⟩,rfl⟩;obtain⟨X,Y,hX,hY,hyx,hxa,hyb,hg⟩:=jH.nat rfl rfl;have HXY:=Ag (And.intro hX (And.intro hY hg));clear jH HST hX hY hg;dsimp only;by_cases hB0:xB=0
    ·have tB:(xB==0)=true:=by rw[hB0];rfl
     clear hB0 hyb;go_wp2_with fail
     refine(adO w1 (Ext F w.heap.size) _ _ a b (HNA.out.below hb1) (HNB.out.below hb1) byOmega hlen byOmega).mono ?_;rintro e w2 ⟨_,rfl,hb2,vq,vr,rfl,hq,hr⟩;have HR:=Ag hr;clear hq hr;have hml:a % b < b:=Nat.mod_lt _ hbp;go_wp2
     go_roundg (a % b)
     case measure=>exact hml
     case rel=>exact⟨b,a % b,rfl,(HNB.out.below hb1).below hb2,HR.out.mono (fun b hb _=>hb.elim id fun h=>.inr byOmega),byOmega,by rw[HGC.out,Nat.gcd_comm,Nat.gcd_rec,Nat.gcd_comm],byOmega,hB1.trans (hb2.mono byOmega)⟩
    ·have tB:(xB==0)=false:=beq_false_of_ne hB0;have hYb:=hyb.resolve_left hB0;clear hB0 hyb;go_wp2_with fail
     refine(adP w1 (Ext F w.heap.size) _ _ a b xA xB X (HNA.out.below hb1) (HNB.out.below hb1) hlen hlb byOmega byOmega byOmega byOmega HXY.out.1 hxa).mono ?_;rintro e w2 ⟨vx,rfl,hb2,hvx⟩;have HVX:=Ag hvx;clear hvx;have hz2:=hb2.size;go_wp2_with fail
     refine(adP w2 (Ext F w.heap.size) _ _ a b xC xD Y ((HNA.out.below hb1).below hb2) ((HNB.out.below hb1).below hb2) hlen hlb byOmega byOmega byOmega byOmega HXY.out.2.1 byOmega).mono ?_;rintro e w3 ⟨vy,rfl,hb3,hvy⟩;have HVY:=Ag hvy;clear hvy;have hXl:(dig X).length≤100000:=by have:=aU hxa;omega
     go_wp2
     go_roundg Y
     case measure=>exact hYb
     case rel=>exact⟨X,Y,rfl,(HVX.out.below hb3).mono (fun b hb _=>.inr byOmega),HVY.out.mono (fun b hb _=>.inr byOmega),hyx,by rw[HGC.out]; exact HXY.out.2.2.symm,hXl,hB1.trans ((hb2.trans (hb3.mono hz2)).mono byOmega)⟩
   ·have d2':decide ((2:Int) < ((dig b).length:Int))=false:=decide_eq_false byOmega;by_cases hb0:b=0
    ·have e0:(((dig b).length:Int)==0)=true:=by rw[hb0,bD];rfl
     have HF:=Ag (show G=a by rw[HGC.out,hb0,Nat.gcd_zero_right]);clear hb0;go_wp2_with fail
     refine(abJ wr (Ext F w.heap.size) _ a HNA.out byOmega).mono ?_;rintro e w1 ⟨v,rfl,hb1,hv⟩;have HV:=Ag hv;clear hv;go_wp2
     go_ret;exact⟨_,rfl,hbel.trans (hb1.mono hz),by rw[HF.out]; exact HV.out.mono fun b hb _=>by omega⟩
    ·have e0:(((dig b).length:Int)==0)=false:=by have:=bG.2 hb0;exact beq_false_of_ne byOmega
     go_wp2_with fail
     refine(adO wr (Ext F w.heap.size) _ _ a b HNA.out HNB.out hb0 hlen byOmega).mono ?_;rintro e w1 ⟨_,rfl,hb1,vq,vr,rfl,hq,hr⟩;have HR:=Ag hr;clear hq hr;have hz1:=hb1.size;have hml:a % b < b:=Nat.mod_lt _ byOmega;have hlr:(dig (a % b)).length≤2:=Nat.le_trans (aU (Nat.le_of_lt hml)) byOmega;have hb18:b < 1000000000000000000:=tV byOmega;obtain⟨r,hr⟩:=named (a % b);rw[← hr] at hml hlr HR;have HF:=Ag (show G=Nat.gcd b r by rw[HGC.out,hr,Nat.gcd_comm,Nat.gcd_rec,Nat.gcd_comm]);clear hr hb0;have hGl:Nat.gcd b r < 18446744073709551616:=by
      have:=Nat.gcd_le_left r (show 0 < b by omega);omega
     dsimp only;go_wp2_with fail
     refine(oq w1 (Ext F w.heap.size) _ b (HNB.out.below hb1) byOmega).mono ?_;rintro e w' ⟨rfl,rfl⟩;go_wp2_with fail
     refine(oq w1 (Ext (Ext F w.heap.size) wr.heap.size) _ r HR.out hlr).mono ?_;rintro e w' ⟨rfl,rfl⟩;go_wp2_with fail
     refine(uZ w1 b r hb18 byOmega (HTW.out.on hb1)).mono ?_;rintro e w2 ⟨_,rfl,hb2,rfl⟩;rw[← HF.out];rw[← HF.out] at hGl;have hz2:=hb2.size;dsimp only;go_wp2_with fail
     refine(acy w2 G hGl).mono ?_;rintro e w3 ⟨v,rfl,hb3,hv⟩;have HV:=Ag hv;clear hv;go_wp2
     go_ret;exact⟨_,rfl,hbel.trans ((hb1.trans ((hb2.trans (hb3.mono hz2)).mono hz1)).mono hz),HV.out.mono fun b hb _=>by omega⟩
theorem aiH (w:World) (F:Foot) (va vb:Value) (a b:Nat) (ha:Ah w F va a) (hb:Ah w F vb b) (hla:(dig a).length≤100000) (hlb:(dig b).length≤100000) (hT:Bz w) :
  Calls Tryz.prog 157 #[va,vb] w (Ret w fun v w'=>Ah w' (fun b=>w.heap.size≤b) v (Nat.gcd a b)):=by
 by_cases h:(dig a).length≤2∧(dig b).length≤2
 ·exact afx w F va vb a b ha hb h.1 h.2 hT
 by_cases h1:a=1∨b=1
 ·exact aiF w F va vb a b ha hb hla hlb h h1
 ·exact aiG w F va vb a b ha hb hla hlb h (fun e=>h1 (.inl e)) (fun e=>h1 (.inr e)) hT
theorem acK (w:World) (F:Foot) (va vb:Value) (a b:Nat) (ha:Ah w F va a) (hb:Ah w F vb b) (hla:(dig a).length≤100000) (hlb:(dig b).length≤100000) (hT:Bz w) :
  Calls Tryz.prog 118 #[va,vb] w (Ret w fun v _=>v = .bool (decide (Nat.gcd a b=1))):=by
 have HA:=Ag ha;have HB:=Ag hb;obtain⟨A,c,rfl,hc,hN⟩:=ha;obtain⟨B,d,rfl,hd,hM⟩:=hb;clear hN hM;obtain⟨g,hg⟩:=named (Nat.gcd a b);have HG:=Ag hg;have HD:=Ag (show decide (Nat.gcd a b=1)=decide (g=1) from decide_eq_decide.2 (by rw[hg]));have hgl:(dig g).length≤100000:=by
  rcases Nat.eq_zero_or_pos a with h | h
  ·rw[hg,h,Nat.gcd_zero_left];exact hlb
  ·exact Nat.le_trans (aU (by rw[hg]; exact Nat.gcd_le_left b h)) hla
 clear hg;by_cases hs:(dig a).length≤2∧(dig b).length≤2
 ·have d1:decide (((dig a).length:Int)≤2)=true:=decide_eq_true byOmega;have d2:decide (((dig b).length:Int)≤2)=true:=decide_eq_true byOmega;have ha18:=tV hs.1; have hb18:=tV hs.2;have hs1:=hs.1; have hs2:=hs.2;have HI:=Ag (show((g:Int)==1)=decide (g=1) by
   by_cases h:g=1
   ·subst h;rfl
   ·rw[decide_eq_false h]; exact beq_false_of_ne byOmega)
  clear hs;go_in;go_wp2_with fail
  refine(oq w F _ a HA.out hs1).mono ?_;rintro e w' ⟨rfl,rfl⟩;go_wp2_with fail
  refine(oq w F _ b HB.out hs2).mono ?_;rintro e w' ⟨rfl,rfl⟩;go_wp2_with fail
  refine(uZ w a b ha18 hb18 hT).mono ?_;rintro e w1 ⟨_,rfl,hb1,rfl⟩;rw[← HG.out];dsimp only;go_wp2
  go_ret;exact⟨_,rfl,hb1,by rw[HD.out,← HI.out]; rfl⟩
 ·have hd12:(decide (((dig a).length:Int)≤2)=false)∨(decide (((dig a).length:Int)≤2)=true∧decide (((dig b).length:Int)≤2)=false):=by
   by_cases h:(dig a).length≤2
   ·exact .inr ⟨decide_eq_true byOmega,decide_eq_false byOmega⟩
   ·exact .inl (decide_eq_false byOmega)
  clear hs;go_in
  rcases hd12 with d1 | ⟨d1,d2⟩
  all_goals
   go_wp2_with fail
   refine(aiH w F _ _ a b HA.out HB.out hla hlb hT).mono ?_;rintro e w1 ⟨v,rfl,hb1,hv⟩;rw[← HG.out] at hv;have HV:=Ag hv;clear hv;dsimp only;go_wp2_with fail
   refine(lW w1 _ _ g HV.out byOmega).mono ?_;rintro e w' ⟨rfl,rfl⟩;dsimp only;go_wp2
   go_ret;exact⟨_,rfl,hb1,by rw[HD.out]; rfl⟩
theorem abf {α:Type} {p:α→Bool} {l:List α} {k:Nat} {x:α} (hx:l[k]? = some x) (h:(l.take k).any p=false) (hp:p x=false):(l.take (k+1)).any p=false:=by
 rw[take_snoc hx,List.any_append,h];simp[hp]
theorem wP (w:World) (F:Foot) (v:Value) (l:List Nat) (hv:Aj w F v l) (hu:∀ x∈l,x < 4294967296) (hl:l.length≤1000000) :
  Calls Tryz.prog 153 #[v] w fun e w'=>e = .returned (.int .i64 (fZ l))∧w=w':=by
 obtain⟨A,c,rfl,hc,hN⟩:=hv;have HN:=Ag hN;clear hN;have HU:=Ag hu;clear hu;by_cases h1:1024 < l.length
 ·have HE:=Ag (show fZ l=4 by unfold fZ; rw[if_pos h1]);have d1:decide ((1024:Int) < (l.length:Int))=true:=decide_eq_true byOmega;clear h1;go_in;exact YA
 have d1:decide ((1024:Int) < (l.length:Int))=false:=decide_eq_false byOmega;have H1:=Ag h1;go_in;go_wp2
 go_loopw [10] (fun i wr=>∃ k:Nat,k≤l.length∧i = .int .i64 (k:Int)∧(l.take k).any (fun x=>decide (LB≤x))=false∧w=wr) (fun i _=>l.length - (intOf i).toNat)
 case atStart=>exact⟨0,byOmega,rfl,rfl,rfl⟩
 case round =>
  obtain⟨k,hk,rfl,hpre,rfl⟩:=hrel;have HP:=Ag hpre;clear hpre;by_cases hlt:k < l.length
  ·obtain⟨b,o,rfl,_,hb,hx⟩:=HN.out byOmega;refine zbj ?_;intro x hx' ex;unfold dB at ex;rw[Nat.mul_one] at ex;have hxu:=HU.out x (List.mem_of_getElem? hx');have HX:=Ag hx';clear hx hx';by_cases hbad:1000000000≤x
   ·have HE:=Ag (show fZ l=3 by
     unfold fZ;rw[if_neg H1.out,if_pos (List.any_eq_true.2 ⟨x,List.mem_of_getElem? HX.out,decide_eq_true hbad⟩)])
    have d2:decide ((1000000000:Int)≤(x:Int))=true:=decide_eq_true byOmega;clear hbad;exact YA
   ·have d2:decide ((1000000000:Int)≤(x:Int))=false:=decide_eq_false byOmega;have HB:=Ag (show(decide (LB≤x))=false from decide_eq_false hbad);go_wp2
    go_roundw
    case rel=>exact⟨k+1,byOmega,by go_num,abf HX.out HP.out HB.out,by first | rfl | trivial⟩
    case measure=>simp[intOf]; omega
  ·have HA:=Ag (show l.any (fun x=>decide (LB≤x))=false by have:=HP.out; rwa [List.take_of_length_le byOmega] at this);by_cases h0:0 < l.length
   ·obtain⟨b,o,rfl,_,hb,hx⟩:=HN.out h0;obtain⟨n1,hn1⟩:∃ n1,n1+1=l.length:=⟨l.length - 1,byOmega⟩;obtain⟨x,hx'⟩:=getSome (l:=l) (k:=n1) byOmega;have ex:=hx n1 x hx';unfold dB at ex; rw[Nat.mul_one] at ex;have HX:=Ag (show fZ l=if x=0 then 3 else 0 by
     unfold fZ;rw[if_neg H1.out,HA.out,if_neg ay,List.getLast?_eq_getElem?,show l.length - 1=n1 by omega,hx'];simp)
    have i1:(l.length:Int) - 1=(n1:Int):=byOmega;clear hx hx' hn1;by_cases hz:x=0
    ·have d3:((x:Int)==0)=true:=by rw[hz];rfl
     have HE:=Ag (show fZ l=3 by rw[HX.out,if_pos hz]);clear hz;exact YA
    ·have d3:((x:Int)==0)=false:=beq_false_of_ne byOmega;have HE:=Ag (show fZ l=0 by rw[HX.out,if_neg hz]);clear hz;exact YA
   ·have HE:=Ag (show fZ l=0 by
     have:l = []:=List.eq_nil_of_length_eq_zero byOmega;rw[this]; rfl)
    have d3:decide ((0:Int) < (l.length:Int))=false:=decide_eq_false byOmega;exact YA
theorem acL (w:World) (F:Foot) (vn vd:Value) (num den:List Nat) (hn:Aj w F vn num) (hd:Aj w F vd den) (hnu:∀ x∈num,x < 4294967296) (hdu:∀ x∈den,x < 4294967296) (hln:num.length≤1000000) (hld:den.length≤1000000) :
  Calls Tryz.prog 117 #[vn,vd] w fun e w'=>e = .returned (.int .i64 (gQ num den))∧w=w':=by
 have HN:=Ag hn;have HD:=Ag hd;obtain⟨A,c,rfl,hc,hN⟩:=hn;obtain⟨B,d,rfl,hd,hM⟩:=hd;clear hN hM;have HNU:=Ag hnu;have HDU:=Ag hdu;clear hnu hdu;have HP:=Ag (show gQ num den=if fZ num≠0 then fZ num else if fZ den≠0 then fZ den else if den.length=0 then 6 else 0 from rfl);go_in;go_wp2_with fail
 refine(wP w F _ num HN.out HNU.out hln).mono ?_;rintro e w' ⟨rfl,rfl⟩;generalize fZ num=e1 at *;by_cases h1:e1=0
 ·have t1:(e1 != 0)=false:=by rw[h1];rfl
  go_wp2_with fail
  refine(wP w F _ den HD.out HDU.out hld).mono ?_;rintro e w' ⟨rfl,rfl⟩;generalize fZ den=e2 at *;by_cases h2:e2=0
  ·have t2:(e2 != 0)=false:=by rw[h2];rfl
   by_cases h3:den.length=0
   ·have t3:((den.length:Int)==0)=true:=by rw[h3];rfl
    have HE:=Ag (show gQ num den=6 by rw[HP.out,if_neg (by simpa using h1),if_neg (by simpa using h2),if_pos h3]);clear h1 h2 h3;exact YA
   ·have t3:((den.length:Int)==0)=false:=beq_false_of_ne byOmega;have HE:=Ag (show gQ num den=0 by rw[HP.out,if_neg (by simpa using h1),if_neg (by simpa using h2),if_neg h3]);clear h1 h2 h3;exact YA
  ·have t2:(e2 != 0)=true:=by simp[h2]
   have HE:=Ag (show gQ num den=e2 by rw[HP.out,if_neg (by simpa using h1),if_pos h2]);clear h1 h2;exact YA
 ·have t1:(e1 != 0)=true:=by simp[h1]
  have HE:=Ag (show gQ num den=e1 by rw[HP.out,if_pos h1]);clear h1;exact YA
def U32 (r:Raw):Prop:=(∀ x∈r.num,x < 4294967296)∧∀ x∈r.den,x < 4294967296
theorem wQ (w:World) (F:Foot) (v:Value) (r:Raw) (hv:Ak w F v r) (hu:U32 r) (hln:r.num.length≤100000) (hld:r.den.length≤100000) (hT:Bz w) :
  Calls Tryz.prog 67 #[v] w (Ret w fun u _=>u = .int .i64 (iT r)):=by
 obtain⟨A,c,B,d,rfl,hn,hd⟩:=hv.open;have HN:=Ag hn;have HD:=Ag hd;clear hv hn hd;have HR:=Ag (show iT r=if gQ r.num r.den≠0 then gQ r.num r.den else if (r.num.length=0∧r.neg=true)∨Nat.gcd (aH r.num) (aH r.den)≠1 then 3 else 0 from rfl);have HU:=Ag hu;clear hu;have HK:=Ag (fun h=>yN (num:=r.num) (den:=r.den) h);obtain⟨neg,num,den⟩:=r;dsimp only at *;go_in;go_wp2_with fail
 obtain⟨W,hW,rx,hB,hz⟩:=aO w 42 #[.bool neg,.slice A num.length c,.slice B den.length d];rw[← hW];clear hW;have HTW:=Ag (hT.on hB);replace HN:=Ag (Aj.on HN.out (Below.same' hB F));replace HD:=Ag (Aj.on HD.out (Below.same' hB F));refine Zi ?_;intro x0 x1 x2;clear rx hz;go_wp2_with fail
 refine(acL W F _ _ num den HN.out HD.out HU.out.1 HU.out.2 byOmega byOmega).mono ?_;rintro e w' ⟨rfl,rfl⟩;generalize gQ num den=pe at *;by_cases h1:pe=0
 ·have t1:(pe != 0)=false:=by rw[h1];rfl
  have hk:=HK.out h1;have hnn:Ah W F (.slice A num.length c) (aH num):=by unfold Ah;rw[← hk.1];exact HN.out
  have hdd:Ah W F (.slice B den.length d) (aH den):=by unfold Ah;rw[← hk.2.1];exact HD.out
  have hl1:(dig (aH num)).length≤100000:=by rw[← hk.1];exact hln
  have hl2:(dig (aH den)).length≤100000:=by rw[← hk.2.1];exact hld
  have HNN:=Ag hnn;have HDD:=Ag hdd;clear hnn hdd hk HK;by_cases h2:num.length=0∧neg=true
  ·have t2:((num.length:Int)==0)=true:=by rw[h2.1];rfl
   have HE:=Ag (show iT ⟨neg,num,den⟩=3 by rw[HR.out,if_neg (by simpa using h1),if_pos (.inl h2)]);have h3:=h2.2;subst h3;clear h1 h2;exact zci
  ·have hor:(((num.length:Int)==0)=false)∨((((num.length:Int)==0)=true)∧neg=false):=by
    by_cases h:num.length=0
    ·refine .inr ⟨by rw[h]; rfl,?_⟩;cases hneg:neg
     ·rfl
     ·exact absurd ⟨h,hneg⟩ h2
    ·exact .inl (beq_false_of_ne byOmega)
   have HE:=Ag (show iT ⟨neg,num,den⟩=if Nat.gcd (aH num) (aH den)=1 then 0 else 3 by
    rw[HR.out,if_neg (by simpa using h1)];by_cases hg:Nat.gcd (aH num) (aH den)=1
    ·rw[if_neg (fun h=>h.elim h2 (fun h=>h hg)),if_pos hg]
    ·rw[if_pos (.inr hg),if_neg hg])
   clear h1 h2 HR;rcases hor with t2 | ⟨t2,rfl⟩
   all_goals
    go_wp2_with fail
    refine(acK W F _ _ (aH num) (aH den) HNN.out HDD.out hl1 hl2 HTW.out).mono ?_;rintro e w1 ⟨_,rfl,hb1,rfl⟩;have hB1:=hB.trans (hb1.mono hB.size);by_cases hg:Nat.gcd (aH num) (aH den)=1
    ·have hdg:decide (Nat.gcd (aH num) (aH den)=1)=true:=decide_eq_true hg;rw[hdg];have HE2:=Ag (HE.out.trans (if_pos hg));clear hg hdg;dsimp only;go_wp2
     go_ret;exact⟨_,rfl,hB1,by rw[HE2.out]; rfl⟩
    ·have hdg:decide (Nat.gcd (aH num) (aH den)=1)=false:=decide_eq_false hg;rw[hdg];have HE2:=Ag (HE.out.trans (if_neg hg));clear hg hdg;dsimp only;go_wp2
     go_ret;exact⟨_,rfl,hB1,by rw[HE2.out]; rfl⟩
 ·have t1:(pe != 0)=true:=by simp[h1]
  have HE:=Ag (show iT ⟨neg,num,den⟩=pe by rw[HR.out,if_pos h1]);clear h1;exact zci
theorem sF:rl 1=1:=by
 unfold rl;exact zcj
theorem aaB (x:Rat) (h:iT (aG x)=0):fG (aG x)=if dF x=true∨0 < mQ x 1 then 2 else 0:=by
 unfold fG;rw[if_neg (by simpa using h),oJ];rfl
theorem abP (w:World) (F:Foot) (v:Value) (r:Raw) (hv:Ak w F v r) (hu:U32 r) (hln:r.num.length≤100000) (hld:r.den.length≤100000) (hT:Bz w) :
  Calls Tryz.prog 75 #[v] w (Ret w fun u _=>u = .int .i64 (fG r)):=by
 have HV:=Ag hv.old;obtain⟨A,c,B,d,rfl,hn,hd⟩:=hv.open;clear hv hn hd;have HU:=Ag hu;clear hu;have HTT:=Ag hT;clear hT;go_in;go_wp2_with fail
 obtain⟨W,hW,rx,hB,hz⟩:=aO w 42 #[.bool r.neg,.slice A r.num.length c,.slice B r.den.length d];rw[← hW];clear hW;replace HTT:=Ag (HTT.out.on hB);replace HV:=Ag (HV.out.on (Below.same' hB _));refine Zi ?_;intro x0 x1 x2;clear rx;have hz:w.heap.size+1≤W.heap.size:=byOmega;go_wp2_with fail
 refine(wQ W _ _ r HV.out HU.out hln hld HTT.out).mono ?_;rintro e wn ⟨_,rfl,hb,rfl⟩;refine Yg ?_;clear x0 x1 x2;intro x0 x1 x2;replace HV:=Ag (HV.out.below hb);refine Zc ?_;clear hz hB hb;intro hz hB;clear HTT;by_cases h1:iT r=0
 ·obtain⟨⟨x,rfl⟩,h2,h3⟩:=abE h1;have hrl:rl x≤1024:=by unfold rl;exact Nat.max_le.2 ⟨h2,h3⟩
  have t1:(iT (aG x) != 0)=false:=by rw[h1];rfl
  have HE:=Ag (aaB x h1);have HB:=Ag (show(aG x).neg=dF x from rfl);clear h1 h2 h3 hln hld HU;generalize iT (aG x)=re at *;by_cases hneg:dF x=true
  ·have HF:=Ag (HE.out.trans (if_pos (.inl hneg)));have e1:(aG x).neg=true:=by rw[HB.out];exact hneg
   clear hneg HB HE;dsimp only;go_wp2
   go_ret;exact⟨_,rfl,hB,by rw[HF.out]; rfl⟩
  ·have e1:(aG x).neg=false:=by rw[HB.out];simpa using hneg
   have HF:=Ag (HE.out.trans (show(if dF x=true∨0 < mQ x 1 then (2:Int) else 0)=if 0 < mQ x 1 then 2 else 0 by
    by_cases h:0 < mQ x 1
    ·rw[if_pos h,if_pos (.inr h)]
    ·rw[if_neg h,if_neg (fun k=>k.elim hneg h)]))
   clear hneg HB HE;obtain⟨o,ho⟩:=named (mQ x 1);rw[← ho] at HF;have HO:=Ag ho;clear ho;by_cases hgt:0 < o
   ·skip
    have d1:decide (0 < o)=true:=decide_eq_true hgt;rw[e1] at HV x0;have HG:=Ag (HF.out.trans (if_pos hgt));clear hgt HF;dsimp only;exact ZW
   ·skip
    have d1:decide (0 < o)=false:=decide_eq_false hgt;rw[e1] at HV x0;have HG:=Ag (HF.out.trans (if_neg hgt));clear hgt HF;dsimp only;exact ZW
 ·have t1:(iT r != 0)=true:=by simp[h1]
  have HE:=Ag (show fG r=iT r by unfold fG; rw[if_pos h1]);clear h1;generalize iT r=re at *;dsimp only;exact zci
theorem yS (w:World) (F:Foot) (v:Value) (xs:List Rat) (hv:CX w F v xs) (hl:xs.length≤100000) (hx:∀ x∈xs,rl x≤100000) :
  Calls Tryz.prog 68 #[v] w (Ret w fun u w'=>DY w' (Ext F w.heap.size) u xs):=by
 obtain⟨A,c,rfl,hc,hN⟩:=hv;rw[List.length_map] at hc hN;have HN:=Ag hN;clear hN;have HX:=Ag hx;clear hx;show Calls _ _ #[.slice A (xs.map aG).length c] _ _;rw[List.length_map];go_in;go_wp2
 go_loopw [3,8] (fun u i wr=>∃ (k:Nat) (L:List RV),k≤xs.length∧i = .int .i64 (k:Int)∧L.length=k∧L.map RV.r=(xs.take k).map au∧Bf wr w.heap.size 114 (Old F w.heap.size) u L∧Below w.heap.size w wr) (fun _ i _=>xs.length - (intOf i).toNat)
 case atStart=>exact⟨0,[],byOmega,rfl,rfl,rfl,Bf.nil _ _ _ _,Below.refl _ _⟩
 case round =>
  obtain⟨k,L,hk,rfl,hlen,hmap,hown,hbel⟩:=hrel;have HM:=Ag hmap;have HO:=Ag hown;have HLL:=Ag hlen;clear hmap hown hlen;have hz:=hbel.size;by_cases hlt:k < xs.length
  ·obtain⟨b,o,rfl,hF,hb,hx⟩:=HN.out byOmega;obtain⟨x,hx'⟩:=getSome hlt;obtain⟨ex0,⟨vn,ex1,hn⟩,⟨vd,ex2,hd⟩⟩:=hx k (aG x) (by rw[List.getElem?_map,hx']; rfl);have hold:=aQ hbel;have HXE:=Ag hx';have hrl:=HX.out x (List.mem_of_getElem? hx');have HR:=Ag (Ak.below (r:=aG x) (Ak.old (Ak.make (r:=aG x) rfl hn hd)) hbel);obtain⟨A1,c1,rfl,_,_⟩:=hn;obtain⟨A2,c2,rfl,_,_⟩:=hd;replace ex1:w.cell? ⟨b,o+k*3+1,none⟩=some (.slice A1 (dig x.num.natAbs).length c1):=ex1;replace ex2:w.cell? ⟨b,o+k*3+2,none⟩=some (.slice A2 (dig x.den).length c2):=ex2;clear hx hx';go_wp2_with fail
   obtain⟨W2,hW2,rz,hB2,hzz⟩:=aO wr 42 #[.bool (aG x).neg,.slice A1 (dig x.num.natAbs).length c1,.slice A2 (dig x.den).length c2];rw[← hW2];clear hW2;replace HR:=Ag (HR.out.below hB2);replace HO:=Ag (HO.out.below hB2);have oL:=hbel.trans (hB2.mono hz);have x0:=rz.cell (i:=0) rfl;have x1:=rz.cell (i:=1) rfl;have x2:=rz.cell (i:=2) rfl;clear hold hB2;go_wp2_with fail
   refine(qF W2 _ _ x HR.out hrl).mono ?_;rintro e wn ⟨u,rfl,hb2,hu⟩;replace HO:=Ag (HO.out.below hb2);have akp:=oL.trans (hb2.mono oL.size);have hz3:=akp.size;obtain⟨q,hq,rfl,jh⟩:=Ak.rv hu;have HQ:=Ag hq;have HF:=Ag jh;clear hu x0 x1 x2 rz hb2 oL hq jh;dsimp only[RV.cells];go_wp2_with (at_builtin; refine su (F:=Old F w.heap.size) rfl _ _ 96 114 Tryz.underlying96 Tryz.infoNum rfl w.heap.size (Nat.le_refl _) u3 L rfl q (by have:=HLL.out; omega) rfl HO.out (HF.out.keep (fun b hb _=>⟨hb,fun e=>by have:=(HO.out.row.lt b e).1; have:=hb.2; omega⟩) (Same.refl _ _)) akp ?_; intro g cap w' hown' fQ hlt'; have HO':=Ag hown'; clear hown')
   go_roundw
   case rel=>exact⟨k+1,L ++ [q],byOmega,by go_num,by rw[List.length_append,HLL.out]; rfl,by rw[List.map_append,HM.out,take_snoc HXE.out,List.map_append]; show _ ++ [q.r]=_ ++ [au x]; rw[HQ.out],HO'.out,fQ⟩
   case measure=>simp[intOf]; omega
  ·go_wp2
   go_ret;have hall:xs.take k=xs:=List.take_of_length_le byOmega;refine zcv ?_;have:=HO.out.raws (G:=Ext F w.heap.size) (fun b hb=>.inl hb.1) (fun b hb=>.inr hb);rw[HM.out,hall] at this;exact this
theorem sum_any (w:World) (F:Foot) (v:Value) (xs:List Rat) (hv:DY w F v xs) (hl:xs.length≤100000) (hx:∀ x∈xs,rl x≤20000) (hs:∀ k,rl (jD (xs.take k))≤20000) :
  Calls Tryz.prog 69 #[v] w (Ret w fun u w'=>NmV w' (Ext F w.heap.size) u (jD xs)):=by
 obtain⟨A,c,rfl,hc,hN⟩:=hv;rw[List.length_map] at hc hN;have HN:=Ag hN;clear hN;have HX:=Ag hx;clear hx;have HS:=Ag hs;clear hs;show Calls _ _ #[.slice A (xs.map au).length c] _ _;rw[List.length_map];go_in;go_wp2_with fail
 obtain⟨W,hW,ry,rz,hB,hz⟩:=alloc2 w 114 #[.bool false,.slice none 0 0,.slice none 0 0] 114 #[.bool false,.slice none 0 0,.slice none 0 0];rw[← hW];clear hW;have hz:w.heap.size+2≤W.heap.size:=hz;have hry:=Ag ry;have hrz:=Ag rz;clear ry rz;try go_wp2
 go_loopw [8] (fun i wr=>∃ (k:Nat) (s:Rat) (A':Option Addr) (c':Nat) (B':Option Addr) (d':Nat),k≤xs.length∧i = .int .i64 (k:Int)∧s=jD (xs.take k)∧Row wr w.heap.size 114 [.bool false,.slice none 0 0,.slice none 0 0]∧Row wr (w.heap.size+1) 114 [.bool (au s).neg,.slice A' (au s).num.length c',.slice B' (au s).den.length d'] ∧
  NmV wr (Ext (Old F w.heap.size) (w.heap.size+2)) (.agg #[.bool (au s).neg,.slice A' (au s).num.length c',.slice B' (au s).den.length d']) s∧Below w.heap.size w wr∧w.heap.size+2≤wr.heap.size) (fun i _=>xs.length - (intOf i).toNat)
 case atStart =>
  have h0:au 0=⟨false,[],[]⟩:=by unfold au;rw[if_pos (show(0:Rat).den=1 from rfl),show(0:Rat).num=0 from rfl,Int.natAbs_zero,bD];rfl
  refine⟨0,0,none,0,none,0,byOmega,rfl,rfl,hry.out,?_,?_,hB,hz⟩
  ·rw[h0];exact hrz.out
  ·rw[h0];exact NmV.zero _ _ _ _ _ _
 case round =>
  clear hry hrz hB hz;obtain⟨k,s,A',c',B',d',hk,rfl,hsum,hry,hrz,hnm,hB,hz⟩:=hrel;have HSU:=Ag hsum;have HNM:=Ag hnm;clear hsum hnm;have hrs:=HS.out k;rw[← HSU.out] at hrs;by_cases hlt:k < xs.length
  ·obtain⟨b,o,rfl,hF,hb,hx⟩:=HN.out byOmega;obtain⟨x,hx'⟩:=getSome hlt;obtain⟨ex0,⟨vn,ex1,hn⟩,⟨vd,ex2,hd⟩⟩:=hx k (au x) (by rw[List.getElem?_map,hx']; rfl);have hold:=aQ hB;have HXE:=Ag hx';have hrl:=HX.out x (List.mem_of_getElem? hx');have HR:=Ag (Ak.mono (G:=Ext (Old F w.heap.size) (w.heap.size+2)) (Ak.below (r:=au x) (Ak.old (Ak.make (r:=au x) rfl hn hd)) hB) (fun b hb _=>.inl hb));obtain⟨A1,c1,rfl,_,_⟩:=hn;obtain⟨A2,c2,rfl,_,_⟩:=hd;clear hx hx';have y0:=fun o=>(hrz.alloc o).cell (i:=0) rfl;have y1:=fun o=>(hrz.alloc o).cell (i:=1) rfl;have y2:=fun o=>(hrz.alloc o).cell (i:=2) rfl
   go_wp2_with fail
   obtain⟨W2,hW2,rz,hB2,hzz⟩:=aO wr 114 #[.bool (au x).neg,.slice A1 (au x).num.length c1,.slice A2 (au x).den.length c2];rw[← hW2];clear hW2;replace HR:=Ag (HR.out.below hB2);replace HNM:=Ag (HNM.out.below hB2);replace hry:=hry.below hB2 hry.lt;replace hrz:=hrz.below hB2 hrz.lt;replace hB:=hB.trans (hB2.mono hB.size);have x0:=rz.cell (i:=0) rfl;have x1:=rz.cell (i:=1) rfl;have x2:=rz.cell (i:=2) rfl;clear y0 y1 y2;have y0:=hrz.cell (i:=0) rfl;have y1:=hrz.cell (i:=1) rfl;have y2:=hrz.cell (i:=2) rfl;clear hold hB2;go_wp2_with fail
   refine(aaA W2 _ _ _ s x HNM.out HR.out hrs hrl).mono ?_;rintro e wn ⟨u,rfl,hb2,hu⟩;replace hu:NmV wn (Ext (Old F w.heap.size) (w.heap.size+2)) u (s+x):=hu.mono (fun b hb _=>hb.elim id fun h=>.inr byOmega);have HU:=Ag hu;obtain⟨A4,c4,B4,d4,rfl,hn,hd⟩:=hu.open;clear hn hd hu;replace hry:=hry.below hb2 hry.lt;replace hrz:=hrz.below hb2 hrz.lt;replace hB:=hB.trans (hb2.mono hB.size);have hz2:=hb2.size;clear x0 x1 x2 rz y0 y1 y2 hb2;have q0:=hrz.cell (i:=0) rfl;have y0:=hrz.frozen 0;have q1:=hrz.cell (i:=1) rfl;have y1:=hrz.frozen 1;have q2:=hrz.cell (i:=2) rfl;have y2:=hrz.frozen 2;dsimp only;go_wp2_with fail
   obtain⟨Wz,hWz,hrw,hwz,hkz⟩:=bW hrz (.bool (au (s+x)).neg) (.slice A4 (au (s+x)).num.length c4) (.slice B4 (au (s+x)).den.length d4);rw[← hWz];clear q0 q1 q2 y0 y1 y2;have hryz:Row Wz w.heap.size 114 [.bool false,.slice none 0 0,.slice none 0 0]:=by
    rw[hWz];exact((hry.other (a:=⟨w.heap.size+1,0,none⟩) aB _).other (a:=⟨w.heap.size+1,1,none⟩) aB _).other (a:=⟨w.heap.size+1,2,none⟩) aB _
   have hsz:Wz.heap.size=wn.heap.size:=by rw[hWz];simp
   clear hWz;have HUU:=Ag (HU.out.keep (fun b hb _=>hb) (hkz (Ext (Old F w.heap.size) (w.heap.size+2)) (fun h=>h.elim (fun h=>by have:=h.2; omega) fun h=>by omega)));go_roundw
   case rel=>exact⟨k+1,s+x,A4,c4,B4,d4,byOmega,by go_num,by rw[take_snoc HXE.out,agT,← HSU.out],hryz,hrw,HUU.out,hwz _ _ byOmega hB,byOmega⟩
   case measure=>simp[intOf]; omega
  ·have hall:xs.take k=xs:=List.take_of_length_le byOmega;have HF:=Ag (show s=jD xs by rw[HSU.out,hall]);clear hall;have p0:=hrz.cell (i:=0) rfl;have p1:=hrz.cell (i:=1) rfl;have p2:=hrz.cell (i:=2) rfl;have q0:=hry.cell (i:=0) rfl;have y0:=hry.frozen 0;have q1:=hry.cell (i:=1) rfl;have y1:=hry.frozen 1;have q2:=hry.cell (i:=2) rfl;have y2:=hry.frozen 2;go_wp2
   obtain⟨Wz,hWz,hrz,hwz,hkz⟩:=bW hry (.bool (au s).neg) (.slice A' (au s).num.length c') (.slice B' (au s).den.length d');refine Zj ?_;clear hWz q0 q1 q2 y0 y1 y2;intro t0 t1 t2;refine bodyPost_ret (v:=.agg #[.bool (au s).neg,.slice A' (au s).num.length c',.slice B' (au s).den.length d']) (by simp[results,Tryz.results69,go_sem,t0,t1,t2]) rfl ?_;exact⟨_,rfl,hwz _ _ byOmega hB,by rw[← HF.out]; exact HNM.out.keep (fun b hb _=>hb.elim (fun h=>.inl h.1) fun h=>.inr byOmega) (hkz _ (fun h=>h.elim (fun h=>by have:=h.2; omega) fun h=>by omega))⟩
open List renaming getElem_toArray → lq1, getElem_cons_zero → lq2, getElem_cons_succ → lq3, setIfInBounds_toArray → lq4, set_cons_zero → lq5, set_cons_succ → lq6
theorem RawsAt.below {w w':World} {F:Foot} {v:Value} {l:List Raw} (h:RawsAt w F v l) (hb:Below w.heap.size w w'):RawsAt w' F v l:=h.on (Below.same' hb F)
theorem acM {acts:List Int} {m:List (List Raw)} {k:Nat} {a:Int} {l:List Raw} (ha:acts[k]? = some a) (hl:m[k]? = some l):(List.zipWith nR acts m)[k]? = some (nR a l):=by
 rw[List.getElem?_zipWith,ha,hl]
theorem xU {acts:List Int} {m:List (List Raw)} {k:Nat} {a:Int} {l:List Raw} (hlen:m.length=acts.length) (h0:iO ((List.zipWith nR acts m).take k)=0) (ha:acts[k]? = some a) (hl:m[k]? = some l) (hne:nR a l≠0):lD acts m=nR a l:=by
 unfold lD;rw[if_neg byOmega];exact uU h0 (acM ha hl) hne
theorem ahg {acts:List Int} {m:List (List Raw)} {k:Nat} (hlen:m.length=acts.length) (h0:iO ((List.zipWith nR acts m).take k)=0) (hk:m.length≤k):lD acts m=0:=by
 unfold lD;rw[if_neg byOmega];rwa [List.take_of_length_le aF] at h0
def BG (m:List (List Raw)):Prop:=∀ l∈m,l.length≤100000∧∀ r∈l,U32 r∧r.num.length≤100000∧r.den.length≤100000
theorem abg {a:Int} {l:List Raw} {j:Nat} {r:Raw} (hla:(l.length:Int)=a) (h0:iO ((l.map fG).take j)=0) (hr:l[j]? = some r) (hne:fG r≠0):nR a l=fG r:=by
 have hs:mJ l=fG r:=uU h0 (by rw[List.getElem?_map,hr]; rfl) hne;unfold nR;rw[if_neg byOmega,if_pos (by rw[hs]; exact hne),hs]
theorem abh {a:Int} {l:List Raw} (hla:(l.length:Int)=a) (h0:mJ l=0):nR a l=if mQ (jD (l.map rY)) 1≠0 then 14 else 0:=by
 unfold nR;rw[if_neg byOmega,if_neg byOmega]
theorem aaC (w:World) (F:Foot) (vg vm:Value) (g:Gm) (m:List (List Raw)) (hg:AO w F vg g) (hm:RawRowsAt w F vm m) (hT:Bz w) (hlm:m.length≤100000) (hli:g.infos.length≤100000) (hb:BG m) (hact:∀ i∈g.infos,i.actions≤10) :
  Calls Tryz.prog 74 #[vg,vm] w (Ret w fun v _=>v = .int .i64 (lD (g.infos.map Inf.actions) m)):=by
 obtain⟨vn,vi,rfl,⟨A,c,rfl,hc,hN⟩,⟨Ai,ci,rfl,hci,hI⟩⟩:=hg;obtain⟨Am,cm,rfl,hcm,hM⟩:=hm;have HI:=Ag hI;have HM:=Ag hM;have HBB:=Ag hb;have HA:=Ag hact;have HTT:=Ag hT;clear hN hI hM hb hact hT;obtain⟨acts,agr⟩:=named (g.infos.map Inf.actions);rw[← agr];have hal:acts.length=g.infos.length:=by rw[agr,List.length_map]
 have HAC:=Ag agr;clear agr;by_cases hlen:m.length=g.infos.length
 ·have d1:((m.length:Int) != (g.infos.length:Int))=false:=aF;have HLE:=Ag (show m.length=acts.length by omega);have hle1:m.length≤g.infos.length:=byOmega;have hle2:g.infos.length≤m.length:=byOmega;have hle3:m.length≤acts.length:=byOmega;clear hlen hal;go_in;go_wp2_with fail
  refine Z8 ?_;intro W hW rx hB hz;clear hW;refine(mZ W 1 ay ay).mono ?_;rintro e w1 ⟨u,rfl,hb1,hu⟩;obtain⟨one,hone⟩:∃ one:Rat,one=((1:Int):Rat):=⟨_,rfl⟩;rw[← hone] at hu;have H1:=Ag (show one=1 from hone);clear hone;have BX:=Ag (hu.mono (G:=fun _=>True) (fun _ _ _=>trivial));obtain⟨A1,c1,B1,d1',rfl,hn,hd⟩:=hu.open;clear hn hd hu;replace rx:=rx.below hb1 rx.lt;replace hB:=hB.trans (hb1.mono hB.size);clear hb1;have hz1:w.heap.size+1≤w1.heap.size:=by have:=rx.lt;omega
  dsimp only;go_wp2
  obtain⟨W1,hW1,ry,hB1,hzz⟩:=aO w1 114 #[.bool (au one).neg,.slice A1 (au one).num.length c1,.slice B1 (au one).den.length d1'];rw[← hW1];clear hW1;replace BX:=Ag (BX.out.below hB1);replace rx:=rx.below hB1 rx.lt;replace hB:=hB.trans (hB1.mono hB.size);replace HTT:=Ag (HTT.out.on hB);replace HI:=Ag (fun h=>by
   obtain⟨b,o,h1,h2,h3,h4⟩:=HI.out h;exact(⟨b,o,h1,⟨h2,h3⟩,Nat.lt_of_lt_of_le h3 hB.size,fun k x hx=>⟨ak (h4 k x hx).c0 hB,ak (h4 k x hx).c1 hB⟩⟩:∃ b o,Ai=some ⟨b,o,none⟩∧Old F w.heap.size b∧b < W1.heap.size∧∀ k x,g.infos[k]? = some x→Ej W1 (Old F w.heap.size) b (o+k*2) x))
  replace HM:=Ag (RawRowsAt.keep (G:=F) (⟨Am,cm,rfl,hcm,HM.out⟩:RawRowsAt w F _ m) (fun _ h _=>h) (Below.same' hB F));clear hB1;have g2:=rx.cell (i:=2) rfl;have o0:=ry.cell (i:=0) rfl;have o1:=ry.cell (i:=1) rfl;have o2:=ry.cell (i:=2) rfl;have hgs:w.heap.size < W1.heap.size:=byOmega;have hos:w1.heap.size < W1.heap.size:=byOmega;clear rx ry hz hzz;have hz2:=hB.size;go_loopw [20] (fun i wr=>∃ k:Nat,k≤m.length∧i = .int .i64 (k:Int)∧iO ((List.zipWith nR acts m).take k)=0∧Below W1.heap.size W1 wr) (fun i _=>m.length - (intOf i).toNat)
  case atStart=>exact⟨0,byOmega,rfl,rfl,Below.refl _ _⟩
  case round =>
   obtain⟨k,hk,rfl,hpre,hbel⟩:=hrel;have HP:=Ag hpre;clear hpre;have hold:=aQ hbel;have hzr:=hbel.size;by_cases hlt:k < m.length
   ·obtain⟨l,hl⟩:=getSome hlt;obtain⟨inf,gU⟩:=getSome (l:=g.infos) (k:=k) byOmega;have hak:acts[k]? = some inf.actions:=by rw[HAC.out,List.getElem?_map,gU];rfl
    obtain⟨A0,c0,he,_,hM⟩:=HM.out;cases he;obtain⟨b,o,rfl,hF,hbl,hx⟩:=hM byOmega;obtain⟨ur,eu,hrow⟩:=hx k l hl;rw[Nat.mul_one] at eu;have HRW:=Ag hrow;obtain⟨Ar,cr,rfl,hcr,_⟩:=hrow;obtain⟨b2,p2,rfl,hF2,hbl2,hx2⟩:=HI.out byOmega;have ei:=(hx2 k inf gU).c1;have hia:inf.actions≤10:=HA.out inf (List.mem_of_getElem? gU);have jh:=HBB.out l (List.mem_of_getElem? hl);have HFI:=Ag jh.2;have hll:=jh.1;have HL:=Ag hl;have HK:=Ag hak;clear hx hx2 hM hl gU hak jh;by_cases hact:(l.length:Int)=inf.actions
    ·have d2:((l.length:Int) != inf.actions)=false:=aF;have Es:=Ag hact;go_wp2
     go_loopw [36] (fun i wi=>∃ j:Nat,j≤l.length∧i = .int .i64 (j:Int)∧iO ((l.map fG).take j)=0∧Below W1.heap.size W1 wi) (fun i _=>l.length - (intOf i).toNat)
     case atStart=>exact⟨0,byOmega,rfl,rfl,hbel⟩
     case round =>
      clear hold hbel hzr;obtain⟨j,hj,rfl,hpre,hbel⟩:=hrel;have HPJ:=Ag hpre;clear hpre;have hold:=aQ hbel;have hzr:=hbel.size;by_cases hlt2:j < l.length
      ·obtain⟨A2,c2,he,_,hR⟩:=HRW.out;cases he;obtain⟨b3,o3,rfl,hF3,hb3,hx3⟩:=hR byOmega;obtain⟨r,hr⟩:=getSome hlt2;obtain⟨ex0,⟨vn,ex1,hn⟩,⟨vd,ex2,hd⟩⟩:=hx3 j r hr;have HRV:=Ag (Ak.below (Ak.make (r:=r) rfl hn hd) hbel);obtain⟨A4,c4,rfl,_,_⟩:=hn;obtain⟨A5,c5,rfl,_,_⟩:=hd;have hfr:=HFI.out r (List.mem_of_getElem? hr);have HFR:=Ag hfr.1;have hf2:=hfr.2.1;have hf3:=hfr.2.2;have HRR:=Ag hr;clear hx3 hR hr hfr;go_wp2_with fail
       obtain⟨W2,hW2,rz,hB2,hzz⟩:=aO wr 42 #[.bool r.neg,.slice A4 r.num.length c4,.slice A5 r.den.length c5];rw[← hW2];clear hW2;replace HRV:=Ag (HRV.out.below hB2);have x0:=rz.cell (i:=0) rfl;have x1:=rz.cell (i:=1) rfl;have x2:=rz.cell (i:=2) rfl;replace hbel:=hbel.trans (hB2.mono hbel.size);clear hold hB2 rz;go_wp2_with fail
       refine(abP W2 F _ r HRV.out HFR.out hf2 hf3 (HTT.out.on hbel)).mono ?_;rintro e wn ⟨_,rfl,hb,rfl⟩;replace hbel:=hbel.trans (hb.mono hbel.size);clear hb x0 x1 x2;have HSE:=Ag (rfl:fG r=fG r);generalize hse:fG r=se at *;have HS2:=Ag hse;clear hse HSE;by_cases hs0:se=0
       ·have t1:(se != 0)=false:=by rw[hs0];rfl
        have HS0:=Ag hs0;clear hs0;dsimp only;go_wp2
        go_roundw
        case rel=>exact⟨j+1,byOmega,by go_num,rX HPJ.out (by rw[List.getElem?_map,HRR.out]; show some (fG r)=_; rw[HS2.out,HS0.out]),hbel⟩
        case measure=>simp[intOf]; omega
       ·have t1:(se != 0)=true:=by simp[hs0]
        have hrow:nR inf.actions l=se:=(abg Es.out HPJ.out HRR.out (by rw[HS2.out]; exact hs0)).trans HS2.out;have HE:=Ag ((xU HLE.out HP.out HK.out HL.out (by rw[hrow]; exact hs0)).trans hrow);clear hs0 hrow;dsimp only;exact Y7
      ·have hsh:mJ l=0:=by
        have:=HPJ.out;rw[List.take_of_length_le aF] at this;exact this
       obtain⟨xs,hxs,hlx⟩:=uV hsh;have hrow:=abh Es.out hsh;rw[hxs,aam] at hrow;have hxl:xs.length≤10:=by
        have h1:=Es.out;rw[hxs,List.length_map] at h1;omega
       have HXS:=Ag hxs;have HRA:=Ag (show CX wr F (.slice Ar l.length cr) xs by
        show RawsAt wr F _ (xs.map aG);rw[← HXS.out]; exact HRW.out.on (Below.same' hbel F))
       have hsm:∀ k,rl (jD (xs.take k))≤20000:=fun k=>by
        have h1:=acC (xs.take k) (fun x hx=>hlx x (List.mem_of_mem_take hx));have h2:(xs.take k).length≤xs.length:=aF;omega
       have hsm2:rl (jD xs)≤20000:=by
        have h1:=acC xs hlx;omega
       have alg:rl one≤20000:=by rw[H1.out,sF];omega
       have AZ:=Ag (show nR inf.actions l=if mQ (jD xs) one≠0 then 14 else 0 by rw[H1.out]; rw[hxs]; exact hrow);have HLX:=Ag hlx;have HSM:=Ag hsm;clear hsh hxs hrow hlx hsm hold;replace o0:=ak o0 hbel;replace o1:=ak o1 hbel;replace o2:=ak o2 hbel;replace BX:=Ag (BX.out.below hbel);go_wp2_with fail
       refine wp_region_held_drew (S:=fun w'=>w'.cell? ⟨w1.heap.size,0,none⟩=some (.bool (au one).neg)∧w'.cell? ⟨w1.heap.size,1,none⟩=some (.slice A1 (au one).num.length c1)∧w'.cell? ⟨w1.heap.size,2,none⟩=some (.slice B1 (au one).den.length d1')) ah ⟨o0,o1,o2⟩ (fun hHeld=>?_);have hb:Below wr.heap.size wr wr.drew:=aI (Below.refl _ wr) 1;refine zbq ?_;clear o0 o1 o2 HRA BX;intro o0 o1 o2 HRA BX;replace hzr:=Nat.le_trans hzr hb.size;replace hbel:=hbel.trans (hb.mono hbel.size);clear hb;generalize wr.drew=wn at *;refine tkm [0,3] ?_;refine tk2 1 ah rfl fun K hK=>?_
       go_simp;refine(yS _ F _ xs HRA.out byOmega (fun x hx=>by have:=HLX.out x hx; omega)).mono ?_;rintro e wn ⟨u,rfl,hb,hu⟩;have HNU:=Ag (RawsAt.keep (G:=fun _=>True) hu (fun _ _ _=>trivial) (Same.refl _ _));clear hu;refine zbq ?_;clear o0 o1 o2 HRA BX;intro o0 o1 o2 HRA BX;refine zaM ?_;clear hzr hbel hb hHeld hK K;intro hzr hbel hHeld;refine tk2 2 ah rfl fun K hK=>?_
       go_simp;refine(sum_any _ (fun _=>True) _ xs HNU.out byOmega (fun x hx=>by have:=HLX.out x hx; omega) HSM.out).mono ?_;rintro e wn ⟨us,rfl,hb,hu⟩;have HSU:=Ag (Ak.mono (G:=fun _=>True) hu (fun _ _ _=>trivial));clear hu;refine zbq ?_;clear o0 o1 o2 HRA BX;intro o0 o1 o2 HRA BX;replace HNU:=Ag (HNU.out.below hb);refine zaM ?_;clear hzr hbel hb hHeld hK K;intro hzr hbel hHeld;refine tk2 4 ah rfl fun K hK=>?_
       go_simp;refine(wL _ (fun _=>True) _ _ (jD xs) one HSU.out BX.out hsm2 alg).mono ?_;rintro e wn ⟨_,rfl,hb,rfl⟩;refine zbq ?_;clear o0 o1 o2 HRA BX;intro o0 o1 o2 HRA BX;replace HNU:=Ag (HNU.out.below hb);replace HSU:=Ag (HSU.out.below hb);refine zaM ?_;clear hzr hbel hb hHeld hK K;intro hzr hbel hHeld;refine tkm [5] ?_;refine Yp ?_;clear hHeld;clear o0 o1 o2 HNU HSU;generalize mQ (jD xs) one=e0 at *;refine Yb ?_;by_cases h0:e0=0
       ·have t1:(e0 != 0)=false:=by rw[h0];rfl
        have hr0:nR inf.actions l=0:=by rw[AZ.out,if_neg (by simpa using h0)]
        have HR0:=Ag hr0;clear hr0 h0;go_wp2
        go_roundw
        case rel=>exact⟨k+1,byOmega,by go_num,rX HP.out (by rw[acM HK.out HL.out,HR0.out]),hbel⟩
        case measure=>simp[intOf]; omega
       ·have t1:(e0 != 0)=true:=by simp[h0]
        have hr0:nR inf.actions l=14:=by rw[AZ.out,if_pos h0]
        have HE:=Ag ((xU HLE.out HP.out HK.out HL.out (by rw[hr0]; decide)).trans hr0);clear hr0 h0;exact Y7
    ·have d2:((l.length:Int) != inf.actions)=true:=aF;have h3:nR inf.actions l=3:=by unfold nR;rw[if_pos hact]
     have HE:=Ag ((xU HLE.out HP.out HK.out HL.out (by rw[h3]; decide)).trans h3);exact Y7
   ·have HE:=Ag (ahg HLE.out HP.out byOmega);exact Y7
 ·have d1:((m.length:Int) != (g.infos.length:Int))=true:=aF;have HE:=Ag (show lD acts m=3 by unfold lD; rw[if_pos byOmega]);go_in;go_wp2
  go_ret;exact⟨_,rfl,(Below.refl _ _).alloc (Nat.le_refl _) _,by rw[HE.out]; rfl⟩
theorem vw (w:World) (F:Foot) (va vb:Value) (a b:Nat) (ha:Ah w F va a) (hb:Ah w F vb b) (hla:(dig a).length≤1000000) (hlb:(dig b).length≤1000000) :
  Calls Tryz.prog 55 #[va,vb] w (Ret w fun v _=>v = .int .i64 (bZ a b)):=by
 refine(afa w F va vb a b ha hb hla hlb).mono ?_;rintro e w' ⟨rfl,z0,rfl⟩;exact⟨_,rfl,aI (Below.refl _ w) _,rfl⟩
theorem abQ (w:World) (x:Nat):Aj (w.alloc (.cells #[.int .u32 (x:Int)] 103)) (fun b=>w.heap.size≤b) (.slice (some ⟨w.heap.size,0,none⟩) 1 1) [x]:=by
 have h:=Row.new w 103 #[.int .u32 (x:Int)];have h2:=Row.limbs (l:=[x]) (by simpa [aT] using h) (F:=fun b=>w.heap.size≤b) (Nat.le_refl _) (n:=1) (c:=1) aB (Nat.le_refl _);simpa using h2
theorem vC (w:World) (x:Nat) (hx:x < 1000000000) :
  Calls Tryz.prog 146 #[.int .u32 (x:Int)] w (Ret w fun v w'=>Ah w' (fun b=>w.heap.size≤b) v x):=by
 go_in;go_wp2_with fail
 refine(kH _ (fun b=>w.heap.size≤b) _ 1 1 [x] rfl (abQ w x) byOmega).mono ?_;rintro e w' ⟨rfl,rfl⟩;have ht:=Aj.trim (l:=[x]) rfl (abQ w x) (fun y hy=>by simp at hy; subst hy; exact hx);have hn:aH [x]=x:=by simp[aH]
 rw[hn] at ht;have HT:=Ag ht;clear ht hn;go_wp2
 go_ret;exact⟨_,rfl,(Below.refl _ _).alloc (Nat.le_refl _) _,HT.out⟩
theorem ifT' {c:Bool} {p q:Prop} (h:c=true) (hp:p):if c=true then p else q:=by rw[if_pos h]; exact hp
theorem afy {P:Program} (w:World) {o:Oper} {a:Act} {K:Act→World→Prop} {Q:Exit→Act→World→Prop} (l c:Operand) (t:TypeId) (hop:o.op=Op.makeSlice t l c)
  (e:TypeId) (z:Value) (bytes:Nat) (ht:P.underlying t=some (.slice e)) (hinfo:(P.info? e).map (fun i=>(i.zero,i.size,i.bytes))=some (some z,1,bytes)) (hz1:z.cells = #[z])
  (n:Nat) (hl:a.eval l = .int .i64 (n:Int)) (hc:a.eval c = .int .i64 (n:Int)) (hn:n≤1000000) (hb:bytes≤1000)
  (hK:∀ w1,Below w.heap.size w w1→w1.heap.size=w.heap.size+1→Row w1 w.heap.size e (List.replicate n z)→K (a.put o.dst (.slice (some ⟨w.heap.size,0,none⟩) n n)) w1) :
  Oper.wp P o a w K Q:=by
 have hbytes:bytes*n≤281474976710656:=by
  exact zbY
 exact YG
theorem aaD {w:World} {F:Foot} {o:Oper} {a:Act} {K:Act→World→Prop} {Q:Exit→Act→World→Prop} (s x:Operand) (t:TypeId) (ht:Tryz.prog.underlying t=some (.slice 103)) (ho:o.op = .call { callee:=.builtin .append,args:=#[s,x],argTypes:=#[t,t] })
  (base:Option Addr) (hbase:∀ a,base=some a→∃ b,a=⟨b,0,none⟩) (v:Value) (l:List Nat) (hs:a.eval s = .slice base 0 0) (hx:a.eval x=v) (hv:Aj w F v l) (hm:l.length≤1000000)
  (h:∀ u w',Below w.heap.size w w'→Bg w.heap.size l u w'→K (a.put o.dst u) w'):Oper.wp Tryz.prog o a w K Q:=by
 obtain⟨A',cap,w',hrun,h2,h3,h4⟩:=uI w F t o.type ht base hbase v l hv hm;refine zbd ?_;refine h _ w' h2 ⟨A',cap,rfl,h3,fun h0=>?_⟩;obtain⟨e,rest,hrow⟩:=h4 h0;exact⟨_,rest,e,Nat.le_refl _,hrow⟩
def Fact.limbs (F:Foot) (l:List Nat):Fact:=⟨fun v w=>Aj w F v l,fun _ _ _ h hb=>h.on (Below.same' hb F)⟩
def Fact.zeros (B m:Nat):Fact:=⟨fun v w=>∃ b,v = .slice (some ⟨b,0,none⟩) m m∧B≤b∧Row w b 103 (aT (List.replicate m 0)),fun _ _ _ ⟨b,h1,h2,h3⟩ hb=>⟨b,h1,h2,h3.below hb h3.lt⟩⟩
theorem acN {w:World} {F:Foot} {ops:Array Oper} {rest:List Oper} {o:Oper} {a:Act} {Q:Exit→Act→World→Prop} (hgd:o.guard=none) (s x:Operand) (t:TypeId) (ht:Tryz.prog.underlying t=some (.slice 103))
  (ho:o.op = .call { callee:=.builtin .append,args:=#[s,x],argTypes:=#[t,t] })
  (base:Nat) (v u:Value) (l m:List Nat) (hs:a.eval s=v) (hown:w.ownsRow base 103 1 v l.length (aT l)) (hx:a.eval x=u) (hu:Aj w F u m) (hm:0 < m.length) (hlen:l.length+m.length≤1000000) (hbase:base≤w.heap.size)
  (h:∀ g cap w',w'.ownsRow base 103 1 (.slice (some ⟨g,0,none⟩) (l.length+m.length) cap) (l++m).length (aT (l++m))→w.grownBy w' v.ownBlock→g < w'.heap.size →
   wpList Tryz.prog ops Q rest (a.put o.dst (.slice (some ⟨g,0,none⟩) (l.length+m.length) cap)) w') :
  wpList Tryz.prog ops Q (o :: rest) a w:=by
 obtain⟨i0,hi,hz0,hz1,hz2⟩:=info_parts Tryz.infoU32;obtain⟨A,c,rfl,hc,hr⟩:=hu;obtain⟨b,off,rfl,_,_,hcell⟩:=hr hm;refine wpList_append_lies w hgd s x _ ho base _ i0 _ 1 4 ht hi hz0 hz1 hz2 rfl byOmega v l.length _ hs hown ⟨b,off,none⟩ m.length c (aT m) hx aB (fun j y hj=>?_) (by simp[Value.oneCell']) hm (by unfold maxLen; omega) byOmega hbase w.heap.size rfl ?_
 ·rw[List.getElem?_map] at hj;obtain⟨y,hy,rfl⟩:=Option.map_eq_some_iff.1 hj;have:=hcell j y hy;unfold dB at this;exact zco
 ·intro g cap w' h1 h2 h3 h4;exact h g cap w' (by simpa [aT] using h1) h2 h4
theorem Aj.drop {w:World} {F:Foot} {A:Option Addr} {c:Nat} {l:List Nat} (h:Aj w F (.slice A l.length c) l) {k:Nat} (hk:k≤l.length):∀ b o,A=some ⟨b,o,none⟩→Aj w F (.slice (some ⟨b,o+k,none⟩) (l.drop k).length (c - k)) (l.drop k):=by
 intro b o hA;obtain⟨A',c',he,hc,hr⟩:=h;cases he;subst hA;refine⟨_,_,rfl,by rw[List.length_drop]; omega,fun h0=>?_⟩;obtain⟨b',o',e,hF,hlt,hx⟩:=hr (by rw[List.length_drop] at h0; omega);cases e;refine⟨b,o+k,rfl,hF,hlt,fun j x hj=>?_⟩;rw[List.getElem?_drop] at hj;have:=hx _ x hj;rw[show o+k+j*1=o+(k+j)*1 by omega];exact this
theorem afz {b n:Nat} (hn:n=(dig b).length) (hb0:b≠0):(dig (b*(LB / ((dig b).getD (n - 1) 0+1)))).length=n:=by
 have h1:=aS (rM hn hb0);have h2:=(pq hb0);rw[← hn] at h2;have h3:=(iM h2.1 h2.2.1).1;have h4:b≤b*(LB / ((dig b).getD (n - 1) 0+1)):=by
  have:b*1≤b*(LB / ((dig b).getD (n - 1) 0+1)):=Nat.mul_le_mul_left _ h3;omega
 have h5:=aU h4;omega
theorem ad1 {w W:World} {F:Foot} {ops:Array Oper} {rest:List Oper} {o:Oper} {a:Act} {Q:Exit→Act→World→Prop} (hgd:o.guard=none) (s x:Operand) (t:TypeId) (ht:Tryz.prog.underlying t=some (.slice 103))
  (ho:o.op = .call { callee:=.builtin .append,args:=#[s,x],argTypes:=#[t,t] })
  (y:Nat) (u:Value) (l:List Nat) (hW:W=w.alloc (.cells #[.int .u32 (y:Int)] 103)) (hs:a.eval s = .slice (some ⟨w.heap.size,0,none⟩) 1 1) (hx:a.eval x=u) (hu:Aj w F u l) (hl:l.length≤900000)
  (h:∀ A cap w',Below w.heap.size w w'→Aj w' (fun b=>w.heap.size≤b) (.slice A (l.length+1) cap) (y :: l)→wpList Tryz.prog ops Q rest (a.put o.dst (.slice A (l.length+1) cap)) w') :
  wpList Tryz.prog ops Q (o :: rest) a W:=by
 have hrow:Row W w.heap.size 103 (aT [y]):=by rw[hW];exact Row.new w 103 #[.int .u32 (y:Int)]
 have hB:Below w.heap.size w W:=by rw[hW];exact(Below.refl _ w).alloc (Nat.le_refl _) _
 have hsz:w.heap.size < W.heap.size:=by rw[hW];simp
 have huW:=hu.on (Below.same' hB F);have hown:W.ownsRow w.heap.size 103 1 (.slice (some ⟨w.heap.size,0,none⟩) 1 1) [y].length (aT [y]) :=
  ⟨aB,.inr ⟨w.heap.size,1,(aT [y]).toArray,rfl,Nat.le_refl _,hrow,Nat.le_refl _,by unfold maxLen; omega,aB,aB⟩⟩
 by_cases h0:0 < l.length
 ·refine acN hgd s x t ht ho w.heap.size _ u [y] l hs hown hx huW h0 aF byOmega ?_;intro g cap w' h1 h2 h3;have hl:=jG h1 (F:=fun b=>w.heap.size≤b) (fun b hb=>(h1.lt b hb).1);have e:[y].length+l.length=l.length+1:=aF;rw[e] at hl ⊢;exact h _ _ w' (hB.grown h2 byOmega (fun k hk=>by cases hk; exact Nat.le_refl _)) hl
 ·have hl0:l = []:=List.eq_nil_of_length_eq_zero byOmega;subst hl0;refine wpList_plain hgd fun K hK=>?_
  obtain⟨i0,hi,hz0,hz1,hz2⟩:=info_parts Tryz.infoU32;obtain⟨A,c,rfl,_,_⟩:=huW;have hsrc:Src Tryz.prog i0.size t (.slice A 0 c) 0 [] W:=by
   cases A with
   | none=>exact Src.ofNil W ht c
   | some ad=>exact Src.ofSlice W ht ad 0 c [] aB aB aB
  have hrun:=run_append_room_src (P:=Tryz.prog) W t t o.type _ i0 ht hi w.heap.size 0 1 1 _ 0 [] hsrc byOmega aB aB;unfold Oper.wp execOp;simp only[ho,resolve,invoke,builtin,Sem.run_bind,Sem.run_pure,Result.andThen_ok,List.map_toArray,List.map_cons,List.map_nil,hs,hx];rw[show(([]:List Nat).length)=0 from rfl,hrun];refine hK _ _ (h _ _ W hB ?_);have h2:=Row.limbs (l:=[y]) hrow (F:=fun b=>w.heap.size≤b) (Nat.le_refl _) (n:=1) (c:=1) aB (Nat.le_refl _);simpa using h2
theorem aiI (n k:Nat):dig (aH ((dig n).drop k))=(dig n).drop k:=by
 refine qy ((aP n).drop k) ?_;rw[List.getLast?_drop];split
 ·simp
 ·exact qA n
theorem ags (n k:Nat):aH ((dig n).drop k) < LB ^ ((dig n).length - k):=by
 have h:=fH ((aP n).drop k);rwa [List.length_drop] at h
theorem ahh {R n x kk L:Nat} (hx:(dig R)[kk]? = some x) (hL:L=aH ((dig R).drop (kk+1))):L*LB+x=aH ((dig R).drop kk):=by
 rw[bM,← hL,aN hx,Nat.mul_comm,Nat.add_comm]
theorem abj (l:List Nat) (hl:Limbs l) (k:Nat):aH (l.drop k)=aH l / LB ^ k:=by
 by_cases h:k≤l.length
 ·have h1:=eP l h;have h2:=fH (hl.take k);rw[List.length_take,Nat.min_eq_left h] at h2;rw[h1,Nat.add_mul_div_left _ _ (Bj k),Nat.div_eq_of_lt h2,Nat.zero_add]
 ·rw[List.drop_of_length_le byOmega];have h2:=fH hl;have h3:LB ^ l.length≤LB ^ k:=Nat.pow_le_pow_right ay byOmega;rw[Nat.div_eq_of_lt byOmega];rfl
theorem ad2 {R b n x:Nat} (hR:R < b) (hb:(dig b).length=n) (hx:x < LB):x+LB*R < LB*b∧(dig (x+LB*R)).length≤n+1:=by
 have h1:x+LB*R < LB*b:=by
  have:LB*(R+1)≤LB*b:=Nat.mul_le_mul_left _ hR;rw[Nat.mul_add] at this;omega
 refine⟨h1,aS (Nat.lt_of_lt_of_le h1 ?_)⟩;rw[Nat.pow_succ,Nat.mul_comm];refine Nat.mul_le_mul_right _ ?_;have:=jW b;rw[hb] at this;omega
theorem aaE {w:World} {B:Nat} {l:List Nat} {A:Option Addr} {c:Nat} (h:w.ownsRow B 103 1 (.slice A l.length c) l.length (aT l)) (hl:Limbs l):Bg B (dig (aH l)) (.slice A (dP l l.length) c) w:=by
 have ht:=adr hl;have hle:=abt l l.length;have hlen:(dig (aH l)).length=dP l l.length:=by rw[← ht,List.length_take,Nat.min_eq_left hle]
 rcases h.2 with⟨e,h0⟩ | ⟨g,cap,cur,e,hb,hg,hnc,_,hsz,htake⟩
 ·injection e with e1 e2 e3
  refine⟨A,c,by rw[hlen],byOmega,fun hp=>by omega⟩
 ·injection e with e1 e2 e3
  subst e1;subst e3;refine⟨_,c,by rw[hlen],byOmega,fun hp=>⟨g,cur.toList.drop (dP l l.length),rfl,hb,?_⟩⟩;have e:aT (dig (aH l))++cur.toList.drop (dP l l.length)=cur.toList:=by
   have h1:aT (dig (aH l))=cur.toList.take (dP l l.length):=by
    rw[← ht];have h2:cur.toList.take (dP l l.length)=(aT l).take (dP l l.length):=by
     rw[← htake,List.take_take,Nat.mul_one,Nat.min_eq_left hle]
    rw[h2];unfold aT;rw[List.map_take]
   rw[h1,List.take_append_drop]
  unfold Row;rw[e,hg]
theorem Bg.other {w w':World} {B:Nat} {l:List Nat} {v:Value} (h:Bg B l v w) (hk:∀ g,B≤g→g < w.heap.size→w'.heap[g]? = w.heap[g]?):Bg B l v w':=by
 obtain⟨A,c,rfl,hc,hr⟩:=h;refine⟨A,c,rfl,hc,fun h0=>?_⟩;obtain⟨b,rest,rfl,hb,hrow⟩:=hr h0;exact⟨b,rest,rfl,hb,hrow.of_block (hk b hb hrow.lt)⟩
theorem Bg.lower {w:World} {B B':Nat} {l:List Nat} {v:Value} (h:Bg B l v w) (hB:B'≤B):Bg B' l v w:=by
 obtain⟨A,c,rfl,hc,hr⟩:=h;refine⟨A,c,rfl,hc,fun h0=>?_⟩;obtain⟨b,rest,rfl,hb,hrow⟩:=hr h0;exact⟨b,rest,rfl,Nat.le_trans hB hb,hrow⟩
theorem ad3 {a b:Nat}:0 < bZ a b↔b < a:=by unfold bZ; split <;> (try split) <;> omega
theorem afA (w:World) (F:Foot) (va vb:Value) (a b:Nat) (ha:Ah w F va a) (hb:Ah w F vb b) (hb0:b≠0) (hla:(dig a).length≤50000) (hge:b≤a) :
  Calls Tryz.prog 111 #[va,vb] w (Ret w (CB F w.heap.size a b)):=by
 have HVA:=Ag ha;have HVB:=Ag hb;have hlb:(dig b).length≤(dig a).length:=aU hge;have hord:decide (bZ a b < 0)=false:=by
  refine zbx ?_;split <;> (try split) <;> omega
 obtain⟨A,c,rfl,hc,_⟩:=ha;obtain⟨B,d,rfl,hd,hNb⟩:=hb;obtain⟨n,hn⟩:=named ((dig b).length);have hn1':1≤n:=by rw[hn];exact bG.2 hb0
 obtain⟨b1,o1,rfl,_,hb1',hx⟩:=hNb byOmega;obtain⟨t,ht'⟩:=getSome (l:=dig b) (k:=n - 1) byOmega;have et:=hx (n - 1) t ht';unfold dB at et;rw[Nat.mul_one] at et;have gt:(dig b).getD (n - 1) 0=t:=aN ht';have htl:t < 1000000000:=(aP b).get ht';have ht1:1≤t:=by have:=(pq hb0).1;rw[← hn,gt] at this;exact this
 obtain⟨f1,f2,_,_,_⟩:=iM ht1 htl;have hfI:(1000000000:Int) / ((t:Int)+1)=((LB / (t+1):Nat):Int):=by
  rw[show((t:Int)+1)=((t+1:Nat):Int) by omega,show(1000000000:Int)=((LB:Nat):Int) from rfl,lF]
 obtain⟨f,hf⟩:=named (LB / (t+1));have hbl:=afz hn hb0;rw[gt,← hf] at hbl;have hal:(dig (a*f)).length≤(dig a).length+1:=aS (qJ byOmega);rw[← hf] at hfI f1 f2;obtain⟨a',ha'⟩:∃ a',a'=a*f:=⟨_,rfl⟩;obtain⟨b',hb'⟩:∃ b',b'=b*f:=⟨_,rfl⟩;rw[← ha'] at hal;rw[← hb'] at hbl;have hba':b'≤a':=by rw[ha',hb'];exact Nat.mul_le_mul_right _ hge
 have ahc:b'≠0:=by rw[hb'];exact Nat.mul_ne_zero hb0 byOmega
 obtain⟨la,xR⟩:∃ la,la=(dig a').length:=⟨_,rfl⟩;have hnla:n≤la:=by rw[xR,← hbl];exact aU hba'
 have HSC:=Ag (And.intro ha' hb');have HBL:=Ag hbl;have HLA:=Ag xR;have hlal:la≤50001:=byOmega;rw[← hn] at HVB hd hlb ⊢;have hla2:(dig a).length≤50000:=hla;refine zbo ?_;intro n1 hn1;have i1:(n:Int) - 1=(n1:Int):=byOmega;rw[show n - 1=n1 by omega] at et;have l1:n1 < n:=byOmega;have HN:=Ag hn;have HB0:=Ag hb0;clear hn gt hx ht' hf hge ha' hb' xR hbl hb0;go_in;go_wp2_with fail
 have HVB2:=Ag (show Ah w F (.slice (some ⟨b1,o1,none⟩) n d) b from HVB.out);refine(vw w F _ _ a b HVA.out HVB.out byOmega (by rw[← HN.out]; omega)).mono ?_;rintro e wn ⟨_,rfl,hb,rfl⟩;have hB:=hb;replace et:=ak et hb;replace HVA:=Ag (HVA.out.below hb);replace HVB:=Ag (HVB.out.below hb);clear hb;generalize bZ a b=od at *;dsimp only;go_wp2_with fail
 refine(vC _ f byOmega).mono ?_;rintro e wn ⟨vf,rfl,hb,hu⟩;have HF:=Ag (hu.mono (G:=fun b=>w.heap.size≤b) (fun b h _=>Nat.le_trans hB.size h));clear hu;replace et:=ak et hb;replace HVA:=Ag (HVA.out.below hb);replace HVB:=Ag (HVB.out.below hb);refine zcy ?_;clear hB hb;intro hB;go_wp2_with fail
 refine(lY _ (fun b=>F b∨w.heap.size≤b) _ _ a f (HVA.out.mono (fun _ h _=>.inl h)) (HF.out.mono (fun _ h _=>.inr h)) byOmega (by have:=aS (n:=f) (k:=1) (by unfold LB; omega); omega)).mono ?_;rintro e wn ⟨va',rfl,hb,hu⟩;rw[← HSC.out.1] at hu;have HA:=Ag (hu.mono (G:=fun b=>w.heap.size≤b) (fun b h _=>Nat.le_trans hB.size h));clear hu;replace et:=ak et hb;replace HVA:=Ag (HVA.out.below hb);replace HVB:=Ag (HVB.out.below hb);replace HF:=Ag (HF.out.below hb);refine zcy ?_;clear hB hb;intro hB;go_wp2_with fail
 refine(lY _ (fun b=>F b∨w.heap.size≤b) _ _ b f (HVB.out.mono (fun _ h _=>.inl h)) (HF.out.mono (fun _ h _=>.inr h)) (by rw[← HN.out]; omega) (by have:=aS (n:=f) (k:=1) (by unfold LB; omega); omega)).mono ?_;rintro e wn ⟨vb',rfl,hb,hu⟩;rw[← HSC.out.2] at hu;have HB:=Ag (hu.mono (G:=fun b=>w.heap.size≤b) (fun b h _=>Nat.le_trans hB.size h));clear hu;replace et:=ak et hb;replace HVA:=Ag (HVA.out.below hb);replace HVB:=Ag (HVB.out.below hb);replace HF:=Ag (HF.out.below hb);replace HA:=Ag (HA.out.below hb);refine zcy ?_;clear hB hb;intro hB;clear et HVA HVB HVB2 hb1' i1;obtain⟨Aa,ca,rfl,hca,hNa'⟩:=HA.out;obtain⟨Ab,cb,rfl,hcb,hNb'⟩:=HB.out;obtain⟨ba,oa,rfl,_,hba1,_⟩:=hNa' (by rw[← HLA.out]; omega);obtain⟨bb,ob,rfl,_,hbb1,hxb⟩:=hNb' (by rw[HBL.out]; omega);obtain⟨t',ht2⟩:=getSome (l:=dig b') (k:=n1) (by rw[HBL.out]; omega);have et:=hxb n1 t' ht2;unfold dB at et;rw[Nat.mul_one] at et;have ht'l:t' < 1000000000:=(aP b').get ht2;have HTP:=Ag (show(dig b').getD ((dig b').length - 1) 0=t' by rw[HBL.out,show n - 1=n1 by omega]; exact aN ht2);have ht'1:1≤t':=by have:=(pq ahc).1;rw[HTP.out] at this;exact this
 rw[← HLA.out] at hca HA ⊢;rw[HBL.out] at hcb HB ⊢;clear hNa' hNb' hxb ht2;have i1:(n:Int) - 1=(n1:Int):=byOmega;obtain⟨m,hm⟩:∃ m,m+n=la+1:=⟨la+1 - n,byOmega⟩;have hwm:IntKind.i64.wrap (IntKind.i64.wrap ((la:Int) - (n:Int))+1)=(m:Int):=by rw[IntWalk.i64_in ((la:Int) - (n:Int)) byOmega,IntWalk.i64_in _ byOmega];omega
 have HAL:=Ag (show Aj wn (fun b=>w.heap.size≤b) (.slice (some ⟨ba,oa,none⟩) (dig a').length ca) (dig a') by rw[← HLA.out]; exact HA.out);have HDR:=Ag (show Aj wn (fun b=>w.heap.size≤b) (.slice (some ⟨ba,oa+m,none⟩) ((dig a').drop m).length (ca - m)) ((dig a').drop m) from HAL.out.drop (by rw[← HLA.out]; omega) _ _ rfl);have hdl:((dig a').drop m).length=la - m:=by rw[List.length_drop,← HLA.out]
 have HDL:=Ag hdl;obtain⟨D,hD⟩:=named ((dig a').drop m);rw[← hD] at HDR HDL hdl;have HDE:=Ag hD;clear hD HAL;have hwb:=hB.size;go_wp2_with fail
 clear hfI i1;refine wp_region_held_drew (S:=fun _=>True) ah trivial (fun hHeld=>?_);refine tkm [0,1,2,3,4,6,7,8,9,10,11,12] ?_;clear hwm;refine lG (js:=[5,13,14,15,16]) ((Hold.of (Fact.limbs (fun b=>w.heap.size≤b) D) (.slice (some ⟨ba,oa+m,none⟩) D.length (ca - m))).and (Hold.below wn.heap.size wn))
  [(5,Fact.zeros wn.heap.size m),(13,Fact.limbs (fun b=>w.heap.size≤b) D),(14,Fact.limbs (fun b=>w.heap.size≤b) D),(15,Fact.zeros wn.heap.size m),(16,Fact.limbs (fun b=>w.heap.size≤b) D)] ah ⟨Aj.on HDR.out (Same.drewN _ _ 1),Nat.le_refl _,aI (Below.refl _ wn) 1⟩ (fun _ _=>trivial) ?_
 refine Flow.cons (o:=_) rfl (fun wk hS hf K hK=>?_) (fun v5=>?_)
 ·refine ifT' rfl ?_;refine afy _ _ _ 40 rfl 103 (.int .u32 0) 4 Tryz.underlying40 Tryz.infoU32 rfl m rfl rfl byOmega byOmega ?_;intro w1 hb1 hz1 hr1;exact hK.out _ _ hb1 ⟨_,rfl,hS.2.1,by rw[fD]; exact hr1⟩
 refine Zb ?_;refine Flow.cons (o:=_) rfl (fun wk hS hf K hK=>?_) (fun v13=>?_)
 ·have hSl:=hS.1;go_simp;try simp only[Int.toNat_natCast]
  have hml:m≤la:=byOmega;rw[if_pos hml];rw[show la - m=D.length from hdl.symm];by_cases hcm:ca=m
  ·have hD0:D = []:=List.eq_nil_of_length_eq_zero byOmega;rw[if_pos hcm];refine hK.out _ _ (Below.refl _ _) ?_;show Aj wk _ _ D;rw[hD0];exact iF _ _ _ _
  ·rw[if_neg hcm];exact hK.out _ _ (Below.refl _ _) hSl
 refine Zb ?_;refine Flow.cons (o:=_) rfl (fun wk hS hf K hK=>?_) (fun v14=>?_)
 ·have f13:=aJ (f:=Fact.limbs (fun b=>w.heap.size≤b) D) (hf (13,v13) aB ah) rfl;refine ifT' rfl ?_;refine aaD _ _ 40 Tryz.underlying40 rfl none (fun _ h=>by cases h) v13 D rfl rfl f13 byOmega ?_;intro u w' hb hi;exact hK.out _ _ hb (Aj.keep hi.limbs (fun b h _=>Nat.le_trans (Nat.le_trans hwb hS.2.1) h) (Same.refl _ _))
 refine Zb ?_;refine Flow.cons (o:=_) rfl (fun wk hS hf K hK=>?_) (fun v15=>?_)
 ·have f5:=aJ (f:=Fact.zeros wn.heap.size m) (hf (5,v5) aB ah) rfl;go_simp;exact hK.out _ _ (Below.refl _ _) f5
 refine Zb ?_;refine Flow.cons (o:=_) rfl (fun wk hS hf K hK=>?_) (fun v16=>?_)
 ·have f14:=aJ (f:=Fact.limbs (fun b=>w.heap.size≤b) D) (hf (14,v14) aB ah) rfl;go_simp;exact hK.out _ _ (Below.refl _ _) f14
 refine Zb ?_;refine Flow.nil (fun wE hS hf=>?_);have f15:=aJ (f:=Fact.zeros wn.heap.size m) (hf (15,v15) aB) rfl;have f16:=aJ (f:=Fact.limbs (fun b=>w.heap.size≤b) D) (hf (16,v16) aB) rfl;obtain⟨_,hSz,hSb⟩:=hS;obtain⟨bq,hv15,hbq,hrq⟩:=f15;dsimp only at hv15;subst hv15;have HRQ:=Ag hrq;have hBE:Below wn.heap.size wn wE:=hSb;have hBQ:=hrq.lt;have hR0:aH D < b':=by
  rw[HDE.out];refine Nat.lt_of_lt_of_le (ags a' m) ?_;have h1:=acf ahc;rw[HBL.out] at h1;rw[← HLA.out,show la - m=n - 1 by omega];exact h1
 have HR0:=Ag hR0;have HR16:=Ag (show Ah wE (fun b=>w.heap.size≤b) v16 (aH D) by unfold Ah; rw[HDE.out,aiI,← HDE.out]; exact f16);clear hf f16 hrq hHeld HDR hdl et hR0 hSz;have i4:(la:Int) - (n:Int)=(m:Int) - 1:=byOmega;go_wp2_with fail
 clear i4;try generalize IntKind.i64.wrap ((la:Int) - (n:Int))=jk
 go_loopw [5,9,10,11,12] (fun rv iv _ _ _ wr=>∃ (k R:Nat) (Q:List Nat),k≤m∧iv = .int .i64 ((k:Int) - 1)∧aH ((dig a').drop k)=b'*aH (Q.drop k)+R∧R < b'∧Q.length=m∧Limbs Q∧Row wr bq 103 (aT Q) ∧
  ((k=m∧Ah wr (fun b=>w.heap.size≤b) rv R)∨Bg (bq+1) (dig R) rv wr)∧Below wn.heap.size wn wr∧wE.heap.size≤wr.heap.size) (fun _ iv _ _ _ _=>(intOf iv+1).toNat)
 case atStart =>
  refine⟨m,aH D,List.replicate m 0,Nat.le_refl _,rfl,?_,HR0.out,aB,Limbs.zeros _,HRQ.out,.inl ⟨rfl,HR16.out⟩,hBE,Nat.le_refl _⟩;rw[← HDE.out,List.drop_of_length_le aB];simp[aH]
 case round =>
  clear HRQ HR0 HR16 hBE;obtain⟨k,R,Q,hk,rfl,hinv,hR,hQl,akq,hrq,hown,hbel,hsz⟩:=hrel;have hzw:=hbel.size;have hB2:Below w.heap.size w wr:=hB.trans (hbel.mono hwb);have HQL:=Ag hQl;have HQM:=Ag akq;have HI:=Ag hinv;have HO:=Ag hown;have hvr:Ah wr (fun b=>w.heap.size≤b) u5 R:=by
   rcases hown with h | h
   ·exact h.2
   ·exact Aj.keep h.limbs (fun b hb _=>by omega) (Same.refl _ _)
  have hRl:(dig R).length≤n:=by have:=aU (Nat.le_of_lt hR);rw[HBL.out] at this;exact this
  clear hQl akq hinv hown;rcases Nat.eq_zero_or_pos k with h0 | h0
  ·subst h0;have afq:Bg (bq+1) (dig R) u5 wr:=by
    rcases HO.out with h | h
    ·omega
    ·exact h
   clear hvr HO;have hsc:=yD (a:=a) (b:=b) (f:=f) (q:=aH Q) (r:=R) byOmega (by have:=HI.out; rw[List.drop_zero,List.drop_zero,aW,HSC.out.1,HSC.out.2] at this; exact this) (by rw[← HSC.out.2]; exact hR);have HQR:=Ag hsc;clear hsc;have hfd:dig f = [f]:=kV byOmega (by unfold LB; omega);obtain⟨Af,cf,hvf,hcf,hNf⟩:=HF.out;have hfl:(dig f).length=1:=by rw[hfd];rfl
   obtain⟨bf,of,rfl,_,hbf,hxf⟩:=hNf byOmega;have ef:wn.cell? ⟨bf,of,none⟩=some (.int .u32 (f:Int)):=by
    have:=hxf 0 f (by rw[hfd]; rfl);unfold dB at this;simpa using this
   rw[hfl] at hvf hcf;subst hvf;obtain⟨Ar,cr,rfl,hcr,hrr⟩:=afq;obtain⟨t0,ht0⟩:=named ((dig R).length);rw[← ht0] at hcr hrr hRl ⊢;have HT0:=Ag ht0;have aiJ:Aj wr (fun b=>w.heap.size≤b) (.slice (some ⟨bq,0,none⟩) m m) Q:=jr hrq (by show w.heap.size≤bq; omega) HQL.out (Nat.le_refl _);clear hNf hxf hfd hfl HI;rcases Nat.eq_zero_or_pos t0 with h0 | hpos
   ·subst h0;have HR0:=Ag (show R=0 by rw[← vW]; exact HT0.out.symm);have HQW:=Ag aiJ;clear aiJ;clear ht0;obtain⟨wp,rfl⟩:∃ wp:World,wp=wr:=⟨_,rfl⟩;go_wp2_with fail
    go_loopw [13,14] (fun _ iv wr=>iv = .int .i64 (-1)∧wp=wr) (fun _ _ _=>0)
    case atStart=>exact⟨rfl,rfl⟩
    case round =>
     obtain⟨rfl,rfl⟩:=hrel;go_wp2_with fail
     refine(kH wp (fun b=>w.heap.size≤b) (some ⟨bq,0,none⟩) m m Q HQL.out HQW.out byOmega).mono ?_;rintro e w' ⟨rfl,rfl⟩;have HTQ:=Ag (Aj.trim HQL.out HQW.out HQM.out);dsimp only;go_wp2_with fail
     refine(kH wp (fun b=>w.heap.size≤b) Ar 0 cr [] rfl (iF _ _ _ _) byOmega).mono ?_;rintro e w' ⟨rfl,rfl⟩;dsimp only;go_wp2
     go_ret2;refine⟨_,rfl,hB2,_,_,rfl,?_,?_⟩
     ·rw[← HQR.out.1];exact HTQ.out.mono fun b hb _=>.inr hb
     ·rw[← HQR.out.2,HR0.out,Nat.zero_div];exact Ah.zero _ _ _ _
   ·obtain⟨g,rest,rfl,hg,hrow⟩:=hrr hpos;have hglt:=hrow.lt;have AZ:=Ag hrow;clear hrr aiJ hrow ht0;have HRQ2:=Ag hrq;clear hrq;have hd0:aH ((dig R).drop t0)=0:=by rw[List.drop_of_length_le (by rw[← HT0.out]; omega)];rfl
    obtain⟨wp,rfl⟩:∃ wp:World,wp=wr:=⟨_,rfl⟩;go_wp2_with fail
    go_loopw [13,14] (fun sv iv wr=>∃ (kk s:Nat) (l:List Nat),kk≤t0∧iv = .int .i64 ((kk:Int) - 1)∧sv = .int .u64 (s:Int)∧s < f∧l.length=t0∧l.take kk=(dig R).take kk∧aH ((dig R).drop kk)=f*aH (l.drop kk)+s∧Limbs l ∧
     Row wr g 103 (aT l++rest)∧Row wr bq 103 (aT Q)∧Below wn.heap.size wn wr∧wp.heap.size≤wr.heap.size) (fun _ iv _=>(intOf iv+1).toNat)
    case atStart =>
     exact⟨t0,0,dig R,Nat.le_refl _,rfl,rfl,byOmega,HT0.out.symm,rfl,by rw[hd0]; omega,aP R,AZ.out,HRQ2.out,hbel,Nat.le_refl _⟩
    case round =>
     clear AZ HRQ2 hd0;obtain⟨kk,s,l,hkk,rfl,rfl,hsf,hll,htk,hinv,hlim,hrow,hrq,oL,hsz2⟩:=hrel;have HTK:=Ag htk;have HINV:=Ag hinv;have Et:=Ag hlim;have HLL:=Ag hll;have hef:wr.cell? ⟨bf,of,none⟩=some (.int .u32 (f:Int)):=(aQ oL bf of hbf).trans ef;have hzb:=oL.size;have hBw:Below w.heap.size w wr:=hB.trans (oL.mono hwb);clear htk hinv hlim;rcases Nat.eq_zero_or_pos kk with h0 | h0
     ·subst h0;have hfin:aH l=R / f:=by
       have h1:=HINV.out;rw[List.drop_zero,List.drop_zero,aW] at h1;rw[h1,Nat.mul_add_div byOmega,Nat.div_eq_of_lt hsf,Nat.add_zero]
      have Dz:=Ag hfin;have HQW:=Ag (show Aj wr (fun b=>w.heap.size≤b) (.slice (some ⟨bq,0,none⟩) m m) Q from jr hrq (by show w.heap.size≤bq; omega) HQL.out (Nat.le_refl _));have HRW:=Ag (show Aj wr (fun b=>w.heap.size≤b) (.slice (some ⟨g,0,none⟩) t0 cr) l from(Bg.limbs (B:=w.heap.size) ⟨_,cr,by rw[hll],byOmega,fun _=>⟨g,rest,rfl,byOmega,hrow⟩⟩));clear hfin hrow hrq hll;go_wp2_with fail
      refine(kH wr (fun b=>w.heap.size≤b) (some ⟨bq,0,none⟩) m m Q HQL.out HQW.out byOmega).mono ?_;rintro e w' ⟨rfl,rfl⟩;have HTQ:=Ag (Aj.trim HQL.out HQW.out HQM.out);dsimp only;go_wp2_with fail
      refine(kH wr (fun b=>w.heap.size≤b) (some ⟨g,0,none⟩) t0 cr l HLL.out HRW.out byOmega).mono ?_;rintro e w' ⟨rfl,rfl⟩;have HTR:=Ag (Aj.trim HLL.out HRW.out Et.out);dsimp only;go_wp2
      go_ret2;refine⟨_,rfl,hBw,_,_,rfl,?_,?_⟩
      ·rw[← HQR.out.1];exact HTQ.out.mono fun b hb _=>.inr hb
      ·rw[← HQR.out.2,← Dz.out];exact HTR.out.mono fun b hb _=>.inr hb
     ·obtain⟨k2,rfl⟩:∃ k2,kk=k2+1:=⟨kk - 1,byOmega⟩;have e3:((k2+1:Nat):Int) - 1=(k2:Int):=byOmega;rw[e3];obtain⟨y,hy⟩:=getSome (l:=l) (k:=k2) byOmega;have hyl:y < 1000000000:=Et.out.get hy;have hyd:(dig R)[k2]? = some y:=by
       have h1:(l.take (k2+1))[k2]? = ((dig R).take (k2+1))[k2]?:=by rw[HTK.out]
       rw[List.getElem?_take_of_lt byOmega,List.getElem?_take_of_lt byOmega,hy] at h1;exact h1.symm
      have hyc:(aT l++rest)[k2]? = some (.int .u32 (y:Int)):=by
       rw[List.getElem?_append_left aF];exact aY hy
      have ey:=hrow.cell hyc;have fy:=hrow.frozen k2;obtain⟨e,he⟩:=named ((s*LB+y) / f);obtain⟨s2,hs2⟩:=named ((s*LB+y) % f);have hel:e < LB:=by rw[he];exact rZ hsf hyl
      have hs2l:s2 < f:=by rw[hs2];exact Nat.mod_lt _ byOmega
      have hqI:((s:Int)*1000000000+(y:Int)) / (f:Int)=(e:Int):=by
       rw[he,← lF];congr 1
      have hrI:((s:Int)*1000000000+(y:Int)) % (f:Int)=(s2:Int):=by
       rw[hs2,← qE];congr 1
      have HST:=Ag (uP (A:=0) (q:=l) (a:=dig R) (i:=k2) (d:=f) (r:=s) (r':=s2) (s:=e) byOmega HINV.out (by rw[aN hyd,he,hs2]; exact(Nat.div_add_mod _ _).symm));have CQ:=Ag hrow;have HRQ3:=Ag hrq;have hgw:g < wr.heap.size:=byOmega;have hell:e < 1000000000:=hel;clear he hs2 hyd hyc hy hrow hrq hll;go_wp2
      go_roundw
      case rel =>
       refine⟨k2,s2,l.set k2 e,byOmega,by go_num,by go_num,hs2l,by rw[List.length_set]; exact HLL.out,?_,HST.out,Et.out.set hel,?_,?_,?_,?_⟩
       ·have h1:=HTK.out;have h2:=congrArg (List.take k2) h1;rw[List.take_take,List.take_take,Nat.min_eq_left byOmega] at h2;rw[List.take_set_of_le byOmega];exact h2
       ·have h:=CQ.out.set k2 (.int .u32 (e:Int));rw[List.set_append_left _ _ (by have:=HLL.out; simp; omega),aZ] at h;exact h
       ·exact HRQ3.out.other (a:=⟨g,k2,none⟩) aF _
       ·exact oL.setCell (p:=⟨g,k2,none⟩) (by show wn.heap.size≤g; omega) _
       ·simp;omega
      case measure=>simp[intOf]
  ·obtain⟨j,rfl⟩:∃ j,k=j+1:=⟨k - 1,byOmega⟩;have e1:((j+1:Nat):Int) - 1=(j:Int):=byOmega;rw[e1];have hjm:j < m:=byOmega;have hjla:j < la:=byOmega;have hRA:=HA.out.below hbel;obtain⟨x,hx'⟩:=getSome (l:=dig a') (k:=j) (by rw[← HLA.out]; omega);have ex:wr.cell? ⟨ba,oa+j,none⟩=some (.int .u32 (x:Int)):=by
    obtain⟨A2,c2,hE,_,hh⟩:=hRA;cases hE;obtain⟨b2,o2,hE2,_,_,hxx⟩:=hh (by rw[← HLA.out]; omega);cases hE2;have:=hxx j x hx';unfold dB at this;rw[Nat.mul_one] at this;exact this
   have hxl:x < 1000000000:=(aP a').get hx';have HX:=Ag (aN hx');clear hx' hRA;have HVR:=Ag hvr;obtain⟨Ar,cr,rfl,hcr,_⟩:=hvr;obtain⟨wp,rfl⟩:∃ wp:World,wp=wr:=⟨_,rfl⟩;go_wp2_with (at_builtin; refine ad1 (w:=wp) (F:=fun b=>w.heap.size≤b) rfl _ _ 40 Tryz.underlying40 rfl x _ (dig R) rfl rfl rfl HVR.out byOmega ?_; intro A3 c3 w3 hb3 hi3; have HI3:=Ag hi3; clear hi3)
   have hz3:=hb3.size;refine(kH w3 (fun b=>wp.heap.size≤b) A3 ((dig R).length+1) c3 (x :: dig R) aB HI3.out byOmega).mono ?_;rintro e w' ⟨rfl,rfl⟩;have htr:=Aj.trim aB HI3.out (fun y hy=>by
    rcases List.mem_cons.1 hy with h | h
    ·subst h;exact hxl
    ·exact aP R y h)
   rw[show aH (x :: dig R)=x+LB*R by show x+LB*aH (dig R)=_; rw[aW]] at htr;obtain⟨hRb,hRrl⟩:=ad2 (x:=x) hR HBL.out hxl;obtain⟨Rr,hRr⟩:=named (x+LB*R);rw[← hRr] at htr hRb hRrl;have HRR:=Ag hRr;have hte:dP (x :: dig R) ((dig R).length+1)=(dig Rr).length:=by
    obtain⟨A5,c5,he,_⟩:=htr;injection he
   rw[hte] at htr ⊢;have HTR:=Ag htr;obtain⟨lr,hlr⟩:=named ((dig Rr).length);rw[← hlr] at hRrl HTR ⊢;have HLR:=Ag hlr;have hxr:∀ k y:Nat,(dig Rr)[k]? = some y→∃ b o,A3=some ⟨b,o,none⟩∧w3.cell? ⟨b,o+k,none⟩=some (.int .u32 (y:Int)):=by
    intro k y hk;obtain⟨A5,c5,he,_,hh⟩:=htr;cases he;obtain⟨b5,o5,e5,_,_,hx5⟩:=hh (by have:=lt_of_get hk; omega);have h9:=hx5 k y hk;unfold dB at h9;rw[Nat.mul_one] at h9;exact⟨b5,o5,e5,h9⟩
   have HXR:=Ag hxr;clear hRr hte hlr hxr htr HI3 HVR hcr;dsimp only;go_wp2_with fail
   go_loopw [10,11] (fun lv kv wr=>∃ kk L:Nat,kk≤lr∧(n1≤kk∨kk=lr)∧kv = .int .i64 ((kk:Int) - 1)∧lv = .int .u64 (L:Int)∧L=aH ((dig Rr).drop kk)∧w3=wr) (fun _ kv _=>(intOf kv+1).toNat)
   case atStart=>exact⟨lr,0,Nat.le_refl _,.inr rfl,rfl,rfl,by rw[List.drop_of_length_le (by rw[← HLR.out]; omega)]; rfl,rfl⟩
   case round =>
    obtain⟨kk,L,hkk,hkn,rfl,rfl,hL,rfl⟩:=hrel;have HLL:=Ag hL;clear hL;by_cases hkc:n1+1≤kk
    ·obtain⟨k1,rfl⟩:∃ k1,kk=k1+1:=⟨kk - 1,byOmega⟩;have e2:((k1+1:Nat):Int) - 1=(k1:Int):=byOmega;rw[e2];obtain⟨y,hy⟩:=getSome (l:=dig Rr) (k:=k1) (by rw[← HLR.out]; omega);obtain⟨b5,o5,rfl,ey⟩:=HXR.out k1 y hy;have hyl:y < 1000000000:=(aP Rr).get hy;have hL1:L < 1000000000:=by
      rw[HLL.out];refine Nat.lt_of_lt_of_le (ags Rr (k1+1)) ?_;rw[← HLR.out];have:LB ^ (lr - (k1+1))≤LB ^ 1:=Nat.pow_le_pow_right ay byOmega;simpa using this
     have HNX:=Ag (ahh (n:=n) hy HLL.out);clear hy;have hi5:(n:Int) - 1=(n1:Int):=byOmega;have hc5:decide ((n1:Int)≤(k1:Int))=true:=decide_eq_true byOmega;go_wp2
     go_roundw
     case rel=>exact⟨k1,L*LB+y,byOmega,byOmega,by go_num,by go_num,HNX.out,by first | rfl | trivial⟩
     case measure=>simp[intOf]
    ·have hLv:L=Rr / LB ^ n1:=by
      rw[HLL.out];rcases hkn with h | h
      ·rw[show kk=n1 by omega,abj _ (aP Rr),aW]
      ·rw[h,List.drop_of_length_le (by rw[← HLR.out]; omega)];have h2:=jW Rr;rw[← HLR.out] at h2;have h3:LB ^ lr≤LB ^ n1:=Nat.pow_le_pow_right ay byOmega;rw[Nat.div_eq_of_lt byOmega];rfl
     have HLV:=Ag hLv;clear hLv HLL;have hi5:(n:Int) - 1=(n1:Int):=byOmega;have hc5:decide ((n1:Int)≤(kk:Int) - 1)=false:=decide_eq_false byOmega;have hbn:aH []=0:=rfl;have hge:=ah2 (b:=b') (r:=Rr) ahc hRb;rw[HBL.out,show n - 1=n1 by omega,show(dig b').getD n1 0=t' by have:=HTP.out; rwa [HBL.out,show n - 1=n1 by omega] at this,← HLV.out] at hge;obtain⟨q,hq⟩:=named (L / t');rw[← hq] at hge;have hqI:(L:Int) / (t':Int)=(q:Int):=by rw[hq,lF]
     have hLlt:L < 1000000000000000000:=by
      rw[HLV.out];refine(Nat.div_lt_iff_lt_mul (Bj _)).2 ?_;refine Nat.lt_of_lt_of_le (jW Rr) ?_;rw[← HLR.out,show(1000000000000000000:Nat)=LB ^ 2 by decide,← Nat.pow_add];exact Nat.pow_le_pow_right ay byOmega
     have hql:q < 1000000000000000000:=by rw[hq];exact Nat.lt_of_le_of_lt (Nat.div_le_self _ _) hLlt
     have HGE:=Ag hge;have HB3:=Ag ((HB.out.below hbel).below hb3);clear hq hge hkn;go_wp2_with fail
     all_goals
      go_loopw [12] (fun dv wr=>∃ d:Nat,dv = .int .u64 (d:Int)∧Rr / b'≤d∧d < 1000000000∧Below w3.heap.size w3 wr) (fun dv _=>(intOf dv).toNat)
      case atStart =>
       first
        | exact⟨q,by first | rfl | go_num,by have:=HGE.out; omega,byOmega,Below.refl _ _⟩
        | exact⟨999999999,by first | rfl | go_num,by have:=HGE.out; unfold LB at this; omega,byOmega,Below.refl _ _⟩
      case round =>
       obtain⟨d,rfl,hdge,hdl,hb4⟩:=hrel;have hz4:=hb4.size;have HD:=Ag hdge;clear hdge;have HBR:=Ag (HB3.out.below hb4);have HRR4:=Ag (Ah.below (n:=Rr) HTR.out hb4);go_wp2_with fail
       refine(vC wr d byOmega).mono ?_;rintro e w5 ⟨vd,rfl,hb5,hvd⟩;have HVD:=Ag hvd;clear hvd;have hz5:=hb5.size;have HBR5:=Ag (HBR.out.below hb5);have HRR5:=Ag (Ah.below (n:=Rr) HRR4.out hb5);dsimp only;go_wp2_with fail
       refine(lY w5 (fun b=>w.heap.size≤b) _ _ b' d HBR5.out (HVD.out.mono (fun b hb _=>by omega)) (by rw[HBL.out]; omega) (by have:=aS (n:=d) (k:=1) (by unfold LB; omega); omega)).mono ?_;rintro e w6 ⟨vt,rfl,hb6,hvt⟩;have HVT:=Ag hvt;clear hvt;have hz6:=hb6.size;have HRR6:=Ag (Ah.below (n:=Rr) HRR5.out hb6);have hltd:(dig (b'*d)).length≤n+1:=Nat.le_trans (fC _ _) (by rw[HBL.out]; have:=aS (n:=d) (k:=1) (by unfold LB; omega); omega);dsimp only;go_wp2_with fail
       refine(vw w6 (fun b=>w.heap.size≤b) _ _ (b'*d) Rr (HVT.out.mono (fun b hb _=>by omega)) (HRR6.out.mono (fun b hb _=>by omega)) byOmega (by rw[← HLR.out]; omega)).mono ?_;rintro e w7 ⟨_,rfl,hb7,rfl⟩;have hb47:Below w3.heap.size w3 w7:=hb4.trans ((hb5.trans ((hb6.trans (hb7.mono hz6)).mono hz5)).mono hz4);by_cases hgt:Rr < b'*d
       ·have hdd:decide (0 < bZ (b'*d) Rr)=true:=decide_eq_true (ad3.2 hgt);have akM:Rr / b' < d:=(Nat.div_lt_iff_lt_mul byOmega).2 (by rw[Nat.mul_comm]; exact hgt);have hd1:1≤d:=Nat.lt_of_le_of_lt (Nat.zero_le _) akM;have HDL:=Ag akM;clear hgt akM;dsimp only;go_wp2
        go_roundw
        case rel=>exact⟨d - 1,by go_num,Nat.le_sub_one_of_lt HDL.out,byOmega,hb47⟩
        case measure=>simp[intOf]; omega
       ·have hdd:decide (0 < bZ (b'*d) Rr)=false:=decide_eq_false (fun h=>hgt (ad3.1 h));have hde:d=Rr / b':=ah3 ahc HD.out byOmega;have Eu:=Ag hde;clear hgt hde;have hz7:=hb7.size;have HBR7:=Ag (HBR5.out.below (hb6.trans (hb7.mono hz6)));have HRR7:=Ag (Ah.below (n:=Rr) HRR6.out hb7);have hz47:=hb47.size;dsimp only;go_wp2_with fail
        refine(vC w7 d byOmega).mono ?_;rintro e w8 ⟨vd,rfl,hb8,hvd⟩;have HVD8:=Ag hvd;clear hvd;have hz8:=hb8.size;dsimp only;go_wp2_with fail
        refine(lY w8 (fun b=>w.heap.size≤b) _ _ b' d (HBR7.out.below hb8) (HVD8.out.mono (fun b hb _=>by omega)) (by rw[HBL.out]; omega) (by have:=aS (n:=d) (k:=1) (by unfold LB; omega); omega)).mono ?_;rintro e w9 ⟨vt,rfl,hb9,hvt⟩;have HVT9:=Ag hvt;clear hvt;have hz9:=hb9.size;have hle9:b'*d≤Rr:=by rw[Eu.out];exact Nat.mul_div_le _ _
        dsimp only;go_wp2_with fail
        refine(afb w9 (fun b=>w.heap.size≤b) _ _ Rr (b'*d) ((Ah.below (n:=Rr) HRR7.out (hb8.trans (hb9.mono hz8))).mono (fun b hb _=>by omega)) (HVT9.out.mono (fun b hb _=>by omega)) hle9 (by rw[← HLR.out]; omega)).mono ?_;rintro e w10 ⟨_,rfl,hb10,l10,A10,c10,rfl,hn10,hl10,aiK⟩;have afq:=aaE aiK hl10;rw[hn10,show Rr - b'*d=Rr % b' from agJ Eu.out] at afq;have aiL:Below w3.heap.size w3 w10:=hb47.trans ((hb8.trans ((hb9.trans (hb10.mono hz9)).mono hz8)).mono hz47);have aiM:Below wp.heap.size wp w10:=hb3.trans (aiL.mono hz3);have hbqw:bq < wp.heap.size:=Nat.lt_of_lt_of_le hBQ hsz;have agt:=hrq.below aiM hbqw;have hz10:=hb10.size;have HCOP:=Ag afq;have hvl:∃ v10,v10=Value.slice A10 (dP l10 l10.length) c10:=⟨_,rfl⟩;obtain⟨v10,hv10⟩:=hvl;have HV10:=Ag hv10;have hqd:Q.length=m:=HQL.out;have hjQ:(aT Q).length=m:=by simp[hqd]
        obtain⟨yq,hyq⟩:=getSome (l:=aT Q) (k:=j) byOmega;have hcq:=agt.cell hyq;have hfq:=agt.frozen j;have aiN:Below wn.heap.size wn w10:=hbel.trans (aiM.mono hzw);have EO:=Ag aiN;have EP:=Ag agt;have HNXT:=Ag (agK (a:=dig a') (q:=Q) (i:=j) (b:=b') (r:=R) (d:=d) byOmega HI.out (by rw[HX.out,← HRR.out]; exact Eu.out));have nD:bq+1≤w9.heap.size:=byOmega;have hwq:wE.heap.size≤w10.heap.size:=byOmega;clear aiK hn10 hl10 afq hyq agt hb10 hb9 hb8 hb7 hb6 hb5 hb4 aiL aiM aiN hle9 hv10 hrq;dsimp only;go_wp2
        go_roundw
        case rel =>
         refine⟨j,Rr % b',Q.set j d,byOmega,by go_num,?_,Nat.mod_lt _ byOmega,by rw[List.length_set]; exact hqd,HQM.out.set hdl,?_,.inr ?_,?_,?_⟩
         ·have h:=HNXT.out;rw[HX.out,← HRR.out] at h;exact h
         ·have h:=EP.out.set j (.int .u32 (d:Int));rw[aZ] at h;exact h
         ·refine Bg.lower (B:=w9.heap.size) (HCOP.out.other (fun g hg _=>?_)) nD;exact Below.heap_setCell _ _ _ _ (fun e=>by simp at e; omega)
         ·exact EO.out.setCell (p:=⟨bq,j,none⟩) hbq _
         ·simp;exact hwq
        case measure=>simp[intOf]
theorem xW (w:World) (F:Foot) (va vb:Value) (a b:Nat) (ha:Ah w F va a) (hb:Ah w F vb b) (hb0:b≠0) (hla:(dig a).length≤50000) (hlb:(dig b).length≤50000) :
  Calls Tryz.prog 111 #[va,vb] w (Ret w (CB F w.heap.size a b)):=by
 by_cases hlt:a < b
 ·have hord:decide (bZ a b < 0)=true:=by rw[iy hlt];rfl
  have HLT:=Ag hlt;have HVA:=Ag ha;have HVB:=Ag hb;clear ha hb hlt hb0;go_in;go_wp2_with fail
  refine(vw w F _ _ a b HVA.out HVB.out byOmega byOmega).mono ?_;rintro e wn ⟨_,rfl,hb1,rfl⟩;generalize bZ a b=od at *;dsimp only;go_wp2
  go_ret2;refine⟨_,rfl,hb1,_,_,rfl,?_,?_⟩
  ·exact zcq
  ·rw[Nat.mod_eq_of_lt HLT.out];exact HVA.out.ext hb1
 ·exact afA w F va vb a b ha hb hb0 hla byOmega
theorem ad4 (w:World) (F:Foot) (va vb:Value) (a0 b0:Nat) (ha:Ah w F va a0) (hb:Ah w F vb b0) (hla:(dig a0).length≤50000) (hlb:(dig b0).length≤50000) :
  Calls Tryz.prog 95 #[va,vb] w (Ret w fun v w'=>Ah w' (Ext F w.heap.size) v (Nat.gcd a0 b0)):=by
 have HA:=Ag ha;have HB:=Ag hb;clear ha hb;obtain⟨G,hG⟩:=named (Nat.gcd a0 b0);rw[← hG];have HG:=Ag hG;clear hG;go_in;go_wp2_with fail
 go_loopg [0,1,5,6] b0 (fun f va vb _ _ wr=>∃ a b,b=f∧Ah wr (Ext F w.heap.size) va a∧Ah wr (Ext F w.heap.size) vb b∧G=Nat.gcd a b∧(dig a).length≤50000∧(dig b).length≤50000∧Below w.heap.size w wr)
 case atStart=>exact⟨a0,b0,rfl,HA.out.mono (fun b h _=>.inl h),HB.out.mono (fun b h _=>.inl h),HG.out,hla,hlb,Below.refl _ _⟩
 case round =>
  clear HA HB hla hlb HG;obtain⟨a,b,rfl,hna,hnb,wJ,hla,hlb,hbel⟩:=hrel;have HNA:=Ag hna;have HNB:=Ag hnb;have HGC:=Ag wJ;obtain⟨A,c,rfl,hc,_⟩:=hna;obtain⟨B,d,rfl,hd,_⟩:=hnb;have hz:=hbel.size;clear wJ;by_cases hb0:b=0
  ·have d1:decide (0 < (dig b).length)=false:=decide_eq_false (by rw[hb0,bD]; simp);exact zbb
  ·have d1:decide (0 < (dig b).length)=true:=decide_eq_true (bG.2 hb0);have HB0:=Ag hb0;have hml:a % b < b:=Nat.mod_lt _ byOmega;clear hb0;go_wp2_with fail
   refine(xW wr (Ext F w.heap.size) _ _ a b HNA.out HNB.out HB0.out hla hlb).mono ?_;rintro e w2 ⟨_,rfl,hb2,vq,vr,rfl,hq,hr⟩;have HR:=Ag hr;clear hq hr;have hlr:(dig (a % b)).length≤50000:=by have:=aU (Nat.le_of_lt hml);omega
   have HML:=Ag hml;go_wp2
   go_roundg (a % b)
   case measure=>exact HML.out
   case rel=>exact⟨b,a % b,rfl,HNB.out.below hb2,HR.out.mono (fun b hb _=>hb.elim id fun h=>.inr byOmega),by rw[HGC.out,Nat.gcd_comm,Nat.gcd_rec,Nat.gcd_comm],hlb,hlr,hbel.trans (hb2.mono hz)⟩
theorem ajU {neg:Bool} {n d g:Nat} (hd:d≠0) (hn:n≠0) (hg:g=Nat.gcd n d):aG (mkRat (sgI neg n) d)=⟨neg,dig (n / g),dig (d / g)⟩:=by
 have h:=iW (sgI neg n) hd;rw[nK,← hg] at h;unfold aG;rw[h.1,h.2.1,jX _ hd,tX hn]
theorem oM:aG 0=⟨false,[],[1]⟩:=by
 unfold aG;rw[show(0:Rat).num=0 from rfl,show(0:Rat).den=1 from rfl,Int.natAbs_zero,bD,iZ];rfl
theorem afB (w:World) (F:Foot) (neg:Bool) (vn vd:Value) (n d:Nat) (hn:Ah w F vn n) (hd:Ah w F vd d) (hd0:d≠0) (hln:(dig n).length≤50000) (hld:(dig d).length≤50000) :
  Calls Tryz.prog 53 #[.bool neg,vn,vd] w (Ret w fun v w'=>RtV w' (Ext F w.heap.size) v (mkRat (sgI neg n) d)):=by
 have HN:=Ag hn.old;have HD:=Ag hd.old;obtain⟨A,c,rfl,hc,_⟩:=hn;obtain⟨B,e,rfl,he,_⟩:=hd;by_cases h0:n=0
 ·have HZ:=Ag (show mkRat (sgI neg n) d=0 by rw[h0,agn]);have hl0:(((dig n).length:Int)==0)=true:=by rw[h0,bD];rfl
  clear h0 hd0;go_in;go_wp2
  obtain⟨W,hW,hr,hr2,hB,hz⟩:=alloc2 w 42 #[.bool false,.slice none 0 0,.slice (some ⟨w.heap.size+1,0,none⟩) 1 1] 103 #[.int .u32 1];rw[← hW];clear hW;have t0:=hr.cell (i:=0) rfl;have t1:=hr.cell (i:=1) rfl;have t2:=hr.cell (i:=2) rfl;refine bodyPost_ret (v:=.agg #[.bool false,.slice none 0 0,.slice (some ⟨w.heap.size+1,0,none⟩) 1 1]) (by simp[results,Tryz.results53,go_sem,t0,t1,t2]) rfl ?_;refine⟨_,rfl,hB,?_⟩;unfold RtV;rw[HZ.out,oM];refine Ak.make rfl (iF _ _ _ _) ?_;have h2:=Row.limbs (l:=[1]) (by simpa [aT] using hr2) (F:=Ext F w.heap.size) (.inr byOmega) (n:=1) (c:=1) aB (Nat.le_refl _);simpa using h2
 ·obtain⟨g,hg⟩:=named (Nat.gcd n d);have HLR:=Ag (ajU (neg:=neg) hd0 h0 hg);have hg0:g≠0:=by rw[hg];exact Nat.ne_of_gt (Nat.gcd_pos_of_pos_right _ (Nat.pos_of_ne_zero hd0))
  have hlg:(dig g).length≤50000:=Nat.le_trans (aU (by rw[hg]; exact Nat.gcd_le_right _ (Nat.pos_of_ne_zero hd0))) hld;have hl0:(((dig n).length:Int)==0)=false:=by have:=bG.2 h0;exact beq_false_of_ne byOmega
  have HG:=Ag hg;clear hg h0 hd0;go_in;go_wp2_with fail
  refine Yt ?_;intro W hr hB hz;replace HN:=Ag (Ah.below (n:=n) HN.out hB);replace HD:=Ag (Ah.below (n:=d) HD.out hB);refine(ad4 _ _ _ _ n d HN.out HD.out hln hld).mono ?_;rintro e wn ⟨vg,rfl,hb,hu⟩;rw[← HG.out] at hu;have HGG:=Ag (hu.mono (G:=(Ext (Old F w.heap.size) (w.heap.size+1))) (fun b hb _=>hb.elim .inl fun h=>.inr byOmega));clear hu;replace HN:=Ag (HN.out.below hb);replace HD:=Ag (HD.out.below hb);refine Yy ?_;clear hr hz hB hb;intro hr hz hB;go_wp2_with fail
  refine(xW _ (Ext (Old F w.heap.size) (w.heap.size+1)) _ _ n g (Ah.mono HN.out (fun b hb _=>.inl hb)) HGG.out hg0 hln hlg).mono ?_;rintro e wn ⟨_,rfl,hb,vq,vr,rfl,hu,hu2⟩;have HQ:=Ag (hu.mono (G:=(Ext (Old F w.heap.size) (w.heap.size+1))) (fun b hb _=>hb.elim id fun h=>.inr byOmega));obtain⟨Aq,cq,rfl,_,_⟩:=hu;clear hu2;replace HN:=Ag (HN.out.below hb);replace HD:=Ag (HD.out.below hb);replace HGG:=Ag (HGG.out.below hb);refine Yy ?_;clear hr hz hB hb;intro hr hz hB;go_wp2_with fail
  refine(xW _ (Ext (Old F w.heap.size) (w.heap.size+1)) _ _ d g (Ah.mono HD.out (fun b hb _=>.inl hb)) HGG.out hg0 hld hlg).mono ?_;rintro e wn ⟨_,rfl,hb,vq2,vr2,rfl,hu,hu2⟩;have HP:=Ag (hu.mono (G:=(Ext (Old F w.heap.size) (w.heap.size+1))) (fun b hb _=>hb.elim id fun h=>.inr byOmega));obtain⟨Ap,cp,rfl,_,_⟩:=hu;clear hu2;replace HN:=Ag (HN.out.below hb);replace HD:=Ag (HD.out.below hb);replace HGG:=Ag (HGG.out.below hb);replace HQ:=Ag (HQ.out.below hb);refine Yy ?_;clear hr hz hB hb;intro hr hz hB;refine Zp ?_;intro q0 y0 q1 y1 q2 y2;go_wp2
  obtain⟨Wz,hWz,hrz,hwz,hkz⟩:=bW hr (.bool neg) (.slice Aq (dig (n / g)).length cq) (.slice Ap (dig (d / g)).length cp);refine Zj ?_;clear hWz q0 q1 q2 y0 y1 y2;intro t0 t1 t2;refine bodyPost_ret (v:=.agg #[.bool neg,.slice Aq (dig (n / g)).length cq,.slice Ap (dig (d / g)).length cp]) (by simp[results,Tryz.results53,go_sem,t0,t1,t2]) rfl ?_;exact⟨_,rfl,hwz _ _ (Nat.le_refl _) hB,by unfold RtV; rw[HLR.out]; exact(Ak.make (r:=⟨neg,dig (n / g),dig (d / g)⟩) rfl HQ.out HP.out).keep (fun b hb _=>hb.elim (fun h=>.inl h.1) fun h=>.inr byOmega) (hkz _ (fun h=>h.elim (fun h=>by have:=h.2; omega) fun h=>by omega))⟩
theorem ajV (x y:Rat):mkRat (sgI (dF x != dF y) (x.num.natAbs*y.num.natAbs)) (x.den*y.den)=x*y:=by
 rw[ajC,mG,mG,← Rat.mul_def']
theorem ad5 (w:World) (F:Foot) (va vb:Value) (x y:Rat) (ha:RtV w F va x) (hb:RtV w F vb y) (hlx:rl x≤20000) (hly:rl y≤20000) :
  Calls Tryz.prog 16 #[va,vb] w (Ret w fun v w'=>RtV w' (Ext F w.heap.size) v (x*y)):=by
 have lx:=gJ x;have lx2:=gK x;have ly:=gJ y;have ly2:=gK y;have hl1:(dig (x.num.natAbs*y.num.natAbs)).length≤40000:=Nat.le_trans (fC _ _) byOmega;have hl2:(dig (x.den*y.den)).length≤40000:=Nat.le_trans (fC _ _) byOmega;have HML:=Ag (ajV x y);have hd0:x.den*y.den≠0:=Nat.mul_ne_zero x.den_nz y.den_nz;refine zb8 ?_;intro HX HY;obtain⟨A,c,B,d,rfl,hn,hd⟩:=ha.open;obtain⟨A',c',B',d',rfl,hn',hd'⟩:=hb.open;clear hn hd hn' hd' ha hb;go_in;go_wp2_with fail
 obtain⟨W,hW,rx,ry,rz,hB,hz⟩:=lC w 42 #[.bool (aG x).neg,.slice A (aG x).num.length c,.slice B (aG x).den.length d] 42 #[.bool (aG y).neg,.slice A' (aG y).num.length c',.slice B' (aG y).den.length d'] 42 #[.bool false,.slice none 0 0,.slice none 0 0];rw[← hW];clear hW;replace HX:=Ag (HX.out.on (Below.same' hB _));replace HY:=Ag (HY.out.on (Below.same' hB _));refine Zx ?_;intro hz x0 x1 x2 y0 y1 y2;clear rx ry;obtain⟨_,_,hh,hn,hd⟩:=HX.out;refine YT ?_;intro HNX;have HDX:=Ag (Ah.mono (n:=x.den) (G:=(Ext (Old F w.heap.size) (w.heap.size+3))) hd (fun b hb _=>.inl hb));cases hh;clear hn hd;obtain⟨_,_,hh,hn,hd⟩:=HY.out;refine Yq ?_;intro HNY;have HDY:=Ag (Ah.mono (n:=y.den) (G:=(Ext (Old F w.heap.size) (w.heap.size+3))) hd (fun b hb _=>.inl hb));cases hh;clear hn hd;refine aX (fun w'=>w'.cell? ⟨w.heap.size,0,none⟩=some (.bool (aG x).neg)∧w'.cell? ⟨w.heap.size,1,none⟩=some (.slice A (aG x).num.length c)∧w'.cell? ⟨w.heap.size,2,none⟩=some (.slice B (aG x).den.length d)∧w'.cell? ⟨w.heap.size+1,0,none⟩=some (.bool (aG y).neg)∧w'.cell? ⟨w.heap.size+1,1,none⟩=some (.slice A' (aG y).num.length c')∧w'.cell? ⟨w.heap.size+1,2,none⟩=some (.slice B' (aG y).den.length d')) 16 1 ah rfl ah ?_;have hHeld:(fun w':World=>w'.cell? ⟨w.heap.size,0,none⟩=some (.bool (aG x).neg)∧w'.cell? ⟨w.heap.size,1,none⟩=some (.slice A (aG x).num.length c)∧w'.cell? ⟨w.heap.size,2,none⟩=some (.slice B (aG x).den.length d)∧w'.cell? ⟨w.heap.size+1,0,none⟩=some (.bool (aG y).neg)∧w'.cell? ⟨w.heap.size+1,1,none⟩=some (.slice A' (aG y).num.length c')∧w'.cell? ⟨w.heap.size+1,2,none⟩=some (.slice B' (aG y).den.length d')) W.drew:=⟨x0,x1,x2,y0,y1,y2⟩;refine Zq ?_;refine zao ?_;intro hb;refine ZB ?_;clear x0 x1 x2 y0 y1 y2 HX HY HNX HNY;intro x0 x1 x2 y0 y1 y2 HX HY HNX HNY;refine zaf ?_;clear HDX HDY;intro HDX HDY;refine ZC ?_;clear rz hz hB hb;intro rz hz hB;generalize W.drew=wn at *;refine tkm [0,1,2,3,4,5,6,7,8,10,11,12,13] ?_;refine tk2 9 ah rfl fun K hK=>?_
 go_simp;refine(lY _ _ _ _ x.num.natAbs y.num.natAbs HNX.out HNY.out byOmega byOmega).mono ?_;rintro e wn ⟨vn,rfl,hb,hu⟩;have HP:=Ag (hu.mono (G:=(Ext (Old F w.heap.size) (w.heap.size+3))) (fun b hb _=>.inr byOmega));clear hu;refine ZB ?_;clear x0 x1 x2 y0 y1 y2 HX HY HNX HNY;intro x0 x1 x2 y0 y1 y2 HX HY HNX HNY;refine zaf ?_;clear HDX HDY;intro HDX HDY;refine Z7 ?_;clear rz hz hB hb hHeld hK K;intro rz hz hB hHeld;refine tk2 14 ah rfl fun K hK=>?_
 go_simp;refine(lY _ _ _ _ x.den y.den HDX.out HDY.out byOmega byOmega).mono ?_;rintro e wn ⟨vd,rfl,hb,hu⟩;have HQ:=Ag (hu.mono (G:=(Ext (Old F w.heap.size) (w.heap.size+3))) (fun b hb _=>.inr byOmega));clear hu;refine ZB ?_;clear x0 x1 x2 y0 y1 y2 HX HY HNX HNY;intro x0 x1 x2 y0 y1 y2 HX HY HNX HNY;refine zaf ?_;clear HDX HDY;intro HDX HDY;replace HP:=Ag (HP.out.below hb);refine Z7 ?_;clear rz hz hB hb hHeld hK K;intro rz hz hB hHeld;refine tk2 15 ah rfl fun K hK=>?_
 go_simp;refine(afB _ _ _ _ _ (x.num.natAbs*y.num.natAbs) (x.den*y.den) HP.out HQ.out hd0 byOmega byOmega).mono ?_;rintro e wn ⟨vm,rfl,hb,hu⟩;have hu2:RtV wn (Ext (Old F w.heap.size) (w.heap.size+3)) vm (x*y):=by rw[show(!(aG x).neg==(aG y).neg)=(dF x != dF y) from rfl,HML.out] at hu;exact hu.mono (fun b hb _=>hb.elim id fun h=>.inr byOmega)
 have HM:=Ag hu2;obtain⟨Am,cm,Bm,dm,rfl,hn,hd⟩:=hu2.open;clear hn hd hu hu2;refine ZB ?_;clear x0 x1 x2 y0 y1 y2 HX HY HNX HNY;intro x0 x1 x2 y0 y1 y2 HX HY HNX HNY;refine zaf ?_;clear HDX HDY;intro HDX HDY;replace HP:=Ag (HP.out.below hb);replace HQ:=Ag (HQ.out.below hb);refine Z7 ?_;clear rz hz hB hb hHeld hK K;intro rz hz hB hHeld;refine Zw ?_;clear hHeld;clear x0 x1 x2 y0 y1 y2;refine Zn ?_;intro q0 y0 q1 y1 q2 y2;go_wp2
 refine Yb ?_;go_wp2
 obtain⟨Wz,hWz,hrz,hwz,hkz⟩:=bW rz (.bool (aG (x*y)).neg) (.slice Am (aG (x*y)).num.length cm) (.slice Bm (aG (x*y)).den.length dm);refine Zj ?_;clear hWz q0 q1 q2 y0 y1 y2;intro t0 t1 t2;refine bodyPost_ret (v:=.agg #[.bool (aG (x*y)).neg,.slice Am (aG (x*y)).num.length cm,.slice Bm (aG (x*y)).den.length dm]) (by simp[results,Tryz.results16,go_sem,t0,t1,t2]) rfl ?_;exact ZF
theorem ahi (w:World) (F:Foot) (v:Value) (x:Rat) (hv:RtV w F v x) :
  Calls Tryz.prog 26 #[v] w (Ret w fun u _=>u = .bool (decide (x=0))):=by
 obtain⟨A,c,B,d,rfl,hn,hd⟩:=hv.open;clear hn hd hv;rw[xM,lX];generalize (aG x).den.length=dl;by_cases h:x=0
 ·exact zcr
 ·exact zcp
theorem uj (w:World) (n:Nat) (h2:n≤1000000000000) :
  Calls Tryz.prog 92 #[.int .i64 (n:Int)] w (Ret w fun v w'=>Ah w' (fun b=>w.heap.size≤b) v n):=by
 go_in;go_wp2
 go_loopw [0,3] (fun u v wr=>∃ (m:Nat) (l:List Nat),u = .int .i64 (m:Int)∧m≤1000000000000∧l++dig m=dig n∧wr.ownsRow w.heap.size 103 1 v l.length (aT l)∧Below w.heap.size w wr) (fun u _ _=>(intOf u).natAbs)
 case atStart=>exact⟨n,[],rfl,h2,rfl,World.ownsRow_nil _ _ _ _,Below.refl _ _⟩
 case round =>
  obtain⟨m,l,rfl,hm2,hd,hown,hbel⟩:=hrel;have HD:=Ag hd;have HO:=Ag hown;have hll:l.length≤1000000:=by
   have h1:(dig n).length≤3:=aS (by unfold LB; omega);rw[← hd,List.length_append] at h1;omega
  clear hd hown;by_cases h0:m=0
  ·exact Yz
  ·have hne:decide (0 < m)=true:=aF;have HD2:=Ag (show l ++ [m % 1000000000]++dig (m / 1000000000)=dig n by rw[← HD.out,kU h0]; simp[LB]);obtain⟨r,hr⟩:∃ r:Nat,r=m % 1000000000:=⟨_,rfl⟩;obtain⟨m2,akN⟩:∃ m2:Nat,m2=m / 1000000000:=⟨_,rfl⟩;rw[← hr,← akN] at HD2;have hr9:r < 1000000000:=byOmega;have HLT:=Ag (show m2 < m by omega);have hm2b:m2≤1000000000000:=byOmega;have ht:(m:Int).tmod 1000000000=(r:Int):=by rw[hr];rfl
   have hq:(m:Int).tdiv 1000000000=(m2:Int):=by rw[akN];rfl
   clear hr akN h0;go_wp2_with (at_builtin; refine dW rfl _ _ 40 Tryz.underlying40 rfl w.heap.size (Nat.le_refl _) u3 l rfl _ r byOmega hll rfl HO.out hbel ?_; intro g cap w' hown' fQ hlt' lg; have HO':=Ag hown'; clear hown' lg)
   go_roundw
   case rel=>exact⟨m2,l ++ [r],by go_num,hm2b,HD2.out,by simpa using HO'.out,fQ⟩
   case measure=>simp only[intOf]; have:=HLT.out; omega
theorem agu (w:World) (a b:Nat) (h1:a≤1000000000000) (h2:b≤1000000000000) :
  Calls Tryz.prog 91 #[.int .i64 (a:Int),.int .i64 (b:Int)] w (Ret w fun v _=>v = .int .i64 (Nat.gcd a b:Int)):=by
 go_in;go_wp2
 go_loopw [0,1] (fun u v wr=>∃ (x y:Nat),u = .int .i64 (x:Int)∧v = .int .i64 (y:Int)∧x≤1000000000000∧y≤1000000000000∧Nat.gcd x y=Nat.gcd a b∧Below w.heap.size w wr) (fun _ v _=>(intOf v).natAbs)
 case atStart=>exact⟨a,b,rfl,rfl,h1,h2,rfl,Below.refl _ _⟩
 case round =>
  obtain⟨x,y,rfl,rfl,hx,hy,hg,hbel⟩:=hrel;have HG:=Ag hg;clear hg;by_cases h0:y=0
  ·subst h0;have hmx:(if -(x:Int) > (x:Int) then -(x:Int) else (x:Int))=(x:Int):=if_neg byOmega;have hnl:¬ ((x:Int) < -(x:Int)):=byOmega;go_wp2
   go_ret;refine zcv ?_;have:=HG.out;rw[Nat.gcd_zero_right] at this;rw[← this];first | rfl | (rw[hmx]) | (simp[hnl])
  ·have hne:((y:Int) != 0)=true:=aF;obtain⟨r,hr⟩:∃ r:Nat,r=x % y:=⟨_,rfl⟩;have ht:(x:Int).tmod (y:Int)=(r:Int):=by rw[hr];rfl
   have hlt:r < y:=by rw[hr];exact Nat.mod_lt _ byOmega
   have HG2:=Ag (show Nat.gcd y r=Nat.gcd a b by rw[← HG.out,hr,Nat.gcd_comm x y,Nat.gcd_rec y x,Nat.gcd_comm]);clear hr;have hy0:(y:Int)≠0:=byOmega;go_wp2
   go_quiet (fail)
   go_wp2
   go_roundw
   case rel=>exact⟨y,r,rfl,by go_num,hy,byOmega,HG2.out,aI hbel _⟩
   case measure=>simp only[intOf]; omega
theorem pO (neg:Bool) (n b:Nat) (hb:b≠0):aG (mkRat (sgI neg n) b)=⟨neg&&decide (n≠0),dig (n / Nat.gcd n b),dig (b / Nat.gcd n b)⟩:=by
 have h:=iW (sgI neg n) hb;rw[nK] at h;unfold aG;rw[h.1,h.2.1,jX _ hb];by_cases h0:n=0
 ·subst h0;rw[zX];simp
 ·rw[tX h0];simp[h0]
theorem abR (w:World) (n b:Nat) (h1:n≤1000000000000) (h2:b≤1000000000000) (hb0:b≠0) :
  Calls Tryz.prog 39 #[.int .i64 (n:Int),.int .i64 (b:Int)] w (Ret w fun v w'=>RtV w' (fun b=>w.heap.size≤b) v (mkRat (sgI false n) b)):=by
 have HM:=Ag (pO false n b hb0);refine zan ?_;clear HM;intro hg0 HGN HG;generalize Nat.gcd n b=g at *;have e1:n / g≤n:=Nat.div_le_self _ _;have e2:b / g≤b:=Nat.div_le_self _ _;have t2:(b:Int).tdiv (g:Int)=((b / g:Nat):Int):=rfl;have hgz:(g:Int)≠0:=byOmega;have t1:(n:Int).tdiv (g:Int)=((n / g:Nat):Int):=rfl;have hbn:(false&&decide (n≠0))=false:=rfl;rw[hbn];have h1':n≤1000000000000:=h1;obtain⟨q,hq⟩:=named (n / g);obtain⟨d,hd⟩:=named (b / g);rw[← hq] at t1 e1 ⊢;rw[← hd] at t2 e2 ⊢;clear hq hd hbn;have hmx:(if -(n:Int) > (n:Int) then -(n:Int) else (n:Int))=(n:Int):=if_neg byOmega;have hnl:¬ ((n:Int) < -(n:Int)):=byOmega;have hlt:decide ((q:Int) < 0)=false:=decide_eq_false byOmega;go_in;go_wp2_with fail
 refine Yt ?_;intro W hr hB hz;try rw[hmx]
 refine(HG.out _).mono ?_;rintro e wn ⟨vn,rfl,hb,rfl⟩;refine Yy ?_;clear hr hz hB hb;intro hr hz hB;go_wp2_with fail
 go_quiet (fail)
 have hb:Below wn.heap.size wn (wn.drewN nq):=aI (Below.refl _ wn) nq;replace hr:=hr.below hb hr.lt;refine Zc ?_;clear hz hB hb;intro hz hB;generalize wn.drewN nq=wn at *;go_wp2_with fail
 refine(uj _ q byOmega).mono ?_;rintro e wn ⟨vn,rfl,hb,hu⟩;have HN:=Ag (hu.mono (G:=(fun b=>w.heap.size+1≤b)) (fun b hb _=>by omega));clear hu;refine Yy ?_;clear hr hz hB hb;intro hr hz hB;go_wp2_with fail
 refine(uj _ d byOmega).mono ?_;rintro e wn ⟨vd,rfl,hb,hu⟩;have HD:=Ag (hu.mono (G:=(fun b=>w.heap.size+1≤b)) (fun b hb _=>by omega));clear hu;replace HN:=Ag (HN.out.below hb);replace hr:=hr.below hb hr.lt;refine Zc ?_;clear hz hB hb;intro hz hB;have hn:=HN.out;have hd:=HD.out;obtain⟨Am,cm,rfl,_,_⟩:=hn;obtain⟨Bm,dm,rfl,_,_⟩:=hd;dsimp only;refine Zp ?_;intro q0 y0 q1 y1 q2 y2;go_wp2
 obtain⟨Wz,hWz,hrz,hwz,hkz⟩:=bW hr (.bool false) (.slice Am (dig q).length cm) (.slice Bm (dig d).length dm);refine Zj ?_;clear hWz q0 q1 q2 y0 y1 y2;intro t0 t1 t2;refine bodyPost_ret (v:=.agg #[.bool false,.slice Am (dig q).length cm,.slice Bm (dig d).length dm]) (by simp[results,Tryz.results39,go_sem,t0,t1,t2]) rfl ?_;exact zaI
theorem ahj (w:World) (n b:Nat) (h1:n≤1000000000000) (h2:b≤1000000000000) (hb0:b≠0) (hn0:n≠0) :
  Calls Tryz.prog 39 #[.int .i64 (-(n:Int)),.int .i64 (b:Int)] w (Ret w fun v w'=>RtV w' (fun b=>w.heap.size≤b) v (mkRat (sgI true n) b)):=by
 have HM:=Ag (pO true n b hb0);refine zan ?_;clear HM;intro hg0 HGN HG;generalize Nat.gcd n b=g at *;have e1:n / g≤n:=Nat.div_le_self _ _;have e2:b / g≤b:=Nat.div_le_self _ _;have t2:(b:Int).tdiv (g:Int)=((b / g:Nat):Int):=rfl;have hgz:(g:Int)≠0:=byOmega;have t1:(-(n:Int)).tdiv (g:Int) = -((n / g:Nat):Int):=by rw[Int.neg_tdiv];rfl
 have hq0:0 < n / g:=Nat.div_pos (Nat.le_of_dvd byOmega HGN.out) hg0;have hbn:(true&&decide (n≠0))=true:=by simp[hn0]
 rw[hbn];have h1':n≤1000000000000:=h1;obtain⟨q,hq⟩:=named (n / g);obtain⟨d,hd⟩:=named (b / g);rw[← hq] at t1 e1 ⊢;rw[← hd] at t2 e2 ⊢;rw[← hq] at hq0;clear hq hd hbn;have hmx:(if - -(n:Int) > -(n:Int) then - -(n:Int) else -(n:Int))=(n:Int):=by rw[if_pos byOmega];omega
 have hnl:(-(n:Int) < - -(n:Int)):=byOmega;have abk:(-(n:Int) < (n:Int)):=byOmega;have hlt:decide (-(q:Int) < 0)=true:=decide_eq_true byOmega;have hlt2:decide (0 < q)=true:=decide_eq_true hq0;go_in;go_wp2_with fail
 refine Yt ?_;intro W hr hB hz;try rw[hmx]
 refine(HG.out _).mono ?_;rintro e wn ⟨vn,rfl,hb,rfl⟩;refine Yy ?_;clear hr hz hB hb;intro hr hz hB;go_wp2_with fail
 go_quiet (fail)
 have hb:Below wn.heap.size wn (wn.drewN nq):=aI (Below.refl _ wn) nq;replace hr:=hr.below hb hr.lt;refine Zc ?_;clear hz hB hb;intro hz hB;generalize wn.drewN nq=wn at *;go_wp2_with fail
 refine(uj _ q byOmega).mono ?_;rintro e wn ⟨vn,rfl,hb,hu⟩;have HN:=Ag (hu.mono (G:=(fun b=>w.heap.size+1≤b)) (fun b hb _=>by omega));clear hu;refine Yy ?_;clear hr hz hB hb;intro hr hz hB;go_wp2_with fail
 refine(uj _ d byOmega).mono ?_;rintro e wn ⟨vd,rfl,hb,hu⟩;have HD:=Ag (hu.mono (G:=(fun b=>w.heap.size+1≤b)) (fun b hb _=>by omega));clear hu;replace HN:=Ag (HN.out.below hb);replace hr:=hr.below hb hr.lt;refine Zc ?_;clear hz hB hb;intro hz hB;have hn:=HN.out;have hd:=HD.out;obtain⟨Am,cm,rfl,_,_⟩:=hn;obtain⟨Bm,dm,rfl,_,_⟩:=hd;dsimp only;refine Zp ?_;intro q0 y0 q1 y1 q2 y2;go_wp2
 obtain⟨Wz,hWz,hrz,hwz,hkz⟩:=bW hr (.bool true) (.slice Am (dig q).length cm) (.slice Bm (dig d).length dm);refine Zj ?_;clear hWz q0 q1 q2 y0 y1 y2;intro t0 t1 t2;refine bodyPost_ret (v:=.agg #[.bool true,.slice Am (dig q).length cm,.slice Bm (dig d).length dm]) (by simp[results,Tryz.results39,go_sem,t0,t1,t2]) rfl ?_;exact zaI
theorem xX (w:World) (a:Int) (b:Nat) (h1:-1000000000000≤a) (h2:a≤1000000000000) (h3:b≤1000000000000) (hb0:b≠0) :
  Calls Tryz.prog 39 #[.int .i64 a,.int .i64 (b:Int)] w (Ret w fun v w'=>RtV w' (fun b=>w.heap.size≤b) v (mkRat a b)):=by
 obtain⟨n,rfl | rfl⟩:=Int.eq_nat_or_neg a
 ·have:=abR w n b byOmega h3 hb0;simpa [sgI] using this
 ·by_cases h0:n=0
  ·subst h0;have:=abR w 0 b byOmega h3 hb0;simpa [sgI] using this
  ·have:=ahj w n b byOmega h3 hb0 h0;simpa [sgI] using this
theorem Tryz.infoRatT:(Tryz.prog.info? 42).map (fun i=>(i.zero,i.size,i.bytes))=some (some (.agg #[.bool false,.slice none 0 0,.slice none 0 0]),3,56):=ah
def sG:List (List Rat):=[[1,1].map fun x=>mkRat x 2,[1,1].map fun x=>mkRat x 2,[1,1,1].map fun x=>mkRat x 3]
theorem Row.xY {w:World} {b:Nat} {l:List Int} (h:Row w b 3 (l.map (Value.int .i64))) {F:Foot} (hF:F b):AA w F (.slice (some ⟨b,0,none⟩) l.length l.length) l:=by
 refine⟨_,_,rfl,Nat.le_refl _,fun _=>⟨b,0,rfl,hF,h.lt,fun k x hk=>?_⟩⟩;unfold o7;rw[Nat.zero_add,Nat.mul_one];exact h.cell (by rw[List.getElem?_map,hk]; rfl)
theorem abS {w:World} {F:Foot} {b:Nat} {v1 v2 v3:Value} {l1 l2 l3:List Raw} (h:Row w b 38 [v1,v2,v3]) (hF:F b) (h1:RawsAt w F v1 l1) (h2:RawsAt w F v2 l2) (h3:RawsAt w F v3 l3):RawRowsAt w F (.slice (some ⟨b,0,none⟩) 3 3) [l1,l2,l3]:=by
 refine⟨_,_,rfl,Nat.le_refl _,fun _=>⟨b,0,rfl,hF,h.lt,fun k x hk=>?_⟩⟩;rw[Nat.zero_add,Nat.mul_one];match k,hk with
 | 0,hk=>cases hk; exact⟨v1,h.cell rfl,h1⟩
 | 1,hk=>cases hk; exact⟨v2,h.cell rfl,h2⟩
 | 2,hk=>cases hk; exact⟨v3,h.cell rfl,h3⟩
end Go.Proofs.YtnmeejofpkhlkaaGreatDoor

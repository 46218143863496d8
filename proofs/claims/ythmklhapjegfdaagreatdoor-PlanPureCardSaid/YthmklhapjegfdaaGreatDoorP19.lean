/- The greatest common divisor: long.One, long.Gcd, long.Coprime. -/
import Derived.Test.YthmklhapjegfdaaGreatDoorP18
import Derived.Test.YthmklhapjegfdaaGreatDoorP15
import Derived.BigQuiet
set_option linter.all false
set_option maxRecDepth 100000
set_option maxHeartbeats 12800000
namespace Go.Proofs.YthmklhapjegfdaaGreatDoor
open Lib renaming hid → Af
open Go.RowKit
theorem ahE (w:World):Aj (w.alloc (.cells #[.int .u32 1] 166)) (fun b=>w.heap.size≤b) (.slice (some ⟨w.heap.size,0,none⟩) 1 1) 1:=ab2 w 1 rfl
theorem adr (w:World):Calls Tryz.prog 217 #[] w (Ret w fun v w'=>Aj w' (fun b=>w.heap.size≤b) v 1):=by
 go_in;go_wp2
 go_ret;exact⟨_,rfl,(Below.refl _ _).alloc (Nat.le_refl _) _,ahE w⟩
theorem Leh.nat {a b M p0 q0 al be p q A B C D:Int} {a' b':Nat} (h:Leh a b M p0 q0 al be p q A B C D) (ea:a=a') (eb:b=b'):∃ X Y:Nat,A*a'+B*b'=(X:Int)∧C*a'+D*b'=(Y:Int)∧Y≤X∧X≤a'∧(B=0∨Y < b')∧Nat.gcd X Y=Nat.gcd a' b':=by
 subst ea eb;obtain⟨X,hX⟩:∃ X:Nat,A*a'+B*b'=(X:Int):=⟨(A*a'+B*b').toNat,by have:=h.y0; have:=h.yx; omega⟩;obtain⟨Y,hY⟩:∃ Y:Nat,C*a'+D*b'=(Y:Int):=⟨(C*a'+D*b').toNat,by have:=h.y0; omega⟩;refine⟨X,Y,hX,hY,by have:=h.yx; omega,by have:=h.xa; omega,by have:=h.prog; omega,?_⟩;have:=h.gcd;rw[hX,hY] at this;simpa using this
theorem aeO (w:World) (F:Ah) (va vb:Value) (a b:Nat) (ha:Aj w F va a) (hb:Aj w F vb b) (hla:(dig a).length≤2) (hlb:(dig b).length≤2) (hT:Bl w) :
  Calls Tryz.prog 194 #[va,vb] w (Ret w fun v w'=>Aj w' (fun b=>w.heap.size≤b) v (Nat.gcd a b)):=by
 have HA:=Af ha;have HB:=Af hb;obtain⟨A,c,rfl,hc,hN⟩:=ha;obtain⟨B,d,rfl,hd,hM⟩:=hb;clear hN hM;have ha18:=rZ hla;have hb18:=rZ hlb;have d1:decide (((dig a).length:Int)≤2)=true:=decide_eq_true byOmega;have d2:decide (((dig b).length:Int)≤2)=true:=decide_eq_true byOmega;obtain⟨g,hg⟩:=named (Nat.gcd a b);have hgl:g < 18446744073709551616:=by
  rcases Nat.eq_zero_or_pos a with h | h
  ·rw[hg,h,Nat.gcd_zero_left];omega
  ·have:=Nat.gcd_le_left b h;omega
 have HG:=Af hg;rw[← hg];clear hg;go_in;go_wp2_with fail
 refine(nI w F _ a HA.out hla).mono ?_;rintro e w' ⟨rfl,rfl⟩;go_wp2_with fail
 refine(nI w F _ b HB.out hlb).mono ?_;rintro e w' ⟨rfl,rfl⟩;go_wp2_with fail
 refine(uy w a b ha18 hb18 hT).mono ?_;rintro e w1 ⟨_,rfl,hb1,rfl⟩;rw[← HG.out];dsimp only;go_wp2_with fail
 refine(abV w1 g hgl).mono ?_;rintro e w2 ⟨v,rfl,hb2,hv⟩;have HV:=Af hv;clear hv;have hz:=hb1.size;go_wp2
 go_ret;exact⟨_,rfl,hb1.trans (hb2.mono hz),HV.out.mono fun b hb _=>by omega⟩
theorem ahF (w:World) (F:Ah) (va vb:Value) (a b:Nat) (ha:Aj w F va a) (hb:Aj w F vb b) (hla:(dig a).length≤100000) (hlb:(dig b).length≤100000) (hbig:¬ ((dig a).length≤2∧(dig b).length≤2)) (h1:a=1∨b=1) :
  Calls Tryz.prog 194 #[va,vb] w (Ret w fun v w'=>Aj w' (fun b=>w.heap.size≤b) v (Nat.gcd a b)):=by
 have HA:=Af ha;have HB:=Af hb;obtain⟨A,c,rfl,hc,hN⟩:=ha;obtain⟨B,d,rfl,hd,hM⟩:=hb;clear hN hM;have HG:=Af (show Nat.gcd a b=1 by rcases h1 with h | h <;> simp[h]);rw[HG.out];have hl1:(dig 1).length=1:=by rw[iJ];rfl
 by_cases ha1:a=1
 ·have d1:decide (((dig a).length:Int)≤2)=true:=decide_eq_true (by rw[ha1]; omega);have d2:decide (((dig b).length:Int)≤2)=false:=decide_eq_false (by rw[ha1,hl1] at hbig; omega);have e1:decide (a=1)=true:=decide_eq_true ha1;clear hbig h1 ha1;go_in;go_wp2_with fail
  refine(kX w F _ a HA.out byOmega).mono ?_;rintro e w' ⟨rfl,rfl⟩;rw[e1];exact zaT
 ·have hb1:b=1:=h1.resolve_left ha1;have d1:decide (((dig a).length:Int)≤2)=false:=decide_eq_false (by rw[hb1,hl1] at hbig; omega);have e1:decide (a=1)=false:=decide_eq_false ha1;have e2:decide (b=1)=true:=decide_eq_true hb1;clear hbig h1 ha1 hb1;go_in;go_wp2_with fail
  refine(kX w F _ a HA.out byOmega).mono ?_;rintro e w' ⟨rfl,rfl⟩;rw[e1];dsimp only;go_wp2_with fail
  refine(kX w F _ b HB.out byOmega).mono ?_;rintro e w' ⟨rfl,rfl⟩;rw[e2];exact zaT
theorem ahG (w:World) (F:Ah) (va vb:Value) (a0 b0:Nat) (ha:Aj w F va a0) (hb:Aj w F vb b0) (hla:(dig a0).length≤100000) (hlb:(dig b0).length≤100000) (hbig:¬ ((dig a0).length≤2∧(dig b0).length≤2)) (ha1:a0≠1) (hb1:b0≠1) (hT:Bl w) :
  Calls Tryz.prog 194 #[va,vb] w (Ret w fun v w'=>Aj w' (fun b=>w.heap.size≤b) v (Nat.gcd a0 b0)):=by
 have HA:=Af ha;have HB:=Af hb;obtain⟨A,c,rfl,hc,hN⟩:=ha;obtain⟨B,d,rfl,hd,hM⟩:=hb;clear hN hM;obtain⟨G,hG⟩:=named (Nat.gcd a0 b0);rw[← hG];have HG:=Af hG;clear hG;have e1:decide (a0=1)=false:=decide_eq_false ha1;have e2:decide (b0=1)=false:=decide_eq_false hb1;have hd12:(decide (((dig a0).length:Int)≤2)=false)∨(decide (((dig a0).length:Int)≤2)=true∧decide (((dig b0).length:Int)≤2)=false):=by
  by_cases h:(dig a0).length≤2
  ·exact .inr ⟨decide_eq_true byOmega,decide_eq_false byOmega⟩
  ·exact .inl (decide_eq_false byOmega)
 have HB3:=Af hbig;clear ha1 hb1 hbig;have hT0:=hT.lt;go_in
 rcases hd12 with d1 | ⟨d1,d2⟩
 all_goals
  go_wp2_with fail
  refine(kX w F _ a0 HA.out byOmega).mono ?_;rintro e w' ⟨rfl,rfl⟩;rw[e1];dsimp only;go_wp2_with fail
  refine(kX w F _ b0 HB.out byOmega).mono ?_;rintro e w' ⟨rfl,rfl⟩;rw[e2];dsimp only;clear d1 e1 e2;go_wp2_with fail
  refine(vw w F _ _ a0 b0 HA.out HB.out byOmega byOmega).mono ?_;rintro e w' ⟨rfl,z0,rfl⟩;go_upto_if 37 with fail
  go_cut [0,1] from 34 to 39 (fun va vb wx=>∃ a b,wx=w.drewN z0∧Aj wx (Ext F w.heap.size) va a∧Aj wx (Ext F w.heap.size) vb b∧b≤a∧G=Nat.gcd a b∧(dig a).length≤100000)
  case first =>
   by_cases h:a0 < b0
   ·have hord:decide (dD a0 b0 < 0)=true:=by rw[iZ h];rfl
    have hod:dD a0 b0 < 0:=by rw[iZ h];decide
    generalize dD a0 b0=od at *;go_wp2_with fail
    go_meet
    exact za7
   ·have hord:decide (dD a0 b0 < 0)=false:=by
     refine zbS ?_;split <;> (try split) <;> omega
    have hod:0≤dD a0 b0:=by have:=of_decide_eq_false hord;omega
    generalize dD a0 b0=od at *;go_wp2_with fail
    go_meet
    exact zby
  case rest =>
  obtain⟨a,b,rfl,hna,hnb,hba,zX,hlen⟩:=hcut;have HS:=Af (And.intro hna (And.intro hnb zX));clear HA HB hna hnb zX hla hlb HG;go_wp2
  go_loopg [0,1] b (fun f va vb wr=>∃ a b,b=f∧Aj wr (Ext F w.heap.size) va a∧Aj wr (Ext F w.heap.size) vb b∧b≤a∧G=Nat.gcd a b∧(dig a).length≤100000∧Below w.heap.size w wr)
  case atStart=>exact⟨a,b,rfl,HS.out.1,HS.out.2.1,hba,HS.out.2.2,hlen,aK (Below.refl _ w) z0⟩
  case round =>
   clear HS hba hlen;obtain⟨a,b,rfl,hna,hnb,hba,zX,hlen,hbel⟩:=hrel;have HNA:=Af hna;have HNB:=Af hnb;have HGC:=Af zX;obtain⟨A',c',rfl,hc',_⟩:=hna;obtain⟨B',d',rfl,hd',_⟩:=hnb;have hlb:(dig b).length≤(dig a).length:=aW hba;have hz:=hbel.size;have HTW:=Af (hT.below hT0 hbel);clear zX;by_cases h2:2 < (dig b).length
   ·have d2':decide ((2:Int) < ((dig b).length:Int))=true:=decide_eq_true byOmega;have hbp:0 < b:=by
     rcases Nat.eq_zero_or_pos b with h | h
     ·rw[h,bF] at h2;simp at h2
     ·exact h
    go_wp2_with fail
    refine(lead_any wr (Ext F w.heap.size) _ _ a b HNA.out HNB.out hba byOmega hlen).mono ?_;rintro e w1 ⟨_,rfl,hb1,M,p,q,rfl,hM,hp,hq,hp18⟩;have hpq:q≤p:=by rw[hp,hq];exact Nat.div_le_div_right hba
    have hst:=Leh.start (a:=(a:Int)) (b:=(b:Int)) (M:=(M:Int)) (p0:=(p:Int)) (q0:=(q:Int)) (al:=((a % M:Nat):Int)) (be:=((b % M:Nat):Int))
     (by rw[hp]; have:=Nat.div_add_mod' a M; exact_mod_cast this.symm) (by rw[hq]; have:=Nat.div_add_mod' b M; exact_mod_cast this.symm) byOmega (by have:=Nat.mod_lt a hM; omega) byOmega (by have:=Nat.mod_lt b hM; omega) byOmega byOmega byOmega byOmega
    have HST:=Af hst;clear hst hp hq hpq;have hz1:=hb1.size;have hB1:=hbel.trans (hb1.mono hz);dsimp only;go_wp2_with fail
    refine(aeE w1 a b _ _ _ (p:Int) (q:Int) HST.out byOmega).mono ?_;rintro e w' ⟨⟨p',q',xA,xB,xC,xD,rfl,ji,a1,a2,b1,b2,c1,c2,d1,d2⟩,rfl⟩;obtain⟨X,Y,hX,hY,hyx,hxa,hyb,hg⟩:=ji.nat rfl rfl;have HXY:=Af (And.intro hX (And.intro hY hg));clear ji HST hX hY hg;dsimp only;by_cases hB0:xB=0
    ·have tB:(xB==0)=true:=by rw[hB0];rfl
     clear hB0 hyb;go_wp2_with fail
     refine(ada w1 (Ext F w.heap.size) _ _ a b (HNA.out.below hb1) (HNB.out.below hb1) byOmega hlen byOmega).mono ?_;rintro e w2 ⟨_,rfl,hb2,vq,vr,rfl,hq,hr⟩;have HR:=Af hr;clear hq hr;have hml:a % b < b:=Nat.mod_lt _ hbp;go_wp2
     go_roundg (a % b)
     case measure=>exact hml
     case rel=>exact⟨b,a % b,rfl,(HNB.out.below hb1).below hb2,HR.out.mono (fun b hb _=>hb.elim id fun h=>.inr byOmega),byOmega,by rw[HGC.out,Nat.gcd_comm,Nat.gcd_rec,Nat.gcd_comm],byOmega,hB1.trans (hb2.mono byOmega)⟩
    ·have tB:(xB==0)=false:=beq_false_of_ne hB0;have hYb:=hyb.resolve_left hB0;clear hB0 hyb;go_wp2_with fail
     refine(adb w1 (Ext F w.heap.size) _ _ a b xA xB X (HNA.out.below hb1) (HNB.out.below hb1) hlen hlb byOmega byOmega byOmega byOmega HXY.out.1 hxa).mono ?_;rintro e w2 ⟨vx,rfl,hb2,hvx⟩;have HVX:=Af hvx;clear hvx;have hz2:=hb2.size;go_wp2_with fail
     refine(adb w2 (Ext F w.heap.size) _ _ a b xC xD Y ((HNA.out.below hb1).below hb2) ((HNB.out.below hb1).below hb2) hlen hlb byOmega byOmega byOmega byOmega HXY.out.2.1 byOmega).mono ?_;rintro e w3 ⟨vy,rfl,hb3,hvy⟩;have HVY:=Af hvy;clear hvy;have hXl:(dig X).length≤100000:=by have:=aW hxa;omega
     go_wp2
     go_roundg Y
     case measure=>exact hYb
     case rel=>exact⟨X,Y,rfl,(HVX.out.below hb3).mono (fun b hb _=>.inr byOmega),HVY.out.mono (fun b hb _=>.inr byOmega),hyx,by rw[HGC.out]; exact HXY.out.2.2.symm,hXl,hB1.trans ((hb2.trans (hb3.mono hz2)).mono byOmega)⟩
   ·have d2':decide ((2:Int) < ((dig b).length:Int))=false:=decide_eq_false byOmega;by_cases hb0:b=0
    ·have e0:(((dig b).length:Int)==0)=true:=by rw[hb0,bF];rfl
     have HF:=Af (show G=a by rw[HGC.out,hb0,Nat.gcd_zero_right]);clear hb0;go_wp2_with fail
     refine(abe wr (Ext F w.heap.size) _ a HNA.out byOmega).mono ?_;rintro e w1 ⟨v,rfl,hb1,hv⟩;have HV:=Af hv;clear hv;go_wp2
     go_ret;exact⟨_,rfl,hbel.trans (hb1.mono hz),by rw[HF.out]; exact HV.out.mono fun b hb _=>by omega⟩
    ·have e0:(((dig b).length:Int)==0)=false:=by have:=bT.2 hb0;exact beq_false_of_ne byOmega
     go_wp2_with fail
     refine(ada wr (Ext F w.heap.size) _ _ a b HNA.out HNB.out hb0 hlen byOmega).mono ?_;rintro e w1 ⟨_,rfl,hb1,vq,vr,rfl,hq,hr⟩;have HR:=Af hr;clear hq hr;have hz1:=hb1.size;have hml:a % b < b:=Nat.mod_lt _ byOmega;have hlr:(dig (a % b)).length≤2:=Nat.le_trans (aW (Nat.le_of_lt hml)) byOmega;have hb18:b < 1000000000000000000:=rZ byOmega;obtain⟨r,hr⟩:=named (a % b);rw[← hr] at hml hlr HR;have HF:=Af (show G=Nat.gcd b r by rw[HGC.out,hr,Nat.gcd_comm,Nat.gcd_rec,Nat.gcd_comm]);clear hr hb0;have hGl:Nat.gcd b r < 18446744073709551616:=by
      have:=Nat.gcd_le_left r (show 0 < b by omega);omega
     dsimp only;go_wp2_with fail
     refine(nI w1 (Ext F w.heap.size) _ b (HNB.out.below hb1) byOmega).mono ?_;rintro e w' ⟨rfl,rfl⟩;go_wp2_with fail
     refine(nI w1 (Ext (Ext F w.heap.size) wr.heap.size) _ r HR.out hlr).mono ?_;rintro e w' ⟨rfl,rfl⟩;go_wp2_with fail
     refine(uy w1 b r hb18 byOmega (HTW.out.on hb1)).mono ?_;rintro e w2 ⟨_,rfl,hb2,rfl⟩;rw[← HF.out];rw[← HF.out] at hGl;have hz2:=hb2.size;dsimp only;go_wp2_with fail
     refine(abV w2 G hGl).mono ?_;rintro e w3 ⟨v,rfl,hb3,hv⟩;have HV:=Af hv;clear hv;go_wp2
     go_ret;exact⟨_,rfl,hbel.trans ((hb1.trans ((hb2.trans (hb3.mono hz2)).mono hz1)).mono hz),HV.out.mono fun b hb _=>by omega⟩
theorem ahH (w:World) (F:Ah) (va vb:Value) (a b:Nat) (ha:Aj w F va a) (hb:Aj w F vb b) (hla:(dig a).length≤100000) (hlb:(dig b).length≤100000) (hT:Bl w) :
  Calls Tryz.prog 194 #[va,vb] w (Ret w fun v w'=>Aj w' (fun b=>w.heap.size≤b) v (Nat.gcd a b)):=by
 by_cases h:(dig a).length≤2∧(dig b).length≤2
 ·exact aeO w F va vb a b ha hb h.1 h.2 hT
 by_cases h1:a=1∨b=1
 ·exact ahF w F va vb a b ha hb hla hlb h h1
 ·exact ahG w F va vb a b ha hb hla hlb h (fun e=>h1 (.inl e)) (fun e=>h1 (.inr e)) hT
theorem ab8 (w:World) (F:Ah) (va vb:Value) (a b:Nat) (ha:Aj w F va a) (hb:Aj w F vb b) (hla:(dig a).length≤100000) (hlb:(dig b).length≤100000) (hT:Bl w) :
  Calls Tryz.prog 163 #[va,vb] w (Ret w fun v _=>v = .bool (decide (Nat.gcd a b=1))):=by
 have HA:=Af ha;have HB:=Af hb;obtain⟨A,c,rfl,hc,hN⟩:=ha;obtain⟨B,d,rfl,hd,hM⟩:=hb;clear hN hM;obtain⟨g,hg⟩:=named (Nat.gcd a b);have HG:=Af hg;have HD:=Af (show decide (Nat.gcd a b=1)=decide (g=1) from decide_eq_decide.2 (by rw[hg]));have hgl:(dig g).length≤100000:=by
  rcases Nat.eq_zero_or_pos a with h | h
  ·rw[hg,h,Nat.gcd_zero_left];exact hlb
  ·exact Nat.le_trans (aW (by rw[hg]; exact Nat.gcd_le_left b h)) hla
 clear hg;by_cases hs:(dig a).length≤2∧(dig b).length≤2
 ·have d1:decide (((dig a).length:Int)≤2)=true:=decide_eq_true byOmega;have d2:decide (((dig b).length:Int)≤2)=true:=decide_eq_true byOmega;have ha18:=rZ hs.1; have hb18:=rZ hs.2;have hs1:=hs.1; have hs2:=hs.2;have HI:=Af (show((g:Int)==1)=decide (g=1) by
   by_cases h:g=1
   ·subst h;rfl
   ·rw[decide_eq_false h]; exact beq_false_of_ne byOmega)
  clear hs;go_in;go_wp2_with fail
  refine(nI w F _ a HA.out hs1).mono ?_;rintro e w' ⟨rfl,rfl⟩;go_wp2_with fail
  refine(nI w F _ b HB.out hs2).mono ?_;rintro e w' ⟨rfl,rfl⟩;go_wp2_with fail
  refine(uy w a b ha18 hb18 hT).mono ?_;rintro e w1 ⟨_,rfl,hb1,rfl⟩;rw[← HG.out];dsimp only;go_wp2
  go_ret;exact⟨_,rfl,hb1,by rw[HD.out,← HI.out]; rfl⟩
 ·have hd12:(decide (((dig a).length:Int)≤2)=false)∨(decide (((dig a).length:Int)≤2)=true∧decide (((dig b).length:Int)≤2)=false):=by
   by_cases h:(dig a).length≤2
   ·exact .inr ⟨decide_eq_true byOmega,decide_eq_false byOmega⟩
   ·exact .inl (decide_eq_false byOmega)
  clear hs;go_in
  rcases hd12 with d1 | ⟨d1,d2⟩
  all_goals
   go_wp2_with fail
   refine(ahH w F _ _ a b HA.out HB.out hla hlb hT).mono ?_;rintro e w1 ⟨v,rfl,hb1,hv⟩;rw[← HG.out] at hv;have HV:=Af hv;clear hv;dsimp only;go_wp2_with fail
   refine(kX w1 _ _ g HV.out byOmega).mono ?_;rintro e w' ⟨rfl,rfl⟩;dsimp only;go_wp2
   go_ret;exact⟨_,rfl,hb1,by rw[HD.out]; rfl⟩
theorem aaL {α:Type} {p:α→Bool} {l:List α} {k:Nat} {x:α} (hx:l[k]? = some x) (h:(l.take k).any p=false) (hp:p x=false):(l.take (k+1)).any p=false:=by
 rw[take_snoc hx,List.any_append,h];simp[hp]
theorem vN (w:World) (F:Ah) (v:Value) (l:List Nat) (hv:AA w F v l) (hu:∀ x∈l,x < 4294967296) (hl:l.length≤1000000) :
  Calls Tryz.prog 190 #[v] w fun e w'=>e = .returned (.int .i64 (fD l))∧w=w':=by
 obtain⟨A,c,rfl,hc,hN⟩:=hv;have HN:=Af hN;clear hN;have HU:=Af hu;clear hu;by_cases h1:1024 < l.length
 ·have HE:=Af (show fD l=4 by unfold fD; rw[if_pos h1]);have d1:decide ((1024:Int) < (l.length:Int))=true:=decide_eq_true byOmega;clear h1;go_in;exact Yy
 have d1:decide ((1024:Int) < (l.length:Int))=false:=decide_eq_false byOmega;have H1:=Af h1;go_in;go_wp2
 go_loopw [10] (fun i wr=>∃ k:Nat,k≤l.length∧i = .int .i64 (k:Int)∧(l.take k).any (fun x=>decide (LB≤x))=false∧w=wr) (fun i _=>l.length - (intOf i).toNat)
 case atStart=>exact⟨0,byOmega,rfl,rfl,rfl⟩
 case round =>
  obtain⟨k,hk,rfl,hpre,rfl⟩:=hrel;have HP:=Af hpre;clear hpre;by_cases hlt:k < l.length
  ·obtain⟨b,o,rfl,_,hb,hx⟩:=HN.out byOmega;obtain⟨x,hx'⟩:=aF hlt;have ex:=hx k x hx';unfold dX at ex;rw[Nat.mul_one] at ex;have hxu:=HU.out x (List.mem_of_getElem? hx');have HX:=Af hx';clear hx hx';by_cases hbad:1000000000≤x
   ·have HE:=Af (show fD l=3 by
     unfold fD;rw[if_neg H1.out,if_pos (List.any_eq_true.2 ⟨x,List.mem_of_getElem? HX.out,decide_eq_true hbad⟩)])
    have d2:decide ((1000000000:Int)≤(x:Int))=true:=decide_eq_true byOmega;clear hbad;exact Yy
   ·have d2:decide ((1000000000:Int)≤(x:Int))=false:=decide_eq_false byOmega;have HB:=Af (show(decide (LB≤x))=false from decide_eq_false hbad);go_wp2
    go_roundw
    case rel=>exact⟨k+1,byOmega,by go_num,aaL HX.out HP.out HB.out,by first | rfl | trivial⟩
    case measure=>simp[intOf]; omega
  ·have HA:=Af (show l.any (fun x=>decide (LB≤x))=false by have:=HP.out; rwa [List.take_of_length_le byOmega] at this);by_cases h0:0 < l.length
   ·obtain⟨b,o,rfl,_,hb,hx⟩:=HN.out h0;obtain⟨n1,hn1⟩:∃ n1,n1+1=l.length:=⟨l.length - 1,byOmega⟩;obtain⟨x,hx'⟩:=aF (l:=l) (k:=n1) byOmega;have ex:=hx n1 x hx';unfold dX at ex; rw[Nat.mul_one] at ex;have HX:=Af (show fD l=if x=0 then 3 else 0 by
     unfold fD;rw[if_neg H1.out,HA.out,if_neg ay,List.getLast?_eq_getElem?,show l.length - 1=n1 by omega,hx'];simp)
    have i1:(l.length:Int) - 1=(n1:Int):=byOmega;clear hx hx' hn1;by_cases hz:x=0
    ·have d3:((x:Int)==0)=true:=by rw[hz];rfl
     have HE:=Af (show fD l=3 by rw[HX.out,if_pos hz]);clear hz;exact Yy
    ·have d3:((x:Int)==0)=false:=beq_false_of_ne byOmega;have HE:=Af (show fD l=0 by rw[HX.out,if_neg hz]);clear hz;exact Yy
   ·have HE:=Af (show fD l=0 by
     have:l = []:=List.eq_nil_of_length_eq_zero byOmega;rw[this]; rfl)
    have d3:decide ((0:Int) < (l.length:Int))=false:=decide_eq_false byOmega;exact Yy
theorem ab9 (w:World) (F:Ah) (vn vd:Value) (num den:List Nat) (hn:AA w F vn num) (hd:AA w F vd den) (hnu:∀ x∈num,x < 4294967296) (hdu:∀ x∈den,x < 4294967296) (hln:num.length≤1000000) (hld:den.length≤1000000) :
  Calls Tryz.prog 162 #[vn,vd] w fun e w'=>e = .returned (.int .i64 (fP num den))∧w=w':=by
 have HN:=Af hn;have HD:=Af hd;obtain⟨A,c,rfl,hc,hN⟩:=hn;obtain⟨B,d,rfl,hd,hM⟩:=hd;clear hN hM;have HNU:=Af hnu;have HDU:=Af hdu;clear hnu hdu;have HP:=Af (show fP num den=if fD num≠0 then fD num else if fD den≠0 then fD den else if den.length=0 then 6 else 0 from rfl);go_in;go_wp2_with fail
 refine(vN w F _ num HN.out HNU.out hln).mono ?_;rintro e w' ⟨rfl,rfl⟩;generalize fD num=e1 at *;by_cases h1:e1=0
 ·have t1:(e1 != 0)=false:=by rw[h1];rfl
  go_wp2_with fail
  refine(vN w F _ den HD.out HDU.out hld).mono ?_;rintro e w' ⟨rfl,rfl⟩;generalize fD den=e2 at *;by_cases h2:e2=0
  ·have t2:(e2 != 0)=false:=by rw[h2];rfl
   by_cases h3:den.length=0
   ·have t3:((den.length:Int)==0)=true:=by rw[h3];rfl
    have HE:=Af (show fP num den=6 by rw[HP.out,if_neg (by simpa using h1),if_neg (by simpa using h2),if_pos h3]);clear h1 h2 h3;exact Yy
   ·have t3:((den.length:Int)==0)=false:=beq_false_of_ne byOmega;have HE:=Af (show fP num den=0 by rw[HP.out,if_neg (by simpa using h1),if_neg (by simpa using h2),if_neg h3]);clear h1 h2 h3;exact Yy
  ·have t2:(e2 != 0)=true:=by simp[h2]
   have HE:=Af (show fP num den=e2 by rw[HP.out,if_neg (by simpa using h1),if_pos h2]);clear h1 h2;exact Yy
 ·have t1:(e1 != 0)=true:=by simp[h1]
  have HE:=Af (show fP num den=e1 by rw[HP.out,if_pos h1]);clear h1;exact Yy
def U32 (r:Raw):Prop:=(∀ x∈r.num,x < 4294967296)∧∀ x∈r.den,x < 4294967296
theorem vO (w:World) (F:Ah) (v:Value) (r:Raw) (hv:Ak w F v r) (hu:U32 r) (hln:r.num.length≤100000) (hld:r.den.length≤100000) (hT:Bl w) :
  Calls Tryz.prog 112 #[v] w (Ret w fun u _=>u = .int .i64 (iC r)):=by
 obtain⟨A,c,B,d,rfl,hn,hd⟩:=hv.open;have HN:=Af hn;have HD:=Af hd;clear hv hn hd;have HR:=Af (show iC r=if fP r.num r.den≠0 then fP r.num r.den else if (r.num.length=0∧r.neg=true)∨Nat.gcd (aI r.num) (aI r.den)≠1 then 3 else 0 from rfl);have HU:=Af hu;clear hu;have HK:=Af (fun h=>x9 (num:=r.num) (den:=r.den) h);obtain⟨neg,num,den⟩:=r;dsimp only at *;go_in;go_wp2_with fail
 obtain⟨W,hW,rx,hB,hz⟩:=aO w 83 #[.bool neg,.slice A num.length c,.slice B den.length d];rw[← hW];clear hW;have HTW:=Af (hT.on hB);replace HN:=Af (AA.on HN.out (Below.same' hB F));replace HD:=Af (AA.on HD.out (Below.same' hB F));refine Zj ?_;intro x0 x1 x2;clear rx hz;go_wp2_with fail
 refine(ab9 W F _ _ num den HN.out HD.out HU.out.1 HU.out.2 byOmega byOmega).mono ?_;rintro e w' ⟨rfl,rfl⟩;generalize fP num den=pe at *;by_cases h1:pe=0
 ·have t1:(pe != 0)=false:=by rw[h1];rfl
  have hk:=HK.out h1;have hnn:Aj W F (.slice A num.length c) (aI num):=by unfold Aj;rw[← hk.1];exact HN.out
  have hdd:Aj W F (.slice B den.length d) (aI den):=by unfold Aj;rw[← hk.2.1];exact HD.out
  have hl1:(dig (aI num)).length≤100000:=by rw[← hk.1];exact hln
  have hl2:(dig (aI den)).length≤100000:=by rw[← hk.2.1];exact hld
  have HNN:=Af hnn;have HDD:=Af hdd;clear hnn hdd hk HK;by_cases h2:num.length=0∧neg=true
  ·have t2:((num.length:Int)==0)=true:=by rw[h2.1];rfl
   have HE:=Af (show iC ⟨neg,num,den⟩=3 by rw[HR.out,if_neg (by simpa using h1),if_pos (.inl h2)]);have h3:=h2.2;subst h3;clear h1 h2;exact zb8
  ·have hor:(((num.length:Int)==0)=false)∨((((num.length:Int)==0)=true)∧neg=false):=by
    by_cases h:num.length=0
    ·refine .inr ⟨by rw[h]; rfl,?_⟩;cases hneg:neg
     ·rfl
     ·exact absurd ⟨h,hneg⟩ h2
    ·exact .inl (beq_false_of_ne byOmega)
   have HE:=Af (show iC ⟨neg,num,den⟩=if Nat.gcd (aI num) (aI den)=1 then 0 else 3 by
    rw[HR.out,if_neg (by simpa using h1)];by_cases hg:Nat.gcd (aI num) (aI den)=1
    ·rw[if_neg (fun h=>h.elim h2 (fun h=>h hg)),if_pos hg]
    ·rw[if_pos (.inr hg),if_neg hg])
   clear h1 h2 HR;rcases hor with t2 | ⟨t2,rfl⟩
   all_goals
    go_wp2_with fail
    refine(ab8 W F _ _ (aI num) (aI den) HNN.out HDD.out hl1 hl2 HTW.out).mono ?_;rintro e w1 ⟨_,rfl,hb1,rfl⟩;have hB1:=hB.trans (hb1.mono hB.size);by_cases hg:Nat.gcd (aI num) (aI den)=1
    ·have hdg:decide (Nat.gcd (aI num) (aI den)=1)=true:=decide_eq_true hg;rw[hdg];have HE2:=Af (HE.out.trans (if_pos hg));clear hg hdg;dsimp only;go_wp2
     go_ret;exact⟨_,rfl,hB1,by rw[HE2.out]; rfl⟩
    ·have hdg:decide (Nat.gcd (aI num) (aI den)=1)=false:=decide_eq_false hg;rw[hdg];have HE2:=Af (HE.out.trans (if_neg hg));clear hg hdg;dsimp only;go_wp2
     go_ret;exact⟨_,rfl,hB1,by rw[HE2.out]; rfl⟩
 ·have t1:(pe != 0)=true:=by simp[h1]
  have HE:=Af (show iC ⟨neg,num,den⟩=pe by rw[HR.out,if_pos h1]);clear h1;exact zb8
theorem qA:rl 1=1:=by
 unfold rl;exact zb9
theorem aad (x:Rat) (h:iC (aH x)=0):eH (aH x)=if dI x=true∨0 < lQ x 1 then 2 else 0:=by
 unfold eH;rw[if_neg (by simpa using h),nR];rfl
theorem abl (w:World) (F:Ah) (v:Value) (r:Raw) (hv:Ak w F v r) (hu:U32 r) (hln:r.num.length≤100000) (hld:r.den.length≤100000) (hT:Bl w) :
  Calls Tryz.prog 101 #[v] w (Ret w fun u _=>u = .int .i64 (eH r)):=by
 have HV:=Af hv.old;obtain⟨A,c,B,d,rfl,hn,hd⟩:=hv.open;clear hv hn hd;have HU:=Af hu;clear hu;have HTT:=Af hT;clear hT;go_in;go_wp2_with fail
 obtain⟨W,hW,rx,hB,hz⟩:=aO w 83 #[.bool r.neg,.slice A r.num.length c,.slice B r.den.length d];rw[← hW];clear hW;replace HTT:=Af (HTT.out.on hB);replace HV:=Af (HV.out.on (Below.same' hB _));refine Zj ?_;intro x0 x1 x2;clear rx;have hz:w.heap.size+1≤W.heap.size:=byOmega;go_wp2_with fail
 refine(vO W _ _ r HV.out HU.out hln hld HTT.out).mono ?_;rintro e wn ⟨_,rfl,hb,rfl⟩;refine ZL ?_;clear x0 x1 x2;intro x0 x1 x2;replace HV:=Af (HV.out.below hb);refine Zc ?_;clear hz hB hb;intro hz hB;clear HTT;by_cases h1:iC r=0
 ·obtain⟨⟨x,rfl⟩,h2,h3⟩:=aa6 h1;have hrl:rl x≤1024:=by unfold rl;exact Nat.max_le.2 ⟨h2,h3⟩
  have t1:(iC (aH x) != 0)=false:=by rw[h1];rfl
  have HE:=Af (aad x h1);have HB:=Af (show(aH x).neg=dI x from rfl);clear h1 h2 h3 hln hld HU;generalize iC (aH x)=re at *;by_cases hneg:dI x=true
  ·have HF:=Af (HE.out.trans (if_pos (.inl hneg)));have e1:(aH x).neg=true:=by rw[HB.out];exact hneg
   clear hneg HB HE;dsimp only;go_wp2
   go_ret;exact⟨_,rfl,hB,by rw[HF.out]; rfl⟩
  ·have e1:(aH x).neg=false:=by rw[HB.out];simpa using hneg
   have HF:=Af (HE.out.trans (show(if dI x=true∨0 < lQ x 1 then (2:Int) else 0)=if 0 < lQ x 1 then 2 else 0 by
    by_cases h:0 < lQ x 1
    ·rw[if_pos h,if_pos (.inr h)]
    ·rw[if_neg h,if_neg (fun k=>k.elim hneg h)]))
   clear hneg HB HE;obtain⟨o,ho⟩:=named (lQ x 1);rw[← ho] at HF;have HO:=Af ho;clear ho;by_cases hgt:0 < o
   ·skip
    have d1:decide (0 < o)=true:=decide_eq_true hgt;rw[e1] at HV x0;have HG:=Af (HF.out.trans (if_pos hgt));clear hgt HF;dsimp only;exact Ya
   ·skip
    have d1:decide (0 < o)=false:=decide_eq_false hgt;rw[e1] at HV x0;have HG:=Af (HF.out.trans (if_neg hgt));clear hgt HF;dsimp only;exact Ya
 ·have t1:(iC r != 0)=true:=by simp[h1]
  have HE:=Af (show eH r=iC r by unfold eH; rw[if_pos h1]);clear h1;generalize iC r=re at *;dsimp only;exact zb8
theorem yt (w:World) (F:Ah) (v:Value) (xs:List Rat) (hv:DU w F v xs) (hl:xs.length≤100000) (hx:∀ x∈xs,rl x≤100000) :
  Calls Tryz.prog 113 #[v] w (Ret w fun u w'=>DV w' (Ext F w.heap.size) u xs):=by
 obtain⟨A,c,rfl,hc,hN⟩:=hv;rw[List.length_map] at hc hN;have HN:=Af hN;clear hN;have HX:=Af hx;clear hx;show Calls _ _ #[.slice A (xs.map aH).length c] _ _;rw[List.length_map];go_in;go_wp2
 go_loopw [3,8] (fun u i wr=>∃ (k:Nat) (L:List RV),k≤xs.length∧i = .int .i64 (k:Int)∧L.length=k∧L.map RV.r=(xs.take k).map au∧Bj wr w.heap.size 118 (Old F w.heap.size) u L∧Below w.heap.size w wr) (fun _ i _=>xs.length - (intOf i).toNat)
 case atStart=>exact⟨0,[],byOmega,rfl,rfl,rfl,Bj.nil _ _ _ _,Below.refl _ _⟩
 case round =>
  obtain⟨k,L,hk,rfl,hlen,hmap,hown,hbel⟩:=hrel;have HM:=Af hmap;have HO:=Af hown;have HLL:=Af hlen;clear hmap hown hlen;have hz:=hbel.size;by_cases hlt:k < xs.length
  ·obtain⟨b,o,rfl,hF,hb,hx⟩:=HN.out byOmega;obtain⟨x,hx'⟩:=aF hlt;obtain⟨ex0,⟨vn,ex1,hn⟩,⟨vd,ex2,hd⟩⟩:=hx k (aH x) (by rw[List.getElem?_map,hx']; rfl);have hold:=aQ hbel;have HXE:=Af hx';have hrl:=HX.out x (List.mem_of_getElem? hx');have HR:=Af (Ak.below (r:=aH x) (Ak.old (Ak.make (r:=aH x) rfl hn hd)) hbel);obtain⟨A1,c1,rfl,_,_⟩:=hn;obtain⟨A2,c2,rfl,_,_⟩:=hd;replace ex1:w.cell? ⟨b,o+k*3+1,none⟩=some (.slice A1 (dig x.num.natAbs).length c1):=ex1;replace ex2:w.cell? ⟨b,o+k*3+2,none⟩=some (.slice A2 (dig x.den).length c2):=ex2;clear hx hx';go_wp2_with fail
   obtain⟨W2,hW2,rz,hB2,hzz⟩:=aO wr 83 #[.bool (aH x).neg,.slice A1 (dig x.num.natAbs).length c1,.slice A2 (dig x.den).length c2];rw[← hW2];clear hW2;replace HR:=Af (HR.out.below hB2);replace HO:=Af (HO.out.below hB2);have abm:=hbel.trans (hB2.mono hz);have x0:=rz.cell (i:=0) rfl;have x1:=rz.cell (i:=1) rfl;have x2:=rz.cell (i:=2) rfl;clear hold hB2;go_wp2_with fail
   refine(pK W2 _ _ x HR.out hrl).mono ?_;rintro e wn ⟨u,rfl,hb2,hu⟩;replace HO:=Af (HO.out.below hb2);have ajl:=abm.trans (hb2.mono abm.size);have hz3:=ajl.size;obtain⟨q,hq,rfl,iQ⟩:=Ak.rv hu;have HQ:=Af hq;have HF:=Af iQ;clear hu x0 x1 x2 rz hb2 abm hq iQ;dsimp only[RV.cells];go_wp2_with (at_builtin; refine ac2 (F:=Old F w.heap.size) rfl _ _ 110 118 Tryz.underlying110 Tryz.infoNum rfl w.heap.size (Nat.le_refl _) u3 L rfl q (by have:=HLL.out; omega) rfl HO.out (HF.out.keep (fun b hb _=>⟨hb,fun e=>by have:=(HO.out.row.lt b e).1; have:=hb.2; omega⟩) (Same.refl _ _)) ajl ?_; intro g cap w' hown' iY hlt'; have HO':=Af hown'; clear hown')
   go_roundw
   case rel=>exact⟨k+1,L ++ [q],byOmega,by go_num,by rw[List.length_append,HLL.out]; rfl,by rw[List.map_append,HM.out,take_snoc HXE.out,List.map_append]; show _ ++ [q.r]=_ ++ [au x]; rw[HQ.out],HO'.out,iY⟩
   case measure=>simp[intOf]; omega
  ·go_wp2
   go_ret;have hall:xs.take k=xs:=List.take_of_length_le byOmega;refine zbG ?_;have:=HO.out.oq (G:=Ext F w.heap.size) (fun b hb=>.inl hb.1) (fun b hb=>.inr hb);rw[HM.out,hall] at this;exact this
theorem sum_any (w:World) (F:Ah) (v:Value) (xs:List Rat) (hv:DV w F v xs) (hl:xs.length≤100000) (hx:∀ x∈xs,rl x≤20000) (hs:∀ k,rl (jh (xs.take k))≤20000) :
  Calls Tryz.prog 114 #[v] w (Ret w fun u w'=>NmV w' (Ext F w.heap.size) u (jh xs)):=by
 obtain⟨A,c,rfl,hc,hN⟩:=hv;rw[List.length_map] at hc hN;have HN:=Af hN;clear hN;have HX:=Af hx;clear hx;have HS:=Af hs;clear hs;show Calls _ _ #[.slice A (xs.map au).length c] _ _;rw[List.length_map];go_in;go_wp2_with fail
 obtain⟨W,hW,ry,rz,hB,hz⟩:=alloc2 w 118 #[.bool false,.slice none 0 0,.slice none 0 0] 118 #[.bool false,.slice none 0 0,.slice none 0 0];rw[← hW];clear hW;have hz:w.heap.size+2≤W.heap.size:=hz;have hry:=Af ry;have hrz:=Af rz;clear ry rz;try go_wp2
 go_loopw [8] (fun i wr=>∃ (k:Nat) (s:Rat) (A':Option Addr) (c':Nat) (B':Option Addr) (d':Nat),k≤xs.length∧i = .int .i64 (k:Int)∧s=jh (xs.take k)∧Row wr w.heap.size 118 [.bool false,.slice none 0 0,.slice none 0 0]∧Row wr (w.heap.size+1) 118 [.bool (au s).neg,.slice A' (au s).num.length c',.slice B' (au s).den.length d'] ∧
  NmV wr (Ext (Old F w.heap.size) (w.heap.size+2)) (.agg #[.bool (au s).neg,.slice A' (au s).num.length c',.slice B' (au s).den.length d']) s∧Below w.heap.size w wr∧w.heap.size+2≤wr.heap.size) (fun i _=>xs.length - (intOf i).toNat)
 case atStart =>
  have h0:au 0=⟨false,[],[]⟩:=by unfold au;rw[if_pos (show(0:Rat).den=1 from rfl),show(0:Rat).num=0 from rfl,Int.natAbs_zero,bF];rfl
  refine⟨0,0,none,0,none,0,byOmega,rfl,rfl,hry.out,?_,?_,hB,hz⟩
  ·rw[h0];exact hrz.out
  ·rw[h0];exact NmV.zero _ _ _ _ _ _
 case round =>
  clear hry hrz hB hz;obtain⟨k,s,A',c',B',d',hk,rfl,hsum,hry,hrz,hnm,hB,hz⟩:=hrel;have HSU:=Af hsum;have HNM:=Af hnm;clear hsum hnm;have hrs:=HS.out k;rw[← HSU.out] at hrs;by_cases hlt:k < xs.length
  ·obtain⟨b,o,rfl,hF,hb,hx⟩:=HN.out byOmega;obtain⟨x,hx'⟩:=aF hlt;obtain⟨ex0,⟨vn,ex1,hn⟩,⟨vd,ex2,hd⟩⟩:=hx k (au x) (by rw[List.getElem?_map,hx']; rfl);have hold:=aQ hB;have HXE:=Af hx';have hrl:=HX.out x (List.mem_of_getElem? hx');have HR:=Af (Ak.mono (G:=Ext (Old F w.heap.size) (w.heap.size+2)) (Ak.below (r:=au x) (Ak.old (Ak.make (r:=au x) rfl hn hd)) hB) (fun b hb _=>.inl hb));obtain⟨A1,c1,rfl,_,_⟩:=hn;obtain⟨A2,c2,rfl,_,_⟩:=hd;clear hx hx';have y0:=fun o=>(hrz.alloc o).cell (i:=0) rfl;have y1:=fun o=>(hrz.alloc o).cell (i:=1) rfl;have y2:=fun o=>(hrz.alloc o).cell (i:=2) rfl
   go_wp2_with fail
   obtain⟨W2,hW2,rz,hB2,hzz⟩:=aO wr 118 #[.bool (au x).neg,.slice A1 (au x).num.length c1,.slice A2 (au x).den.length c2];rw[← hW2];clear hW2;replace HR:=Af (HR.out.below hB2);replace HNM:=Af (HNM.out.below hB2);replace hry:=hry.below hB2 hry.lt;replace hrz:=hrz.below hB2 hrz.lt;replace hB:=hB.trans (hB2.mono hB.size);have x0:=rz.cell (i:=0) rfl;have x1:=rz.cell (i:=1) rfl;have x2:=rz.cell (i:=2) rfl;clear y0 y1 y2;have y0:=hrz.cell (i:=0) rfl;have y1:=hrz.cell (i:=1) rfl;have y2:=hrz.cell (i:=2) rfl;clear hold hB2;go_wp2_with fail
   refine(aac W2 _ _ _ s x HNM.out HR.out hrs hrl).mono ?_;rintro e wn ⟨u,rfl,hb2,hu⟩;replace hu:NmV wn (Ext (Old F w.heap.size) (w.heap.size+2)) u (s+x):=hu.mono (fun b hb _=>hb.elim id fun h=>.inr byOmega);have HU:=Af hu;obtain⟨A4,c4,B4,d4,rfl,hn,hd⟩:=hu.open;clear hn hd hu;replace hry:=hry.below hb2 hry.lt;replace hrz:=hrz.below hb2 hrz.lt;replace hB:=hB.trans (hb2.mono hB.size);have hz2:=hb2.size;clear x0 x1 x2 rz y0 y1 y2 hb2;have q0:=hrz.cell (i:=0) rfl;have y0:=hrz.frozen 0;have q1:=hrz.cell (i:=1) rfl;have y1:=hrz.frozen 1;have q2:=hrz.cell (i:=2) rfl;have y2:=hrz.frozen 2;dsimp only;go_wp2_with fail
   obtain⟨Wz,hWz,hrw,hwz,hkz⟩:=bZ hrz (.bool (au (s+x)).neg) (.slice A4 (au (s+x)).num.length c4) (.slice B4 (au (s+x)).den.length d4);rw[← hWz];clear q0 q1 q2 y0 y1 y2;have hryz:Row Wz w.heap.size 118 [.bool false,.slice none 0 0,.slice none 0 0]:=by
    rw[hWz];exact((hry.other (a:=⟨w.heap.size+1,0,none⟩) aB _).other (a:=⟨w.heap.size+1,1,none⟩) aB _).other (a:=⟨w.heap.size+1,2,none⟩) aB _
   have hsz:Wz.heap.size=wn.heap.size:=by rw[hWz];simp
   clear hWz;have HUU:=Af (HU.out.keep (fun b hb _=>hb) (hkz (Ext (Old F w.heap.size) (w.heap.size+2)) (fun h=>h.elim (fun h=>by have:=h.2; omega) fun h=>by omega)));go_roundw
   case rel=>exact⟨k+1,s+x,A4,c4,B4,d4,byOmega,by go_num,by rw[take_snoc HXE.out,wR,← HSU.out],hryz,hrw,HUU.out,hwz _ _ byOmega hB,byOmega⟩
   case measure=>simp[intOf]; omega
  ·have hall:xs.take k=xs:=List.take_of_length_le byOmega;have HF:=Af (show s=jh xs by rw[HSU.out,hall]);clear hall;have p0:=hrz.cell (i:=0) rfl;have p1:=hrz.cell (i:=1) rfl;have p2:=hrz.cell (i:=2) rfl;have q0:=hry.cell (i:=0) rfl;have y0:=hry.frozen 0;have q1:=hry.cell (i:=1) rfl;have y1:=hry.frozen 1;have q2:=hry.cell (i:=2) rfl;have y2:=hry.frozen 2;go_wp2
   obtain⟨Wz,hWz,hrz,hwz,hkz⟩:=bZ hry (.bool (au s).neg) (.slice A' (au s).num.length c') (.slice B' (au s).den.length d');refine Zl ?_;clear hWz q0 q1 q2 y0 y1 y2;intro t0 t1 t2;refine bodyPost_ret (v:=.agg #[.bool (au s).neg,.slice A' (au s).num.length c',.slice B' (au s).den.length d']) (by simp[results,Tryz.results114,go_sem,t0,t1,t2]) rfl ?_;exact⟨_,rfl,hwz _ _ byOmega hB,by rw[← HF.out]; exact HNM.out.keep (fun b hb _=>hb.elim (fun h=>.inl h.1) fun h=>.inr byOmega) (hkz _ (fun h=>h.elim (fun h=>by have:=h.2; omega) fun h=>by omega))⟩
open List renaming getElem_toArray → lq1, getElem_cons_zero → lq2, getElem_cons_succ → lq3, setIfInBounds_toArray → lq4, set_cons_zero → lq5, set_cons_succ → lq6
theorem AB.below {w w':World} {F:Ah} {v:Value} {l:List Raw} (h:AB w F v l) (hb:Below w.heap.size w w'):AB w' F v l:=h.on (Below.same' hb F)
theorem acd {acts:List Int} {m:List (List Raw)} {k:Nat} {a:Int} {l:List Raw} (ha:acts[k]? = some a) (hl:m[k]? = some l):(List.zipWith mQ acts m)[k]? = some (mQ a l):=by
 rw[List.getElem?_zipWith,ha,hl]
theorem wV {acts:List Int} {m:List (List Raw)} {k:Nat} {a:Int} {l:List Raw} (hlen:m.length=acts.length) (h0:ig ((List.zipWith mQ acts m).take k)=0) (ha:acts[k]? = some a) (hl:m[k]? = some l) (hne:mQ a l≠0):kK acts m=mQ a l:=by
 unfold kK;rw[if_neg byOmega];exact uh h0 (acd ha hl) hne
theorem agl {acts:List Int} {m:List (List Raw)} {k:Nat} (hlen:m.length=acts.length) (h0:ig ((List.zipWith mQ acts m).take k)=0) (hk:m.length≤k):kK acts m=0:=by
 unfold kK;rw[if_neg byOmega];rwa [List.take_of_length_le aG] at h0
def BD (m:List (List Raw)):Prop:=∀ l∈m,l.length≤100000∧∀ r∈l,U32 r∧r.num.length≤100000∧r.den.length≤100000
theorem aaM {a:Int} {l:List Raw} {j:Nat} {r:Raw} (hla:(l.length:Int)=a) (h0:ig ((l.map eH).take j)=0) (hr:l[j]? = some r) (hne:eH r≠0):mQ a l=eH r:=by
 have hs:lI l=eH r:=uh h0 (by rw[List.getElem?_map,hr]; rfl) hne;unfold mQ;rw[if_neg byOmega,if_pos (by rw[hs]; exact hne),hs]
theorem aaN {a:Int} {l:List Raw} (hla:(l.length:Int)=a) (h0:lI l=0):mQ a l=if lQ (jh (l.map rD)) 1≠0 then 14 else 0:=by
 unfold mQ;rw[if_neg byOmega,if_neg byOmega]
theorem aae (w:World) (F:Ah) (vg vm:Value) (g:Gm) (m:List (List Raw)) (hg:AV w F vg g) (hm:Ag w F vm m) (hT:Bl w) (hlm:m.length≤100000) (hli:g.infos.length≤100000) (hb:BD m) (hact:∀ i∈g.infos,i.actions≤10) :
  Calls Tryz.prog 78 #[vg,vm] w (Ret w fun v _=>v = .int .i64 (kK (g.infos.map Inf.actions) m)):=by
 obtain⟨vn,vi,rfl,⟨A,c,rfl,hc,hN⟩,⟨Ai,ci,rfl,hci,hI⟩⟩:=hg;obtain⟨Am,cm,rfl,hcm,hM⟩:=hm;have HI:=Af hI;have HM:=Af hM;have HBB:=Af hb;have HA:=Af hact;have HTT:=Af hT;clear hN hI hM hb hact hT;obtain⟨acts,afA⟩:=named (g.infos.map Inf.actions);rw[← afA];have hal:acts.length=g.infos.length:=by rw[afA,List.length_map]
 have HAC:=Af afA;clear afA;by_cases hlen:m.length=g.infos.length
 ·have d1:((m.length:Int) != (g.infos.length:Int))=false:=aG;have HLE:=Af (show m.length=acts.length by omega);have hle1:m.length≤g.infos.length:=byOmega;have hle2:g.infos.length≤m.length:=byOmega;have hle3:m.length≤acts.length:=byOmega;clear hlen hal;go_in;go_wp2_with fail
  refine Yb ?_;intro W hW rx hB hz;clear hW;refine(lW W 1 ay ay).mono ?_;rintro e w1 ⟨u,rfl,hb1,hu⟩;obtain⟨one,hone⟩:∃ one:Rat,one=((1:Int):Rat):=⟨_,rfl⟩;rw[← hone] at hu;have H1:=Af (show one=1 from hone);clear hone;have BU:=Af (hu.mono (G:=fun _=>True) (fun _ _ _=>trivial));obtain⟨A1,c1,B1,d1',rfl,hn,hd⟩:=hu.open;clear hn hd hu;replace rx:=rx.below hb1 rx.lt;replace hB:=hB.trans (hb1.mono hB.size);clear hb1;have hz1:w.heap.size+1≤w1.heap.size:=by have:=rx.lt;omega
  dsimp only;go_wp2
  obtain⟨W1,hW1,ry,hB1,hzz⟩:=aO w1 118 #[.bool (au one).neg,.slice A1 (au one).num.length c1,.slice B1 (au one).den.length d1'];rw[← hW1];clear hW1;replace BU:=Af (BU.out.below hB1);replace rx:=rx.below hB1 rx.lt;replace hB:=hB.trans (hB1.mono hB.size);replace HTT:=Af (HTT.out.on hB);replace HI:=Af (fun h=>by
   obtain⟨b,o,h1,h2,h3,h4⟩:=HI.out h;exact(⟨b,o,h1,⟨h2,h3⟩,Nat.lt_of_lt_of_le h3 hB.size,fun k x hx=>⟨aj (h4 k x hx).c0 hB,aj (h4 k x hx).c1 hB⟩⟩:∃ b o,Ai=some ⟨b,o,none⟩∧Old F w.heap.size b∧b < W1.heap.size∧∀ k x,g.infos[k]? = some x→Ee W1 (Old F w.heap.size) b (o+k*2) x))
  replace HM:=Af (Ag.keep (G:=F) (⟨Am,cm,rfl,hcm,HM.out⟩:Ag w F _ m) (fun _ h _=>h) (Below.same' hB F));clear hB1;have g2:=rx.cell (i:=2) rfl;have o0:=ry.cell (i:=0) rfl;have o1:=ry.cell (i:=1) rfl;have o2:=ry.cell (i:=2) rfl;have hgs:w.heap.size < W1.heap.size:=byOmega;have hos:w1.heap.size < W1.heap.size:=byOmega;clear rx ry hz hzz;have hz2:=hB.size;go_loopw [20] (fun i wr=>∃ k:Nat,k≤m.length∧i = .int .i64 (k:Int)∧ig ((List.zipWith mQ acts m).take k)=0∧Below W1.heap.size W1 wr) (fun i _=>m.length - (intOf i).toNat)
  case atStart=>exact⟨0,byOmega,rfl,rfl,Below.refl _ _⟩
  case round =>
   obtain⟨k,hk,rfl,hpre,hbel⟩:=hrel;have HP:=Af hpre;clear hpre;have hold:=aQ hbel;have hzr:=hbel.size;by_cases hlt:k < m.length
   ·obtain⟨l,hl⟩:=aF hlt;obtain⟨inf,fG⟩:=aF (l:=g.infos) (k:=k) byOmega;have hak:acts[k]? = some inf.actions:=by rw[HAC.out,List.getElem?_map,fG];rfl
    obtain⟨A0,c0,he,_,hM⟩:=HM.out;cases he;obtain⟨b,o,rfl,hF,hbl,hx⟩:=hM byOmega;obtain⟨ur,eu,hrow⟩:=hx k l hl;rw[Nat.mul_one] at eu;have HRW:=Af hrow;obtain⟨Ar,cr,rfl,hcr,_⟩:=hrow;obtain⟨b2,p2,rfl,hF2,hbl2,hx2⟩:=HI.out byOmega;have ei:=(hx2 k inf fG).c1;have hia:inf.actions≤10:=HA.out inf (List.mem_of_getElem? fG);have iQ:=HBB.out l (List.mem_of_getElem? hl);have HFI:=Af iQ.2;have hll:=iQ.1;have HL:=Af hl;have HK:=Af hak;clear hx hx2 hM hl fG hak iQ;by_cases hact:(l.length:Int)=inf.actions
    ·have d2:((l.length:Int) != inf.actions)=false:=aG;have Em:=Af hact;go_wp2
     go_loopw [36] (fun i wi=>∃ j:Nat,j≤l.length∧i = .int .i64 (j:Int)∧ig ((l.map eH).take j)=0∧Below W1.heap.size W1 wi) (fun i _=>l.length - (intOf i).toNat)
     case atStart=>exact⟨0,byOmega,rfl,rfl,hbel⟩
     case round =>
      clear hold hbel hzr;obtain⟨j,hj,rfl,hpre,hbel⟩:=hrel;have HPJ:=Af hpre;clear hpre;have hold:=aQ hbel;have hzr:=hbel.size;by_cases hlt2:j < l.length
      ·obtain⟨A2,c2,he,_,hR⟩:=HRW.out;cases he;obtain⟨b3,o3,rfl,hF3,hb3,hx3⟩:=hR byOmega;obtain⟨r,hr⟩:=aF hlt2;obtain⟨ex0,⟨vn,ex1,hn⟩,⟨vd,ex2,hd⟩⟩:=hx3 j r hr;have HRV:=Af (Ak.below (Ak.make (r:=r) rfl hn hd) hbel);obtain⟨A4,c4,rfl,_,_⟩:=hn;obtain⟨A5,c5,rfl,_,_⟩:=hd;have hfr:=HFI.out r (List.mem_of_getElem? hr);have HFR:=Af hfr.1;have hf2:=hfr.2.1;have hf3:=hfr.2.2;have HRR:=Af hr;clear hx3 hR hr hfr;go_wp2_with fail
       obtain⟨W2,hW2,rz,hB2,hzz⟩:=aO wr 83 #[.bool r.neg,.slice A4 r.num.length c4,.slice A5 r.den.length c5];rw[← hW2];clear hW2;replace HRV:=Af (HRV.out.below hB2);have x0:=rz.cell (i:=0) rfl;have x1:=rz.cell (i:=1) rfl;have x2:=rz.cell (i:=2) rfl;replace hbel:=hbel.trans (hB2.mono hbel.size);clear hold hB2 rz;go_wp2_with fail
       refine(abl W2 F _ r HRV.out HFR.out hf2 hf3 (HTT.out.on hbel)).mono ?_;rintro e wn ⟨_,rfl,hb,rfl⟩;replace hbel:=hbel.trans (hb.mono hbel.size);clear hb x0 x1 x2;have HSE:=Af (rfl:eH r=eH r);generalize hse:eH r=se at *;have HS2:=Af hse;clear hse HSE;by_cases hs0:se=0
       ·have t1:(se != 0)=false:=by rw[hs0];rfl
        have HS0:=Af hs0;clear hs0;dsimp only;go_wp2
        go_roundw
        case rel=>exact⟨j+1,byOmega,by go_num,rC HPJ.out (by rw[List.getElem?_map,HRR.out]; show some (eH r)=_; rw[HS2.out,HS0.out]),hbel⟩
        case measure=>simp[intOf]; omega
       ·have t1:(se != 0)=true:=by simp[hs0]
        have hrow:mQ inf.actions l=se:=(aaM Em.out HPJ.out HRR.out (by rw[HS2.out]; exact hs0)).trans HS2.out;have HE:=Af ((wV HLE.out HP.out HK.out HL.out (by rw[hrow]; exact hs0)).trans hrow);clear hs0 hrow;dsimp only;exact Y2
      ·have hsh:lI l=0:=by
        have:=HPJ.out;rw[List.take_of_length_le aG] at this;exact this
       obtain⟨xs,hxs,hlx⟩:=uj hsh;have hrow:=aaN Em.out hsh;rw[hxs,zK] at hrow;have hxl:xs.length≤10:=by
        have h1:=Em.out;rw[hxs,List.length_map] at h1;omega
       have HXS:=Af hxs;have HRA:=Af (show DU wr F (.slice Ar l.length cr) xs by
        show AB wr F _ (xs.map aH);rw[← HXS.out]; exact HRW.out.on (Below.same' hbel F))
       have hsm:∀ k,rl (jh (xs.take k))≤20000:=fun k=>by
        have h1:=abY (xs.take k) (fun x hx=>hlx x (List.mem_of_mem_take hx));have h2:(xs.take k).length≤xs.length:=aG;omega
       have hsm2:rl (jh xs)≤20000:=by
        have h1:=abY xs hlx;omega
       have aj8:rl one≤20000:=by rw[H1.out,qA];omega
       have Bd:=Af (show mQ inf.actions l=if lQ (jh xs) one≠0 then 14 else 0 by rw[H1.out]; rw[hxs]; exact hrow);have HLX:=Af hlx;have HSM:=Af hsm;clear hsh hxs hrow hlx hsm hold;replace o0:=aj o0 hbel;replace o1:=aj o1 hbel;replace o2:=aj o2 hbel;replace BU:=Af (BU.out.below hbel);go_wp2_with fail
       refine wp_region_held_drew (S:=fun w'=>w'.cell? ⟨w1.heap.size,0,none⟩=some (.bool (au one).neg)∧w'.cell? ⟨w1.heap.size,1,none⟩=some (.slice A1 (au one).num.length c1)∧w'.cell? ⟨w1.heap.size,2,none⟩=some (.slice B1 (au one).den.length d1')) ah ⟨o0,o1,o2⟩ (fun hHeld=>?_);have hb:Below wr.heap.size wr wr.drew:=aK (Below.refl _ wr) 1;refine zbg ?_;clear o0 o1 o2 HRA BU;intro o0 o1 o2 HRA BU;replace hzr:=Nat.le_trans hzr hb.size;replace hbel:=hbel.trans (hb.mono hbel.size);clear hb;generalize wr.drew=wn at *;refine tkm [0,3] ?_;refine tk2 1 ah rfl fun K hK=>?_
       go_simp;refine(yt _ F _ xs HRA.out byOmega (fun x hx=>by have:=HLX.out x hx; omega)).mono ?_;rintro e wn ⟨u,rfl,hb,hu⟩;have HNU:=Af (AB.keep (G:=fun _=>True) hu (fun _ _ _=>trivial) (Same.refl _ _));clear hu;refine zbg ?_;clear o0 o1 o2 HRA BU;intro o0 o1 o2 HRA BU;refine zaF ?_;clear hzr hbel hb hHeld hK K;intro hzr hbel hHeld;refine tk2 2 ah rfl fun K hK=>?_
       go_simp;refine(sum_any _ (fun _=>True) _ xs HNU.out byOmega (fun x hx=>by have:=HLX.out x hx; omega) HSM.out).mono ?_;rintro e wn ⟨us,rfl,hb,hu⟩;have HSU:=Af (Ak.mono (G:=fun _=>True) hu (fun _ _ _=>trivial));clear hu;refine zbg ?_;clear o0 o1 o2 HRA BU;intro o0 o1 o2 HRA BU;replace HNU:=Af (HNU.out.below hb);refine zaF ?_;clear hzr hbel hb hHeld hK K;intro hzr hbel hHeld;refine tk2 4 ah rfl fun K hK=>?_
       go_simp;refine(vJ _ (fun _=>True) _ _ (jh xs) one HSU.out BU.out hsm2 aj8).mono ?_;rintro e wn ⟨_,rfl,hb,rfl⟩;refine zbg ?_;clear o0 o1 o2 HRA BU;intro o0 o1 o2 HRA BU;replace HNU:=Af (HNU.out.below hb);replace HSU:=Af (HSU.out.below hb);refine zaF ?_;clear hzr hbel hb hHeld hK K;intro hzr hbel hHeld;refine tkm [5] ?_;refine Yq ?_;clear hHeld;clear o0 o1 o2 HNU HSU;generalize lQ (jh xs) one=e0 at *;refine Yh ?_;by_cases h0:e0=0
       ·have t1:(e0 != 0)=false:=by rw[h0];rfl
        have hr0:mQ inf.actions l=0:=by rw[Bd.out,if_neg (by simpa using h0)]
        have HR0:=Af hr0;clear hr0 h0;go_wp2
        go_roundw
        case rel=>exact⟨k+1,byOmega,by go_num,rC HP.out (by rw[acd HK.out HL.out,HR0.out]),hbel⟩
        case measure=>simp[intOf]; omega
       ·have t1:(e0 != 0)=true:=by simp[h0]
        have hr0:mQ inf.actions l=14:=by rw[Bd.out,if_pos h0]
        have HE:=Af ((wV HLE.out HP.out HK.out HL.out (by rw[hr0]; decide)).trans hr0);clear hr0 h0;exact Y2
    ·have d2:((l.length:Int) != inf.actions)=true:=aG;have h3:mQ inf.actions l=3:=by unfold mQ;rw[if_pos hact]
     have HE:=Af ((wV HLE.out HP.out HK.out HL.out (by rw[h3]; decide)).trans h3);exact Y2
   ·have HE:=Af (agl HLE.out HP.out byOmega);exact Y2
 ·have d1:((m.length:Int) != (g.infos.length:Int))=true:=aG;have HE:=Af (show kK acts m=3 by unfold kK; rw[if_pos byOmega]);go_in;go_wp2
  go_ret;exact⟨_,rfl,(Below.refl _ _).alloc (Nat.le_refl _) _,by rw[HE.out]; rfl⟩
theorem qB:aH 0=⟨false,[],[1]⟩:=by
 unfold aH;rw[show(0:Rat).num=0 from rfl,show(0:Rat).den=1 from rfl,Int.natAbs_zero,bF,iJ];rfl
theorem sN (w:World) (n:Nat) (h2:n≤1000000000000) :
  Calls Tryz.prog 144 #[.int .i64 (n:Int)] w (Ret w fun v w'=>Aj w' (fun b=>w.heap.size≤b) v n):=by
 go_in;go_wp2
 go_loopw [0,3] (fun u v wr=>∃ (m:Nat) (l:List Nat),u = .int .i64 (m:Int)∧m≤1000000000000∧l++dig m=dig n∧wr.ownsRow w.heap.size 166 1 v l.length (aZ l)∧Below w.heap.size w wr) (fun u _ _=>(intOf u).natAbs)
 case atStart=>exact⟨n,[],rfl,h2,rfl,World.ownsRow_nil _ _ _ _,Below.refl _ _⟩
 case round =>
  obtain⟨m,l,rfl,hm2,hd,hown,hbel⟩:=hrel;have HD:=Af hd;have HO:=Af hown;have hll:l.length≤1000000:=by
   have h1:(dig n).length≤3:=aY (by unfold LB; omega);rw[← hd,List.length_append] at h1;omega
  clear hd hown;by_cases h0:m=0
  ·exact Yw
  ·have hne:decide (0 < m)=true:=aG;have HD2:=Af (show l ++ [m % 1000000000]++dig (m / 1000000000)=dig n by rw[← HD.out,kF h0]; simp[LB]);obtain⟨r,hr⟩:∃ r:Nat,r=m % 1000000000:=⟨_,rfl⟩;obtain⟨m2,ajG⟩:∃ m2:Nat,m2=m / 1000000000:=⟨_,rfl⟩;rw[← hr,← ajG] at HD2;have hr9:r < 1000000000:=byOmega;have HLT:=Af (show m2 < m by omega);have hm2b:m2≤1000000000000:=byOmega;have ht:(m:Int).tmod 1000000000=(r:Int):=by rw[hr];rfl
   have hq:(m:Int).tdiv 1000000000=(m2:Int):=by rw[ajG];rfl
   clear hr ajG h0;go_wp2_with (at_builtin; refine gX rfl _ _ 81 Tryz.underlying81 rfl w.heap.size (Nat.le_refl _) u3 l rfl _ r byOmega hll rfl HO.out hbel ?_; intro g cap w' hown' iY hlt' pq; have HO':=Af hown'; clear hown' pq)
   go_roundw
   case rel=>exact⟨m2,l ++ [r],by go_num,hm2b,HD2.out,by simpa using HO'.out,iY⟩
   case measure=>simp only[intOf]; have:=HLT.out; omega
theorem afB (w:World) (a b:Nat) (h1:a≤1000000000000) (h2:b≤1000000000000) :
  Calls Tryz.prog 143 #[.int .i64 (a:Int),.int .i64 (b:Int)] w (Ret w fun v _=>v = .int .i64 (Nat.gcd a b:Int)):=by
 go_in;go_wp2
 go_loopw [0,1] (fun u v wr=>∃ (x y:Nat),u = .int .i64 (x:Int)∧v = .int .i64 (y:Int)∧x≤1000000000000∧y≤1000000000000∧Nat.gcd x y=Nat.gcd a b∧Below w.heap.size w wr) (fun _ v _=>(intOf v).natAbs)
 case atStart=>exact⟨a,b,rfl,rfl,h1,h2,rfl,Below.refl _ _⟩
 case round =>
  obtain⟨x,y,rfl,rfl,hx,hy,hg,hbel⟩:=hrel;have HG:=Af hg;clear hg;by_cases h0:y=0
  ·subst h0;have hmx:(if -(x:Int) > (x:Int) then -(x:Int) else (x:Int))=(x:Int):=if_neg byOmega;have hnl:¬ ((x:Int) < -(x:Int)):=byOmega;go_wp2
   go_ret;refine zbG ?_;have:=HG.out;rw[Nat.gcd_zero_right] at this;rw[← this];first | rfl | (rw[hmx]) | (simp[hnl])
  ·have hne:((y:Int) != 0)=true:=aG;obtain⟨r,hr⟩:∃ r:Nat,r=x % y:=⟨_,rfl⟩;have ht:(x:Int).tmod (y:Int)=(r:Int):=by rw[hr];rfl
   have hlt:r < y:=by rw[hr];exact Nat.mod_lt _ byOmega
   have HG2:=Af (show Nat.gcd y r=Nat.gcd a b by rw[← HG.out,hr,Nat.gcd_comm x y,Nat.gcd_rec y x,Nat.gcd_comm]);clear hr;have hy0:(y:Int)≠0:=byOmega;go_wp2
   go_quiet (fail)
   go_wp2
   go_roundw
   case rel=>exact⟨y,r,rfl,by go_num,hy,byOmega,HG2.out,aK hbel _⟩
   case measure=>simp only[intOf]; omega
theorem oO (neg:Bool) (n b:Nat) (hb:b≠0):aH (mkRat (sgI neg n) b)=⟨neg&&decide (n≠0),dig (n / Nat.gcd n b),dig (b / Nat.gcd n b)⟩:=by
 have h:=jR (sgI neg n) hb;rw[oD] at h;unfold aH;rw[h.1,h.2.1,kT _ hb];by_cases h0:n=0
 ·subst h0;rw[zx];simp
 ·rw[uX h0];simp[h0]
theorem abn (w:World) (n b:Nat) (h1:n≤1000000000000) (h2:b≤1000000000000) (hb0:b≠0) :
  Calls Tryz.prog 89 #[.int .i64 (n:Int),.int .i64 (b:Int)] w (Ret w fun v w'=>RtV w' (fun b=>w.heap.size≤b) v (mkRat (sgI false n) b)):=by
 have HM:=Af (oO false n b hb0);refine zah ?_;clear HM;intro hg0 HGN HG;generalize Nat.gcd n b=g at *;have e1:n / g≤n:=Nat.div_le_self _ _;have e2:b / g≤b:=Nat.div_le_self _ _;have t2:(b:Int).tdiv (g:Int)=((b / g:Nat):Int):=rfl;have hgz:(g:Int)≠0:=byOmega;have t1:(n:Int).tdiv (g:Int)=((n / g:Nat):Int):=rfl;have hbn:(false&&decide (n≠0))=false:=rfl;rw[hbn];have h1':n≤1000000000000:=h1;obtain⟨q,hq⟩:=named (n / g);obtain⟨d,hd⟩:=named (b / g);rw[← hq] at t1 e1 ⊢;rw[← hd] at t2 e2 ⊢;clear hq hd hbn;have hmx:(if -(n:Int) > (n:Int) then -(n:Int) else (n:Int))=(n:Int):=if_neg byOmega;have hnl:¬ ((n:Int) < -(n:Int)):=byOmega;have hlt:decide ((q:Int) < 0)=false:=decide_eq_false byOmega;go_in;go_wp2_with fail
 refine zab ?_;intro W hr hB hz;try rw[hmx]
 refine(HG.out _).mono ?_;rintro e wn ⟨vn,rfl,hb,rfl⟩;refine YS ?_;clear hr hz hB hb;intro hr hz hB;dsimp only;go_wp2_with fail
 go_quiet (fail)
 have hb:Below wn.heap.size wn (wn.drewN nq):=aK (Below.refl _ wn) nq;refine YS ?_;clear hr hz hB hb;intro hr hz hB;generalize wn.drewN nq=wn at *;go_wp2_with fail
 refine(sN _ q byOmega).mono ?_;rintro e wn ⟨vn,rfl,hb,hu⟩;have HN:=Af (hu.mono (G:=(fun b=>w.heap.size+1≤b)) (fun b hb _=>by omega));clear hu;refine YS ?_;clear hr hz hB hb;intro hr hz hB;dsimp only;go_wp2_with fail
 refine(sN _ d byOmega).mono ?_;rintro e wn ⟨vd,rfl,hb,hu⟩;have HD:=Af (hu.mono (G:=(fun b=>w.heap.size+1≤b)) (fun b hb _=>by omega));clear hu;replace HN:=Af (HN.out.below hb);refine YS ?_;clear hr hz hB hb;intro hr hz hB;have hn:=HN.out;have hd:=HD.out;obtain⟨Am,cm,rfl,_,_⟩:=hn;obtain⟨Bm,dm,rfl,_,_⟩:=hd;dsimp only;refine Zt ?_;intro q0 y0 q1 y1 q2 y2;go_wp2
 obtain⟨Wz,hWz,hrz,hwz,hkz⟩:=bZ hr (.bool false) (.slice Am (dig q).length cm) (.slice Bm (dig d).length dm);refine Zl ?_;clear hWz q0 q1 q2 y0 y1 y2;intro t0 t1 t2;refine bodyPost_ret (v:=.agg #[.bool false,.slice Am (dig q).length cm,.slice Bm (dig d).length dm]) (by simp[results,Tryz.results89,go_sem,t0,t1,t2]) rfl ?_;exact zaB
theorem agm (w:World) (n b:Nat) (h1:n≤1000000000000) (h2:b≤1000000000000) (hb0:b≠0) (hn0:n≠0) :
  Calls Tryz.prog 89 #[.int .i64 (-(n:Int)),.int .i64 (b:Int)] w (Ret w fun v w'=>RtV w' (fun b=>w.heap.size≤b) v (mkRat (sgI true n) b)):=by
 have HM:=Af (oO true n b hb0);refine zah ?_;clear HM;intro hg0 HGN HG;generalize Nat.gcd n b=g at *;have e1:n / g≤n:=Nat.div_le_self _ _;have e2:b / g≤b:=Nat.div_le_self _ _;have t2:(b:Int).tdiv (g:Int)=((b / g:Nat):Int):=rfl;have hgz:(g:Int)≠0:=byOmega;have t1:(-(n:Int)).tdiv (g:Int) = -((n / g:Nat):Int):=by rw[Int.neg_tdiv];rfl
 have hq0:0 < n / g:=Nat.div_pos (Nat.le_of_dvd byOmega HGN.out) hg0;have hbn:(true&&decide (n≠0))=true:=by simp[hn0]
 rw[hbn];have h1':n≤1000000000000:=h1;obtain⟨q,hq⟩:=named (n / g);obtain⟨d,hd⟩:=named (b / g);rw[← hq] at t1 e1 ⊢;rw[← hd] at t2 e2 ⊢;rw[← hq] at hq0;clear hq hd hbn;have hmx:(if - -(n:Int) > -(n:Int) then - -(n:Int) else -(n:Int))=(n:Int):=by rw[if_pos byOmega];omega
 have hnl:(-(n:Int) < - -(n:Int)):=byOmega;have aaO:(-(n:Int) < (n:Int)):=byOmega;have hlt:decide (-(q:Int) < 0)=true:=decide_eq_true byOmega;have hlt2:decide (0 < q)=true:=decide_eq_true hq0;go_in;go_wp2_with fail
 refine zab ?_;intro W hr hB hz;try rw[hmx]
 refine(HG.out _).mono ?_;rintro e wn ⟨vn,rfl,hb,rfl⟩;refine YS ?_;clear hr hz hB hb;intro hr hz hB;dsimp only;go_wp2_with fail
 go_quiet (fail)
 have hb:Below wn.heap.size wn (wn.drewN nq):=aK (Below.refl _ wn) nq;refine YS ?_;clear hr hz hB hb;intro hr hz hB;generalize wn.drewN nq=wn at *;go_wp2_with fail
 refine(sN _ q byOmega).mono ?_;rintro e wn ⟨vn,rfl,hb,hu⟩;have HN:=Af (hu.mono (G:=(fun b=>w.heap.size+1≤b)) (fun b hb _=>by omega));clear hu;refine YS ?_;clear hr hz hB hb;intro hr hz hB;dsimp only;go_wp2_with fail
 refine(sN _ d byOmega).mono ?_;rintro e wn ⟨vd,rfl,hb,hu⟩;have HD:=Af (hu.mono (G:=(fun b=>w.heap.size+1≤b)) (fun b hb _=>by omega));clear hu;replace HN:=Af (HN.out.below hb);refine YS ?_;clear hr hz hB hb;intro hr hz hB;have hn:=HN.out;have hd:=HD.out;obtain⟨Am,cm,rfl,_,_⟩:=hn;obtain⟨Bm,dm,rfl,_,_⟩:=hd;dsimp only;refine Zt ?_;intro q0 y0 q1 y1 q2 y2;go_wp2
 obtain⟨Wz,hWz,hrz,hwz,hkz⟩:=bZ hr (.bool true) (.slice Am (dig q).length cm) (.slice Bm (dig d).length dm);refine Zl ?_;clear hWz q0 q1 q2 y0 y1 y2;intro t0 t1 t2;refine bodyPost_ret (v:=.agg #[.bool true,.slice Am (dig q).length cm,.slice Bm (dig d).length dm]) (by simp[results,Tryz.results89,go_sem,t0,t1,t2]) rfl ?_;exact zaB
theorem agn (w:World) (a:Int) (b:Nat) (h1:-1000000000000≤a) (h2:a≤1000000000000) (h3:b≤1000000000000) (hb0:b≠0) :
  Calls Tryz.prog 89 #[.int .i64 a,.int .i64 (b:Int)] w (Ret w fun v w'=>RtV w' (fun b=>w.heap.size≤b) v (mkRat a b)):=by
 obtain⟨n,rfl | rfl⟩:=Int.eq_nat_or_neg a
 ·have:=abn w n b byOmega h3 hb0;simpa [sgI] using this
 ·by_cases h0:n=0
  ·subst h0;have:=abn w 0 b byOmega h3 hb0;simpa [sgI] using this
  ·have:=agm w n b byOmega h3 hb0 h0;simpa [sgI] using this
def rF:List (List Rat):=[[1,1].map fun x=>mkRat x 2,[1,1].map fun x=>mkRat x 2,[1,1,1].map fun x=>mkRat x 3]
theorem Row.aaf {w:World} {b:Nat} {l:List Int} (h:Row w b 3 (l.map (Value.int .i64))) {F:Ah} (hF:F b):AO w F (.slice (some ⟨b,0,none⟩) l.length l.length) l:=by
 refine⟨_,_,rfl,Nat.le_refl _,fun _=>⟨b,0,rfl,hF,h.lt,fun k x hk=>?_⟩⟩;unfold pF;rw[Nat.zero_add,Nat.mul_one];exact h.cell (by rw[List.getElem?_map,hk]; rfl)
theorem abo {w:World} {F:Ah} {b:Nat} {v1 v2 v3:Value} {l1 l2 l3:List Raw} (h:Row w b 64 [v1,v2,v3]) (hF:F b) (h1:AB w F v1 l1) (h2:AB w F v2 l2) (h3:AB w F v3 l3):Ag w F (.slice (some ⟨b,0,none⟩) 3 3) [l1,l2,l3]:=by
 refine⟨_,_,rfl,Nat.le_refl _,fun _=>⟨b,0,rfl,hF,h.lt,fun k x hk=>?_⟩⟩;rw[Nat.zero_add,Nat.mul_one];match k,hk with
 | 0,hk=>cases hk; exact⟨v1,h.cell rfl,h1⟩
 | 1,hk=>cases hk; exact⟨v2,h.cell rfl,h2⟩
 | 2,hk=>cases hk; exact⟨v3,h.cell rfl,h3⟩
end Go.Proofs.YthmklhapjegfdaaGreatDoor

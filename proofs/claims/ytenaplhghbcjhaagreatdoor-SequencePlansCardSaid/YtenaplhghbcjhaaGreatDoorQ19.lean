import Derived.Test.YtenaplhghbcjhaaGreatDoorQ18
import Derived.Test.YtenaplhghbcjhaaGreatDoorQ16
import Derived.BigQuiet
set_option linter.all false
set_option maxRecDepth 100000
set_option maxHeartbeats 0
namespace Go.Proofs.YtenaplhghbcjhaaGreatDoor
open Ah renaming below->KT
open And renaming intro->Iu
open Go.RowKit.Below renaming refl->GR
open Below renaming same'->GL
open Go.IntKind renaming i64->GU
open Go renaming Value->GN,World->GK
open Go.Value renaming bool->G7,int->GV,slice->Gw
open Go.IntWalk renaming i64_in->IY
open List renaming drop_of_length_le->Js,drop_zero->Jg,eq_nil_of_length_eq_zero->IQ,getElem?_map->GY,length_map->Gz,length_set->Hy,length_take->Ik,map_append->Hf,mem_of_getElem?->Gx,replicate->GX,take_of_length_le->G8
open Nat renaming div_eq_of_lt->JH,div_le_self->J3,div_lt_iff_lt_mul->Jm,eq_zero_or_pos->H6,gcd->Hr,gcd_comm->IK,gcd_pos_of_pos_right->Jw,le_refl->Gy,le_trans->He,lt_of_lt_of_le->Hz,min_eq_left->Ji,mod_lt->Ja,mul_ne_zero->JC,mul_one->Ho,ne_of_gt->Lj,pos_of_ne_zero->JL,pow_le_pow_right->Jd,zero_add->I5
open Same renaming refl->GZ
open Tryz renaming infoU32->Jf
open Go.Proofs.Tryz renaming prog->GI,results122->KD,underlying40->Ie
open Go.World renaming alloc->G5,ownsRow_nil->J8
open Go.RowKit
variable {ops:Array Oper} {F:Gq} {a:Int} {m:List (List Raw)} {acts:List Int} {l:List Nat} {rest:List Oper} {B R b c g k n x:Nat} {o:Oper} {A:Option Addr} {r:Raw}
theorem agD (w:GK):Ah (w.alloc (.cells #[.int .u32 1] 103)) (λb=>w.heap.size<=b) (Gw (some ⟨w.heap.size,0,none⟩) 1 1) 1:=afg w 1 rfl
theorem agE (w:GK):Calls GI 170 #[] w (Ret w λv w'=>Ah w' (λb=>w.heap.size<=b) v 1):=by
 go_in;go_wp2
 go_ret;exact⟨_,rfl,(GR _ _).alloc (Gy _) _,agD w⟩
theorem Leh.nat {b M p0 q0 al be p q A B C D:Int} {a' b':Nat} (h:Leh a b M p0 q0 al be p q A B C D) (ea:a=a') (eb:b=b'):∃ X Y:Nat,A*a'+B*b'=(X:Int)/\C*a'+D*b'=(Y:Int)/\Y<=X/\X<=a'/\(B=0\/Y < b')/\Hr X Y=Hr a' b':=by
 subst ea eb;obtain⟨X,hX⟩:∃ X:Nat,A*a'+B*b'=(X:Int):=⟨(A*a'+B*b').toNat,by have:=h.y0; have:=h.yx; omega⟩;obtain⟨Y,hY⟩:∃ Y:Nat,C*a'+D*b'=(Y:Int):=⟨(C*a'+D*b').toNat,by have:=h.y0; omega⟩;refine⟨X,Y,hX,hY,by have:=h.yx; omega,by have:=h.xa; omega,by have:=h.prog; omega,?_⟩;have:=h.gcd;rw[hX,hY] at this;simpa using this
theorem aia (w:GK) (F:Gq) (va vb:GN) (a b:Nat) (ha:Ah w F va a) (hb:Ah w F vb b) (hla:(dig a).length<=2) (hlb:(dig b).length<=2) (hT:BF w) :
  Calls GI 152 #[va,vb] w (Ret w λv w'=>Ah w' (λb=>w.heap.size<=b) v (Hr a b)):=by
 have HA:=Ag ha;have HB:=Ag hb;obtain⟨A,c,rfl,hc,hN⟩:=ha;obtain⟨B,d,rfl,hd,hM⟩:=hb;clear hN hM;have ha18:=yj hla;have hb18:=yj hlb;have d1:decide (((dig a).length:Int)<=2)=true:=LK FI;have d2:decide (((dig b).length:Int)<=2)=true:=LK FI;obtain⟨g,hg⟩:=Gp (Hr a b);have hgl:g < 18446744073709551616:=by
  rcases H6 a with h | h
  ·rw[hg,h,Nat.gcd_zero_left];omega
  ·have:=Nat.gcd_le_left b h;omega
 have HG:=Ag hg;rw[<-hg];clear hg;go_in;go_wp2_with fail
 refine(qO w F _ a HA.o hla).mono ?_;rintro e w' ⟨rfl,rfl⟩;go_wp2_with fail
 refine(qO w F _ b HB.o hlb).mono ?_;rintro e w' ⟨rfl,rfl⟩;go_wp2_with fail
 refine(zJ w a b ha18 hb18 hT).mono ?_;rintro e w1 ⟨_,rfl,hb1,rfl⟩;rw[<-HG.o];dsimp only;go_wp2_with fail
 refine(ae9 w1 g hgl).mono ?_;rintro e w2 ⟨v,rfl,hb2,hv⟩;have HV:=Ag hv;clear hv;have hz:=hb1.size;go_wp2
 go_ret;exact⟨_,rfl,hb1.trans (hb2.mono hz),HV.o.mono λb hb _=>by omega⟩
theorem alP (w:GK) (F:Gq) (va vb:GN) (a b:Nat) (ha:Ah w F va a) (hb:Ah w F vb b) (hla:(dig a).length<=100000) (hlb:(dig b).length<=100000) (hbig:¬ ((dig a).length<=2/\(dig b).length<=2)) (h1:a=1\/b=1) :
  Calls GI 152 #[va,vb] w (Ret w λv w'=>Ah w' (λb=>w.heap.size<=b) v (Hr a b)):=by
 have HA:=Ag ha;have HB:=Ag hb;obtain⟨A,c,rfl,hc,hN⟩:=ha;obtain⟨B,d,rfl,hd,hM⟩:=hb;clear hN hM;have HG:=Ag (show Hr a b=1 by rcases h1 with h | h <;> simp[h]);rw[HG.o];have hl1:(dig 1).length=1:=by rw[ji];rfl
 by_cases ha1:a=1
 ·have d1:decide (((dig a).length:Int)<=2)=true:=LK (by rw[ha1]; omega);have d2:decide (((dig b).length:Int)<=2)=false:=LJ (by rw[ha1,hl1] at hbig; omega);have e1:decide (a=1)=true:=LK ha1;clear hbig h1 ha1;go_in;go_wp2_with fail
  refine(oC w F _ a HA.o FI).mono ?_;rintro e w' ⟨rfl,rfl⟩;rw[e1];exact zcc
 ·have hb1:b=1:=h1.resolve_left ha1;have d1:decide (((dig a).length:Int)<=2)=false:=LJ (by rw[hb1,hl1] at hbig; omega);have e1:decide (a=1)=false:=LJ ha1;have e2:decide (b=1)=true:=LK hb1;clear hbig h1 ha1 hb1;go_in;go_wp2_with fail
  refine(oC w F _ a HA.o FI).mono ?_;rintro e w' ⟨rfl,rfl⟩;rw[e1];dsimp only;go_wp2_with fail
  refine(oC w F _ b HB.o FI).mono ?_;rintro e w' ⟨rfl,rfl⟩;rw[e2];exact zcc
theorem alQ (w:GK) (F:Gq) (va vb:GN) (a0 b0:Nat) (ha:Ah w F va a0) (hb:Ah w F vb b0) (hla:(dig a0).length<=100000) (hlb:(dig b0).length<=100000) (hbig:¬ ((dig a0).length<=2/\(dig b0).length<=2)) (ha1:a0≠1) (hb1:b0≠1) (hT:BF w) :
  Calls GI 152 #[va,vb] w (Ret w λv w'=>Ah w' (λb=>w.heap.size<=b) v (Hr a0 b0)):=by
 have HA:=Ag ha;have HB:=Ag hb;obtain⟨A,c,rfl,hc,hN⟩:=ha;obtain⟨B,d,rfl,hd,hM⟩:=hb;clear hN hM;obtain⟨G,hG⟩:=Gp (Hr a0 b0);rw[<-hG];have HG:=Ag hG;clear hG;have e1:decide (a0=1)=false:=LJ ha1;have e2:decide (b0=1)=false:=LJ hb1;have hd12:(decide (((dig a0).length:Int)<=2)=false)\/(decide (((dig a0).length:Int)<=2)=true/\decide (((dig b0).length:Int)<=2)=false):=by
  by_cases h:(dig a0).length<=2
  ·exact .inr ⟨LK FI,LJ FI⟩
  ·exact .inl (LJ FI)
 have HB3:=Ag hbig;clear ha1 hb1 hbig;have hT0:=hT.lt;go_in
 rcases hd12 with d1 | ⟨d1,d2⟩
 all_goals
  go_wp2_with fail
  refine(oC w F _ a0 HA.o FI).mono ?_;rintro e w' ⟨rfl,rfl⟩;rw[e1];dsimp only;go_wp2_with fail
  refine(oC w F _ b0 HB.o FI).mono ?_;rintro e w' ⟨rfl,rfl⟩;rw[e2];dsimp only;clear d1 e1 e2;go_wp2_with fail
  refine(aao w F _ _ a0 b0 HA.o HB.o FI FI).mono ?_;rintro e w' ⟨rfl,z0,rfl⟩;go_upto_if 37 with fail
  go_cut [0,1] from 34 to 39 (λva vb wx=>∃ a b,wx=w.drewN z0/\Ah wx (Ext F w.heap.size) va a/\Ah wx (Ext F w.heap.size) vb b/\b<=a/\G=Hr a b/\(dig a).length<=100000)
  case first =>
   by_cases h:a0 < b0
   ·have hord:decide (bZ a0 b0 < 0)=true:=by rw[iL h];rfl
    have hod:bZ a0 b0 < 0:=by rw[iL h];decide
    generalize bZ a0 b0=od at *;go_wp2_with fail
    go_meet
    exact zcD
   ·have hord:decide (bZ a0 b0 < 0)=false:=by
     refine zcW ?_;split <;> (try split) <;> omega
    have hod:0<=bZ a0 b0:=by have:=of_decide_eq_false hord;omega
    generalize bZ a0 b0=od at *;go_wp2_with fail
    go_meet
    exact zda
  case rest =>
  obtain⟨a,b,rfl,hna,hnb,hba,aas,hlen⟩:=hcut;have HS:=Ag (Iu hna (Iu hnb aas));clear HA HB hna hnb aas hla hlb HG;go_wp2
  go_loopg [0,1] b (λf va vb wr=>∃ a b,b=f/\Ah wr (Ext F w.heap.size) va a/\Ah wr (Ext F w.heap.size) vb b/\b<=a/\G=Hr a b/\(dig a).length<=100000/\Below w.heap.size w wr)
  case atStart=>exact⟨a,b,rfl,HS.o.1,HS.o.2.1,hba,HS.o.2.2,hlen,aG (GR _ w) z0⟩
  case round =>
   clear HS hba hlen;obtain⟨a,b,rfl,hna,hnb,hba,aas,hlen,hbel⟩:=hrel;have HNA:=Ag hna;have HNB:=Ag hnb;have HGC:=Ag aas;obtain⟨A',c',rfl,hc',_⟩:=hna;obtain⟨B',d',rfl,hd',_⟩:=hnb;have hlb:(dig b).length<=(dig a).length:=aV hba;have hz:=hbel.size;have HTW:=Ag (hT.below hT0 hbel);clear aas;by_cases h2:2 < (dig b).length
   ·have d2':decide ((2:Int) < ((dig b).length:Int))=true:=LK FI;have hbp:0 < b:=by
     rcases H6 b with h | h
     ·rw[h,bK] at h2;simp at h2
     ·exact h
    go_wp2_with fail
    refine(lead_any wr (Ext F w.heap.size) _ _ a b HNA.o HNB.o hba FI hlen).mono ?_;rintro e w1 ⟨_,rfl,hb1,M,p,q,rfl,hM,hp,hq,hp18⟩;have hpq:q<=p:=by rw[hp,hq];exact Nat.div_le_div_right hba
    have hst:=Leh.start (a:=(a:Int)) (b:=(b:Int)) (M:=(M:Int)) (p0:=(p:Int)) (q0:=(q:Int)) (al:=((a % M:Nat):Int)) (be:=((b % M:Nat):Int))
     (by rw[hp]; have:=Nat.div_add_mod' a M; exact_mod_cast this.symm) (by rw[hq]; have:=Nat.div_add_mod' b M; exact_mod_cast this.symm) FI (by have:=Ja a hM; omega) FI (by have:=Ja b hM; omega) FI FI FI FI
    have HST:=Ag hst;clear hst hp hq hpq;have hz1:=hb1.size;have hB1:=hbel.trans (hb1.mono hz);dsimp only;go_wp2_with fail
    refine(ah0 w1 a b _ _ _ (p:Int) (q:Int) HST.o FI).mono ?_;rintro e w' ⟨⟨p',q',xA,xB,xC,xD,rfl,kE,a1,a2,b1,b2,c1,c2,d1,d2⟩,rfl⟩;obtain⟨X,Y,hX,hY,hyx,hxa,hyb,hg⟩:=kE.nat rfl rfl;have HXY:=Ag (Iu hX (Iu hY hg));clear kE HST hX hY hg;dsimp only;by_cases hB0:xB=0
    ·have tB:(xB==0)=true:=by rw[hB0];rfl
     clear hB0 hyb;go_wp2_with fail
     refine(ags w1 (Ext F w.heap.size) _ _ a b (HNA.o.below hb1) (HNB.o.below hb1) FI hlen FI).mono ?_;rintro e w2 ⟨_,rfl,hb2,vq,vr,rfl,hq,hr⟩;have HR:=Ag hr;clear hq hr;have hml:a % b < b:=Ja _ hbp;go_wp2
     go_roundg (a % b)
     case measure=>exact hml
     case rel=>exact⟨b,a % b,rfl,(HNB.o.below hb1).below hb2,HR.o.mono (λb hb _=>hb.elim id λh=>.inr FI),FI,by rw[HGC.o,IK,Nat.gcd_rec,IK],FI,hB1.trans (hb2.mono FI)⟩
    ·have tB:(xB==0)=false:=beq_false_of_ne hB0;have hYb:=hyb.resolve_left hB0;clear hB0 hyb;go_wp2_with fail
     refine(agt w1 (Ext F w.heap.size) _ _ a b xA xB X (HNA.o.below hb1) (HNB.o.below hb1) hlen hlb FI FI FI FI HXY.o.1 hxa).mono ?_;rintro e w2 ⟨vx,rfl,hb2,hvx⟩;have HVX:=Ag hvx;clear hvx;have hz2:=hb2.size;go_wp2_with fail
     refine(agt w2 (Ext F w.heap.size) _ _ a b xC xD Y ((HNA.o.below hb1).below hb2) ((HNB.o.below hb1).below hb2) hlen hlb FI FI FI FI HXY.o.2.1 FI).mono ?_;rintro e w3 ⟨vy,rfl,hb3,hvy⟩;have HVY:=Ag hvy;clear hvy;have hXl:(dig X).length<=100000:=by have:=aV hxa;omega
     go_wp2
     go_roundg Y
     case measure=>exact hYb
     case rel=>exact⟨X,Y,rfl,(HVX.o.below hb3).mono (λb hb _=>.inr FI),HVY.o.mono (λb hb _=>.inr FI),hyx,by rw[HGC.o]; exact HXY.o.2.2.symm,hXl,hB1.trans ((hb2.trans (hb3.mono hz2)).mono FI)⟩
   ·have d2':decide ((2:Int) < ((dig b).length:Int))=false:=LJ FI;by_cases hb0:b=0
    ·have e0:(((dig b).length:Int)==0)=true:=by rw[hb0,bK];rfl
     have HF:=Ag (show G=a by rw[HGC.o,hb0,Nat.gcd_zero_right]);clear hb0;go_wp2_with fail
     refine(aem wr (Ext F w.heap.size) _ a HNA.o FI).mono ?_;rintro e w1 ⟨v,rfl,hb1,hv⟩;have HV:=Ag hv;clear hv;go_wp2
     go_ret;exact⟨_,rfl,hbel.trans (hb1.mono hz),by rw[HF.o]; exact HV.o.mono λb hb _=>by omega⟩
    ·have e0:(((dig b).length:Int)==0)=false:=by have:=bD.2 hb0;exact beq_false_of_ne FI
     go_wp2_with fail
     refine(ags wr (Ext F w.heap.size) _ _ a b HNA.o HNB.o hb0 hlen FI).mono ?_;rintro e w1 ⟨_,rfl,hb1,vq,vr,rfl,hq,hr⟩;have HR:=Ag hr;clear hq hr;have hz1:=hb1.size;have hml:a % b < b:=Ja _ FI;have hlr:(dig (a % b)).length<=2:=He (aV (Nat.le_of_lt hml)) FI;have hb18:b < 1000000000000000000:=yj FI;obtain⟨r,hr⟩:=Gp (a % b);rw[<-hr] at hml hlr HR;have HF:=Ag (show G=Hr b r by rw[HGC.o,hr,IK,Nat.gcd_rec,IK]);clear hr hb0;have hGl:Hr b r < 18446744073709551616:=by
      have:=Nat.gcd_le_left r (show 0 < b by omega);omega
     dsimp only;go_wp2_with fail
     refine(qO w1 (Ext F w.heap.size) _ b (HNB.o.below hb1) FI).mono ?_;rintro e w' ⟨rfl,rfl⟩;go_wp2_with fail
     refine(qO w1 (Ext (Ext F w.heap.size) wr.heap.size) _ r HR.o hlr).mono ?_;rintro e w' ⟨rfl,rfl⟩;go_wp2_with fail
     refine(zJ w1 b r hb18 FI (HTW.o.on hb1)).mono ?_;rintro e w2 ⟨_,rfl,hb2,rfl⟩;rw[<-HF.o];rw[<-HF.o] at hGl;have hz2:=hb2.size;dsimp only;go_wp2_with fail
     refine(ae9 w2 G hGl).mono ?_;rintro e w3 ⟨v,rfl,hb3,hv⟩;have HV:=Ag hv;clear hv;go_wp2
     go_ret;exact⟨_,rfl,hbel.trans ((hb1.trans ((hb2.trans (hb3.mono hz2)).mono hz1)).mono hz),HV.o.mono λb hb _=>by omega⟩
theorem alR (w:GK) (F:Gq) (va vb:GN) (a b:Nat) (ha:Ah w F va a) (hb:Ah w F vb b) (hla:(dig a).length<=100000) (hlb:(dig b).length<=100000) (hT:BF w) :
  Calls GI 152 #[va,vb] w (Ret w λv w'=>Ah w' (λb=>w.heap.size<=b) v (Hr a b)):=by grind [aia,alP,alQ]
theorem afm (w:GK) (F:Gq) (va vb:GN) (a b:Nat) (ha:Ah w F va a) (hb:Ah w F vb b) (hla:(dig a).length<=100000) (hlb:(dig b).length<=100000) (hT:BF w) :
  Calls GI 115 #[va,vb] w (Ret w λv _=>v = G7 (decide (Hr a b=1))):=by
 have HA:=Ag ha;have HB:=Ag hb;obtain⟨A,c,rfl,hc,hN⟩:=ha;obtain⟨B,d,rfl,hd,hM⟩:=hb;clear hN hM;obtain⟨g,hg⟩:=Gp (Hr a b);have HG:=Ag hg;have HD:=Ag (show decide (Hr a b=1)=decide (g=1) from decide_eq_decide.2 (by rw[hg]));have hgl:(dig g).length<=100000:=by
  rcases H6 a with h | h
  ·rw[hg,h,Nat.gcd_zero_left];exact hlb
  ·exact He (aV (by rw[hg]; exact Nat.gcd_le_left b h)) hla
 clear hg;by_cases hs:(dig a).length<=2/\(dig b).length<=2
 ·have d1:decide (((dig a).length:Int)<=2)=true:=LK FI;have d2:decide (((dig b).length:Int)<=2)=true:=LK FI;have ha18:=yj hs.1; have hb18:=yj hs.2;have hs1:=hs.1; have hs2:=hs.2;have HI:=Ag (show((g:Int)==1)=decide (g=1) by
   by_cases h:g=1
   ·subst h;rfl
   ·rw[LJ h]; exact beq_false_of_ne FI)
  clear hs;go_in;go_wp2_with fail
  refine(qO w F _ a HA.o hs1).mono ?_;rintro e w' ⟨rfl,rfl⟩;go_wp2_with fail
  refine(qO w F _ b HB.o hs2).mono ?_;rintro e w' ⟨rfl,rfl⟩;go_wp2_with fail
  refine(zJ w a b ha18 hb18 hT).mono ?_;rintro e w1 ⟨_,rfl,hb1,rfl⟩;rw[<-HG.o];dsimp only;go_wp2
  go_ret;exact⟨_,rfl,hb1,by rw[HD.o,<-HI.o]; rfl⟩
 ·have hd12:(decide (((dig a).length:Int)<=2)=false)\/(decide (((dig a).length:Int)<=2)=true/\decide (((dig b).length:Int)<=2)=false):=by
   by_cases h:(dig a).length<=2
   ·exact .inr ⟨LK FI,LJ FI⟩
   ·exact .inl (LJ FI)
  clear hs;go_in
  rcases hd12 with d1 | ⟨d1,d2⟩
  all_goals
   go_wp2_with fail
   refine(alR w F _ _ a b HA.o HB.o hla hlb hT).mono ?_;rintro e w1 ⟨v,rfl,hb1,hv⟩;rw[<-HG.o] at hv;have HV:=Ag hv;clear hv;dsimp only;go_wp2_with fail
   refine(oC w1 _ _ g HV.o FI).mono ?_;rintro e w' ⟨rfl,rfl⟩;dsimp only;go_wp2
   go_ret;exact⟨_,rfl,hb1,by rw[HD.o]; rfl⟩
theorem y9 {α:Type} {p:α->Bool} {l:List α} {x:α} (hx:l[k]? = some x) (h:(l.take k).any p=false) (hp:p x=false):(l.take (k+1)).any p=false:=by rw[Gv hx,List.any_append,h]; simp[hp]
theorem aav (w:GK) (F:Gq) (v:GN) (l:List Nat) (hv:Aj w F v l) (hu:∀ x∈l,x < 4294967296) (hl:l.length<=1000000) :
  Calls GI 148 #[v] w λe w'=>e = .returned (GV GU (dM l))/\w=w':=by
 obtain⟨A,c,rfl,hc,hN⟩:=hv;have HN:=Ag hN;clear hN;have HU:=Ag hu;clear hu;by_cases h1:1024 < l.length
 ·exact zb8
 have d1:decide ((1024:Int) < (l.length:Int))=false:=LJ FI;have H1:=Ag h1;go_in;go_wp2
 go_loopw [10] (λi wr=>∃ k:Nat,k<=l.length/\i = GV GU (k:Int)/\(l.take k).any (λx=>decide (LB<=x))=false/\w=wr) (λi _=>l.length - (intOf i).toNat)
 case atStart=>exact⟨0,FI,rfl,rfl,rfl⟩
 case round =>
  obtain⟨k,hk,rfl,hpre,rfl⟩:=hrel;have HP:=Ag hpre;clear hpre;by_cases hlt:k < l.length
  ·obtain⟨b,o,rfl,_,hb,hx⟩:=HN.o FI;refine zbt ?_;intro x hx' ex;unfold bY at ex;rw[Ho] at ex;have hxu:=HU.o x (Gx hx');have HX:=Ag hx';clear hx hx';by_cases hbad:1000000000<=x
   ·have HE:=Ag (show dM l=3 by
     unfold dM;rw[LG H1.o,LH (List.any_eq_true.2 ⟨x,Gx HX.o,LK hbad⟩)])
    exact zd5
   ·have d2:decide ((1000000000:Int)<=(x:Int))=false:=LJ FI;have HB:=Ag (show(decide (LB<=x))=false from LJ hbad);go_wp2
    go_roundw
    case rel=>exact⟨k+1,FI,by go_num,y9 HX.o HP.o HB.o,by first | rfl | trivial⟩
    case measure=>exact zMs
  ·have HA:=Ag (show l.any (λx=>decide (LB<=x))=false by have:=HP.o; rwa [G8 FI] at this);by_cases h0:0 < l.length
   ·obtain⟨b,o,rfl,_,hb,hx⟩:=HN.o h0;obtain⟨n1,hn1⟩:∃ n1,n1+1=l.length:=⟨l.length - 1,FI⟩;obtain⟨x,hx'⟩:=Gl (l:=l) (k:=n1) FI;have ex:=hx n1 x hx';unfold bY at ex; rw[Ho] at ex;have HX:=Ag (show dM l=if x=0 then 3 else 0 by
     unfold dM;rw[LG H1.o,HA.o,LG au,List.getLast?_eq_getElem?,show l.length - 1=n1 by omega,hx'];simp)
    have i1:(l.length:Int) - 1=(n1:Int):=FI;clear hx hx' hn1;by_cases hz:x=0
    ·exact zdj
    ·exact zcU
   ·have HE:=Ag (show dM l=0 by
     have:l = []:=IQ FI;rw[this]; rfl)
    have d3:decide ((0:Int) < (l.length:Int))=false:=LJ FI;exact ZN
theorem afn (w:GK) (F:Gq) (vn vd:GN) (num den:List Nat) (hn:Aj w F vn num) (hd:Aj w F vd den) (hnu:∀ x∈num,x < 4294967296) (hdu:∀ x∈den,x < 4294967296) (hln:num.length<=1000000) (hld:den.length<=1000000) :
  Calls GI 114 #[vn,vd] w λe w'=>e = .returned (GV GU (dQ num den))/\w=w':=by
 have HN:=Ag hn;have HD:=Ag hd;obtain⟨A,c,rfl,hc,hN⟩:=hn;obtain⟨B,d,rfl,hd,hM⟩:=hd;clear hN hM;have HNU:=Ag hnu;have HDU:=Ag hdu;clear hnu hdu;refine zeg ?_;intro HP;go_in;go_wp2_with fail
 refine(aav w F _ num HN.o HNU.o hln).mono ?_;rintro e w' ⟨rfl,rfl⟩;generalize dM num=e1 at *;by_cases h1:e1=0
 ·have t1:(e1 != 0)=false:=by rw[h1];rfl
  go_wp2_with fail
  refine(aav w F _ den HD.o HDU.o hld).mono ?_;rintro e w' ⟨rfl,rfl⟩;generalize dM den=e2 at *;by_cases h2:e2=0
  ·have t2:(e2 != 0)=false:=by rw[h2];rfl
   by_cases h3:den.length=0
   ·exact zbl
   ·exact zba
  ·exact zcn
 ·exact zdd
def U32 (r:Raw):Prop:=(∀ x∈r.num,x < 4294967296)/\∀ x∈r.den,x < 4294967296
theorem qF (w:GK) (F:Gq) (v:GN) (r:Raw) (hv:Ak w F v r) (hu:U32 r) (hln:r.num.length<=100000) (hld:r.den.length<=100000) (hT:BF w) :
  Calls GI 67 #[v] w (Ret w λu _=>u = GV GU (dF r)):=by
 obtain⟨A,c,B,d,rfl,hn,hd⟩:=hv.open;have HN:=Ag hn;have HD:=Ag hd;clear hv hn hd;refine zcd ?_;clear hu;intro HR HU HK;obtain⟨neg,num,den⟩:=r;dsimp only at *;go_in;go_wp2_with fail
 generalize hW:G5 _ _=W;obtain⟨rx,hB,hz⟩:=aI hW;clear hW;have HTW:=Ag (hT.on hB);replace HN:=Ag (Aj.on HN.o (GL hB F));replace HD:=Ag (Aj.on HD.o (GL hB F));refine Zd ?_;intro x0 x1 x2;clear rx hz;go_wp2_with fail
 refine(afn W F _ _ num den HN.o HD.o HU.o.1 HU.o.2 FI FI).mono ?_;rintro e w' ⟨rfl,rfl⟩;generalize dQ num den=pe at *;by_cases h1:pe=0
 ·have t1:(pe != 0)=false:=by rw[h1];rfl
  have hk:=HK.o h1;have hnn:Ah W F (Gw A num.length c) (aF num):=by unfold Ah;rw[<-hk.1];exact HN.o
  have hdd:Ah W F (Gw B den.length d) (aF den):=by unfold Ah;rw[<-hk.2.1];exact HD.o
  have hl1:(dig (aF num)).length<=100000:=by rw[<-hk.1];exact hln
  have hl2:(dig (aF den)).length<=100000:=by rw[<-hk.2.1];exact hld
  have HNN:=Ag hnn;have HDD:=Ag hdd;clear hnn hdd hk HK;by_cases h2:num.length=0/\neg=true
  ·have t2:((num.length:Int)==0)=true:=by rw[h2.1];rfl
   have HE:=Ag (show dF ⟨neg,num,den⟩=3 by rw[HR.o,LG (by simpa using h1),LH (.inl h2)]);have h3:=h2.2;subst h3;clear h1 h2;go_wp2
   go_ret;exact⟨_,rfl,hB,by rw[HE.o]; rfl⟩
  ·have hor:(((num.length:Int)==0)=false)\/((((num.length:Int)==0)=true)/\neg=false):=by
    by_cases h:num.length=0
    ·refine .inr ⟨by rw[h]; rfl,?_⟩;cases hneg:neg
     ·rfl
     ·exact absurd ⟨h,hneg⟩ h2
    ·exact .inl (beq_false_of_ne FI)
   have HE:=Ag (show dF ⟨neg,num,den⟩=if Hr (aF num) (aF den)=1 then 0 else 3 by
    rw[HR.o,LG (by simpa using h1)];by_cases hg:Hr (aF num) (aF den)=1
    ·rw[LG (λh=>h.elim h2 (λh=>h hg)),LH hg]
    ·rw[LH (.inr hg),LG hg])
   clear h1 h2 HR;rcases hor with t2 | ⟨t2,rfl⟩
   all_goals
    go_wp2_with fail
    refine(afm W F _ _ (aF num) (aF den) HNN.o HDD.o hl1 hl2 HTW.o).mono ?_;rintro e w1 ⟨_,rfl,hb1,rfl⟩;have hB1:=hB.trans (hb1.mono hB.size);by_cases hg:Hr (aF num) (aF den)=1
    ·have hdg:decide (Hr (aF num) (aF den)=1)=true:=LK hg;rw[hdg];have HE2:=Ag (HE.o.trans (LH hg));clear hg hdg;dsimp only;go_wp2
     go_ret;exact⟨_,rfl,hB1,by rw[HE2.o]; rfl⟩
    ·have hdg:decide (Hr (aF num) (aF den)=1)=false:=LJ hg;rw[hdg];have HE2:=Ag (HE.o.trans (LG hg));clear hg hdg;dsimp only;go_wp2
     go_ret;exact⟨_,rfl,hB1,by rw[HE2.o]; rfl⟩
 ·exact zbF
theorem vO (w:GK) (F:Gq) (va vb:GN) (a b:Nat) (ha:Ah w F va a) (hb:Ah w F vb b) (hla:(dig a).length<=1000000) (hlb:(dig b).length<=1000000) :
  Calls GI 93 #[va,vb] w (Ret w λv _=>v = GV GU (bZ a b)):=by
 refine(ahS w F va vb a b ha hb hla hlb).mono ?_;rintro e w' ⟨rfl,z0,rfl⟩;exact⟨_,rfl,aG (GR _ w) _,rfl⟩
theorem aev (w:GK) (x:Nat):Aj (w.alloc (.cells #[.int .u32 (x:Int)] 103)) (λb=>w.heap.size<=b) (Gw (some ⟨w.heap.size,0,none⟩) 1 1) [x]:=by
 have h:=Row.new w 103 #[.int .u32 (x:Int)];have h2:=Row.limbs (l:=[x]) (by simpa [aW] using h) (F:=λb=>w.heap.size<=b) (Gy _) (n:=1) (c:=1) aA (Gy _);grind
theorem zL (w:GK) (x:Nat) (hx:x < 1000000000) :
  Calls GI 145 #[.int .u32 (x:Int)] w (Ret w λv w'=>Ah w' (λb=>w.heap.size<=b) v x):=by
 go_in;go_wp2_with fail
 refine(mP _ (λb=>w.heap.size<=b) _ 1 1 [x] rfl (aev w x) FI).mono ?_;rintro e w' ⟨rfl,rfl⟩;have ht:=Aj.trim (l:=[x]) rfl (aev w x) (λy hy=>by simp at hy; subst hy; exact hx);have hn:aF [x]=x:=by simp[aF]
 rw[hn] at ht;have HT:=Ag ht;clear ht hn;go_wp2
 go_ret;exact⟨_,rfl,(GR _ _).alloc (Gy _) _,HT.o⟩
def pJ (n:Nat):Int:=if 1024 < (dig n).length then 5 else 0
def sZ (n:Nat):List Nat:=if 1024 < (dig n).length then [] else dig n
theorem qP (w:GK) (F:Gq) (v:GN) (n:Nat) (hv:Ah w F v n) (hl:(dig n).length<=1000000) :
  Calls GI 95 #[v] w (Ret w λu w'=>∃ t,u = .tuple #[t,GV GU (pJ n)]/\Aj w' (λb=>w.heap.size<=b) t (sZ n)):=by
 have HV:=Ag hv;obtain⟨A,c,rfl,hc,hN⟩:=hv;clear hN;by_cases h:1024 < (dig n).length
 ·have HE:=Ag (show pJ n=5 by unfold pJ; rw[LH h]);have HI:=Ag (show sZ n = [] from LH h);have d1:decide ((1024:Int) < ((dig n).length:Int))=true:=LK FI;clear h;go_in;go_wp2
  go_ret2;exact⟨_,rfl,GR _ _,_,by rw[HE.o]; rfl,by rw[HI.o]; exact gV _ _ _ _⟩
 ·have HE:=Ag (show pJ n=0 by unfold pJ; rw[LG h]);have HI:=Ag (show sZ n=dig n from LG h);have d1:decide ((1024:Int) < ((dig n).length:Int))=false:=LJ FI;clear h;go_in;go_wp2_with (at_builtin; refine um (F:=F) rfl _ _ 40 Ie rfl (some ⟨w.heap.size,0,none⟩) (λ_ h=>by cases h; exact⟨_,rfl⟩) _ (dig n) rfl rfl (HV.o.on (Same.alloc _ _ _)) hl ?_; intro u w3 hb3 hi3)
  have HI3:=Ag hi3.limbs;clear hi3;go_wp2
  go_ret2;exact⟨_,rfl,((GR w.heap.size w).alloc (Gy _) _).trans (hb3.mono aA),_,by rw[HE.o]; rfl,by rw[HI.o]; exact HI3.o.keep (λb hb _=>by simp at hb; omega) (GZ _ _)⟩
theorem ant {c:Bool} {p q:Prop} (h:c=true) (hp:p):if c=true then p else q:=by rw[LH h]; exact hp
theorem aib {P:Program} (w:GK) {a:Act} {K:Act->GK->Prop} {Q:Exit->Act->GK->Prop} (l c:Operand) (t:TypeId) (hop:o.op=Op.makeSlice t l c)
  (e:TypeId) (z:GN) (bytes:Nat) (ht:P.underlying t=some (.slice e)) (hinfo:(P.info? e).map (λi=>(i.zero,i.size,i.bytes))=some (some z,1,bytes)) (hz1:z.cells = #[z])
  (n:Nat) (hl:a.eval l = GV GU (n:Int)) (hc:a.eval c = GV GU (n:Int)) (hn:n<=1000000) (hb:bytes<=1000)
  (hK:∀ w1,Below w.heap.size w w1->w1.heap.size=w.heap.size+1->Row w1 w.heap.size e (GX n z)->K (a.put o.dst (Gw (some ⟨w.heap.size,0,none⟩) n n)) w1) :
  Oper.wp P o a w K Q:=by
 have hbytes:bytes*n<=281474976710656:=by
  exact zdE
 exact zaa
theorem rJ {w:GK} {a:Act} {K:Act->GK->Prop} {Q:Exit->Act->GK->Prop} (s x:Operand) (t:TypeId) (ht:Tryz.prog.underlying t=some (.slice 103)) (ho:o.op = .call { callee:=.builtin .append,args:=#[s,x],argTypes:=#[t,t] })
  (base:Option Addr) (hbase:∀ a,base=some a->∃ b,a=⟨b,0,none⟩) (v:GN) (l:List Nat) (hs:a.eval s = Gw base 0 0) (hx:a.eval x=v) (hv:Aj w F v l) (hm:l.length<=1000000)
  (h:∀ u w',Below w.heap.size w w'->Bl w.heap.size l u w'->K (a.put o.dst u) w'):Oper.wp GI o a w K Q:=by
 obtain⟨A',cap,w',hrun,h2,h3,h4⟩:=yZ w F t o.type ht base hbase v l hv hm;refine zcy ?_;refine h _ w' h2 ⟨A',cap,rfl,h3,λh0=>?_⟩;grind
def Fact.limbs (F:Gq) (l:List Nat):Fact:=⟨λv w=>Aj w F v l,λ_ _ _ h hb=>h.on (GL hb F)⟩
def Fact.zeros (B m:Nat):Fact:=⟨λv w=>∃ b,v = Gw (some ⟨b,0,none⟩) m m/\B<=b/\Row w b 103 (aW (GX m 0)),λ_ _ _ ⟨b,h1,h2,h3⟩ hb=>⟨b,h1,h2,h3.below hb h3.lt⟩⟩
theorem afo {w:GK} {a:Act} {Q:Exit->Act->GK->Prop} (hgd:o.guard=none) (s x:Operand) (t:TypeId) (ht:Tryz.prog.underlying t=some (.slice 103))
  (ho:o.op = .call { callee:=.builtin .append,args:=#[s,x],argTypes:=#[t,t] })
  (base:Nat) (v u:GN) (l m:List Nat) (hs:a.eval s=v) (hown:w.ownsRow base 103 1 v l.length (aW l)) (hx:a.eval x=u) (hu:Aj w F u m) (hm:0 < m.length) (hlen:l.length+m.length<=1000000) (hbase:base<=w.heap.size)
  (h:∀ g cap w',w'.ownsRow base 103 1 (Gw (some ⟨g,0,none⟩) (l.length+m.length) cap) (l++m).length (aW (l++m))->w.grownBy w' v.ownBlock->g < w'.heap.size ->
   wpList GI ops Q rest (a.put o.dst (Gw (some ⟨g,0,none⟩) (l.length+m.length) cap)) w') :
  wpList GI ops Q (o :: rest) a w:=by
 obtain⟨i0,hi,hz0,hz1,hz2⟩:=info_parts Jf;obtain⟨A,c,rfl,hc,hr⟩:=hu;obtain⟨b,off,rfl,_,_,hcell⟩:=hr hm;refine wpList_append_lies w hgd s x _ ho base _ i0 _ 1 4 ht hi hz0 hz1 hz2 rfl FI v l.length _ hs hown ⟨b,off,none⟩ m.length c (aW m) hx aA (λj y hj=>?_) (by simp[Value.oneCell']) hm (by unfold maxLen; omega) FI hbase w.heap.size rfl ?_
 ·rw[GY] at hj;obtain⟨y,hy,rfl⟩:=Option.map_eq_some_iff.1 hj;have:=hcell j y hy;unfold bY at this;rw[Ho] at this;rw[Addr.add_lit];exact this
 grind
theorem Aj.drop {w:GK} (h:Aj w F (Gw A l.length c) l) (hk:k<=l.length):∀ b o,A=some ⟨b,o,none⟩->Aj w F (Gw (some ⟨b,o+k,none⟩) (l.drop k).length (c - k)) (l.drop k):=by
 intro b o hA;obtain⟨A',c',he,hc,hr⟩:=h;cases he;subst hA;refine⟨_,_,rfl,by rw[List.length_drop]; omega,λh0=>?_⟩;grind
theorem aic (hn:n=(dig b).length) (hb0:b≠0):(dig (b*(LB / ((dig b).getD (n - 1) 0+1)))).length=n:=by
 have h1:=bC (wJ hn hb0);have h2:=(sK hb0);rw[<-hn] at h2;have h3:=(iZ h2.1 h2.2.1).1;have h4:b<=b*(LB / ((dig b).getD (n - 1) 0+1)):=by
  have:b*1<=b*(LB / ((dig b).getD (n - 1) 0+1)):=Nat.mul_le_mul_left _ h3;omega
 have h5:=aV h4;omega
theorem agF {w W:GK} {a:Act} {Q:Exit->Act->GK->Prop} (hgd:o.guard=none) (s x:Operand) (t:TypeId) (ht:Tryz.prog.underlying t=some (.slice 103))
  (ho:o.op = .call { callee:=.builtin .append,args:=#[s,x],argTypes:=#[t,t] })
  (y:Nat) (u:GN) (l:List Nat) (hW:W=w.alloc (.cells #[.int .u32 (y:Int)] 103)) (hs:a.eval s = Gw (some ⟨w.heap.size,0,none⟩) 1 1) (hx:a.eval x=u) (hu:Aj w F u l) (hl:l.length<=900000)
  (h:∀ A cap w',Below w.heap.size w w'->Aj w' (λb=>w.heap.size<=b) (Gw A (l.length+1) cap) (y :: l)->wpList GI ops Q rest (a.put o.dst (Gw A (l.length+1) cap)) w') :
  wpList GI ops Q (o :: rest) a W:=by
 have hrow:Row W w.heap.size 103 (aW [y]):=by rw[hW];exact Row.new w 103 #[.int .u32 (y:Int)]
 have hB:Below w.heap.size w W:=by rw[hW];exact(GR _ w).alloc (Gy _) _
 have hsz:w.heap.size < W.heap.size:=by rw[hW];simp
 have huW:=hu.on (GL hB F);have hown:W.ownsRow w.heap.size 103 1 (Gw (some ⟨w.heap.size,0,none⟩) 1 1) [y].length (aW [y]) :=
  ⟨aA,.inr ⟨w.heap.size,1,(aW [y]).toArray,rfl,Gy _,hrow,Gy _,by unfold maxLen; omega,aA,aA⟩⟩
 by_cases h0:0 < l.length
 ·refine afo hgd s x t ht ho w.heap.size _ u [y] l hs hown hx huW h0 aB FI ?_;intro g cap w' h1 h2 h3;have hl:=jd h1 (F:=λb=>w.heap.size<=b) (λb hb=>(h1.lt b hb).1);have e:[y].length+l.length=l.length+1:=aB;rw[e] at hl ⊢;exact h _ _ w' (hB.grown h2 FI (λk hk=>by cases hk; exact Gy _)) hl
 ·have hl0:l = []:=IQ FI;subst hl0;refine wpList_plain hgd λK hK=>?_
  obtain⟨i0,hi,hz0,hz1,hz2⟩:=info_parts Jf;obtain⟨A,c,rfl,_,_⟩:=huW;have hsrc:Src GI i0.size t (Gw A 0 c) 0 [] W:=by
   cases A with
   | none=>exact Src.ofNil W ht c
   | some ad=>exact Src.ofSlice W ht ad 0 c [] aA aA aA
  have hrun:=run_append_room_src (P:=GI) W t t o.type _ i0 ht hi w.heap.size 0 1 1 _ 0 [] hsrc FI aA aA;unfold Oper.wp execOp;simp only[ho,resolve,invoke,builtin,Sem.run_bind,Sem.run_pure,Result.andThen_ok,List.map_toArray,List.map_cons,List.map_nil,hs,hx];rw[show(([]:List Nat).length)=0 from rfl,hrun];refine hK _ _ (h _ _ W hB ?_);have h2:=Row.limbs (l:=[y]) hrow (F:=λb=>w.heap.size<=b) (Gy _) (n:=1) (c:=1) aA (Gy _);simpa using h2
theorem alS (n k:Nat):dig (aF ((dig n).drop k))=(dig n).drop k:=by
 refine wI ((aO n).drop k) ?_;grind [uG]
theorem ajj (n k:Nat):aF ((dig n).drop k) < LB ^ ((dig n).length - k):=by
 have h:=gq ((aO n).drop k);grind
theorem ake {n kk L:Nat} (hx:(dig R)[kk]? = some x) (hL:L=aF ((dig R).drop (kk+1))):L*LB+x=aF ((dig R).drop kk):=by grind [cZ]
theorem adS (l:List Nat) (hl:Limbs l) (k:Nat):aF (l.drop k)=aF l / LB ^ k:=by
 by_cases h:k<=l.length
 ·have h1:=fF l h;grind [gq,Limbs.take,Ik,Nat.add_mul_div_left,JH]
 ·rw[Js FI];have h2:=gq hl;have h3:LB ^ l.length<=LB ^ k:=Jd au FI;rw[JH FI];rfl
theorem agG (hR:R < b) (hb:(dig b).length=n) (hx:x < LB):x+LB*R < LB*b/\(dig (x+LB*R)).length<=n+1:=by
 have h1:x+LB*R < LB*b:=by grind
 refine⟨h1,bC (Hz h1 ?_)⟩;grind [nI]
theorem rM {w:GK} (h:w.ownsRow B 103 1 (Gw A l.length c) l.length (aW l)) (hl:Limbs l):Bl B (dig (aF l)) (Gw A (eF l l.length) c) w:=by
 have ht:=afW hl;have hle:=ad9 l l.length;have hlen:(dig (aF l)).length=eF l l.length:=by rw[<-ht,Ik,Ji hle]
 rcases h.2 with⟨e,h0⟩ | ⟨g,cap,cur,e,hb,hg,hnc,_,hsz,htake⟩
 ·injection e with e1 e2 e3
  refine⟨A,c,by rw[hlen],FI,λhp=>by omega⟩
 ·injection e with e1 e2 e3
  subst e1;subst e3;refine⟨_,c,by rw[hlen],FI,λhp=>⟨g,cur.toList.drop (eF l l.length),rfl,hb,?_⟩⟩;have e:aW (dig (aF l))++cur.toList.drop (eF l l.length)=cur.toList:=by
    have h1:aW (dig (aF l))=cur.toList.take (eF l l.length):=by
      rw[<-ht];have h2:cur.toList.take (eF l l.length)=(aW l).take (eF l l.length):=by grind
      rw[h2];unfold aW;rw[List.map_take]
    rw[h1,List.take_append_drop]
  unfold Row;rw[e,hg]
theorem Bl.other {w w':GK} {v:GN} (h:Bl B l v w) (hk:∀ g,B<=g->g < w.heap.size->w'.heap[g]? = w.heap[g]?):Bl B l v w':=by
 obtain⟨A,c,rfl,hc,hr⟩:=h;refine⟨A,c,rfl,hc,λh0=>?_⟩;obtain⟨b,rest,rfl,hb,hrow⟩:=hr h0;exact⟨b,rest,rfl,hb,hrow.of_block (hk b hb hrow.lt)⟩
theorem Bl.lower {w:GK} {B':Nat} {v:GN} (h:Bl B l v w) (hB:B'<=B):Bl B' l v w:=by
 obtain⟨A,c,rfl,hc,hr⟩:=h;refine⟨A,c,rfl,hc,λh0=>?_⟩;grind
theorem agH {a:Nat}:0 < bZ a b↔b < a:=by grind [bZ]
open List renaming getElem_toArray → lq1, getElem_cons_zero → lq2, getElem_cons_succ → lq3, setIfInBounds_toArray → lq4, set_cons_zero → lq5, set_cons_succ → lq6
theorem aie (w:GK) (F:Gq) (va vb:GN) (a b:Nat) (ha:Ah w F va a) (hb:Ah w F vb b) (hb0:b≠0) (hla:(dig a).length<=50000) (hge:b<=a) :
  Calls GI 112 #[va,vb] w (Ret w (Dn F w.heap.size a b)):=by
 have HVA:=Ag ha;have HVB:=Ag hb;have hlb:(dig b).length<=(dig a).length:=aV hge;have hord:decide (bZ a b < 0)=false:=by
  refine zcW ?_;split <;> (try split) <;> omega
 obtain⟨A,c,rfl,hc,_⟩:=ha;obtain⟨B,d,rfl,hd,hNb⟩:=hb;obtain⟨n,hn⟩:=Gp ((dig b).length);have hn1':1<=n:=by rw[hn];exact bD.2 hb0
 obtain⟨b1,o1,rfl,_,hb1',hx⟩:=hNb FI;obtain⟨t,ht'⟩:=Gl (l:=dig b) (k:=n - 1) FI;have et:=hx (n - 1) t ht';unfold bY at et;rw[Ho] at et;have gt:(dig b).getD (n - 1) 0=t:=aJ ht';have htl:t < 1000000000:=(aO b).get ht';have ht1:1<=t:=by have:=(sK hb0).1;rw[<-hn,gt] at this;exact this
 obtain⟨f1,f2,_,_,_⟩:=iZ ht1 htl;have hfI:(1000000000:Int) / ((t:Int)+1)=((LB / (t+1):Nat):Int):=by
  rw[show((t:Int)+1)=((t+1:Nat):Int) by omega,show(1000000000:Int)=((LB:Nat):Int) from rfl,nP]
 obtain⟨f,hf⟩:=Gp (LB / (t+1));have hbl:=aic hn hb0;rw[gt,<-hf] at hbl;have hal:(dig (a*f)).length<=(dig a).length+1:=bC (vC FI);rw[<-hf] at hfI f1 f2;obtain⟨a',ha'⟩:∃ a',a'=a*f:=⟨_,rfl⟩;obtain⟨b',hb'⟩:∃ b',b'=b*f:=⟨_,rfl⟩;rw[<-ha'] at hal;rw[<-hb'] at hbl;have hba':b'<=a':=by rw[ha',hb'];exact Nat.mul_le_mul_right _ hge
 have agB:b'≠0:=by rw[hb'];exact JC hb0 FI
 obtain⟨la,aa9⟩:∃ la,la=(dig a').length:=⟨_,rfl⟩;have hnla:n<=la:=by rw[aa9,<-hbl];exact aV hba'
 have HSC:=Ag (Iu ha' hb');have HBL:=Ag hbl;have HLA:=Ag aa9;have hlal:la<=50001:=FI;rw[<-hn] at HVB hd hlb ⊢;have hla2:(dig a).length<=50000:=hla;refine zcM ?_;intro n1 hn1;have i1:(n:Int) - 1=(n1:Int):=FI;rw[show n - 1=n1 by omega] at et;have l1:n1 < n:=FI;have HN:=Ag hn;have HB0:=Ag hb0;clear hn gt hx ht' hf hge ha' hb' aa9 hbl hb0;go_in;go_wp2_with fail
 have HVB2:=Ag (show Ah w F (Gw (some ⟨b1,o1,none⟩) n d) b from HVB.o);refine(vO w F _ _ a b HVA.o HVB.o FI (by rw[<-HN.o]; omega)).mono ?_;rintro e wn ⟨_,rfl,hb,rfl⟩;have hB:=hb;replace et:=ah et hb;replace HVA:=Ag (HVA.o.below hb);replace HVB:=Ag (HVB.o.below hb);clear hb;generalize bZ a b=od at *;dsimp only;go_wp2_with fail
 refine(zL _ f FI).mono ?_;rintro e wn ⟨vf,rfl,hb,hu⟩;have HF:=Ag (hu.mono (G:=λb=>w.heap.size<=b) (λb h _=>He hB.size h));clear hu;replace et:=ah et hb;replace HVA:=Ag (HVA.o.below hb);replace HVB:=Ag (HVB.o.below hb);refine YQ ?_;clear hB hb;intro hB;go_wp2_with fail
 refine(iH _ (λb=>F b\/w.heap.size<=b) _ _ a f (HVA.o.mono (λ_ h _=>.inl h)) (HF.o.mono (λ_ h _=>.inr h)) FI (by have:=bC (n:=f) (k:=1) (by unfold LB; omega); omega)).mono ?_;rintro e wn ⟨va',rfl,hb,hu⟩;rw[<-HSC.o.1] at hu;have HA:=Ag (hu.mono (G:=λb=>w.heap.size<=b) (λb h _=>He hB.size h));clear hu;replace et:=ah et hb;replace HVA:=Ag (HVA.o.below hb);replace HVB:=Ag (HVB.o.below hb);replace HF:=Ag (HF.o.below hb);refine YQ ?_;clear hB hb;intro hB;go_wp2_with fail
 refine(iH _ (λb=>F b\/w.heap.size<=b) _ _ b f (HVB.o.mono (λ_ h _=>.inl h)) (HF.o.mono (λ_ h _=>.inr h)) (by rw[<-HN.o]; omega) (by have:=bC (n:=f) (k:=1) (by unfold LB; omega); omega)).mono ?_;rintro e wn ⟨vb',rfl,hb,hu⟩;rw[<-HSC.o.2] at hu;have HB:=Ag (hu.mono (G:=λb=>w.heap.size<=b) (λb h _=>He hB.size h));clear hu;replace et:=ah et hb;replace HVA:=Ag (HVA.o.below hb);replace HVB:=Ag (HVB.o.below hb);replace HF:=Ag (HF.o.below hb);replace HA:=Ag (HA.o.below hb);refine YQ ?_;clear hB hb;intro hB;clear et HVA HVB HVB2 hb1' i1;obtain⟨Aa,ca,rfl,hca,hNa'⟩:=HA.o;obtain⟨Ab,cb,rfl,hcb,hNb'⟩:=HB.o;obtain⟨ba,oa,rfl,_,hba1,_⟩:=hNa' (by rw[<-HLA.o]; omega);obtain⟨bb,ob,rfl,_,hbb1,hxb⟩:=hNb' (by rw[HBL.o]; omega);obtain⟨t',ht2⟩:=Gl (l:=dig b') (k:=n1) (by rw[HBL.o]; omega);have et:=hxb n1 t' ht2;unfold bY at et;rw[Ho] at et;have ht'l:t' < 1000000000:=(aO b').get ht2;have HTP:=Ag (show(dig b').getD ((dig b').length - 1) 0=t' by rw[HBL.o,show n - 1=n1 by omega]; exact aJ ht2);have ht'1:1<=t':=by have:=(sK agB).1;rw[HTP.o] at this;exact this
 rw[<-HLA.o] at hca HA ⊢;rw[HBL.o] at hcb HB ⊢;clear hNa' hNb' hxb ht2;have i1:(n:Int) - 1=(n1:Int):=FI;obtain⟨m,hm⟩:∃ m,m+n=la+1:=⟨la+1 - n,FI⟩;have hwm:IntKind.i64.wrap (IntKind.i64.wrap ((la:Int) - (n:Int))+1)=(m:Int):=by rw[IY ((la:Int) - (n:Int)) FI,IY _ FI];omega
 have HAL:=Ag (show Aj wn (λb=>w.heap.size<=b) (Gw (some ⟨ba,oa,none⟩) (dig a').length ca) (dig a') by rw[<-HLA.o]; exact HA.o);have HDR:=Ag (show Aj wn (λb=>w.heap.size<=b) (Gw (some ⟨ba,oa+m,none⟩) ((dig a').drop m).length (ca - m)) ((dig a').drop m) from HAL.o.drop (by rw[<-HLA.o]; omega) _ _ rfl);have hdl:((dig a').drop m).length=la - m:=by rw[List.length_drop,<-HLA.o]
 have HDL:=Ag hdl;obtain⟨D,hD⟩:=Gp ((dig a').drop m);rw[<-hD] at HDR HDL hdl;have HDE:=Ag hD;clear hD HAL;have hwb:=hB.size;go_wp2_with fail
 clear hfI i1;refine wp_region_held_drew (S:=λ_=>True) aj trivial (λhHeld=>?_);refine tkm [0,1,2,3,4,6,7,8,9,10,11,12] ?_;clear hwm;refine jH (js:=[5,13,14,15,16]) ((Hold.of (Fact.limbs (λb=>w.heap.size<=b) D) (Gw (some ⟨ba,oa+m,none⟩) D.length (ca - m))).and (Hold.below wn.heap.size wn))
  [(5,Fact.zeros wn.heap.size m),(13,Fact.limbs (λb=>w.heap.size<=b) D),(14,Fact.limbs (λb=>w.heap.size<=b) D),(15,Fact.zeros wn.heap.size m),(16,Fact.limbs (λb=>w.heap.size<=b) D)] aj ⟨Aj.on HDR.o (Same.drewN _ _ 1),Gy _,aG (GR _ wn) 1⟩ (λ_ _=>trivial) ?_
 refine Flow.cons (o:=_) rfl (λwk hS hf K hK=>?_) (λv5=>?_)
 ·refine ant rfl ?_;refine aib _ _ _ 40 rfl 103 (.int .u32 0) 4 Ie Jf rfl m rfl rfl FI FI ?_;intro w1 hb1 hz1 hr1;exact hK.out _ _ hb1 ⟨_,rfl,hS.2.1,by rw[fO]; exact hr1⟩
 refine Zb ?_;refine Flow.cons (o:=_) rfl (λwk hS hf K hK=>?_) (λv13=>?_)
 ·have hSl:=hS.1;go_simp;try simp only[Int.toNat_natCast]
  have hml:m<=la:=FI;rw[LH hml];rw[show la - m=D.length from hdl.symm];by_cases hcm:ca=m
  ·have hD0:D = []:=IQ FI;rw[LH hcm];refine hK.out _ _ (GR _ _) ?_;show Aj wk _ _ D;rw[hD0];exact gV _ _ _ _
  ·rw[LG hcm];exact hK.out _ _ (GR _ _) hSl
 refine Zb ?_;refine Flow.cons (o:=_) rfl (λwk hS hf K hK=>?_) (λv14=>?_)
 ·have f13:=aX (hf (13,v13) aA aj) rfl;refine ant rfl ?_;refine rJ _ _ 40 Ie rfl none (λ_ h=>by cases h) v13 D rfl rfl f13 FI ?_;intro u w' hb hi;exact hK.out _ _ hb (Aj.keep hi.limbs (λb h _=>He (He hwb hS.2.1) h) (GZ _ _))
 refine Zb ?_;refine Flow.cons (o:=_) rfl (λwk hS hf K hK=>?_) (λv15=>?_)
 ·have f5:=aX (hf (5,v5) aA aj) rfl;go_simp;exact hK.out _ _ (GR _ _) f5
 refine Zb ?_;refine Flow.cons (o:=_) rfl (λwk hS hf K hK=>?_) (λv16=>?_)
 ·have f14:=aX (hf (14,v14) aA aj) rfl;go_simp;exact hK.out _ _ (GR _ _) f14
 refine Zb ?_;refine Flow.nil (λwE hS hf=>?_);have f15:=aX (hf (15,v15) aA) rfl;have f16:=aX (hf (16,v16) aA) rfl;obtain⟨_,hSz,hSb⟩:=hS;obtain⟨bq,hv15,hbq,hrq⟩:=f15;dsimp only at hv15;subst hv15;have HRQ:=Ag hrq;have hBE:Below wn.heap.size wn wE:=hSb;have hBQ:=hrq.lt;have hR0:aF D < b':=by
  rw[HDE.o];refine Hz (ajj a' m) ?_;have h1:=aaZ agB;rw[HBL.o] at h1;rw[<-HLA.o,show la - m=n - 1 by omega];exact h1
 have HR0:=Ag hR0;have HR16:=Ag (show Ah wE (λb=>w.heap.size<=b) v16 (aF D) by unfold Ah; rw[HDE.o,alS,<-HDE.o]; exact f16);clear hf f16 hrq hHeld HDR hdl et hR0 hSz;have i4:(la:Int) - (n:Int)=(m:Int) - 1:=FI;go_wp2_with fail
 clear i4;try generalize IntKind.i64.wrap ((la:Int) - (n:Int))=jk
 go_loopw [5,9,10,11,12] (λrv iv _ _ _ wr=>∃ (k R:Nat) (Q:List Nat),k<=m/\iv = GV GU ((k:Int) - 1)/\aF ((dig a').drop k)=b'*aF (Q.drop k)+R/\R < b'/\Q.length=m/\Limbs Q/\Row wr bq 103 (aW Q) /\
  ((k=m/\Ah wr (λb=>w.heap.size<=b) rv R)\/Bl (bq+1) (dig R) rv wr)/\Below wn.heap.size wn wr/\wE.heap.size<=wr.heap.size) (λ_ iv _ _ _ _=>(intOf iv+1).toNat)
 case atStart =>
  refine⟨m,aF D,GX m 0,Gy _,rfl,?_,HR0.o,aA,Limbs.zeros _,HRQ.o,.inl ⟨rfl,HR16.o⟩,hBE,Gy _⟩;rw[<-HDE.o,Js aA];simp[aF]
 case round =>
  clear HRQ HR0 HR16 hBE;obtain⟨k,R,Q,hk,rfl,hinv,hR,hQl,an3,hrq,hown,hbel,hsz⟩:=hrel;have hzw:=hbel.size;have hB2:Below w.heap.size w wr:=hB.trans (hbel.mono hwb);have HQL:=Ag hQl;have HQM:=Ag an3;have HI:=Ag hinv;have HO:=Ag hown;have hvr:Ah wr (λb=>w.heap.size<=b) u5 R:=by
   rcases hown with h | h
   ·exact h.2
   ·exact Aj.keep h.limbs (λb hb _=>by omega) (GZ _ _)
  have hRl:(dig R).length<=n:=by have:=aV (Nat.le_of_lt hR);rw[HBL.o] at this;exact this
  clear hQl an3 hinv hown;rcases H6 k with h0 | h0
  ·subst h0;have ah4:Bl (bq+1) (dig R) u5 wr:=by
    rcases HO.o with h | h
    ·omega
    ·exact h
   clear hvr HO;have hsc:=aby (a:=a) (b:=b) (f:=f) (q:=aF Q) (r:=R) FI (by have:=HI.o; rw[Jg,Jg,aZ,HSC.o.1,HSC.o.2] at this; exact this) (by rw[<-HSC.o.2]; exact hR);have HQR:=Ag hsc;clear hsc;have hfd:dig f = [f]:=iF FI (by unfold LB; omega);obtain⟨Af,cf,hvf,hcf,hNf⟩:=HF.o;have hfl:(dig f).length=1:=by rw[hfd];rfl
   obtain⟨bf,of,rfl,_,hbf,hxf⟩:=hNf FI;have ef:wn.cell? ⟨bf,of,none⟩=some (.int .u32 (f:Int)):=by
    have:=hxf 0 f (by rw[hfd]; rfl);unfold bY at this;simpa using this
   rw[hfl] at hvf hcf;subst hvf;obtain⟨Ar,cr,rfl,hcr,hrr⟩:=ah4;obtain⟨t0,ht0⟩:=Gp ((dig R).length);rw[<-ht0] at hcr hrr hRl ⊢;have HT0:=Ag ht0;have alT:Aj wr (λb=>w.heap.size<=b) (Gw (some ⟨bq,0,none⟩) m m) Q:=jP hrq (by show w.heap.size<=bq; omega) HQL.o (Gy _);clear hNf hxf hfd hfl HI;rcases H6 t0 with h0 | hpos
   ·subst h0;have HR0:=Ag (show R=0 by rw[<-aae]; exact HT0.o.symm);have HQW:=Ag alT;clear alT;clear ht0;obtain⟨wp,rfl⟩:∃ wp:GK,wp=wr:=⟨_,rfl⟩;go_wp2_with fail
    go_loopw [13,14] (λ_ iv wr=>iv = GV GU (-1)/\wp=wr) (λ_ _ _=>0)
    case atStart=>exact⟨rfl,rfl⟩
    case round =>
     obtain⟨rfl,rfl⟩:=hrel;go_wp2_with fail
     refine(mP wp (λb=>w.heap.size<=b) (some ⟨bq,0,none⟩) m m Q HQL.o HQW.o FI).mono ?_;rintro e w' ⟨rfl,rfl⟩;have HTQ:=Ag (Aj.trim HQL.o HQW.o HQM.o);dsimp only;go_wp2_with fail
     refine(mP wp (λb=>w.heap.size<=b) Ar 0 cr [] rfl (gV _ _ _ _) FI).mono ?_;rintro e w' ⟨rfl,rfl⟩;dsimp only;go_wp2
     go_ret2;refine⟨_,rfl,hB2,_,_,rfl,?_,?_⟩
     ·rw[<-HQR.o.1];exact HTQ.o.mono λb hb _=>.inr hb
     ·rw[<-HQR.o.2,HR0.o,Nat.zero_div];exact Ah.zero _ _ _ _
   ·obtain⟨g,rest,rfl,hg,hrow⟩:=hrr hpos;have hglt:=hrow.lt;have AV:=Ag hrow;clear hrr alT hrow ht0;have HRQ2:=Ag hrq;clear hrq;have hd0:aF ((dig R).drop t0)=0:=by rw[Js (by rw[<-HT0.o]; omega)];rfl
    obtain⟨wp,rfl⟩:∃ wp:GK,wp=wr:=⟨_,rfl⟩;go_wp2_with fail
    go_loopw [13,14] (λsv iv wr=>∃ (kk s:Nat) (l:List Nat),kk<=t0/\iv = GV GU ((kk:Int) - 1)/\sv = .int .u64 (s:Int)/\s < f/\l.length=t0/\l.take kk=(dig R).take kk/\aF ((dig R).drop kk)=f*aF (l.drop kk)+s/\Limbs l /\
     Row wr g 103 (aW l++rest)/\Row wr bq 103 (aW Q)/\Below wn.heap.size wn wr/\wp.heap.size<=wr.heap.size) (λ_ iv _=>(intOf iv+1).toNat)
    case atStart =>
     exact⟨t0,0,dig R,Gy _,rfl,rfl,FI,HT0.o.symm,rfl,by rw[hd0]; omega,aO R,AV.o,HRQ2.o,hbel,Gy _⟩
    case round =>
     clear AV HRQ2 hd0;obtain⟨kk,s,l,hkk,rfl,rfl,hsf,hll,htk,hinv,hlim,hrow,hrq,fC,hsz2⟩:=hrel;have HTK:=Ag htk;have HINV:=Ag hinv;have FD:=Ag hlim;have HLL:=Ag hll;have hef:wr.cell? ⟨bf,of,none⟩=some (.int .u32 (f:Int)):=(aK fC bf of hbf).trans ef;have hzb:=fC.size;have hBw:Below w.heap.size w wr:=hB.trans (fC.mono hwb);clear htk hinv hlim;rcases H6 kk with h0 | h0
     ·subst h0;have hfin:aF l=R / f:=by
       have h1:=HINV.o;rw[Jg,Jg,aZ] at h1;rw[h1,Nat.mul_add_div FI,JH hsf,Nat.add_zero]
      have Eh:=Ag hfin;have HQW:=Ag (show Aj wr (λb=>w.heap.size<=b) (Gw (some ⟨bq,0,none⟩) m m) Q from jP hrq (by show w.heap.size<=bq; omega) HQL.o (Gy _));have HRW:=Ag (show Aj wr (λb=>w.heap.size<=b) (Gw (some ⟨g,0,none⟩) t0 cr) l from(Bl.limbs (B:=w.heap.size) ⟨_,cr,by rw[hll],FI,λ_=>⟨g,rest,rfl,FI,hrow⟩⟩));clear hfin hrow hrq hll;go_wp2_with fail
      refine(mP wr (λb=>w.heap.size<=b) (some ⟨bq,0,none⟩) m m Q HQL.o HQW.o FI).mono ?_;rintro e w' ⟨rfl,rfl⟩;have HTQ:=Ag (Aj.trim HQL.o HQW.o HQM.o);dsimp only;go_wp2_with fail
      refine(mP wr (λb=>w.heap.size<=b) (some ⟨g,0,none⟩) t0 cr l HLL.o HRW.o FI).mono ?_;rintro e w' ⟨rfl,rfl⟩;have HTR:=Ag (Aj.trim HLL.o HRW.o FD.o);dsimp only;go_wp2
      go_ret2;refine⟨_,rfl,hBw,_,_,rfl,?_,?_⟩
      ·rw[<-HQR.o.1];exact HTQ.o.mono λb hb _=>.inr hb
      ·rw[<-HQR.o.2,<-Eh.o];exact HTR.o.mono λb hb _=>.inr hb
     ·obtain⟨k2,rfl⟩:∃ k2,kk=k2+1:=⟨kk - 1,FI⟩;have e3:((k2+1:Nat):Int) - 1=(k2:Int):=FI;rw[e3];obtain⟨y,hy⟩:=Gl (l:=l) (k:=k2) FI;have hyl:y < 1000000000:=FD.o.get hy;have hyd:(dig R)[k2]? = some y:=by
       have h1:(l.take (k2+1))[k2]? = ((dig R).take (k2+1))[k2]?:=by rw[HTK.o]
       rw[List.getElem?_take_of_lt FI,List.getElem?_take_of_lt FI,hy] at h1;exact h1.symm
      have hyc:(aW l++rest)[k2]? = some (.int .u32 (y:Int)):=by
       rw[List.getElem?_append_left aB];exact bg hy
      have ey:=hrow.cell hyc;have fy:=hrow.frozen k2;obtain⟨e,he⟩:=Gp ((s*LB+y) / f);obtain⟨s2,hs2⟩:=Gp ((s*LB+y) % f);have hel:e < LB:=by rw[he];exact wU hsf hyl
      have hs2l:s2 < f:=by rw[hs2];exact Ja _ FI
      have hqI:((s:Int)*1000000000+(y:Int)) / (f:Int)=(e:Int):=by
       rw[he,<-nP];congr 1
      have hrI:((s:Int)*1000000000+(y:Int)) % (f:Int)=(s2:Int):=by
       rw[hs2,<-uK];congr 1
      have HST:=Ag (zx (A:=0) (q:=l) (a:=dig R) (i:=k2) (d:=f) (r:=s) (r':=s2) (s:=e) FI HINV.o (by rw[aJ hyd,he,hs2]; exact(Nat.div_add_mod _ _).symm));have FZ:=Ag hrow;have HRQ3:=Ag hrq;have hgw:g < wr.heap.size:=FI;have hell:e < 1000000000:=hel;clear he hs2 hyd hyc hy hrow hrq hll;go_wp2
      go_roundw
      case rel =>
       refine⟨k2,s2,l.set k2 e,FI,by go_num,by go_num,hs2l,by rw[Hy]; exact HLL.o,?_,HST.o,FD.o.set hel,?_,?_,?_,?_⟩
       ·have h1:=HTK.o;have h2:=congrArg (List.take k2) h1;rw[List.take_take,List.take_take,Ji FI] at h2;rw[List.take_set_of_le FI];exact h2
       ·have h:=FZ.o.set k2 (.int .u32 (e:Int));rw[List.set_append_left _ _ (by have:=HLL.o; simp; omega),bF] at h;exact h
       ·exact HRQ3.o.other (a:=⟨g,k2,none⟩) aB _
       ·exact fC.setCell (p:=⟨g,k2,none⟩) (by show wn.heap.size<=g; omega) _
       ·simp;omega
      case measure=>simp[intOf]
  ·obtain⟨j,rfl⟩:∃ j,k=j+1:=⟨k - 1,FI⟩;have e1:((j+1:Nat):Int) - 1=(j:Int):=FI;rw[e1];have hjm:j < m:=FI;have hjla:j < la:=FI;have hRA:=HA.o.below hbel;obtain⟨x,hx'⟩:=Gl (l:=dig a') (k:=j) (by rw[<-HLA.o]; omega);have ex:wr.cell? ⟨ba,oa+j,none⟩=some (.int .u32 (x:Int)):=by
    obtain⟨A2,c2,hE,_,hh⟩:=hRA;cases hE;obtain⟨b2,o2,hE2,_,_,hxx⟩:=hh (by rw[<-HLA.o]; omega);cases hE2;have:=hxx j x hx';unfold bY at this;rw[Ho] at this;exact this
   have hxl:x < 1000000000:=(aO a').get hx';have HX:=Ag (aJ hx');clear hx' hRA;have HVR:=Ag hvr;obtain⟨Ar,cr,rfl,hcr,_⟩:=hvr;obtain⟨wp,rfl⟩:∃ wp:GK,wp=wr:=⟨_,rfl⟩;go_wp2_with (at_builtin; refine agF (w:=wp) (F:=λb=>w.heap.size<=b) rfl _ _ 40 Ie rfl x _ (dig R) rfl rfl rfl HVR.o FI ?_; intro A3 c3 w3 hb3 hi3; have HI3:=Ag hi3; clear hi3)
   have hz3:=hb3.size;refine(mP w3 (λb=>wp.heap.size<=b) A3 ((dig R).length+1) c3 (x :: dig R) aA HI3.o FI).mono ?_;rintro e w' ⟨rfl,rfl⟩;have htr:=Aj.trim aA HI3.o (λy hy=>by
    rcases List.mem_cons.1 hy with h | h
    ·subst h;exact hxl
    ·exact aO R y h)
   rw[show aF (x :: dig R)=x+LB*R by show x+LB*aF (dig R)=_; rw[aZ]] at htr;obtain⟨hRb,hRrl⟩:=agG (x:=x) hR HBL.o hxl;obtain⟨Rr,hRr⟩:=Gp (x+LB*R);rw[<-hRr] at htr hRb hRrl;have HRR:=Ag hRr;have hte:eF (x :: dig R) ((dig R).length+1)=(dig Rr).length:=by
    obtain⟨A5,c5,he,_⟩:=htr;injection he
   rw[hte] at htr ⊢;have HTR:=Ag htr;obtain⟨lr,hlr⟩:=Gp ((dig Rr).length);rw[<-hlr] at hRrl HTR ⊢;have HLR:=Ag hlr;have hxr:∀ k y:Nat,(dig Rr)[k]? = some y->∃ b o,A3=some ⟨b,o,none⟩/\w3.cell? ⟨b,o+k,none⟩=some (.int .u32 (y:Int)):=by
    intro k y hk;obtain⟨A5,c5,he,_,hh⟩:=htr;cases he;obtain⟨b5,o5,e5,_,_,hx5⟩:=hh (by have:=Gn hk; omega);have h9:=hx5 k y hk;unfold bY at h9;rw[Ho] at h9;exact⟨b5,o5,e5,h9⟩
   have HXR:=Ag hxr;clear hRr hte hlr hxr htr HI3 HVR hcr;dsimp only;go_wp2_with fail
   go_loopw [10,11] (λlv kv wr=>∃ kk L:Nat,kk<=lr/\(n1<=kk\/kk=lr)/\kv = GV GU ((kk:Int) - 1)/\lv = .int .u64 (L:Int)/\L=aF ((dig Rr).drop kk)/\w3=wr) (λ_ kv _=>(intOf kv+1).toNat)
   case atStart=>exact⟨lr,0,Gy _,.inr rfl,rfl,rfl,by rw[Js (by rw[<-HLR.o]; omega)]; rfl,rfl⟩
   case round =>
    obtain⟨kk,L,hkk,hkn,rfl,rfl,hL,rfl⟩:=hrel;have HLL:=Ag hL;clear hL;by_cases hkc:n1+1<=kk
    ·obtain⟨k1,rfl⟩:∃ k1,kk=k1+1:=⟨kk - 1,FI⟩;have e2:((k1+1:Nat):Int) - 1=(k1:Int):=FI;rw[e2];obtain⟨y,hy⟩:=Gl (l:=dig Rr) (k:=k1) (by rw[<-HLR.o]; omega);obtain⟨b5,o5,rfl,ey⟩:=HXR.o k1 y hy;have hyl:y < 1000000000:=(aO Rr).get hy;have hL1:L < 1000000000:=by
      rw[HLL.o];refine Hz (ajj Rr (k1+1)) ?_;rw[<-HLR.o];have:LB ^ (lr - (k1+1))<=LB ^ 1:=Jd au FI;simpa using this
     have HNX:=Ag (ake (n:=n) hy HLL.o);clear hy;have hi5:(n:Int) - 1=(n1:Int):=FI;have hc5:decide ((n1:Int)<=(k1:Int))=true:=LK FI;go_wp2
     go_roundw
     case rel=>exact⟨k1,L*LB+y,FI,FI,by go_num,by go_num,HNX.o,by first | rfl | trivial⟩
     case measure=>simp[intOf]
    ·have hLv:L=Rr / LB ^ n1:=by
      rw[HLL.o];rcases hkn with h | h
      ·rw[show kk=n1 by omega,adS _ (aO Rr),aZ]
      ·rw[h,Js (by rw[<-HLR.o]; omega)];have h2:=nI Rr;rw[<-HLR.o] at h2;have h3:LB ^ lr<=LB ^ n1:=Jd au FI;rw[JH FI];rfl
     have HLV:=Ag hLv;clear hLv HLL;have hi5:(n:Int) - 1=(n1:Int):=FI;have hc5:decide ((n1:Int)<=(kk:Int) - 1)=false:=LJ FI;have hbn:aF []=0:=rfl;have hge:=ald (b:=b') (r:=Rr) agB hRb;rw[HBL.o,show n - 1=n1 by omega,show(dig b').getD n1 0=t' by have:=HTP.o; rwa [HBL.o,show n - 1=n1 by omega] at this,<-HLV.o] at hge;obtain⟨q,hq⟩:=Gp (L / t');rw[<-hq] at hge;have hqI:(L:Int) / (t':Int)=(q:Int):=by rw[hq,nP]
     have hLlt:L < 1000000000000000000:=by
      rw[HLV.o];refine(Jm (BK _)).2 ?_;refine Hz (nI Rr) ?_;rw[<-HLR.o,show(1000000000000000000:Nat)=LB ^ 2 by decide,<-Nat.pow_add];exact Jd au FI
     have hql:q < 1000000000000000000:=by rw[hq];exact Nat.lt_of_le_of_lt (J3 _ _) hLlt
     have HGE:=Ag hge;have HB3:=Ag ((HB.o.below hbel).below hb3);clear hq hge hkn;go_wp2_with fail
     all_goals
      go_loopw [12] (λdv wr=>∃ d:Nat,dv = .int .u64 (d:Int)/\Rr / b'<=d/\d < 1000000000/\Below w3.heap.size w3 wr) (λdv _=>(intOf dv).toNat)
      case atStart =>
       first
        | exact⟨q,by first | rfl | go_num,by have:=HGE.o; omega,FI,GR _ _⟩
        | exact⟨999999999,by first | rfl | go_num,by have:=HGE.o; unfold LB at this; omega,FI,GR _ _⟩
      case round =>
       obtain⟨d,rfl,hdge,hdl,hb4⟩:=hrel;have hz4:=hb4.size;have HD:=Ag hdge;clear hdge;have HBR:=Ag (HB3.o.below hb4);have HRR4:=Ag (KT (n:=Rr) HTR.o hb4);go_wp2_with fail
       refine(zL wr d FI).mono ?_;rintro e w5 ⟨vd,rfl,hb5,hvd⟩;have HVD:=Ag hvd;clear hvd;have hz5:=hb5.size;have HBR5:=Ag (HBR.o.below hb5);have HRR5:=Ag (KT (n:=Rr) HRR4.o hb5);dsimp only;go_wp2_with fail
       refine(iH w5 (λb=>w.heap.size<=b) _ _ b' d HBR5.o (HVD.o.mono (λb hb _=>by omega)) (by rw[HBL.o]; omega) (by have:=bC (n:=d) (k:=1) (by unfold LB; omega); omega)).mono ?_;rintro e w6 ⟨vt,rfl,hb6,hvt⟩;have HVT:=Ag hvt;clear hvt;have hz6:=hb6.size;have HRR6:=Ag (KT (n:=Rr) HRR5.o hb6);have hltd:(dig (b'*d)).length<=n+1:=He (dY _ _) (by rw[HBL.o]; have:=bC (n:=d) (k:=1) (by unfold LB; omega); omega);dsimp only;go_wp2_with fail
       refine(vO w6 (λb=>w.heap.size<=b) _ _ (b'*d) Rr (HVT.o.mono (λb hb _=>by omega)) (HRR6.o.mono (λb hb _=>by omega)) FI (by rw[<-HLR.o]; omega)).mono ?_;rintro e w7 ⟨_,rfl,hb7,rfl⟩;have hb47:Below w3.heap.size w3 w7:=hb4.trans ((hb5.trans ((hb6.trans (hb7.mono hz6)).mono hz5)).mono hz4);by_cases hgt:Rr < b'*d
       ·have hdd:decide (0 < bZ (b'*d) Rr)=true:=LK (agH.2 hgt);have aor:Rr / b' < d:=(Jm FI).2 (by rw[Nat.mul_comm]; exact hgt);have hd1:1<=d:=Nat.lt_of_le_of_lt (Nat.zero_le _) aor;have HDL:=Ag aor;clear hgt aor;dsimp only;go_wp2
        go_roundw
        case rel=>exact⟨d - 1,by go_num,Nat.le_sub_one_of_lt HDL.o,FI,hb47⟩
        case measure=>exact zMs
       ·have hdd:decide (0 < bZ (b'*d) Rr)=false:=LJ (λh=>hgt (agH.1 h));have hde:d=Rr / b':=ale agB HD.o FI;have FH:=Ag hde;clear hgt hde;have hz7:=hb7.size;have HBR7:=Ag (HBR5.o.below (hb6.trans (hb7.mono hz6)));have HRR7:=Ag (KT (n:=Rr) HRR6.o hb7);have hz47:=hb47.size;dsimp only;go_wp2_with fail
        refine(zL w7 d FI).mono ?_;rintro e w8 ⟨vd,rfl,hb8,hvd⟩;have HVD8:=Ag hvd;clear hvd;have hz8:=hb8.size;dsimp only;go_wp2_with fail
        refine(iH w8 (λb=>w.heap.size<=b) _ _ b' d (HBR7.o.below hb8) (HVD8.o.mono (λb hb _=>by omega)) (by rw[HBL.o]; omega) (by have:=bC (n:=d) (k:=1) (by unfold LB; omega); omega)).mono ?_;rintro e w9 ⟨vt,rfl,hb9,hvt⟩;have HVT9:=Ag hvt;clear hvt;have hz9:=hb9.size;have hle9:b'*d<=Rr:=by rw[FH.o];exact Nat.mul_div_le _ _
        dsimp only;go_wp2_with fail
        refine(zG w9 (λb=>w.heap.size<=b) _ _ Rr (b'*d) ((KT (n:=Rr) HRR7.o (hb8.trans (hb9.mono hz8))).mono (λb hb _=>by omega)) (HVT9.o.mono (λb hb _=>by omega)) hle9 (by rw[<-HLR.o]; omega)).mono ?_;rintro e w10 ⟨_,rfl,hb10,l10,A10,c10,rfl,hn10,hl10,alU⟩;have ah4:=rM alU hl10;rw[hn10,show Rr - b'*d=Rr % b' from ajB FH.o] at ah4;have alV:Below w3.heap.size w3 w10:=hb47.trans ((hb8.trans ((hb9.trans (hb10.mono hz9)).mono hz8)).mono hz47);have alW:Below wp.heap.size wp w10:=hb3.trans (alV.mono hz3);have hbqw:bq < wp.heap.size:=Hz hBQ hsz;have ajk:=hrq.below alW hbqw;have hz10:=hb10.size;have HCOP:=Ag ah4;have hvl:∃ v10,v10=Value.slice A10 (eF l10 l10.length) c10:=⟨_,rfl⟩;obtain⟨v10,hv10⟩:=hvl;have HV10:=Ag hv10;have hqd:Q.length=m:=HQL.o;have hjQ:(aW Q).length=m:=by simp[hqd]
        obtain⟨yq,hyq⟩:=Gl (l:=aW Q) (k:=j) FI;have hcq:=ajk.cell hyq;have hfq:=ajk.frozen j;have alX:Below wn.heap.size wn w10:=hbel.trans (alW.mono hzw);have F5:=Ag alX;have F6:=Ag ajk;have HNXT:=Ag (ajC (a:=dig a') (q:=Q) (i:=j) (b:=b') (r:=R) (d:=d) FI HI.o (by rw[HX.o,<-HRR.o]; exact FH.o));have hbq2:bq+1<=w9.heap.size:=FI;have hwq:wE.heap.size<=w10.heap.size:=FI;clear alU hn10 hl10 ah4 hyq ajk hb10 hb9 hb8 hb7 hb6 hb5 hb4 alV alW alX hle9 hv10 hrq;dsimp only;go_wp2
        go_roundw
        case rel =>
         refine⟨j,Rr % b',Q.set j d,FI,by go_num,?_,Ja _ FI,by rw[Hy]; exact hqd,HQM.o.set hdl,?_,.inr ?_,?_,?_⟩
         ·have h:=HNXT.o;rw[HX.o,<-HRR.o] at h;exact h
         ·have h:=F6.o.set j (.int .u32 (d:Int));rw[bF] at h;exact h
         ·refine Bl.lower (B:=w9.heap.size) (HCOP.o.other (λg hg _=>?_)) hbq2;exact Below.heap_setCell _ _ _ _ (λe=>by simp at e; omega)
         ·exact F5.o.setCell (p:=⟨bq,j,none⟩) hbq _
         ·simp;exact hwq
        case measure=>simp[intOf]
theorem abd (w:GK) (F:Gq) (va vb:GN) (a b:Nat) (ha:Ah w F va a) (hb:Ah w F vb b) (hb0:b≠0) (hla:(dig a).length<=50000) (hlb:(dig b).length<=50000) :
  Calls GI 112 #[va,vb] w (Ret w (Dn F w.heap.size a b)):=by
 by_cases hlt:a < b
 ·have hord:decide (bZ a b < 0)=true:=by rw[iL hlt];rfl
  have HLT:=Ag hlt;have HVA:=Ag ha;have HVB:=Ag hb;clear ha hb hlt hb0;go_in;go_wp2_with fail
  refine(vO w F _ _ a b HVA.o HVB.o FI FI).mono ?_;rintro e wn ⟨_,rfl,hb1,rfl⟩;generalize bZ a b=od at *;dsimp only;go_wp2
  go_ret2;refine⟨_,rfl,hb1,_,_,rfl,?_,?_⟩
  ·exact zd8
  ·rw[Nat.mod_eq_of_lt HLT.o];exact HVA.o.ext hb1
 ·exact aie w F va vb a b ha hb hb0 hla FI
theorem iD (w:GK) (F:Gq) (va vb:GN) (a0 b0:Nat) (ha:Ah w F va a0) (hb:Ah w F vb b0) (hla:(dig a0).length<=50000) (hlb:(dig b0).length<=50000) :
  Calls GI 111 #[va,vb] w (Ret w λv w'=>Ah w' (Ext F w.heap.size) v (Hr a0 b0)):=by
 have HA:=Ag ha;have HB:=Ag hb;clear ha hb;obtain⟨G,hG⟩:=Gp (Hr a0 b0);rw[<-hG];have HG:=Ag hG;clear hG;go_in;go_wp2_with fail
 go_loopg [0,1,5,6] b0 (λf va vb _ _ wr=>∃ a b,b=f/\Ah wr (Ext F w.heap.size) va a/\Ah wr (Ext F w.heap.size) vb b/\G=Hr a b/\(dig a).length<=50000/\(dig b).length<=50000/\Below w.heap.size w wr)
 case atStart=>exact⟨a0,b0,rfl,HA.o.mono (λb h _=>.inl h),HB.o.mono (λb h _=>.inl h),HG.o,hla,hlb,GR _ _⟩
 case round =>
  clear HA HB hla hlb HG;obtain⟨a,b,rfl,hna,hnb,aas,hla,hlb,hbel⟩:=hrel;have HNA:=Ag hna;have HNB:=Ag hnb;have HGC:=Ag aas;obtain⟨A,c,rfl,hc,_⟩:=hna;obtain⟨B,d,rfl,hd,_⟩:=hnb;have hz:=hbel.size;clear aas;by_cases hb0:b=0
  ·have d1:decide (0 < (dig b).length)=false:=LJ (by rw[hb0,bK]; simp);exact zcw
  ·have d1:decide (0 < (dig b).length)=true:=LK (bD.2 hb0);have HB0:=Ag hb0;have hml:a % b < b:=Ja _ FI;clear hb0;go_wp2_with fail
   refine(abd wr (Ext F w.heap.size) _ _ a b HNA.o HNB.o HB0.o hla hlb).mono ?_;rintro e w2 ⟨_,rfl,hb2,vq,vr,rfl,hq,hr⟩;have HR:=Ag hr;clear hq hr;have hlr:(dig (a % b)).length<=50000:=by have:=aV (Nat.le_of_lt hml);omega
   have HML:=Ag hml;go_wp2
   go_roundg (a % b)
   case measure=>exact HML.o
   case rel=>exact⟨b,a % b,rfl,HNB.o.below hb2,HR.o.mono (λb hb _=>hb.elim id λh=>.inr FI),by rw[HGC.o,IK,Nat.gcd_rec,IK],hlb,hlr,hbel.trans (hb2.mono hz)⟩
theorem anu {neg:Bool} {d:Nat} (hd:d≠0) (hn:n≠0) (hg:g=Hr n d):ak (mkRat (sgI neg n) d)=⟨neg,dig (n / g),dig (d / g)⟩:=by grind [jZ,sgI,ak,lT]
theorem aif:ak 0=⟨false,[],[1]⟩:=by
 unfold ak;rw[show(0:Rat).num=0 from rfl,show(0:Rat).den=1 from rfl,Int.natAbs_zero,bK,ji];rfl
theorem l9 (w:GK) (F:Gq) (neg:Bool) (vn vd:GN) (n d:Nat) (hn:Ah w F vn n) (hd:Ah w F vd d) (hd0:d≠0) (hln:(dig n).length<=50000) (hld:(dig d).length<=50000) :
  Calls GI 63 #[G7 neg,vn,vd] w (Ret w λv w'=>RtV w' (Ext F w.heap.size) v (mkRat (sgI neg n) d)):=by
 have HN:=Ag hn.old;have HD:=Ag hd.old;obtain⟨A,c,rfl,hc,_⟩:=hn;obtain⟨B,e,rfl,he,_⟩:=hd;by_cases h0:n=0
 ·have HZ:=Ag (show mkRat (sgI neg n) d=0 by rw[h0,aje]);have hl0:(((dig n).length:Int)==0)=true:=by rw[h0,bK];rfl
  clear h0 hd0;go_in;go_wp2
  obtain⟨W,hW,hr,hr2,hB,hz⟩:=alloc2 w 42 #[G7 false,Gw none 0 0,Gw (some ⟨w.heap.size+1,0,none⟩) 1 1] 103 #[.int .u32 1];rw[<-hW];clear hW;have t0:=hr.cell (i:=0) rfl;have t1:=hr.cell (i:=1) rfl;have t2:=hr.cell (i:=2) rfl;refine bodyPost_ret (v:=.agg #[G7 false,Gw none 0 0,Gw (some ⟨w.heap.size+1,0,none⟩) 1 1]) (by simp[results,Tryz.results63,go_sem,t0,t1,t2]) rfl ?_;refine⟨_,rfl,hB,?_⟩;unfold RtV;rw[HZ.o,aif];refine Ak.make rfl (gV _ _ _ _) ?_;have h2:=Row.limbs (l:=[1]) (by simpa [aW] using hr2) (F:=Ext F w.heap.size) (.inr FI) (n:=1) (c:=1) aA (Gy _);simpa using h2
 ·obtain⟨g,hg⟩:=Gp (Hr n d);have HLR:=Ag (anu (neg:=neg) hd0 h0 hg);have hg0:g≠0:=by rw[hg];exact Lj (Jw _ (JL hd0))
  have hlg:(dig g).length<=50000:=He (aV (by rw[hg]; exact Nat.gcd_le_right _ (JL hd0))) hld;have hl0:(((dig n).length:Int)==0)=false:=by have:=bD.2 h0;exact beq_false_of_ne FI
  have HG:=Ag hg;clear hg h0 hd0;go_in;go_wp2_with fail
  obtain⟨W,hW,hr,hB,hz'⟩:=dW w 42 #[G7 false,Gw none 0 0,Gw none 0 0];rw[<-hW];clear hW;have hz:w.heap.size+1<=W.heap.size:=FI;clear hz';replace HN:=Ag (KT (n:=n) HN.o hB);replace HD:=Ag (KT (n:=d) HD.o hB);refine(iD _ _ _ _ n d HN.o HD.o hln hld).mono ?_;rintro e wn ⟨vg,rfl,hb,hu⟩;rw[<-HG.o] at hu;have HGG:=Ag (hu.mono (G:=(Ext (Old F w.heap.size) (w.heap.size+1))) (λb hb _=>hb.elim .inl λh=>.inr FI));clear hu;replace HN:=Ag (HN.o.below hb);replace HD:=Ag (HD.o.below hb);refine Ye ?_;clear hr hz hB hb;intro hr hz hB;dsimp only;go_wp2_with fail
  refine(abd _ (Ext (Old F w.heap.size) (w.heap.size+1)) _ _ n g (Ah.mono HN.o (λb hb _=>.inl hb)) HGG.o hg0 hln hlg).mono ?_;rintro e wn ⟨_,rfl,hb,vq,vr,rfl,hu,hu2⟩;have HQ:=Ag (hu.mono (G:=(Ext (Old F w.heap.size) (w.heap.size+1))) (λb hb _=>hb.elim id λh=>.inr FI));obtain⟨Aq,cq,rfl,_,_⟩:=hu;clear hu2;replace HN:=Ag (HN.o.below hb);replace HD:=Ag (HD.o.below hb);replace HGG:=Ag (HGG.o.below hb);refine Ye ?_;clear hr hz hB hb;intro hr hz hB;dsimp only;go_wp2_with fail
  refine(abd _ (Ext (Old F w.heap.size) (w.heap.size+1)) _ _ d g (Ah.mono HD.o (λb hb _=>.inl hb)) HGG.o hg0 hld hlg).mono ?_;rintro e wn ⟨_,rfl,hb,vq2,vr2,rfl,hu,hu2⟩;have HP:=Ag (hu.mono (G:=(Ext (Old F w.heap.size) (w.heap.size+1))) (λb hb _=>hb.elim id λh=>.inr FI));obtain⟨Ap,cp,rfl,_,_⟩:=hu;clear hu2;replace HN:=Ag (HN.o.below hb);replace HD:=Ag (HD.o.below hb);replace HGG:=Ag (HGG.o.below hb);replace HQ:=Ag (HQ.o.below hb);refine Ye ?_;clear hr hz hB hb;intro hr hz hB;refine Zt ?_;intro q0 y0 q1 y1 q2 y2;go_wp2
  obtain⟨Wz,hWz,hrz,hwz,hkz⟩:=aY hr (G7 neg) (Gw Aq (dig (n / g)).length cq) (Gw Ap (dig (d / g)).length cp);refine Zg ?_;clear hWz q0 q1 q2 y0 y1 y2;intro t0 t1 t2;refine bodyPost_ret (v:=.agg #[G7 neg,Gw Aq (dig (n / g)).length cq,Gw Ap (dig (d / g)).length cp]) (by simp[results,Tryz.results63,go_sem,t0,t1,t2]) rfl ?_;exact⟨_,rfl,hwz _ _ (Gy _) hB,by unfold RtV; rw[HLR.o]; exact(Ak.make (r:=⟨neg,dig (n / g),dig (d / g)⟩) rfl HQ.o HP.o).keep (λb hb _=>hb.elim (λh=>.inl h.1) λh=>.inr FI) (hkz _ (λh=>h.elim (λh=>by have:=h.2; omega) λh=>by omega))⟩
theorem ajl (x y:Rat):mkRat (sgI (dh x != dh y) (x.num.natAbs*y.num.natAbs)) (x.den*y.den)=x*y:=by grind [ana,qA,Rat.mul_def']
theorem anv (x y:Rat):mkRat (sgI (dh x) (x.num.natAbs*y.den)+sgI (dh y) (y.num.natAbs*x.den)) (x.den*y.den)=x+y:=by grind [sO,qA,Rat.add_def']
theorem mY (w:GK) (F:Gq) (va vb:GN) (x y:Rat) (ha:RtV w F va x) (hb:RtV w F vb y) (hlx:rl x<=20000) (hly:rl y<=20000) :
  Calls GI 45 #[va,vb] w (Ret w λv w'=>RtV w' (Ext F w.heap.size) v (x*y)):=by
 have lx:=fU x;have lx2:=fV x;have ly:=fU y;have ly2:=fV y;have hl1:(dig (x.num.natAbs*y.num.natAbs)).length<=40000:=He (dY _ _) FI;have hl2:(dig (x.den*y.den)).length<=40000:=He (dY _ _) FI;have HML:=Ag (ajl x y);have hd0:x.den*y.den≠0:=JC x.den_nz y.den_nz;refine zdf ?_;intro HX HY;obtain⟨A,c,B,d,rfl,hn,hd⟩:=ha.open;obtain⟨A',c',B',d',rfl,hn',hd'⟩:=hb.open;clear hn hd hn' hd' ha hb;go_in;go_wp2_with fail
 generalize hW:G5 _ _=W;refine zcF ?_;clear hW HX HY;intro rz hB hz;intro HX HY hz x0 x1 x2 y0 y1 y2;obtain⟨_,_,hh,hn,hd⟩:=HX.o;refine zbG ?_;intro HNX HDX;cases hh;clear hn hd;obtain⟨_,_,hh,hn,hd⟩:=HY.o;refine zbH ?_;intro HNY HDY;cases hh;clear hn hd;refine Z5 ?_;intro hHeld hb;clear x0 x1 x2 y0 y1 y2 HX HY HNX HNY HDX HDY;intro x0 x1 x2 y0 y1 y2 HX HY HNX HNY HDX HDY;refine ZA ?_;clear rz hz hB hb;intro rz hz hB;generalize W.drew=wn at *;refine tkm [0,1,2,3,4,5,6,7,8,10,11,12,13] ?_;refine tk2 9 aj rfl λK hK=>?_
 go_simp;refine(iH _ _ _ _ x.num.natAbs y.num.natAbs HNX.o HNY.o FI FI).mono ?_;rintro e wn ⟨vn,rfl,hb,hu⟩;have HP:=Ag (hu.mono (G:=(Ext (Old F w.heap.size) (w.heap.size+3))) (λb hb _=>.inr FI));clear hu;refine Zh ?_;clear x0 x1 x2 y0 y1 y2 HX HY HNX HNY HDX HDY;intro x0 x1 x2 y0 y1 y2 HX HY HNX HNY HDX HDY;refine ZL ?_;clear rz hz hB hb hHeld hK K;intro rz hz hB hHeld;refine tk2 14 aj rfl λK hK=>?_
 go_simp;refine(iH _ _ _ _ x.den y.den HDX.o HDY.o FI FI).mono ?_;rintro e wn ⟨vd,rfl,hb,hu⟩;have HQ:=Ag (hu.mono (G:=(Ext (Old F w.heap.size) (w.heap.size+3))) (λb hb _=>.inr FI));clear hu;refine Zh ?_;clear x0 x1 x2 y0 y1 y2 HX HY HNX HNY HDX HDY;intro x0 x1 x2 y0 y1 y2 HX HY HNX HNY HDX HDY;replace HP:=Ag (HP.o.below hb);refine ZL ?_;clear rz hz hB hb hHeld hK K;intro rz hz hB hHeld;refine tk2 15 aj rfl λK hK=>?_
 go_simp;refine(l9 _ _ _ _ _ (x.num.natAbs*y.num.natAbs) (x.den*y.den) HP.o HQ.o hd0 FI FI).mono ?_;rintro e wn ⟨vm,rfl,hb,hu⟩;have hu2:RtV wn (Ext (Old F w.heap.size) (w.heap.size+3)) vm (x*y):=by rw[show(!(ak x).neg==(ak y).neg)=(dh x != dh y) from rfl,HML.o] at hu;exact hu.mono (λb hb _=>hb.elim id λh=>.inr FI)
 have HM:=Ag hu2;obtain⟨Am,cm,Bm,dm,rfl,hn,hd⟩:=hu2.open;clear hn hd hu hu2;refine Zh ?_;clear x0 x1 x2 y0 y1 y2 HX HY HNX HNY HDX HDY;intro x0 x1 x2 y0 y1 y2 HX HY HNX HNY HDX HDY;replace HP:=Ag (HP.o.below hb);replace HQ:=Ag (HQ.o.below hb);refine za1 ?_;clear rz hz hB hb hHeld hK K x0 x1 x2 y0 y1 y2;intro rz hz hB;intro q0 y0 q1 y1 q2 y2;go_wp2
 refine Z4 ?_;go_wp2
 obtain⟨Wz,hWz,hrz,hwz,hkz⟩:=aY rz (G7 (ak (x*y)).neg) (Gw Am (ak (x*y)).num.length cm) (Gw Bm (ak (x*y)).den.length dm);refine Zg ?_;clear hWz q0 q1 q2 y0 y1 y2;intro t0 t1 t2;refine bodyPost_ret (v:=.agg #[G7 (ak (x*y)).neg,Gw Am (ak (x*y)).num.length cm,Gw Bm (ak (x*y)).den.length dm]) (by simp[results,Tryz.results45,go_sem,t0,t1,t2]) rfl ?_;exact Zq
theorem mg (w:GK) (F:Gq) (va vb:GN) (x y:Rat) (ha:RtV w F va x) (hb:RtV w F vb y) (hlx:rl x<=20000) (hly:rl y<=20000) :
  Calls GI 44 #[va,vb] w (Ret w λv w'=>RtV w' (Ext F w.heap.size) v (x+y)):=by
 have lx:=fU x;have lx2:=fV x;have ly:=fU y;have ly2:=fV y;obtain⟨p,hp⟩:=Gp (x.num.natAbs*y.den);obtain⟨q,hq⟩:=Gp (y.num.natAbs*x.den);obtain⟨D,hD⟩:=Gp (x.den*y.den);have hlp:(dig p).length<=40000:=by rw[hp];exact He (dY _ _) FI
 have hlq:(dig q).length<=40000:=by rw[hq];exact He (dY _ _) FI
 have hlD:(dig D).length<=40000:=by rw[hD];exact He (dY _ _) FI
 have hls:=wK p q;have hlm1:=aV (Nat.sub_le p q);have hlm2:=aV (Nat.sub_le q p);have hal:=anv x y;rw[<-hp,<-hq,<-hD] at hal;have HML:=Ag hal;have HP:=Ag hp;have HQ:=Ag hq;have HDD:=Ag hD;have hd0:D≠0:=by rw[hD];exact JC x.den_nz y.den_nz
 clear hal hp hq hD;refine zdf ?_;intro HX HY;obtain⟨A,c,B,d,rfl,hn,hd⟩:=ha.open;obtain⟨A',c',B',d',rfl,hn',hd'⟩:=hb.open;clear hn hd hn' hd' ha hb;go_in;go_wp2_with fail
 generalize hW:G5 _ _=W;refine zcF ?_;clear hW HX HY;intro rz hB hz;intro HX HY hz x0 x1 x2 y0 y1 y2;obtain⟨_,_,hh,hn,hd⟩:=HX.o;refine zbG ?_;intro HNX HDX;cases hh;clear hn hd;obtain⟨_,_,hh,hn,hd⟩:=HY.o;refine zbH ?_;intro HNY HDY;cases hh;clear hn hd;refine wp_region_held_drew (S:=λw'=>w'.cell? ⟨w.heap.size,0,none⟩=some (G7 (ak x).neg)/\w'.cell? ⟨w.heap.size,1,none⟩=some (Gw A (ak x).num.length c)/\w'.cell? ⟨w.heap.size,2,none⟩=some (Gw B (ak x).den.length d)/\w'.cell? ⟨w.heap.size+1,0,none⟩=some (G7 (ak y).neg)/\w'.cell? ⟨w.heap.size+1,1,none⟩=some (Gw A' (ak y).num.length c')/\w'.cell? ⟨w.heap.size+1,2,none⟩=some (Gw B' (ak y).den.length d')) aj ⟨x0,x1,x2,y0,y1,y2⟩ (λhHeld=>?_);refine Yx ?_;intro hb;refine Zh ?_;clear x0 x1 x2 y0 y1 y2 HX HY HNX HNY HDX HDY;intro x0 x1 x2 y0 y1 y2 HX HY HNX HNY HDX HDY;refine ZA ?_;clear rz hz hB hb;intro rz hz hB;generalize W.drew=wn at *;refine tkm [0,1,2,3,5,6,7,8,10,11,12,13] ?_;refine tk2 4 aj rfl λK hK=>?_
 go_simp;refine(iH _ _ _ _ x.num.natAbs y.den HNX.o HDY.o FI FI).mono ?_;rintro e wn ⟨vp,rfl,hb,hu⟩;rw[<-HP.o] at hu;have HVP:=Ag (hu.mono (G:=(Ext (Old F w.heap.size) (w.heap.size+3))) (λb hb _=>.inr FI));clear hu;refine Zh ?_;clear x0 x1 x2 y0 y1 y2 HX HY HNX HNY HDX HDY;intro x0 x1 x2 y0 y1 y2 HX HY HNX HNY HDX HDY;refine ZL ?_;clear rz hz hB hb hHeld hK K;intro rz hz hB hHeld;refine tk2 9 aj rfl λK hK=>?_
 go_simp;refine(iH _ _ _ _ y.num.natAbs x.den HNY.o HDX.o FI FI).mono ?_;rintro e wn ⟨vq,rfl,hb,hu⟩;rw[<-HQ.o] at hu;have HVQ:=Ag (hu.mono (G:=(Ext (Old F w.heap.size) (w.heap.size+3))) (λb hb _=>.inr FI));clear hu;refine Zh ?_;clear x0 x1 x2 y0 y1 y2 HX HY HNX HNY HDX HDY;intro x0 x1 x2 y0 y1 y2 HX HY HNX HNY HDX HDY;replace HVP:=Ag (HVP.o.below hb);refine ZL ?_;clear rz hz hB hb hHeld hK K;intro rz hz hB hHeld;refine tk2 14 aj rfl λK hK=>?_
 go_simp;refine(iH _ _ _ _ x.den y.den HDX.o HDY.o FI FI).mono ?_;rintro e wn ⟨vD,rfl,hb,hu⟩;rw[<-HDD.o] at hu;have HVD:=Ag (hu.mono (G:=(Ext (Old F w.heap.size) (w.heap.size+3))) (λb hb _=>.inr FI));clear hu;refine Zh ?_;clear x0 x1 x2 y0 y1 y2 HX HY HNX HNY HDX HDY;intro x0 x1 x2 y0 y1 y2 HX HY HNX HNY HDX HDY;replace HVP:=Ag (HVP.o.below hb);replace HVQ:=Ag (HVQ.o.below hb);refine ZL ?_;clear rz hz hB hb hHeld hK K;intro rz hz hB hHeld;refine tkm [15,16,17] ?_;refine Z8 ?_;clear hHeld;by_cases hs:(ak x).neg=(ak y).neg
 ·have hbb:((ak x).neg==(ak y).neg)=true:=by simp[hs]
  have HJ:=Ag (show mkRat (sgI (ak x).neg (p+q)) D=x+y by rw[<-HML.o,<-jl x,<-jl y,<-hs,aep]);clear hs;go_wp2_with fail
  refine Zw ?_;intro hHeld hb;clear x0 x1 x2 y0 y1 y2 HX HY HNX HNY HDX HDY;intro x0 x1 x2 y0 y1 y2 HX HY HNX HNY HDX HDY;refine Yl ?_;clear HVP HVQ HVD;intro HVP HVQ HVD;refine ZA ?_;clear rz hz hB hb;intro rz hz hB;generalize wn.drew=wn at *;refine tkm [0,1,2,3,5] ?_;refine tk2 4 aj rfl λK hK=>?_
  go_simp;refine(ajR _ _ _ _ p q HVP.o HVQ.o FI FI).mono ?_;rintro e wn ⟨vs,rfl,hb,hu⟩;have HVS:=Ag (hu.mono (G:=(Ext (Old F w.heap.size) (w.heap.size+3))) (λb hb _=>.inr FI));clear hu;refine Zh ?_;clear x0 x1 x2 y0 y1 y2 HX HY HNX HNY HDX HDY;intro x0 x1 x2 y0 y1 y2 HX HY HNX HNY HDX HDY;refine Yl ?_;clear HVP HVQ HVD;intro HVP HVQ HVD;refine ZL ?_;clear rz hz hB hb hHeld hK K;intro rz hz hB hHeld;refine tk2 6 aj rfl λK hK=>?_
  go_simp;refine(l9 _ (Ext (Old F w.heap.size) (w.heap.size+3)) _ _ _ (p+q) D HVS.o HVD.o hd0 FI FI).mono ?_;rintro e wn ⟨vm,rfl,hb,hu⟩;have hu2:RtV wn (Ext (Old F w.heap.size) (w.heap.size+3)) vm (x+y):=by rw[HJ.o] at hu;exact hu.mono (λb hb _=>hb.elim id λh=>.inr FI)
  have HM:=Ag hu2;obtain⟨Am,cm,Bm,dm,rfl,hn,hd⟩:=hu2.open;clear hn hd hu hu2;refine Zh ?_;clear x0 x1 x2 y0 y1 y2 HX HY HNX HNY HDX HDY;intro x0 x1 x2 y0 y1 y2 HX HY HNX HNY HDX HDY;refine Yl ?_;clear HVP HVQ HVD;intro HVP HVQ HVD;replace HVS:=Ag (HVS.o.below hb);refine za1 ?_;clear rz hz hB hb hHeld hK K x0 x1 x2 y0 y1 y2;intro rz hz hB;intro q0 y0 q1 y1 q2 y2;go_wp2
  refine Z4 ?_;go_wp2
  refine zch ?_;clear q0 q1 q2 y0 y1 y2;intro Wz hrz hwz hkz;intro t0 t1 t2;refine bodyPost_ret (v:=.agg #[G7 (ak (x+y)).neg,Gw Am (ak (x+y)).num.length cm,Gw Bm (ak (x+y)).den.length dm]) (by simp[results,Tryz.results44,go_sem,t0,t1,t2]) rfl ?_;exact Zq
 ·have hbb:((ak x).neg==(ak y).neg)=false:=by simp[hs]
  go_wp2_with fail
  refine(vO _ _ _ _ p q HVP.o HVQ.o FI FI).mono ?_;rintro e wn ⟨_,rfl,hb,rfl⟩;refine Zh ?_;clear x0 x1 x2 y0 y1 y2 HX HY HNX HNY HDX HDY;intro x0 x1 x2 y0 y1 y2 HX HY HNX HNY HDX HDY;refine Yl ?_;clear HVP HVQ HVD;intro HVP HVQ HVD;refine zbj ?_;clear rz hz hB hb;intro rz hz hB;by_cases hpq:q<=p
  ·have hord:decide (0<=bZ p q)=true:=LK (by unfold bZ; split <;> (try split) <;> omega);have HJ:=Ag (show mkRat (sgI (ak x).neg (p - q)) D=x+y by rw[<-HML.o,<-jl x,<-jl y,ajf hs hpq]);have HPQ:=Ag hpq;clear hs hpq;generalize bZ p q=od at *;go_wp2_with fail
   refine Zw ?_;intro hHeld hb;clear x0 x1 x2 y0 y1 y2 HX HY HNX HNY HDX HDY;intro x0 x1 x2 y0 y1 y2 HX HY HNX HNY HDX HDY;refine Yl ?_;clear HVP HVQ HVD;intro HVP HVQ HVD;refine ZA ?_;clear rz hz hB hb;intro rz hz hB;generalize wn.drew=wn at *;refine tkm [0,1,2,3,5] ?_;refine tk2 4 aj rfl λK hK=>?_
   go_simp;refine(zG _ _ _ _ p q HVP.o HVQ.o HPQ.o FI).mono ?_;rintro e wn ⟨vs,rfl,hb,hu⟩;obtain⟨ls,As,cs,hvs,hns,agI,howns⟩:=hu;subst hvs;have hcs:=rM howns agI;rw[hns] at hcs;have HVS:=Ag (show Ah wn (Ext (Old F w.heap.size) (w.heap.size+3)) (Gw As (eF ls ls.length) cs) (p - q) from Aj.keep (G:=(Ext (Old F w.heap.size) (w.heap.size+3))) hcs.limbs (λb hb _=>.inr FI) (GZ _ _));clear howns agI hns hcs;refine Zh ?_;clear x0 x1 x2 y0 y1 y2 HX HY HNX HNY HDX HDY;intro x0 x1 x2 y0 y1 y2 HX HY HNX HNY HDX HDY;refine Yl ?_;clear HVP HVQ HVD;intro HVP HVQ HVD;refine ZL ?_;clear rz hz hB hb hHeld hK K;intro rz hz hB hHeld;refine tk2 6 aj rfl λK hK=>?_
   go_simp;refine(l9 _ (Ext (Old F w.heap.size) (w.heap.size+3)) _ _ _ (p - q) D HVS.o HVD.o hd0 FI FI).mono ?_;rintro e wn ⟨vm,rfl,hb,hu⟩;have hu2:RtV wn (Ext (Old F w.heap.size) (w.heap.size+3)) vm (x+y):=by rw[HJ.o] at hu;exact hu.mono (λb hb _=>hb.elim id λh=>.inr FI)
   have HM:=Ag hu2;obtain⟨Am,cm,Bm,dm,rfl,hn,hd⟩:=hu2.open;clear hn hd hu hu2;refine Zh ?_;clear x0 x1 x2 y0 y1 y2 HX HY HNX HNY HDX HDY;intro x0 x1 x2 y0 y1 y2 HX HY HNX HNY HDX HDY;refine Yl ?_;clear HVP HVQ HVD;intro HVP HVQ HVD;replace HVS:=Ag (HVS.o.below hb);refine za1 ?_;clear rz hz hB hb hHeld hK K x0 x1 x2 y0 y1 y2;intro rz hz hB;intro q0 y0 q1 y1 q2 y2;go_wp2
   refine Z4 ?_;go_wp2
   refine zch ?_;clear q0 q1 q2 y0 y1 y2;intro Wz hrz hwz hkz;intro t0 t1 t2;refine bodyPost_ret (v:=.agg #[G7 (ak (x+y)).neg,Gw Am (ak (x+y)).num.length cm,Gw Bm (ak (x+y)).den.length dm]) (by simp[results,Tryz.results44,go_sem,t0,t1,t2]) rfl ?_;exact Zq
  ·have hord:decide (0<=bZ p q)=false:=LJ (by unfold bZ; split <;> (try split) <;> omega);have HJ:=Ag (show mkRat (sgI (ak y).neg (q - p)) D=x+y by rw[<-HML.o,<-jl x,<-jl y,ajg hs FI]);have HPQ:=Ag (show p<=q by omega);clear hs hpq;generalize bZ p q=od at *;go_wp2_with fail
   refine Zw ?_;intro hHeld hb;clear x0 x1 x2 y0 y1 y2 HX HY HNX HNY HDX HDY;intro x0 x1 x2 y0 y1 y2 HX HY HNX HNY HDX HDY;refine Yl ?_;clear HVP HVQ HVD;intro HVP HVQ HVD;refine ZA ?_;clear rz hz hB hb;intro rz hz hB;generalize wn.drew=wn at *;refine tkm [0,1,2,3,5] ?_;refine tk2 4 aj rfl λK hK=>?_
   go_simp;refine(zG _ _ _ _ q p HVQ.o HVP.o HPQ.o FI).mono ?_;rintro e wn ⟨vs,rfl,hb,hu⟩;obtain⟨ls,As,cs,hvs,hns,agI,howns⟩:=hu;subst hvs;have hcs:=rM howns agI;rw[hns] at hcs;have HVS:=Ag (show Ah wn (Ext (Old F w.heap.size) (w.heap.size+3)) (Gw As (eF ls ls.length) cs) (q - p) from Aj.keep (G:=(Ext (Old F w.heap.size) (w.heap.size+3))) hcs.limbs (λb hb _=>.inr FI) (GZ _ _));clear howns agI hns hcs;refine Zh ?_;clear x0 x1 x2 y0 y1 y2 HX HY HNX HNY HDX HDY;intro x0 x1 x2 y0 y1 y2 HX HY HNX HNY HDX HDY;refine Yl ?_;clear HVP HVQ HVD;intro HVP HVQ HVD;refine ZL ?_;clear rz hz hB hb hHeld hK K;intro rz hz hB hHeld;refine tk2 6 aj rfl λK hK=>?_
   go_simp;refine(l9 _ (Ext (Old F w.heap.size) (w.heap.size+3)) _ _ _ (q - p) D HVS.o HVD.o hd0 FI FI).mono ?_;rintro e wn ⟨vm,rfl,hb,hu⟩;have hu2:RtV wn (Ext (Old F w.heap.size) (w.heap.size+3)) vm (x+y):=by rw[HJ.o] at hu;exact hu.mono (λb hb _=>hb.elim id λh=>.inr FI)
   have HM:=Ag hu2;obtain⟨Am,cm,Bm,dm,rfl,hn,hd⟩:=hu2.open;clear hn hd hu hu2;refine Zh ?_;clear x0 x1 x2 y0 y1 y2 HX HY HNX HNY HDX HDY;intro x0 x1 x2 y0 y1 y2 HX HY HNX HNY HDX HDY;refine Yl ?_;clear HVP HVQ HVD;intro HVP HVQ HVD;replace HVS:=Ag (HVS.o.below hb);refine za1 ?_;clear rz hz hB hb hHeld hK K x0 x1 x2 y0 y1 y2;intro rz hz hB;intro q0 y0 q1 y1 q2 y2;go_wp2
   refine Z4 ?_;go_wp2
   refine zch ?_;clear q0 q1 q2 y0 y1 y2;intro Wz hrz hwz hkz;intro t0 t1 t2;refine bodyPost_ret (v:=.agg #[G7 (ak (x+y)).neg,Gw Am (ak (x+y)).num.length cm,Gw Bm (ak (x+y)).den.length dm]) (by simp[results,Tryz.results44,go_sem,t0,t1,t2]) rfl ?_;exact Zq
theorem akf (w:GK) (F:Gq) (v:GN) (x:Rat) (hv:RtV w F v x) :
  Calls GI 123 #[v] w (Ret w λu _=>u = G7 (decide (x=0))):=by
 obtain⟨A,c,B,d,rfl,hn,hd⟩:=hv.open;clear hn hd hv;rw[jl,oD];generalize (ak x).den.length=dl;by_cases h:x=0
 ·exact zd9
 ·exact zd4
theorem agJ {x:Rat}:ak (-x)=⟨!dh x&&decide (0 < (dig x.num.natAbs).length),dig x.num.natAbs,dig x.den⟩:=by grind [ak,Rat.neg_num,Rat.neg_den,ajF,alg,bD,kP]
theorem alY (w:GK) (F:Gq) (v:GN) (x:Rat) (hv:RtV w F v x) :
  Calls GI 122 #[v] w (Ret w λu w'=>RtV w' F u (-x)):=by
 have HX:=Ag hv.old;obtain⟨A,c,B,d,rfl,hn,hd⟩:=hv.open;clear hn hd hv;rw[jl,oD];have HM:=Ag (agJ (x:=x));obtain⟨ng,hng⟩:=Gp (dh x);rw[<-hng];have HNG:=Ag hng;clear hng;by_cases h0:0 < (dig x.num.natAbs).length
 ·have d0:decide (0 < (dig x.num.natAbs).length)=true:=LK h0;have HMM:=Ag (show ak (-x)=⟨!ng,dig x.num.natAbs,dig x.den⟩ by rw[HM.o,d0,HNG.o]; simp);clear HM h0;cases ng
  ·go_in;go_wp2
   obtain⟨W,hW,hr,hr2,hB,hz⟩:=alloc2 w 42 #[G7 true,Gw A (dig x.num.natAbs).length c,Gw B (ak x).den.length d] 42 #[G7 true,Gw A (dig x.num.natAbs).length c,Gw B (ak x).den.length d];rw[<-hW];clear hW;have t0:=hr2.cell (i:=0) rfl;have t1:=hr2.cell (i:=1) rfl;have t2:=hr2.cell (i:=2) rfl;refine bodyPost_ret (v:=.agg #[G7 true,Gw A (dig x.num.natAbs).length c,Gw B (ak x).den.length d]) (by simp[results,KD,go_sem,t0,t1,t2]) rfl ?_;exact ZR
  ·go_in;go_wp2
   refine Yi ?_;intro W hr hr2 hB hz t0 t1 t2;refine bodyPost_ret (v:=.agg #[G7 false,Gw A (dig x.num.natAbs).length c,Gw B (ak x).den.length d]) (by simp[results,KD,go_sem,t0,t1,t2]) rfl ?_;exact ZR
 ·have d0:decide (0 < (dig x.num.natAbs).length)=false:=LJ h0;have HMM:=Ag (show ak (-x)=⟨false,dig x.num.natAbs,dig x.den⟩ by rw[HM.o,d0]; simp);clear HM;cases ng
  ·go_in;go_wp2
   refine Yi ?_;intro W hr hr2 hB hz t0 t1 t2;refine bodyPost_ret (v:=.agg #[G7 false,Gw A (dig x.num.natAbs).length c,Gw B (ak x).den.length d]) (by simp[results,KD,go_sem,t0,t1,t2]) rfl ?_;exact ZR
  ·go_in;go_wp2
   refine Yi ?_;intro W hr hr2 hB hz t0 t1 t2;refine bodyPost_ret (v:=.agg #[G7 false,Gw A (dig x.num.natAbs).length c,Gw B (ak x).den.length d]) (by simp[results,KD,go_sem,t0,t1,t2]) rfl ?_;exact ZR
theorem anw {n:Int} (hn:n≠0):dig n.natAbs=(n.natAbs % LB) :: dig (n.natAbs / LB):=qx FI
theorem abe (w:GK) (n:Int) (h1:-1000000000000<=n) (h2:n<=1000000000000) :
  Calls GI 64 #[GV GU n] w (Ret w λv w'=>Ah w' (λb=>w.heap.size<=b) v n.natAbs):=by
 go_in;go_wp2
 go_loopw [0,3,4] (λu v _ wr=>∃ (m:Int) (l:List Nat),u = GV GU m∧-1000000000000<=m/\m<=1000000000000/\l++dig m.natAbs=dig n.natAbs/\wr.ownsRow w.heap.size 103 1 v l.length (aW l)/\Below w.heap.size w wr) (λu _ _ _=>(intOf u).natAbs)
 case atStart=>exact⟨n,[],rfl,h1,h2,rfl,J8 _ _ _ _,GR _ _⟩
 case round =>
  obtain⟨m,l,rfl,hm1,hm2,hd,hown,hbel⟩:=hrel;have HD:=Ag hd;have HO:=Ag hown;have hll:l.length<=1000000:=by
   have h1:(dig n.natAbs).length<=3:=bC (by unfold LB; omega);exact zdw
  clear hd hown;by_cases h0:m=0
  ·subst h0;go_wp2
   go_ret;refine zaI ?_;have h2:=HD.o;rw[Int.natAbs_zero,bK,List.append_nil] at h2;unfold Ah;rw[<-h2];exact jd HO.o λb hb=>(HO.o.lt b hb).1
  ·have hne:(m != 0)=true:=by simp[h0]
   have HD2:=Ag (show l ++ [m.natAbs % 1000000000]++dig (m.natAbs / 1000000000)=dig n.natAbs by rw[<-HD.o,anw h0]; simp[LB]);obtain⟨r,hr⟩:∃ r:Nat,r=m.natAbs % 1000000000:=⟨_,rfl⟩;obtain⟨m2,adT⟩:∃ m2:Nat,m2=m.natAbs / 1000000000:=⟨_,rfl⟩;rw[<-hr,<-adT] at HD2;have hr9:r < 1000000000:=FI;have HLT:=Ag (show m2 < m.natAbs by omega);have hm2b:m2<=1000000000000:=FI;have key:(m=(m.natAbs:Int)/\0 < m)\/(m = -(m.natAbs:Int)/\m < 0):=FI;obtain⟨k,hk⟩:=Gp m.natAbs;rw[<-hk] at hr adT HLT key;rcases key with⟨hme,hp⟩ | ⟨hme,hp⟩
   ·have ht:m.tmod 1000000000=(r:Int):=by rw[hme,hr];rfl
    have hq:m.tdiv 1000000000=(m2:Int):=by rw[hme,adT];rfl
    have hmx:(if -(r:Int) > (r:Int) then -(r:Int) else (r:Int))=(r:Int):=LG FI;have hnl:¬ ((r:Int) < -(r:Int)):=FI;have HK:=Ag hk;clear hr adT h0 hme hk;go_wp2_with (at_builtin; refine bV rfl _ _ 40 Ie rfl w.heap.size (Gy _) u3 l rfl _ r FI hll rfl HO.o hbel ?_; intro g cap w' hown' bG hlt' gZ; have HO':=Ag hown'; clear hown' gZ)
    go_roundw
    case rel=>exact⟨(m2:Int),l ++ [r],by go_num,FI,FI,by rw[Int.natAbs_natCast]; exact HD2.o,by simpa using HO'.o,bG⟩
    case measure=>simp only[intOf]; have:=HLT.o; have:=HK.o; omega
   ·have ht:m.tmod 1000000000 = -(r:Int):=by rw[hme,hr,Int.neg_tmod];rfl
    have hq:m.tdiv 1000000000 = -(m2:Int):=by rw[hme,adT,Int.neg_tdiv];rfl
    have HK:=Ag hk;clear hr adT h0 hme hk;go_wp2_with (at_builtin; refine bV rfl _ _ 40 Ie rfl w.heap.size (Gy _) u3 l rfl _ r FI hll rfl HO.o hbel ?_; intro g cap w' hown' bG hlt' gZ; have HO':=Ag hown'; clear hown' gZ)
    go_roundw
    case rel=>exact⟨-(m2:Int),l ++ [r],by go_num,FI,FI,by rw[Int.natAbs_neg,Int.natAbs_natCast]; exact HD2.o,by simpa using HO'.o,bG⟩
    case measure=>simp only[intOf]; have:=HLT.o; have:=HK.o; omega
theorem akg (n:Int):mkRat (sgI (decide (n < 0)) n.natAbs) 1=(n:Rat):=by
 have h:sgI (decide (n < 0)) n.natAbs=n:=by grind [sgI]
 rw[h];exact(Rat.ext (by rw[Rat.num_mkRat]; simp) (by rw[Rat.den_mkRat]; simp))
theorem akh (a b:Int) (hb:b≠0):mkRat (sgI (decide (a < 0) != decide (b < 0)) a.natAbs) b.natAbs=(a:Rat) / (b:Rat):=by
 have e:(a:Rat) / (b:Rat)=Rat.divInt a b:=(Rat.divInt_eq_div a b).symm;rw[e];have hb2:b=sgI (decide (b < 0)) b.natAbs:=by unfold sgI;by_cases h:b < 0 <;> simp[h] <;> omega
 grind [sgI,Rat.divInt_ofNat,Rat.divInt_neg']
theorem dZ (w:GK) (n:Int) (h1:-1000000000000<=n) (h2:n<=1000000000000) :
  Calls GI 31 #[GV GU n] w (Ret w λv w'=>RtV w' (λb=>w.heap.size<=b) v (n:Rat)):=by
 have hl:(dig n.natAbs).length<=50000:=by have:(dig n.natAbs).length<=3:=bC (by unfold LB; omega);omega
 have HW:=Ag (akg n);obtain⟨ng,hng⟩:=Gp (decide (n < 0));rw[<-hng] at HW;go_in;go_wp2_with fail
 generalize hW:G5 _ _=W;refine zbI ?_;clear hW;intro hr hB hz;refine(abe W n h1 h2).mono ?_;rintro e wn ⟨vn,rfl,hb,hu⟩;refine zbh ?_;clear hu hr hz hB hb;intro HN hr hz hB;go_wp2_with fail
 obtain⟨W2,hW2,hr2,hb,hz2⟩:=dW wn 103 #[.int .u32 1];have hone:Ah W2 (λb=>w.heap.size+1<=b) (Gw (some ⟨wn.heap.size,0,none⟩) 1 1) 1:=by rw[hW2];exact(agD wn).mono (λb hb _=>by omega)
 rw[<-hW2];clear hW2 hr2 hz2;replace HN:=Ag (HN.o.below hb);refine Ye ?_;clear hr hz hB hb;intro hr hz hB;have Bh:=Ag hone;clear hone;rw[<-hng];refine(l9 _ (λb=>w.heap.size+1<=b) ng _ _ n.natAbs 1 HN.o Bh.o au hl (by rw[ji]; simp)).mono ?_;rintro e wn ⟨vm,rfl,hb,hu⟩;rw[HW.o] at hu;have hu2:RtV wn (λb=>w.heap.size+1<=b) vm (n:Rat):=hu.mono (λb hb _=>hb.elim id λh=>by omega);have HM:=Ag hu2;obtain⟨Am,cm,Bm,dm,rfl,hn,hd⟩:=hu2.open;clear hn hd hu hu2;replace HN:=Ag (HN.o.below hb);replace Bh:=Ag (Bh.o.below hb);refine Ye ?_;clear hr hz hB hb;intro hr hz hB;refine Zt ?_;intro q0 y0 q1 y1 q2 y2;go_wp2
 obtain⟨Wz,hWz,hrz,hwz,hkz⟩:=aY hr (G7 (ak (n:Rat)).neg) (Gw Am (ak (n:Rat)).num.length cm) (Gw Bm (ak (n:Rat)).den.length dm);refine Zg ?_;clear hWz q0 q1 q2 y0 y1 y2;intro t0 t1 t2;refine bodyPost_ret (v:=.agg #[G7 (ak (n:Rat)).neg,Gw Am (ak (n:Rat)).num.length cm,Gw Bm (ak (n:Rat)).den.length dm]) (by simp[results,Tryz.results31,go_sem,t0,t1,t2]) rfl ?_;exact zak
theorem acY (w:GK) (a b:Int) (ha1:-1000000000000<=a) (ha2:a<=1000000000000) (hb1:-1000000000000<=b) (hb2:b<=1000000000000) (hb0:b≠0) :
  Calls GI 128 #[GV GU a,GV GU b] w (Ret w λv w'=>RtV w' (λb=>w.heap.size<=b) v ((a:Rat) / (b:Rat))):=by
 have hla:(dig a.natAbs).length<=50000:=by have:(dig a.natAbs).length<=3:=bC (by unfold LB; omega);omega
 have hlb:(dig b.natAbs).length<=50000:=by have:(dig b.natAbs).length<=3:=bC (by unfold LB; omega);omega
 have HW:=Ag (akh a b hb0);have agB:b.natAbs≠0:=FI;obtain⟨na,hna⟩:=Gp (decide (a < 0));obtain⟨nb,hnb⟩:=Gp (decide (b < 0));rw[<-hna,<-hnb] at HW;clear hb0;go_in;go_wp2_with fail
 rw[<-hna,<-hnb];generalize hW:G5 _ _=W;refine zbI ?_;clear hW;intro hr hB hz;refine(abe W a ha1 ha2).mono ?_;rintro e wn ⟨vn,rfl,hb,hu⟩;refine zbh ?_;clear hu hr hz hB hb;intro HN hr hz hB;go_wp2_with fail
 refine(abe _ b hb1 hb2).mono ?_;rintro e wn ⟨vd,rfl,hb,hu⟩;refine zcl ?_;clear hu HN;intro HD HN;clear hr hz hB hb;intro hr hz hB;dsimp only;go_wp2_with fail
 refine(l9 _ (λb=>w.heap.size+1<=b) _ _ _ a.natAbs b.natAbs HN.o HD.o agB hla hlb).mono ?_;rintro e wn ⟨vm,rfl,hb,hu⟩;have hu2:RtV wn (λb=>w.heap.size+1<=b) vm ((a:Rat) / (b:Rat)):=by rw[show(!decide (a < 0)==decide (b < 0))=(na != nb) by rw[hna,hnb]; rfl,HW.o] at hu;exact hu.mono (λb hb _=>hb.elim id λh=>by omega)
 have HM:=Ag hu2;obtain⟨Am,cm,Bm,dm,rfl,hn,hd⟩:=hu2.open;clear hn hd hu hu2;replace HN:=Ag (HN.o.below hb);replace HD:=Ag (HD.o.below hb);refine Ye ?_;clear hr hz hB hb;intro hr hz hB;refine Zt ?_;intro q0 y0 q1 y1 q2 y2;go_wp2
 obtain⟨Wz,hWz,hrz,hwz,hkz⟩:=aY hr (G7 (ak ((a:Rat) / (b:Rat))).neg) (Gw Am (ak ((a:Rat) / (b:Rat))).num.length cm) (Gw Bm (ak ((a:Rat) / (b:Rat))).den.length dm);refine Zg ?_;clear hWz q0 q1 q2 y0 y1 y2;intro t0 t1 t2;refine bodyPost_ret (v:=.agg #[G7 (ak ((a:Rat) / (b:Rat))).neg,Gw Am (ak ((a:Rat) / (b:Rat))).num.length cm,Gw Bm (ak ((a:Rat) / (b:Rat))).den.length dm]) (by simp[results,Tryz.results128,go_sem,t0,t1,t2]) rfl ?_;exact zak
def Fact.ao1 (B:Nat) (t:TypeId) (l:List GN):Fact:=⟨λv w=>∃ b,v = .pointer (some ⟨b,0,none⟩)/\B<=b/\Row w b t l,λ_ _ _ ⟨b,h1,h2,h3⟩ hb=>⟨b,h1,h2,h3.below hb h3.lt⟩⟩
theorem pK (w:GK) (F:Gq) (va vb:GN) (x y:Rat) (ha:RtV w F va x) (hb:RtV w F vb y) (hlx:rl x<=20000) (hly:rl y<=20000) :
  Calls GI 82 #[va,vb] w (Ret w λv _=>v = GV GU (iR x y)):=by
 have HO:=Ag (alj x y);have hny:=aog y;refine zdf ?_;intro HX HY;obtain⟨A,c,B,d,rfl,hn,hd⟩:=ha.open;obtain⟨A',c',B',d',rfl,hn',hd'⟩:=hb.open;clear hn hd hn' hd' ha hb;go_in;go_wp2_with fail
 generalize hW:G5 _ _=W;obtain⟨rx,ry,hB,hz⟩:=gW hW;clear hW;replace HX:=Ag (HX.o.on (GL hB _));replace HY:=Ag (HY.o.on (GL hB _));have hz:w.heap.size+2<=W.heap.size:=hz;refine Zd ?_;intro x0 x1 x2;have y0:=ry.cell (i:=0) rfl;have y1:=ry.cell (i:=1) rfl;have y2:=ry.cell (i:=2) rfl;clear rx ry;refine aP (λw'=>w'.cell? ⟨w.heap.size,0,none⟩=some (G7 (ak x).neg)/\w'.cell? ⟨w.heap.size,1,none⟩=some (Gw A (ak x).num.length c)/\w'.cell? ⟨w.heap.size,2,none⟩=some (Gw B (ak x).den.length d)/\w'.cell? ⟨w.heap.size+1,0,none⟩=some (G7 (ak y).neg)/\w'.cell? ⟨w.heap.size+1,1,none⟩=some (Gw A' (ak y).num.length c')/\w'.cell? ⟨w.heap.size+1,2,none⟩=some (Gw B' (ak y).den.length d')) 5 1 aj rfl aj ⟨x0,x1,x2,y0,y1,y2⟩ λhHeld=>?_
 refine Zo ?_;refine Yx ?_;intro hb;refine Za ?_;clear x0 x1 x2 y0 y1 y2 HX HY;intro x0 x1 x2 y0 y1 y2 HX HY;refine Zf ?_;clear hz hB hb;intro hz hB;generalize W.drew=wn at *;refine tkm [0,1] ?_;refine jH (js:=[2,3,4]) ((Hold.cell (w.heap.size) 0 (G7 (ak x).neg)).and ((Hold.cell (w.heap.size) 1 (Gw A (ak x).num.length c)).and ((Hold.cell (w.heap.size) 2 (Gw B (ak x).den.length d)).and ((Hold.cell (w.heap.size+1) 0 (G7 (ak y).neg)).and ((Hold.cell (w.heap.size+1) 1 (Gw A' (ak y).num.length c')).and ((Hold.cell (w.heap.size+1) 2 (Gw B' (ak y).den.length d')).and ((Hold.of (Fact.raw (Old F w.heap.size) (ak x)) (.agg #[G7 (ak x).neg,Gw A (ak x).num.length c,Gw B (ak x).den.length d])).and ((Hold.of (Fact.raw (Old F w.heap.size) (ak y)) (.agg #[G7 (ak y).neg,Gw A' (ak y).num.length c',Gw B' (ak y).den.length d'])).and (Hold.below (w.heap.size+2) wn))))))))) [(2,Fact.raw (Ext (Old F w.heap.size) (w.heap.size+2)) (ak (-y))),(3,Fact.raw (Ext (Old F w.heap.size) (w.heap.size+2)) (ak (x + -y))),(4,Fact.ao1 (w.heap.size+2) 42 [G7 false,Gw none 0 0,Gw none 0 0])] aj ⟨x0,x1,x2,y0,y1,y2,HX.o,HY.o,⟨hz,(GR _ _).mono (Gy _)⟩⟩ (λ_ h=>⟨h.1,h.2.1,h.2.2.1,h.2.2.2.1,h.2.2.2.2.1,h.2.2.2.2.2.1⟩) ?_;refine Flow.cons (o:=_) rfl (λwk hS hf K hK=>?_) (λv2=>?_)
 ·go_simp;refine(alY wk (Old F w.heap.size) _ y hS.2.2.2.2.2.2.2.1).mono ?_;rintro e w' ⟨u,rfl,hb,hu⟩;exact hK.out _ _ hb (Ak.mono hu (λb hb _=>.inl hb))
 refine Zb ?_;refine Flow.cons (o:=_) rfl (λwk hS hf K hK=>?_) (λv3=>?_)
 ·have f2:=aX (hf (2,v2) aA aj) rfl;go_simp;refine(mg wk (Ext (Old F w.heap.size) (w.heap.size+2)) _ _ x (-y) (Ak.mono hS.2.2.2.2.2.2.1 (λb hb _=>.inl hb)) f2 hlx FI).mono ?_;rintro e w' ⟨u,rfl,hb,hu⟩;have hw2:=hS.2.2.2.2.2.2.2.2.1;exact hK.out _ _ hb (Ak.mono hu (λb hb _=>hb.elim id λh=>.inr FI))
 refine Zb ?_;refine Flow.cons (o:=_) rfl (λwk hS hf K hK=>?_) (λv4=>?_)
 ·go_simp;exact hK.out _ _ ((GR _ _).alloc (Gy _) _) ⟨_,rfl,hS.2.2.2.2.2.2.2.2.1,Row.new wk 42 #[G7 false,Gw none 0 0,Gw none 0 0]⟩
 refine Zb ?_;refine Flow.nil (λwE hS hf=>?_);have f3:=aX (hf (3,v3) aA) rfl;have f4:=aX (hf (4,v4) aA) rfl;have hBe:=hS.2.2.2.2.2.2.2.2.2;obtain⟨A6,c6,B6,d6,hv6,_,_⟩:=Ak.open f3;dsimp only at hv6;subst hv6;obtain⟨bd,hv4,hbd,hrd⟩:=f4;dsimp only at hv4;subst hv4;have hBE:Below w.heap.size w wE:=hB.trans (hBe.mono FI);clear hf hS f3 x0 x1 x2 y0 y1 y2;refine zdr ?_;have q0:=hrd.cell (i:=0) rfl;have z0:=hrd.frozen 0;have q1:=hrd.cell (i:=1) rfl;have z1:=hrd.frozen 1;have q2:=hrd.cell (i:=2) rfl;have z2:=hrd.frozen 2;go_wp2_with fail
 refine Z4 ?_;obtain⟨W2,hW2,aos,hw2,_⟩:=aY hrd (G7 (ak (x + -y)).neg) (Gw A6 (ak (x + -y)).num.length c6) (Gw B6 (ak (x + -y)).den.length d6);rw[<-hW2];have hB2:Below w.heap.size w W2:=hw2 _ _ FI hBE;clear hW2 q0 q1 q2 z0 z1 z2;have q0:=aos.cell (i:=0) rfl;have q1:=aos.cell (i:=1) rfl;have q2:=aos.cell (i:=2) rfl;have HSG:oz (x + -y)=if (x + -y).num.natAbs=0 then 0 else if dh (x + -y) then -1 else 1:=rfl
 have HSGN:=Ag HSG;clear HSG;rw[oD] at q1;rw[jl] at q0;by_cases h0:(x + -y).num.natAbs=0
 ·have HE:=Ag (show iR x y=0 by rw[HO.o,HSGN.o,LH h0]);have hl0:(((dig (x + -y).num.natAbs).length:Int)==0)=true:=by rw[h0,bK];rfl
  clear h0;exact zdP
 ·have hl0:(((dig (x + -y).num.natAbs).length:Int)==0)=false:=by have:=bD.2 h0;exact beq_false_of_ne FI
  have HE1:=Ag (show iR x y=if dh (x + -y) then -1 else 1 by rw[HO.o,HSGN.o,LG h0]);clear h0;generalize dh (x + -y)=ng at *;cases ng
  ·have HE:=Ag (show iR x y=1 from HE1.o);exact zdP
  ·have HE:=Ag (show iR x y = -1 from HE1.o);exact zdP
theorem yC (w:GK) (n:Nat) (h2:n<=1000000000000) :
  Calls GI 97 #[GV GU (n:Int)] w (Ret w λv w'=>Ah w' (λb=>w.heap.size<=b) v n):=by
 go_in;go_wp2
 go_loopw [0,3] (λu v wr=>∃ (m:Nat) (l:List Nat),u = GV GU (m:Int)/\m<=1000000000000/\l++dig m=dig n/\wr.ownsRow w.heap.size 103 1 v l.length (aW l)/\Below w.heap.size w wr) (λu _ _=>(intOf u).natAbs)
 case atStart=>exact⟨n,[],rfl,h2,rfl,J8 _ _ _ _,GR _ _⟩
 case round =>
  obtain⟨m,l,rfl,hm2,hd,hown,hbel⟩:=hrel;have HD:=Ag hd;have HO:=Ag hown;have hll:l.length<=1000000:=by
   have h1:(dig n).length<=3:=bC (by unfold LB; omega);exact zdw
  clear hd hown;by_cases h0:m=0
  ·exact YZ
  ·have hne:decide (0 < m)=true:=aB;have HD2:=Ag (show l ++ [m % 1000000000]++dig (m / 1000000000)=dig n by rw[<-HD.o,qx h0]; simp[LB]);obtain⟨r,hr⟩:∃ r:Nat,r=m % 1000000000:=⟨_,rfl⟩;obtain⟨m2,adT⟩:∃ m2:Nat,m2=m / 1000000000:=⟨_,rfl⟩;rw[<-hr,<-adT] at HD2;have hr9:r < 1000000000:=FI;have HLT:=Ag (show m2 < m by omega);have hm2b:m2<=1000000000000:=FI;have ht:(m:Int).tmod 1000000000=(r:Int):=by rw[hr];rfl
   have hq:(m:Int).tdiv 1000000000=(m2:Int):=by rw[adT];rfl
   clear hr adT h0;go_wp2_with (at_builtin; refine bV rfl _ _ 40 Ie rfl w.heap.size (Gy _) u3 l rfl _ r FI hll rfl HO.o hbel ?_; intro g cap w' hown' bG hlt' gZ; have HO':=Ag hown'; clear hown' gZ)
   go_roundw
   case rel=>exact⟨m2,l ++ [r],by go_num,hm2b,HD2.o,by simpa using HO'.o,bG⟩
   case measure=>simp only[intOf]; have:=HLT.o; omega
theorem ajm (w:GK) (a b:Nat) (h1:a<=1000000000000) (h2:b<=1000000000000) :
  Calls GI 96 #[GV GU (a:Int),GV GU (b:Int)] w (Ret w λv _=>v = GV GU (Hr a b:Int)):=by
 go_in;go_wp2
 go_loopw [0,1] (λu v wr=>∃ (x y:Nat),u = GV GU (x:Int)/\v = GV GU (y:Int)/\x<=1000000000000/\y<=1000000000000/\Hr x y=Hr a b/\Below w.heap.size w wr) (λ_ v _=>(intOf v).natAbs)
 case atStart=>exact⟨a,b,rfl,rfl,h1,h2,rfl,GR _ _⟩
 case round =>
  obtain⟨x,y,rfl,rfl,hx,hy,hg,hbel⟩:=hrel;have HG:=Ag hg;clear hg;by_cases h0:y=0
  ·subst h0;have hmx:(if -(x:Int) > (x:Int) then -(x:Int) else (x:Int))=(x:Int):=LG FI;have hnl:¬ ((x:Int) < -(x:Int)):=FI;go_wp2
   go_ret;refine zaI ?_;have:=HG.o;rw[Nat.gcd_zero_right] at this;rw[<-this];first | rfl | (rw[hmx]) | (simp[hnl])
  ·have hne:((y:Int) != 0)=true:=aB;obtain⟨r,hr⟩:∃ r:Nat,r=x % y:=⟨_,rfl⟩;have ht:(x:Int).tmod (y:Int)=(r:Int):=by rw[hr];rfl
   have hlt:r < y:=by rw[hr];exact Ja _ FI
   have HG2:=Ag (show Hr y r=Hr a b by rw[<-HG.o,hr,IK x y,Nat.gcd_rec y x,IK]);clear hr;have hy0:(y:Int)≠0:=FI;go_wp2
   go_quiet (fail)
   go_wp2
   go_roundw
   case rel=>exact⟨y,r,rfl,by go_num,hy,FI,HG2.o,aG hbel _⟩
   case measure=>simp only[intOf]; omega
theorem pO (neg:Bool) (n b:Nat) (hb:b≠0):ak (mkRat (sgI neg n) b)=⟨neg&&decide (n≠0),dig (n / Hr n b),dig (b / Hr n b)⟩:=by
 have h:=jZ (sgI neg n) hb;grind [vF,ak,lT,aag]
theorem aki (w:GK) (n b:Nat) (h1:n<=1000000000000) (h2:b<=1000000000000) (hb0:b≠0) :
  Calls GI 49 #[GV GU (n:Int),GV GU (b:Int)] w (Ret w λv w'=>RtV w' (λb=>w.heap.size<=b) v (mkRat (sgI false n) b)):=by
 have HM:=Ag (pO false n b hb0);refine zbf ?_;clear HM;intro hg0 HGN HG;generalize Hr n b=g at *;have e1:n / g<=n:=J3 _ _;have e2:b / g<=b:=J3 _ _;have t2:(b:Int).tdiv (g:Int)=((b / g:Nat):Int):=rfl;have hgz:(g:Int)≠0:=FI;have t1:(n:Int).tdiv (g:Int)=((n / g:Nat):Int):=rfl;have hbn:(false&&decide (n≠0))=false:=rfl;rw[hbn];have h1':n<=1000000000000:=h1;obtain⟨q,hq⟩:=Gp (n / g);obtain⟨d,hd⟩:=Gp (b / g);rw[<-hq] at t1 e1 ⊢;rw[<-hd] at t2 e2 ⊢;clear hq hd hbn;have hmx:(if -(n:Int) > (n:Int) then -(n:Int) else (n:Int))=(n:Int):=LG FI;have hnl:¬ ((n:Int) < -(n:Int)):=FI;have hlt:decide ((q:Int) < 0)=false:=LJ FI;go_in;go_wp2_with fail
 generalize hW:G5 _ _=W;refine zbI ?_;clear hW;intro hr hB hz;try rw[hmx]
 refine(HG.o _).mono ?_;rintro e wn ⟨vn,rfl,hb,rfl⟩;refine Ye ?_;clear hr hz hB hb;intro hr hz hB;dsimp only;go_wp2_with fail
 go_quiet (fail)
 have hb:Below wn.heap.size wn (wn.drewN nq):=aG (GR _ wn) nq;refine Ye ?_;clear hr hz hB hb;intro hr hz hB;generalize wn.drewN nq=wn at *;go_wp2_with fail
 refine(yC _ q FI).mono ?_;rintro e wn ⟨vn,rfl,hb,hu⟩;refine zbh ?_;clear hu hr hz hB hb;intro HN hr hz hB;go_wp2_with fail
 refine(yC _ d FI).mono ?_;rintro e wn ⟨vd,rfl,hb,hu⟩;refine zcl ?_;clear hu HN;intro HD HN;clear hr hz hB hb;intro hr hz hB;have hn:=HN.o;have hd:=HD.o;obtain⟨Am,cm,rfl,_,_⟩:=hn;obtain⟨Bm,dm,rfl,_,_⟩:=hd;refine Zt ?_;intro q0 y0 q1 y1 q2 y2;go_wp2
 obtain⟨Wz,hWz,hrz,hwz,hkz⟩:=aY hr (G7 false) (Gw Am (dig q).length cm) (Gw Bm (dig d).length dm);refine Zg ?_;clear hWz q0 q1 q2 y0 y1 y2;intro t0 t1 t2;refine bodyPost_ret (v:=.agg #[G7 false,Gw Am (dig q).length cm,Gw Bm (dig d).length dm]) (by simp[results,Tryz.results49,go_sem,t0,t1,t2]) rfl ?_;exact zbJ
theorem akj (w:GK) (n b:Nat) (h1:n<=1000000000000) (h2:b<=1000000000000) (hb0:b≠0) (hn0:n≠0) :
  Calls GI 49 #[GV GU (-(n:Int)),GV GU (b:Int)] w (Ret w λv w'=>RtV w' (λb=>w.heap.size<=b) v (mkRat (sgI true n) b)):=by
 have HM:=Ag (pO true n b hb0);refine zbf ?_;clear HM;intro hg0 HGN HG;generalize Hr n b=g at *;have e1:n / g<=n:=J3 _ _;have e2:b / g<=b:=J3 _ _;have t2:(b:Int).tdiv (g:Int)=((b / g:Nat):Int):=rfl;have hgz:(g:Int)≠0:=FI;have t1:(-(n:Int)).tdiv (g:Int) = -((n / g:Nat):Int):=by rw[Int.neg_tdiv];rfl
 have hq0:0 < n / g:=Nat.div_pos (Nat.le_of_dvd FI HGN.o) hg0;have hbn:(true&&decide (n≠0))=true:=by simp[hn0]
 rw[hbn];have h1':n<=1000000000000:=h1;obtain⟨q,hq⟩:=Gp (n / g);obtain⟨d,hd⟩:=Gp (b / g);rw[<-hq] at t1 e1 ⊢;rw[<-hd] at t2 e2 ⊢;rw[<-hq] at hq0;clear hq hd hbn;have hmx:(if - -(n:Int) > -(n:Int) then - -(n:Int) else -(n:Int))=(n:Int):=by rw[LH FI];omega
 have hnl:(-(n:Int) < - -(n:Int)):=FI;have hnl2:(-(n:Int) < (n:Int)):=FI;have hlt:decide (-(q:Int) < 0)=true:=LK FI;have hlt2:decide (0 < q)=true:=LK hq0;go_in;go_wp2_with fail
 generalize hW:G5 _ _=W;refine zbI ?_;clear hW;intro hr hB hz;try rw[hmx]
 refine(HG.o _).mono ?_;rintro e wn ⟨vn,rfl,hb,rfl⟩;refine Ye ?_;clear hr hz hB hb;intro hr hz hB;dsimp only;go_wp2_with fail
 go_quiet (fail)
 have hb:Below wn.heap.size wn (wn.drewN nq):=aG (GR _ wn) nq;refine Ye ?_;clear hr hz hB hb;intro hr hz hB;generalize wn.drewN nq=wn at *;go_wp2_with fail
 refine(yC _ q FI).mono ?_;rintro e wn ⟨vn,rfl,hb,hu⟩;refine zbh ?_;clear hu hr hz hB hb;intro HN hr hz hB;go_wp2_with fail
 refine(yC _ d FI).mono ?_;rintro e wn ⟨vd,rfl,hb,hu⟩;refine zcl ?_;clear hu HN;intro HD HN;clear hr hz hB hb;intro hr hz hB;have hn:=HN.o;have hd:=HD.o;obtain⟨Am,cm,rfl,_,_⟩:=hn;obtain⟨Bm,dm,rfl,_,_⟩:=hd;refine Zt ?_;intro q0 y0 q1 y1 q2 y2;go_wp2
 obtain⟨Wz,hWz,hrz,hwz,hkz⟩:=aY hr (G7 true) (Gw Am (dig q).length cm) (Gw Bm (dig d).length dm);refine Zg ?_;clear hWz q0 q1 q2 y0 y1 y2;intro t0 t1 t2;refine bodyPost_ret (v:=.agg #[G7 true,Gw Am (dig q).length cm,Gw Bm (dig d).length dm]) (by simp[results,Tryz.results49,go_sem,t0,t1,t2]) rfl ?_;exact zbJ
theorem akk (w:GK) (a:Int) (b:Nat) (h1:-1000000000000<=a) (h2:a<=1000000000000) (h3:b<=1000000000000) (hb0:b≠0) :
  Calls GI 49 #[GV GU a,GV GU (b:Int)] w (Ret w λv w'=>RtV w' (λb=>w.heap.size<=b) v (mkRat a b)):=by
 obtain⟨n,rfl | rfl⟩:=Int.eq_nat_or_neg a
 all_goals grind [aki,sgI,akj]
def abM:List (List Rat):=[[1,1].map λx=>mkRat x 2,[1,1].map λx=>mkRat x 2,[1,1,1].map λx=>mkRat x 3]
theorem Row.zM {w:GK} {l:List Int} (h:Row w b 3 (l.map (Value.int .i64))) (hF:F b):AL w F (Gw (some ⟨b,0,none⟩) l.length l.length) l:=by
 refine⟨_,_,rfl,Gy _,λ_=>⟨b,0,rfl,hF,h.lt,λk x hk=>?_⟩⟩;unfold lU;rw[I5,Ho];exact h.cell (by rw[GY,hk]; rfl)
theorem ao2 {w:GK} {v1 v2 v3:GN} {l1 l2 l3:List Raw} (h:Row w b 28 [v1,v2,v3]) (hF:F b) (h1:Gs w F v1 l1) (h2:Gs w F v2 l2) (h3:Gs w F v3 l3):Gt w F (Gw (some ⟨b,0,none⟩) 3 3) [l1,l2,l3]:=by
 refine⟨_,_,rfl,Gy _,λ_=>⟨b,0,rfl,hF,h.lt,λk x hk=>?_⟩⟩;rw[I5,Ho];match k,hk with
 | 0,hk=>cases hk; exact⟨v1,h.cell rfl,h1⟩
 | 1,hk=>cases hk; exact⟨v2,h.cell rfl,h2⟩
 | 2,hk=>cases hk; exact⟨v3,h.cell rfl,h3⟩
theorem pX:rl 1=1:=by unfold rl; rw[show(1:Rat).num=1 from rfl,show(1:Rat).den=1 from rfl,show(1:Int).natAbs=1 from rfl,ji]; rfl
theorem acZ (x:Rat) (h:dF (ak x)=0):fD (ak x)=if dh x=true\/0 < iR x 1 then 2 else 0:=by
 unfold fD;rw[LG (by simpa using h),uJ];rfl
theorem akl (w:GK) (F:Gq) (v:GN) (r:Raw) (hv:Ak w F v r) (hu:U32 r) (hln:r.num.length<=100000) (hld:r.den.length<=100000) (hT:BF w) :
  Calls GI 99 #[v] w (Ret w λu _=>u = GV GU (fD r)):=by
 have HV:=Ag hv.old;obtain⟨A,c,B,d,rfl,hn,hd⟩:=hv.open;clear hv hn hd;have HU:=Ag hu;clear hu;have HTT:=Ag hT;clear hT;go_in;go_wp2_with fail
 generalize hW:G5 _ _=W;obtain⟨rx,hB,hz⟩:=aI hW;clear hW;replace HTT:=Ag (HTT.o.on hB);replace HV:=Ag (HV.o.on (GL hB _));refine Zd ?_;intro x0 x1 x2;clear rx;have hz:w.heap.size+1<=W.heap.size:=FI;go_wp2_with fail
 refine(qF W _ _ r HV.o HU.o hln hld HTT.o).mono ?_;rintro e wn ⟨_,rfl,hb,rfl⟩;refine Zx ?_;clear x0 x1 x2;intro x0 x1 x2;replace HV:=Ag (HV.o.below hb);refine Zf ?_;clear hz hB hb;intro hz hB;clear HTT;by_cases h1:dF r=0
 ·obtain⟨⟨x,rfl⟩,h2,h3⟩:=yu h1;have hrl:rl x<=1024:=by unfold rl;exact Nat.max_le.2 ⟨h2,h3⟩
  have t1:(dF (ak x) != 0)=false:=by rw[h1];rfl
  have HE:=Ag (acZ x h1);have HB:=Ag (show(ak x).neg=dh x from rfl);clear h1 h2 h3 hln hld HU;generalize dF (ak x)=re at *;by_cases hneg:dh x=true
  ·have HF:=Ag (HE.o.trans (LH (.inl hneg)));have e1:(ak x).neg=true:=by rw[HB.o];exact hneg
   clear hneg HB HE;dsimp only;go_wp2
   go_ret;exact⟨_,rfl,hB,by rw[HF.o]; rfl⟩
  ·have e1:(ak x).neg=false:=by rw[HB.o];simpa using hneg
   have HF:=Ag (HE.o.trans (show(if dh x=true\/0 < iR x 1 then (2:Int) else 0)=if 0 < iR x 1 then 2 else 0 by
    by_cases h:0 < iR x 1
    ·rw[LH h,LH (.inr h)]
    ·rw[LG h,LG (λk=>k.elim hneg h)]))
   clear hneg HB HE;obtain⟨o,ho⟩:=Gp (iR x 1);rw[<-ho] at HF;have HO:=Ag ho;clear ho;by_cases hgt:0 < o
   ·skip
    have d1:decide (0 < o)=true:=LK hgt;rw[e1] at HV x0;have HG:=Ag (HF.o.trans (LH hgt));clear hgt HF;dsimp only;exact Yg
   ·skip
    have d1:decide (0 < o)=false:=LJ hgt;rw[e1] at HV x0;have HG:=Ag (HF.o.trans (LG hgt));clear hgt HF;dsimp only;exact Yg
 ·have t1:(dF r != 0)=true:=by simp[h1]
  have HE:=Ag (show fD r=dF r by unfold fD; rw[LH h1]);clear h1;generalize dF r=re at *;dsimp only;go_wp2
  go_ret;exact⟨_,rfl,hB,by rw[HE.o]; rfl⟩
theorem abN (w:GK) (F:Gq) (v:GN) (xs:List Rat) (hv:CB w F v xs) (hl:xs.length<=100000) (hx:∀ x∈xs,rl x<=100000) :
  Calls GI 70 #[v] w (Ret w λu w'=>DZ w' (Ext F w.heap.size) u xs):=by
 obtain⟨A,c,rfl,hc,hN⟩:=hv;rw[Gz] at hc hN;have HN:=Ag hN;clear hN;have HX:=Ag hx;clear hx;show Calls _ _ #[Gw A (xs.map ak).length c] _ _;rw[Gz];go_in;go_wp2
 go_loopw [3,8] (λu i wr=>∃ (k:Nat) (L:List RV),k<=xs.length/\i = GV GU (k:Int)/\L.length=k/\L.map RV.r=(xs.take k).map ay/\Bj wr w.heap.size 74 (Old F w.heap.size) u L/\Below w.heap.size w wr) (λ_ i _=>xs.length - (intOf i).toNat)
 case atStart=>exact⟨0,[],FI,rfl,rfl,rfl,Bj.nil _ _ _ _,GR _ _⟩
 case round =>
  obtain⟨k,L,hk,rfl,hlen,hmap,hown,hbel⟩:=hrel;have HM:=Ag hmap;have HO:=Ag hown;have HLL:=Ag hlen;clear hmap hown hlen;have hz:=hbel.size;by_cases hlt:k < xs.length
  ·obtain⟨b,o,rfl,hF,hb,hx⟩:=HN.o FI;obtain⟨x,hx'⟩:=Gl hlt;obtain⟨ex0,⟨vn,ex1,hn⟩,⟨vd,ex2,hd⟩⟩:=hx k (ak x) (by rw[GY,hx']; rfl);have hold:=aK hbel;have HXE:=Ag hx';have hrl:=HX.o x (Gx hx');have HR:=Ag (Ak.below (r:=ak x) (Ak.old (Ak.make (r:=ak x) rfl hn hd)) hbel);obtain⟨A1,c1,rfl,_,_⟩:=hn;obtain⟨A2,c2,rfl,_,_⟩:=hd;replace ex1:w.cell? ⟨b,o+k*3+1,none⟩=some (Gw A1 (dig x.num.natAbs).length c1):=ex1;replace ex2:w.cell? ⟨b,o+k*3+2,none⟩=some (Gw A2 (dig x.den).length c2):=ex2;clear hx hx';go_wp2_with fail
   generalize hW2:G5 _ _=W2;obtain⟨rz,hB2,hzz⟩:=aI hW2;clear hW2;replace HR:=Ag (HR.o.below hB2);replace HO:=Ag (HO.o.below hB2);have fC:=hbel.trans (hB2.mono hz);refine zcX ?_;intro x0 x1 x2;clear hold hB2;go_wp2_with fail
   refine(kU W2 _ _ x HR.o hrl).mono ?_;rintro e wn ⟨u,rfl,hb2,hu⟩;replace HO:=Ag (HO.o.below hb2);have kZ:=fC.trans (hb2.mono fC.size);have hz3:=kZ.size;obtain⟨q,hq,rfl,bH⟩:=Ak.rv hu;have HQ:=Ag hq;have HF:=Ag bH;clear hu x0 x1 x2 rz hb2 fC hq bH;dsimp only[RV.cells];go_wp2_with (at_builtin; refine wV (F:=Old F w.heap.size) rfl _ _ 61 74 Tryz.underlying61 Tryz.infoNum rfl w.heap.size (Gy _) u3 L rfl q (by have:=HLL.o; omega) rfl HO.o (HF.o.keep (λb hb _=>⟨hb,λe=>by have:=(HO.o.row.lt b e).1; have:=hb.2; omega⟩) (GZ _ _)) kZ ?_; intro g cap w' hown' bG hlt'; have HO':=Ag hown'; clear hown')
   go_roundw
   case rel=>exact⟨k+1,L ++ [q],FI,by go_num,by rw[List.length_append,HLL.o]; rfl,by rw[Hf,HM.o,Gv HXE.o,Hf]; show _ ++ [q.r]=_ ++ [ay x]; rw[HQ.o],HO'.o,bG⟩
   case measure=>exact zMs
  ·go_wp2
   go_ret;have hall:xs.take k=xs:=G8 FI;refine zaI ?_;have:=HO.o.raws (G:=Ext F w.heap.size) (λb hb=>.inl hb.1) (λb hb=>.inr hb);rw[HM.o,hall] at this;exact this
theorem sum_any (w:GK) (F:Gq) (v:GN) (xs:List Rat) (hv:DZ w F v xs) (hl:xs.length<=100000) (hx:∀ x∈xs,rl x<=20000) (hs:∀ k,rl (jm (xs.take k))<=20000) :
  Calls GI 71 #[v] w (Ret w λu w'=>NmV w' (Ext F w.heap.size) u (jm xs)):=by
 obtain⟨A,c,rfl,hc,hN⟩:=hv;rw[Gz] at hc hN;have HN:=Ag hN;clear hN;have HX:=Ag hx;clear hx;have HS:=Ag hs;clear hs;show Calls _ _ #[Gw A (xs.map ay).length c] _ _;rw[Gz];go_in;go_wp2_with fail
 generalize hW:G5 _ _=W;obtain⟨ry,rz,hB,hz⟩:=gW hW;clear hW;have hz:w.heap.size+2<=W.heap.size:=hz;have hry:=Ag ry;have hrz:=Ag rz;clear ry rz;try go_wp2
 go_loopw [8] (λi wr=>∃ (k:Nat) (s:Rat) (A':Option Addr) (c':Nat) (B':Option Addr) (d':Nat),k<=xs.length/\i = GV GU (k:Int)/\s=jm (xs.take k)/\Row wr w.heap.size 74 [G7 false,Gw none 0 0,Gw none 0 0]/\Row wr (w.heap.size+1) 74 [G7 (ay s).neg,Gw A' (ay s).num.length c',Gw B' (ay s).den.length d'] /\
  NmV wr (Ext (Old F w.heap.size) (w.heap.size+2)) (.agg #[G7 (ay s).neg,Gw A' (ay s).num.length c',Gw B' (ay s).den.length d']) s/\Below w.heap.size w wr/\w.heap.size+2<=wr.heap.size) (λi _=>xs.length - (intOf i).toNat)
 case atStart =>
  have h0:ay 0=⟨false,[],[]⟩:=by unfold ay;rw[LH (show(0:Rat).den=1 from rfl),show(0:Rat).num=0 from rfl,Int.natAbs_zero,bK];rfl
  refine⟨0,0,none,0,none,0,FI,rfl,rfl,hry.o,?_,?_,hB,hz⟩
  ·rw[h0];exact hrz.o
  ·rw[h0];exact NmV.zero _ _ _ _ _ _
 case round =>
  clear hry hrz hB hz;obtain⟨k,s,A',c',B',d',hk,rfl,hsum,hry,hrz,hnm,hB,hz⟩:=hrel;have HSU:=Ag hsum;have HNM:=Ag hnm;clear hsum hnm;have hrs:=HS.o k;rw[<-HSU.o] at hrs;by_cases hlt:k < xs.length
  ·obtain⟨b,o,rfl,hF,hb,hx⟩:=HN.o FI;obtain⟨x,hx'⟩:=Gl hlt;obtain⟨ex0,⟨vn,ex1,hn⟩,⟨vd,ex2,hd⟩⟩:=hx k (ay x) (by rw[GY,hx']; rfl);have hold:=aK hB;have HXE:=Ag hx';have hrl:=HX.o x (Gx hx');have HR:=Ag (Ak.mono (G:=Ext (Old F w.heap.size) (w.heap.size+2)) (Ak.below (r:=ay x) (Ak.old (Ak.make (r:=ay x) rfl hn hd)) hB) (λb hb _=>.inl hb));obtain⟨A1,c1,rfl,_,_⟩:=hn;obtain⟨A2,c2,rfl,_,_⟩:=hd;clear hx hx';have y0:=λo=>(hrz.alloc o).cell (i:=0) rfl;have y1:=λo=>(hrz.alloc o).cell (i:=1) rfl;have y2:=λo=>(hrz.alloc o).cell (i:=2) rfl
   go_wp2_with fail
   generalize hW2:G5 _ _=W2;obtain⟨rz,hB2,hzz⟩:=aI hW2;clear hW2;replace HR:=Ag (HR.o.below hB2);replace HNM:=Ag (HNM.o.below hB2);replace hry:=hry.below hB2 hry.lt;replace hrz:=hrz.below hB2 hrz.lt;replace hB:=hB.trans (hB2.mono hB.size);refine zcX ?_;intro x0 x1 x2;clear y0 y1 y2;have y0:=hrz.cell (i:=0) rfl;have y1:=hrz.cell (i:=1) rfl;have y2:=hrz.cell (i:=2) rfl;clear hold hB2;go_wp2_with fail
   refine(acW W2 _ _ _ s x HNM.o HR.o hrs hrl).mono ?_;rintro e wn ⟨u,rfl,hb2,hu⟩;replace hu:NmV wn (Ext (Old F w.heap.size) (w.heap.size+2)) u (s+x):=hu.mono (λb hb _=>hb.elim id λh=>.inr FI);have HU:=Ag hu;obtain⟨A4,c4,B4,d4,rfl,hn,hd⟩:=hu.open;clear hn hd hu;replace hry:=hry.below hb2 hry.lt;replace hrz:=hrz.below hb2 hrz.lt;replace hB:=hB.trans (hb2.mono hB.size);have hz2:=hb2.size;clear x0 x1 x2 rz y0 y1 y2 hb2;refine zcg ?_;intro q0 y0 q1 y1 q2 y2;dsimp only;go_wp2_with fail
   obtain⟨Wz,hWz,hrw,hwz,hkz⟩:=aY hrz (G7 (ay (s+x)).neg) (Gw A4 (ay (s+x)).num.length c4) (Gw B4 (ay (s+x)).den.length d4);rw[<-hWz];clear q0 q1 q2 y0 y1 y2;have hryz:Row Wz w.heap.size 74 [G7 false,Gw none 0 0,Gw none 0 0]:=by
    rw[hWz];exact((hry.other (a:=⟨w.heap.size+1,0,none⟩) aA _).other (a:=⟨w.heap.size+1,1,none⟩) aA _).other (a:=⟨w.heap.size+1,2,none⟩) aA _
   have hsz:Wz.heap.size=wn.heap.size:=by rw[hWz];simp
   clear hWz;have HUU:=Ag (HU.o.keep (λb hb _=>hb) (hkz (Ext (Old F w.heap.size) (w.heap.size+2)) (λh=>h.elim (λh=>by have:=h.2; omega) λh=>by omega)));go_roundw
   case rel=>exact⟨k+1,s+x,A4,c4,B4,d4,FI,by go_num,by rw[Gv HXE.o,oG,<-HSU.o],hryz,hrw,HUU.o,hwz _ _ FI hB,FI⟩
   case measure=>exact zMs
  ·have hall:xs.take k=xs:=G8 FI;have HF:=Ag (show s=jm xs by rw[HSU.o,hall]);clear hall;have p0:=hrz.cell (i:=0) rfl;have p1:=hrz.cell (i:=1) rfl;have p2:=hrz.cell (i:=2) rfl;have q0:=hry.cell (i:=0) rfl;have y0:=hry.frozen 0;have q1:=hry.cell (i:=1) rfl;have y1:=hry.frozen 1;have q2:=hry.cell (i:=2) rfl;have y2:=hry.frozen 2;go_wp2
   obtain⟨Wz,hWz,hrz,hwz,hkz⟩:=aY hry (G7 (ay s).neg) (Gw A' (ay s).num.length c') (Gw B' (ay s).den.length d');refine Zg ?_;clear hWz q0 q1 q2 y0 y1 y2;intro t0 t1 t2;refine bodyPost_ret (v:=.agg #[G7 (ay s).neg,Gw A' (ay s).num.length c',Gw B' (ay s).den.length d']) (by simp[results,Tryz.results71,go_sem,t0,t1,t2]) rfl ?_;exact⟨_,rfl,hwz _ _ FI hB,by rw[<-HF.o]; exact HNM.o.keep (λb hb _=>hb.elim (λh=>.inl h.1) λh=>.inr FI) (hkz _ (λh=>h.elim (λh=>by have:=h.2; omega) λh=>by omega))⟩
theorem Gs.below {w w':GK} {v:GN} {l:List Raw} (h:Gs w F v l) (hb:Below w.heap.size w w'):Gs w' F v l:=h.on (GL hb F)
theorem afp {l:List Raw} (ha:acts[k]? = some a) (hl:m[k]? = some l):(List.zipWith nG acts m)[k]? = some (nG a l):=by grind
theorem mZ {l:List Raw} (hlen:m.length=acts.length) (h0:fZ ((List.zipWith nG acts m).take k)=0) (ha:acts[k]? = some a) (hl:m[k]? = some l) (hne:nG a l≠0):pF acts m=nG a l:=by grind [pF,jG]
theorem aew (hlen:m.length=acts.length) (h0:fZ ((List.zipWith nG acts m).take k)=0) (hk:m.length<=k):pF acts m=0:=by grind [pF,G8]
def Bv (m:List (List Raw)):Prop:=∀ l∈m,l.length<=100000/\∀ r∈l,U32 r/\r.num.length<=100000/\r.den.length<=100000
theorem oW {l:List Raw} {j:Nat} (hla:(l.length:Int)=a) (h0:fZ ((l.map fD).take j)=0) (hr:l[j]? = some r) (hne:fD r≠0):nG a l=fD r:=by
 have hs:nO l=fD r:=jG h0 (by rw[GY,hr]; rfl) hne;grind [nG]
theorem zf {l:List Raw} (hla:(l.length:Int)=a) (h0:nO l=0):nG a l=if iR (jm (l.map gK)) 1≠0 then 14 else 0:=by grind [nG]
theorem aii (w:GK) (F:Gq) (vg vm:GN) (g:Gm) (m:List (List Raw)) (hg:AB w F vg g) (hm:Gt w F vm m) (hT:BF w) (hlm:m.length<=100000) (hli:g.F8.length<=100000) (hb:Bv m) (hact:∀ i∈g.F8,i.actions<=10) :
  Calls GI 51 #[vg,vm] w (Ret w λv _=>v = GV GU (pF (g.F8.map Inf.actions) m)):=by
 obtain⟨vn,vi,rfl,⟨A,c,rfl,hc,hN⟩,⟨Ai,ci,rfl,hci,hI⟩⟩:=hg;obtain⟨Am,cm,rfl,hcm,hM⟩:=hm;have HI:=Ag hI;have HM:=Ag hM;have HBB:=Ag hb;have HA:=Ag hact;have HTT:=Ag hT;clear hN hI hM hb hact hT;obtain⟨acts,aaw⟩:=Gp (g.F8.map Inf.actions);rw[<-aaw];have hal:acts.length=g.F8.length:=by rw[aaw,Gz]
 have HAC:=Ag aaw;clear aaw;by_cases hlen:m.length=g.F8.length
 ·have d1:((m.length:Int) != (g.F8.length:Int))=false:=aB;have HLE:=Ag (show m.length=acts.length by omega);have hle1:m.length<=g.F8.length:=FI;have hle2:g.F8.length<=m.length:=FI;have hle3:m.length<=acts.length:=FI;clear hlen hal;go_in;go_wp2_with fail
  generalize hW:G5 _ _=W;obtain⟨rx,hB,hz⟩:=aI hW;clear hW;refine(lG W 1 au au).mono ?_;rintro e w1 ⟨u,rfl,hb1,hu⟩;obtain⟨one,hone⟩:∃ one:Rat,one=((1:Int):Rat):=⟨_,rfl⟩;rw[<-hone] at hu;have H1:=Ag (show one=1 from hone);clear hone;have Bh:=Ag (hu.mono (G:=λ_=>True) (λ_ _ _=>trivial));obtain⟨A1,c1,B1,d1',rfl,hn,hd⟩:=hu.open;clear hn hd hu;replace rx:=rx.below hb1 rx.lt;replace hB:=hB.trans (hb1.mono hB.size);clear hb1;have hz1:w.heap.size+1<=w1.heap.size:=by have:=rx.lt;omega
  dsimp only;go_wp2
  generalize hW1:G5 _ _=W1;obtain⟨ry,hB1,hzz⟩:=aI hW1;clear hW1;replace Bh:=Ag (Bh.o.below hB1);replace rx:=rx.below hB1 rx.lt;replace hB:=hB.trans (hB1.mono hB.size);replace HTT:=Ag (HTT.o.on hB);replace HI:=Ag (λh=>by
   obtain⟨b,o,h1,h2,h3,h4⟩:=HI.o h;exact(⟨b,o,h1,⟨h2,h3⟩,Hz h3 hB.size,λk x hx=>⟨ah (h4 k x hx).c0 hB,ah (h4 k x hx).c1 hB⟩⟩:∃ b o,Ai=some ⟨b,o,none⟩/\Old F w.heap.size b/\b < W1.heap.size/\∀ k x,g.F8[k]? = some x->Ep W1 (Old F w.heap.size) b (o+k*2) x))
  replace HM:=Ag (Gt.keep (G:=F) (⟨Am,cm,rfl,hcm,HM.o⟩:Gt w F _ m) (λ_ h _=>h) (GL hB F));clear hB1;have g2:=rx.cell (i:=2) rfl;have o0:=ry.cell (i:=0) rfl;have o1:=ry.cell (i:=1) rfl;have o2:=ry.cell (i:=2) rfl;have hgs:w.heap.size < W1.heap.size:=FI;have hos:w1.heap.size < W1.heap.size:=FI;clear rx ry hz hzz;have hz2:=hB.size;go_loopw [20] (λi wr=>∃ k:Nat,k<=m.length/\i = GV GU (k:Int)/\fZ ((List.zipWith nG acts m).take k)=0/\Below W1.heap.size W1 wr) (λi _=>m.length - (intOf i).toNat)
  case atStart=>exact⟨0,FI,rfl,rfl,GR _ _⟩
  case round =>
   obtain⟨k,hk,rfl,hpre,hbel⟩:=hrel;have HP:=Ag hpre;clear hpre;have hold:=aK hbel;have hzr:=hbel.size;by_cases hlt:k < m.length
   ·obtain⟨l,hl⟩:=Gl hlt;obtain⟨inf,bU⟩:=Gl (l:=g.F8) (k:=k) FI;have hak:acts[k]? = some inf.actions:=by rw[HAC.o,GY,bU];rfl
    obtain⟨A0,c0,he,_,hM⟩:=HM.o;cases he;obtain⟨b,o,rfl,hF,hbl,hx⟩:=hM FI;obtain⟨ur,eu,hrow⟩:=hx k l hl;rw[Ho] at eu;have HRW:=Ag hrow;obtain⟨Ar,cr,rfl,hcr,_⟩:=hrow;obtain⟨b2,p2,rfl,hF2,agK,hx2⟩:=HI.o FI;have ei:=(hx2 k inf bU).c1;have hia:inf.actions<=10:=HA.o inf (Gx bU);have bH:=HBB.o l (Gx hl);have HFI:=Ag bH.2;have hll:=bH.1;have HL:=Ag hl;have HK:=Ag hak;clear hx hx2 hM hl bU hak bH;by_cases hact:(l.length:Int)=inf.actions
    ·have d2:((l.length:Int) != inf.actions)=false:=aB;have Dv:=Ag hact;go_wp2
     go_loopw [36] (λi wi=>∃ j:Nat,j<=l.length/\i = GV GU (j:Int)/\fZ ((l.map fD).take j)=0/\Below W1.heap.size W1 wi) (λi _=>l.length - (intOf i).toNat)
     case atStart=>exact⟨0,FI,rfl,rfl,hbel⟩
     case round =>
      clear hold hbel hzr;obtain⟨j,hj,rfl,hpre,hbel⟩:=hrel;have HPJ:=Ag hpre;clear hpre;have hold:=aK hbel;have hzr:=hbel.size;by_cases hlt2:j < l.length
      ·obtain⟨A2,c2,he,_,hR⟩:=HRW.o;cases he;obtain⟨b3,o3,rfl,hF3,hb3,hx3⟩:=hR FI;obtain⟨r,hr⟩:=Gl hlt2;obtain⟨ex0,⟨vn,ex1,hn⟩,⟨vd,ex2,hd⟩⟩:=hx3 j r hr;have HRV:=Ag (Ak.below (Ak.make (r:=r) rfl hn hd) hbel);obtain⟨A4,c4,rfl,_,_⟩:=hn;obtain⟨A5,c5,rfl,_,_⟩:=hd;have hfr:=HFI.o r (Gx hr);have HFR:=Ag hfr.1;have hf2:=hfr.2.1;have hf3:=hfr.2.2;have HRR:=Ag hr;clear hx3 hR hr hfr;go_wp2_with fail
       generalize hW2:G5 _ _=W2;obtain⟨rz,hB2,hzz⟩:=aI hW2;clear hW2;replace HRV:=Ag (HRV.o.below hB2);refine zcX ?_;intro x0 x1 x2;replace hbel:=hbel.trans (hB2.mono hbel.size);clear hold hB2 rz;go_wp2_with fail
       refine(akl W2 F _ r HRV.o HFR.o hf2 hf3 (HTT.o.on hbel)).mono ?_;rintro e wn ⟨_,rfl,hb,rfl⟩;replace hbel:=hbel.trans (hb.mono hbel.size);clear hb x0 x1 x2;have HSE:=Ag (rfl:fD r=fD r);generalize hse:fD r=se at *;have HS2:=Ag hse;clear hse HSE;by_cases hs0:se=0
       ·have t1:(se != 0)=false:=by rw[hs0];rfl
        have HS0:=Ag hs0;clear hs0;dsimp only;go_wp2
        go_roundw
        case rel=>exact⟨j+1,FI,by go_num,jD HPJ.o (by rw[GY,HRR.o]; show some (fD r)=_; rw[HS2.o,HS0.o]),hbel⟩
        case measure=>exact zMs
       ·have t1:(se != 0)=true:=by simp[hs0]
        have hrow:nG inf.actions l=se:=(oW Dv.o HPJ.o HRR.o (by rw[HS2.o]; exact hs0)).trans HS2.o;have HE:=Ag ((mZ HLE.o HP.o HK.o HL.o (by rw[hrow]; exact hs0)).trans hrow);clear hs0 hrow;dsimp only;exact zaS
      ·have hsh:nO l=0:=by
        have:=HPJ.o;rw[G8 aB] at this;exact this
       obtain⟨xs,hxs,hlx⟩:=zF hsh;have hrow:=zf Dv.o hsh;rw[hxs,eU] at hrow;have hxl:xs.length<=10:=by
        have h1:=Dv.o;rw[hxs,Gz] at h1;omega
       have HXS:=Ag hxs;have HRA:=Ag (show CB wr F (Gw Ar l.length cr) xs by
        show Gs wr F _ (xs.map ak);rw[<-HXS.o]; exact HRW.o.on (GL hbel F))
       have hsm:∀ k,rl (jm (xs.take k))<=20000:=λk=>by
        have h1:=afe (xs.take k) (λx hx=>hlx x (List.mem_of_mem_take hx));have h2:(xs.take k).length<=xs.length:=aB;omega
       have hsm2:rl (jm xs)<=20000:=by
        have h1:=afe xs hlx;omega
       have aex:rl one<=20000:=by rw[H1.o,pX];omega
       have AV:=Ag (show nG inf.actions l=if iR (jm xs) one≠0 then 14 else 0 by rw[H1.o]; rw[hxs]; exact hrow);have HLX:=Ag hlx;have HSM:=Ag hsm;clear hsh hxs hrow hlx hsm hold;replace o0:=ah o0 hbel;replace o1:=ah o1 hbel;replace o2:=ah o2 hbel;replace Bh:=Ag (Bh.o.below hbel);go_wp2_with fail
       refine wp_region_held_drew (S:=λw'=>w'.cell? ⟨w1.heap.size,0,none⟩=some (G7 (ay one).neg)/\w'.cell? ⟨w1.heap.size,1,none⟩=some (Gw A1 (ay one).num.length c1)/\w'.cell? ⟨w1.heap.size,2,none⟩=some (Gw B1 (ay one).den.length d1')) aj ⟨o0,o1,o2⟩ (λhHeld=>?_);have hb:Below wr.heap.size wr wr.drew:=aG (GR _ wr) 1;refine zcP ?_;clear o0 o1 o2 HRA Bh;intro o0 o1 o2 HRA Bh;refine Y1 ?_;clear hzr hbel hb;intro hzr hbel;generalize wr.drew=wn at *;refine tkm [0,3] ?_;refine tk2 1 aj rfl λK hK=>?_
       go_simp;refine(abN _ F _ xs HRA.o FI (λx hx=>by have:=HLX.o x hx; omega)).mono ?_;rintro e wn ⟨u,rfl,hb,hu⟩;have HNU:=Ag (Gs.keep (G:=λ_=>True) hu (λ_ _ _=>trivial) (GZ _ _));clear hu;refine zcP ?_;clear o0 o1 o2 HRA Bh;intro o0 o1 o2 HRA Bh;refine Y1 ?_;clear hzr hbel hb;intro hzr hbel;dsimp only;clear hHeld;refine hK.out _ _ ⟨o0,o1,o2⟩ (λhHeld=>?_);clear hK K;refine Zb ?_;refine tk2 2 aj rfl λK hK=>?_
       go_simp;refine(sum_any _ (λ_=>True) _ xs HNU.o FI (λx hx=>by have:=HLX.o x hx; omega) HSM.o).mono ?_;rintro e wn ⟨us,rfl,hb,hu⟩;have HSU:=Ag (Ak.mono (G:=λ_=>True) hu (λ_ _ _=>trivial));clear hu;refine zcP ?_;clear o0 o1 o2 HRA Bh;intro o0 o1 o2 HRA Bh;replace HNU:=Ag (HNU.o.below hb);refine Y1 ?_;clear hzr hbel hb;intro hzr hbel;dsimp only;clear hHeld;refine hK.out _ _ ⟨o0,o1,o2⟩ (λhHeld=>?_);clear hK K;refine Zb ?_;refine tk2 4 aj rfl λK hK=>?_
       go_simp;refine(uO _ (λ_=>True) _ _ (jm xs) one HSU.o Bh.o hsm2 aex).mono ?_;rintro e wn ⟨_,rfl,hb,rfl⟩;refine zcP ?_;clear o0 o1 o2 HRA Bh;intro o0 o1 o2 HRA Bh;replace HNU:=Ag (HNU.o.below hb);replace HSU:=Ag (HSU.o.below hb);refine Y1 ?_;clear hzr hbel hb;intro hzr hbel;dsimp only;clear hHeld;refine hK.out _ _ ⟨o0,o1,o2⟩ (λhHeld=>?_);clear hK K;refine Zb ?_;refine tkm [5] ?_;refine Z8 ?_;clear hHeld;clear o0 o1 o2 HNU HSU;generalize iR (jm xs) one=e0 at *;refine Z4 ?_;by_cases h0:e0=0
       ·have t1:(e0 != 0)=false:=by rw[h0];rfl
        have hr0:nG inf.actions l=0:=by rw[AV.o,LG (by simpa using h0)]
        have HR0:=Ag hr0;clear hr0 h0;go_wp2
        go_roundw
        case rel=>exact⟨k+1,FI,by go_num,jD HP.o (by rw[afp HK.o HL.o,HR0.o]),hbel⟩
        case measure=>exact zMs
       ·refine zdu ?_;clear h0;intro t1 HE;exact zaS
    ·have d2:((l.length:Int) != inf.actions)=true:=aB;have h3:nG inf.actions l=3:=by unfold nG;rw[LH hact]
     have HE:=Ag ((mZ HLE.o HP.o HK.o HL.o (by rw[h3]; decide)).trans h3);exact zaS
   ·have HE:=Ag (aew HLE.o HP.o FI);exact zaS
 ·have d1:((m.length:Int) != (g.F8.length:Int))=true:=aB;have HE:=Ag (show pF acts m=3 by unfold pF; rw[LH FI]);exact zbm
theorem zh (w:GK) (F:Gq) (v:GN) (l:List Nat) (hv:Aj w F v l) (hu:∀ x∈l,x < 4294967296) (hl:l.length<=1000000) :
  Calls GI 153 #[v] w λe w'=>e = .returned (GV GU (dM l))/\w=w':=by
 obtain⟨A,c,rfl,hc,hN⟩:=hv;have HN:=Ag hN;clear hN;have HU:=Ag hu;clear hu;by_cases h1:1024 < l.length
 ·exact zb8
 have d1:decide ((1024:Int) < (l.length:Int))=false:=LJ FI;have H1:=Ag h1;go_in;go_wp2
 go_loopw [3] (λi wr=>∃ k:Nat,k<=l.length/\i = GV GU (k:Int)/\(l.take k).any (λx=>decide (LB<=x))=false/\w=wr) (λi _=>l.length - (intOf i).toNat)
 case atStart=>exact⟨0,FI,rfl,rfl,rfl⟩
 case round =>
  obtain⟨k,hk,rfl,hpre,rfl⟩:=hrel;have HP:=Ag hpre;clear hpre;by_cases hlt:k < l.length
  ·obtain⟨b,o,rfl,_,hb,hx⟩:=HN.o FI;refine zbt ?_;intro x hx' ex;unfold bY at ex;rw[Ho] at ex;have hxu:=HU.o x (Gx hx');have HX:=Ag hx';clear hx hx';by_cases hbad:1000000000<=x
   ·have HE:=Ag (show dM l=3 by
     unfold dM;rw[LG H1.o,LH (List.any_eq_true.2 ⟨x,Gx HX.o,LK hbad⟩)])
    exact zd5
   ·have d2:decide ((1000000000:Int)<=(x:Int))=false:=LJ FI;have HB:=Ag (show(decide (LB<=x))=false from LJ hbad);go_wp2
    go_roundw
    case rel=>exact⟨k+1,FI,by go_num,y9 HX.o HP.o HB.o,by first | rfl | trivial⟩
    case measure=>exact zMs
  ·have HA:=Ag (show l.any (λx=>decide (LB<=x))=false by have:=HP.o; rwa [G8 FI] at this);by_cases h0:0 < l.length
   ·obtain⟨b,o,rfl,_,hb,hx⟩:=HN.o h0;obtain⟨n1,hn1⟩:∃ n1,n1+1=l.length:=⟨l.length - 1,FI⟩;obtain⟨x,hx'⟩:=Gl (l:=l) (k:=n1) FI;have ex:=hx n1 x hx';unfold bY at ex; rw[Ho] at ex;have HX:=Ag (show dM l=if x=0 then 3 else 0 by
     unfold dM;rw[LG H1.o,HA.o,LG au,List.getLast?_eq_getElem?,show l.length - 1=n1 by omega,hx'];simp)
    have i1:(l.length:Int) - 1=(n1:Int):=FI;clear hx hx' hn1;by_cases hz:x=0
    ·exact zdj
    ·exact zcU
   ·have HE:=Ag (show dM l=0 by
     have:l = []:=IQ FI;rw[this]; rfl)
    have d3:decide ((0:Int) < (l.length:Int))=false:=LJ FI;exact ZN
theorem aij (w:GK) (F:Gq) (vn vd:GN) (num den:List Nat) (hn:Aj w F vn num) (hd:Aj w F vd den) (hnu:∀ x∈num,x < 4294967296) (hdu:∀ x∈den,x < 4294967296) (hln:num.length<=1000000) (hld:den.length<=1000000) :
  Calls GI 121 #[vn,vd] w λe w'=>e = .returned (GV GU (dQ num den))/\w=w':=by
 have HN:=Ag hn;have HD:=Ag hd;obtain⟨A,c,rfl,hc,hN⟩:=hn;obtain⟨B,d,rfl,hd,hM⟩:=hd;clear hN hM;have HNU:=Ag hnu;have HDU:=Ag hdu;clear hnu hdu;refine zeg ?_;intro HP;go_in;go_wp2_with fail
 refine(zh w F _ num HN.o HNU.o hln).mono ?_;rintro e w' ⟨rfl,rfl⟩;generalize dM num=e1 at *;by_cases h1:e1=0
 ·have t1:(e1 != 0)=false:=by rw[h1];rfl
  go_wp2_with fail
  refine(zh w F _ den HD.o HDU.o hld).mono ?_;rintro e w' ⟨rfl,rfl⟩;generalize dM den=e2 at *;by_cases h2:e2=0
  ·have t2:(e2 != 0)=false:=by rw[h2];rfl
   by_cases h3:den.length=0
   ·exact zbl
   ·exact zba
  ·exact zcn
 ·exact zdd
theorem agL (h:(dig g).length=1):dig g = [g]:=by grind [bD,iF,nI]
def Di (r:Raw) (g:Nat):Prop:=dF r=if g≠1 then 3 else if r.neg=true/\r.num.length=0 then 3 else 0
theorem akm (h:dF r=if (r.num.length=0/\r.neg=true)\/Hr (aF r.num) (aF r.den)≠1 then 3 else 0) (hg:g=Hr (aF r.num) (aF r.den)):Di r g:=by grind [Di]
theorem uo (w:GK) (F:Gq) (v:GN) (r:Raw) (hv:Ak w F v r) (hu:U32 r) (hln:r.num.length<=100000) (hld:r.den.length<=100000) :
  Calls GI 81 #[v] w (Ret w λu _=>u = GV GU (dF r)):=by
 obtain⟨A,c,B,d,rfl,hn,hd⟩:=hv.open;have HN:=Ag hn;have HD:=Ag hd;clear hv hn hd;refine zcd ?_;clear hu;intro HR HU HK;obtain⟨neg,num,den⟩:=r;dsimp only at *;go_in;go_wp2_with fail
 generalize hW:G5 _ _=W;obtain⟨rx,hB,hz⟩:=aI hW;clear hW;replace HN:=Ag (Aj.on HN.o (GL hB F));replace HD:=Ag (Aj.on HD.o (GL hB F));refine Zd ?_;intro x0 x1 x2;clear rx;have hz:w.heap.size+1<=W.heap.size:=FI;go_wp2_with fail
 refine(aij W F _ _ num den HN.o HD.o HU.o.1 HU.o.2 FI FI).mono ?_;rintro e w' ⟨rfl,rfl⟩;generalize dQ num den=pe at *;by_cases h1:pe=0
 ·have t1:(pe != 0)=false:=by rw[h1];rfl
  have hk:=HK.o h1;have hnn:Ah W F (Gw A num.length c) (aF num):=by unfold Ah;rw[<-hk.1];exact HN.o
  have hdd:Ah W F (Gw B den.length d) (aF den):=by unfold Ah;rw[<-hk.2.1];exact HD.o
  have hl1:(dig (aF num)).length<=50000:=by rw[<-hk.1];have:=hk.2.2.2.1;omega
  have hl2:(dig (aF den)).length<=50000:=by rw[<-hk.2.1];have:=hk.2.2.2.2;omega
  have HNN:=Ag hnn;have HDD:=Ag hdd;have hg0:Hr (aF num) (aF den)≠0:=Lj (Jw _ (JL hk.2.2.1));clear hnn hdd hk HK;obtain⟨g,hg⟩:=Gp (Hr (aF num) (aF den));rw[<-hg] at hg0;have HE:=Ag (akm (r:=⟨neg,num,den⟩) (g:=g) (HR.o.trans (LG (by simpa using h1))) hg);have HG:=Ag hg;have hG0:=Ag hg0;clear h1 HR hg hg0;by_cases hlen:(dig g).length=1
  ·have e1:(((dig g).length:Int) != 1)=false:=by rw[hlen];rfl
   have HDG:=Ag (agL hlen);have hpos:0 < (dig g).length:=FI;clear hlen;have hor:((g:Int) != 1)=true/\dF ⟨neg,num,den⟩=3\/((g:Int) != 1)=false/\(neg=true/\((num.length:Int)==0)=true/\dF ⟨neg,num,den⟩=3\/neg=true/\((num.length:Int)==0)=false/\dF ⟨neg,num,den⟩=0\/neg=false/\dF ⟨neg,num,den⟩=0):=by
    have he:=HE.o;unfold Di at he;by_cases hg:g=1
    ·rw[LG (by simpa using hg)] at he;refine .inr ⟨by rw[hg]; rfl,?_⟩;cases neg
     ·rw[LG aA] at he;exact .inr (.inr ⟨rfl,he⟩)
     ·by_cases h2:num.length=0
      ·rw[LH ⟨rfl,h2⟩] at he;exact .inl ⟨rfl,by rw[h2]; rfl,he⟩
      ·rw[LG (λh=>h2 h.2)] at he;exact .inr (.inl ⟨rfl,beq_false_of_ne FI,he⟩)
    ·rw[LH hg] at he;exact .inl ⟨aB,he⟩
   have two:∀ (b:Bool) (T:Int),dF ⟨neg,num,den⟩=T->True:=λ_ _ _=>trivial
   clear two;rcases hor with⟨e2,he⟩ | ⟨e2,⟨rfl,e3,he⟩ | ⟨rfl,e3,he⟩ | ⟨rfl,he⟩⟩
   ·exact ZC
   ·exact ZC
   ·exact ZC
   ·exact ZC
  ·have e1:(((dig g).length:Int) != 1)=true:=aB;have HT:=Ag (show dF ⟨neg,num,den⟩=3 by
    have he:=HE.o;unfold Di at he;rw[LH (λh=>hlen (by rw[h,ji]; rfl))] at he;exact he)
   clear hlen HE;go_wp2_with fail
   refine(iD W F _ _ (aF num) (aF den) HNN.o HDD.o hl1 hl2).mono ?_;rintro e w1 ⟨va,rfl,hb,hu⟩;rw[<-HG.o] at hu;obtain⟨A1,c1,rfl,_,_⟩:=hu;have hB1:=hB.trans (hb.mono hB.size);refine Zx ?_;clear x0 x1 x2;intro x0 x1 x2;clear hb;dsimp only;go_wp2
   go_ret;exact⟨_,rfl,hB1,by rw[HT.o]; rfl⟩
 ·exact zbF
theorem Aj.below {w w':GK} {v:GN} (h:Aj w F v l) (hb:Below w.heap.size w w'):Aj w' F v l:=h.on (GL hb F)
theorem Aj.mono {w:GK} {G:Gq} {v:GN} (h:Aj w F v l) (hFG:∀ b,F b->b < w.heap.size->G b):Aj w G v l:=h.keep hFG (GZ _ _)
theorem anx (x:Rat):(fP x=5/\dR x=⟨false,[],[]⟩/\(pJ x.num.natAbs=5\/pJ x.num.natAbs=0/\pJ x.den=5))\/(fP x=0/\dR x=ak x/\pJ x.num.natAbs=0/\pJ x.den=0/\sZ x.num.natAbs=dig x.num.natAbs/\sZ x.den=dig x.den):=by grind [fP,dR,pJ,sZ,rl]
theorem aik (w:GK) (F:Gq) (va:GN) (x:Rat) (ha:RtV w F va x) (hl:rl x<=1000000) (ho:fP x=5) (hr:dR x=⟨false,[],[]⟩) (h4:pJ x.num.natAbs=5) :
  Calls GI 47 #[va] w (Ret w λv w'=>∃ u,v = .tuple #[u,GV GU (fP x)]/\Ak w' (λb=>w.heap.size<=b) u (dR x)):=by
 have HO:=Ag ho;have HR:=Ag hr;clear ho hr;have l1:=fU x;have l2:=fV x;have HX:=Ag ha.old;obtain⟨A,c,B,d,rfl,hn,hd⟩:=ha.open;clear hn hd ha;go_in;go_wp2_with fail
 generalize hW:G5 _ _=W;obtain⟨rx,rz,hB,hz⟩:=gW hW;refine Yv ?_;clear hW HX rx;intro HX hz x0 x1 x2;obtain⟨_,_,hh,hn,hd⟩:=HX.o;refine zaF ?_;intro HNX HDX;cases hh;clear hn hd;refine za7 ?_;go_wp2_with fail
 refine(qP _ _ _ x.num.natAbs HNX.o FI).mono ?_;rintro e wn ⟨_,rfl,hb,t4,rfl,hu⟩;refine zdn ?_;intro H4;clear hu;refine Zx ?_;clear x0 x1 x2;intro x0 x1 x2;refine zbx ?_;clear HNX HDX;intro HNX HDX;refine zbj ?_;clear rz hz hB hb;intro rz hz hB;go_wp2_with fail
 refine(qP _ _ _ x.den HDX.o FI).mono ?_;rintro e wn ⟨_,rfl,hb,t5,rfl,hu⟩;refine zd2 ?_;intro H5;generalize pJ x.den=e5 at *;clear hu;refine Zx ?_;clear x0 x1 x2;intro x0 x1 x2;refine zbx ?_;clear HNX HDX;intro HNX HDX;replace H4:=Ag (H4.o.below hb);refine zbj ?_;clear rz hz hB hb;intro rz hz hB;refine Zk ?_;intro q0 y0 q1 y1 q2 y2;go_wp2
 refine zbe ?_;clear q0 q1 q2 y0 y1 y2;intro Wz hrz hwz hkz;intro t0 t1 t2;refine bodyPost_ret (v:=.tuple #[.agg #[G7 false,Gw none 0 0,Gw none 0 0],GV GU 5]) (by simp[results,Tryz.results47,go_sem,t0,t1,t2]) rfl ?_;exact zd6
theorem ail (w:GK) (F:Gq) (va:GN) (x:Rat) (ha:RtV w F va x) (hl:rl x<=1000000) (ho:fP x=5) (hr:dR x=⟨false,[],[]⟩) (h4:pJ x.num.natAbs=0) (h5:pJ x.den=5) :
  Calls GI 47 #[va] w (Ret w λv w'=>∃ u,v = .tuple #[u,GV GU (fP x)]/\Ak w' (λb=>w.heap.size<=b) u (dR x)):=by
 have HO:=Ag ho;have HR:=Ag hr;clear ho hr;have l1:=fU x;have l2:=fV x;have HX:=Ag ha.old;obtain⟨A,c,B,d,rfl,hn,hd⟩:=ha.open;clear hn hd ha;go_in;go_wp2_with fail
 generalize hW:G5 _ _=W;obtain⟨rx,rz,hB,hz⟩:=gW hW;refine Yv ?_;clear hW HX rx;intro HX hz x0 x1 x2;obtain⟨_,_,hh,hn,hd⟩:=HX.o;refine zaF ?_;intro HNX HDX;cases hh;clear hn hd;refine za7 ?_;go_wp2_with fail
 refine(qP _ _ _ x.num.natAbs HNX.o FI).mono ?_;rintro e wn ⟨_,rfl,hb,t4,rfl,hu⟩;refine zdn ?_;intro H4;clear hu;refine Zx ?_;clear x0 x1 x2;intro x0 x1 x2;refine zbx ?_;clear HNX HDX;intro HNX HDX;refine zbj ?_;clear rz hz hB hb;intro rz hz hB;go_wp2_with fail
 refine(qP _ _ _ x.den HDX.o FI).mono ?_;rintro e wn ⟨_,rfl,hb,t5,rfl,hu⟩;refine zd2 ?_;intro H5;rw[h5];clear hu;refine Zx ?_;clear x0 x1 x2;intro x0 x1 x2;refine zbx ?_;clear HNX HDX;intro HNX HDX;replace H4:=Ag (H4.o.below hb);refine zbj ?_;clear rz hz hB hb;intro rz hz hB;refine Zk ?_;intro q0 y0 q1 y1 q2 y2;go_wp2
 refine zbe ?_;clear q0 q1 q2 y0 y1 y2;intro Wz hrz hwz hkz;intro t0 t1 t2;refine bodyPost_ret (v:=.tuple #[.agg #[G7 false,Gw none 0 0,Gw none 0 0],GV GU 5]) (by simp[results,Tryz.results47,go_sem,t0,t1,t2]) rfl ?_;exact zd6
theorem ain (w:GK) (F:Gq) (va:GN) (x:Rat) (ha:RtV w F va x) (hl:rl x<=1000000) (ho:fP x=0) (hr:dR x=⟨(ak x).neg,sZ x.num.natAbs,sZ x.den⟩) (h4:pJ x.num.natAbs=0) (h5:pJ x.den=0) :
  Calls GI 47 #[va] w (Ret w λv w'=>∃ u,v = .tuple #[u,GV GU (fP x)]/\Ak w' (λb=>w.heap.size<=b) u (dR x)):=by
 have HO:=Ag ho;have HR:=Ag hr;clear ho hr;have l1:=fU x;have l2:=fV x;have HX:=Ag ha.old;obtain⟨A,c,B,d,rfl,hn,hd⟩:=ha.open;clear hn hd ha;go_in;go_wp2_with fail
 generalize hW:G5 _ _=W;obtain⟨rx,rz,hB,hz⟩:=gW hW;refine Yv ?_;clear hW HX rx;intro HX hz x0 x1 x2;obtain⟨_,_,hh,hn,hd⟩:=HX.o;refine zaF ?_;intro HNX HDX;cases hh;clear hn hd;refine za7 ?_;go_wp2_with fail
 refine(qP _ _ _ x.num.natAbs HNX.o FI).mono ?_;rintro e wn ⟨_,rfl,hb,t4,rfl,hu⟩;refine zdn ?_;intro H4;obtain⟨A4,c4,rfl,_,_⟩:=hu;refine Zx ?_;clear x0 x1 x2;intro x0 x1 x2;refine zbx ?_;clear HNX HDX;intro HNX HDX;refine zbj ?_;clear rz hz hB hb;intro rz hz hB;go_wp2_with fail
 refine(qP _ _ _ x.den HDX.o FI).mono ?_;rintro e wn ⟨_,rfl,hb,t5,rfl,hu⟩;refine zd2 ?_;intro H5;rw[h5];obtain⟨A5,c5,rfl,_,_⟩:=hu;refine Zx ?_;clear x0 x1 x2;intro x0 x1 x2;refine zbx ?_;clear HNX HDX;intro HNX HDX;replace H4:=Ag (H4.o.below hb);refine zbj ?_;clear rz hz hB hb;intro rz hz hB;refine Zk ?_;intro q0 y0 q1 y1 q2 y2;go_wp2
 obtain⟨Wz,hWz,hrz,hwz,hkz⟩:=aY rz (G7 (ak x).neg) (Gw A4 (sZ x.num.natAbs).length c4) (Gw A5 (sZ x.den).length c5);refine Zg ?_;clear hWz q0 q1 q2 y0 y1 y2;intro t0 t1 t2;refine bodyPost_ret (v:=.tuple #[.agg #[G7 (ak x).neg,Gw A4 (sZ x.num.natAbs).length c4,Gw A5 (sZ x.den).length c5],GV GU 0]) (by simp[results,Tryz.results47,go_sem,t0,t1,t2]) rfl ?_;exact⟨_,rfl,hwz _ _ FI hB,_,by rw[HO.o],by rw[HR.o]; exact(Ak.make (r:=⟨(ak x).neg,sZ x.num.natAbs,sZ x.den⟩) rfl H4.o H5.o).keep (λb hb _=>He (Nat.le_add_right _ 2) hb) (hkz _ (λh=>by omega))⟩
theorem aax (w:GK) (F:Gq) (va:GN) (x:Rat) (ha:RtV w F va x) (hl:rl x<=1000000) :
  Calls GI 47 #[va] w (Ret w λv w'=>∃ u,v = .tuple #[u,GV GU (fP x)]/\Ak w' (λb=>w.heap.size<=b) u (dR x)):=by
 rcases anx x with⟨ho,hr,h4 | ⟨h4,h5⟩⟩ | ⟨ho,hr,h4,h5,h6,h7⟩
 ·grind [aik]
 ·grind [ail]
 ·exact ain w F va x ha hl ho (by rw[hr,h6,h7]; rfl) h4 h5
theorem alZ {x y:Rat} (hy:y≠0):mkRat (sgI (dh x != dh y) (x.num.natAbs*y.den)) (x.den*y.num.natAbs)=x / y:=by grind [aa1,ajl]
theorem aio (w:GK) (F:Gq) (va vb:GN) (x y:Rat) (ha:RtV w F va x) (hb:RtV w F vb y) (hlx:rl x<=20000) (hly:rl y<=20000) (hy0:y≠0) :
  Calls GI 125 #[va,vb] w (Ret w λv w'=>RtV w' (Ext F w.heap.size) v (x / y)):=by
 have lx:=fU x;have lx2:=fV x;have ly:=fU y;have ly2:=fV y;have hl1:(dig (x.num.natAbs*y.den)).length<=40000:=He (dY _ _) FI;have hl2:(dig (x.den*y.num.natAbs)).length<=40000:=He (dY _ _) FI;have HML:=Ag (alZ (x:=x) hy0);have hd0:x.den*y.num.natAbs≠0:=JC x.den_nz λh=>hy0 ((kP y).1 h)
 clear hy0;refine zdf ?_;intro HX HY;obtain⟨A,c,B,d,rfl,hn,hd⟩:=ha.open;obtain⟨A',c',B',d',rfl,hn',hd'⟩:=hb.open;clear hn hd hn' hd' ha hb;go_in;go_wp2_with fail
 generalize hW:G5 _ _=W;refine zcF ?_;clear hW HX HY;intro rz hB hz;intro HX HY hz x0 x1 x2 y0 y1 y2;obtain⟨_,_,hh,hn,hd⟩:=HX.o;refine zbG ?_;intro HNX HDX;cases hh;clear hn hd;obtain⟨_,_,hh,hn,hd⟩:=HY.o;refine zbH ?_;intro HNY HDY;cases hh;clear hn hd;refine Z5 ?_;intro hHeld hb;clear x0 x1 x2 y0 y1 y2 HX HY HNX HNY HDX HDY;intro x0 x1 x2 y0 y1 y2 HX HY HNX HNY HDX HDY;refine ZA ?_;clear rz hz hB hb;intro rz hz hB;generalize W.drew=wn at *;refine tkm [0,1,2,3,4,5,6,7,8,10,11,12,13] ?_;refine tk2 9 aj rfl λK hK=>?_
 go_simp;refine(iH _ _ _ _ x.num.natAbs y.den HNX.o HDY.o FI FI).mono ?_;rintro e wn ⟨vn,rfl,hb,hu⟩;have HP:=Ag (hu.mono (G:=(Ext (Old F w.heap.size) (w.heap.size+3))) (λb hb _=>.inr FI));clear hu;refine Zh ?_;clear x0 x1 x2 y0 y1 y2 HX HY HNX HNY HDX HDY;intro x0 x1 x2 y0 y1 y2 HX HY HNX HNY HDX HDY;refine ZL ?_;clear rz hz hB hb hHeld hK K;intro rz hz hB hHeld;refine tk2 14 aj rfl λK hK=>?_
 go_simp;refine(iH _ _ _ _ x.den y.num.natAbs HDX.o HNY.o FI FI).mono ?_;rintro e wn ⟨vd,rfl,hb,hu⟩;have HQ:=Ag (hu.mono (G:=(Ext (Old F w.heap.size) (w.heap.size+3))) (λb hb _=>.inr FI));clear hu;refine Zh ?_;clear x0 x1 x2 y0 y1 y2 HX HY HNX HNY HDX HDY;intro x0 x1 x2 y0 y1 y2 HX HY HNX HNY HDX HDY;replace HP:=Ag (HP.o.below hb);refine ZL ?_;clear rz hz hB hb hHeld hK K;intro rz hz hB hHeld;refine tk2 15 aj rfl λK hK=>?_
 go_simp;refine(l9 _ _ _ _ _ (x.num.natAbs*y.den) (x.den*y.num.natAbs) HP.o HQ.o hd0 FI FI).mono ?_;rintro e wn ⟨vm,rfl,hb,hu⟩;have hu2:RtV wn (Ext (Old F w.heap.size) (w.heap.size+3)) vm (x / y):=by rw[show(!(ak x).neg==(ak y).neg)=(dh x != dh y) from rfl,HML.o] at hu;exact hu.mono (λb hb _=>hb.elim id λh=>.inr FI)
 have HM:=Ag hu2;obtain⟨Am,cm,Bm,dm,rfl,hn,hd⟩:=hu2.open;clear hn hd hu hu2;refine Zh ?_;clear x0 x1 x2 y0 y1 y2 HX HY HNX HNY HDX HDY;intro x0 x1 x2 y0 y1 y2 HX HY HNX HNY HDX HDY;replace HP:=Ag (HP.o.below hb);replace HQ:=Ag (HQ.o.below hb);refine za1 ?_;clear rz hz hB hb hHeld hK K x0 x1 x2 y0 y1 y2;intro rz hz hB;intro q0 y0 q1 y1 q2 y2;go_wp2
 refine Z4 ?_;go_wp2
 obtain⟨Wz,hWz,hrz,hwz,hkz⟩:=aY rz (G7 (ak (x / y)).neg) (Gw Am (ak (x / y)).num.length cm) (Gw Bm (ak (x / y)).den.length dm);refine Zg ?_;clear hWz q0 q1 q2 y0 y1 y2;intro t0 t1 t2;refine bodyPost_ret (v:=.agg #[G7 (ak (x / y)).neg,Gw Am (ak (x / y)).num.length cm,Gw Bm (ak (x / y)).den.length dm]) (by simp[results,Tryz.results125,go_sem,t0,t1,t2]) rfl ?_;exact Zq

/- Part of a claim. -/
import Derived.Test.YtnmeejofpkhlkaaGreatDoorE18
import Derived.Test.YtnmeejofpkhlkaaGreatDoorE15
import Derived.BigQuiet
set_option linter.all false
set_option maxRecDepth 100000
set_option maxHeartbeats 12800000
namespace Go.Proofs.YtnmeejofpkhlkaaGreatDoor
open Ah renaming below->Hw,make->JL
open And renaming intro->Ij
open Go.RowKit.Below renaming refl->F9
open Below renaming same'->FZ
open FK renaming on->Ju
open Go.IntKind renaming i64->F5
open Go renaming Value->F7,World->FW
open Go.Value renaming bool->Gj,int->F6,slice->FQ
open Go.IntWalk renaming i64_in->GH
open List renaming drop_of_length_le->Jg,drop_zero->I4,eq_nil_of_length_eq_zero->Hq,getElem?_map->Gi,getElem?_take_of_lt->KI,length_append->Gn,length_drop->J4,length_map->FX,length_set->He,length_take->G5,map_append->GL,map_cons->Hr,map_nil->Jp,mem_of_getElem?->FT,replicate->F8,take_of_length_le->Gl,zipWith->IW
open Nat renaming div_eq_of_lt->I7,div_le_self->JJ,div_lt_iff_lt_mul->I8,eq_zero_or_pos->Gt,gcd->Gv,gcd_comm->Iy,gcd_pos_of_pos_right->Jq,le_refl->FV,le_trans->Gf,lt_of_le_of_lt->JD,lt_of_lt_of_le->GZ,min_eq_left->Hy,mod_lt->IK,mul_comm->Gy,mul_le_mul_left->Gq,mul_le_mul_right->H8,mul_ne_zero->Jk,mul_one->Gp,ne_of_gt->Lu,pos_of_ne_zero->Jz,pow_le_pow_right->Io,zero_add->Iz
open Same renaming refl->Gh
open Tryz renaming infoU32->IU
open Go.Proofs.Tryz renaming prog->FY,results14->KT,underlying40->G8
open Go.World renaming ownsRow_nil->Ko
open Lib renaming hid → Ac
open Go.RowKit
variable {ops:Array Oper} {F:FI} {a:Int} {m:List (List Raw)} {acts:List Int} {l:List Nat} {rest:List Oper} {B R b c g k n x:Nat} {o:Oper} {A:Option Addr} {r:Raw}
theorem ags (w:FW):Ae (w.alloc (.cells #[.int .u32 1] 103)) (λb=>w.heap.size<=b) (FQ (some ⟨w.heap.size,0,none⟩) 1 1) 1:=aeZ w 1 rfl
theorem agt (w:FW):Calls FY 181 #[] w (Ret w λv w'=>Ae w' (λb=>w.heap.size<=b) v 1):=by
 go_in;go_wp2
 go_ret;exact⟨_,rfl,(F9 _ _).alloc (FV _) _,ags w⟩
theorem Leh.nat {b M p0 q0 al be p q A B C D:Int} {a' b':Nat} (h:Leh a b M p0 q0 al be p q A B C D) (ea:a=a') (eb:b=b'):∃ X Y:Nat,A*a'+B*b'=(X:Int)/\C*a'+D*b'=(Y:Int)/\Y<=X/\X<=a'/\(B=0\/Y < b')/\Gv X Y=Gv a' b':=by
 subst ea eb;obtain⟨X,hX⟩:∃ X:Nat,A*a'+B*b'=(X:Int):=⟨(A*a'+B*b').toNat,by have:=h.y0; have:=h.yx; omega⟩;obtain⟨Y,hY⟩:∃ Y:Nat,C*a'+D*b'=(Y:Int):=⟨(C*a'+D*b').toNat,by have:=h.y0; omega⟩;refine⟨X,Y,hX,hY,by have:=h.yx; omega,by have:=h.xa; omega,by have:=h.prog; omega,?_⟩;have:=h.gcd;rw[hX,hY] at this;simpa using this
theorem ahR (w:FW) (F:FI) (va vb:F7) (a b:Nat) (ha:Ae w F va a) (hb:Ae w F vb b) (hla:(dig a).length<=2) (hlb:(dig b).length<=2) (hT:Bd w) :
  Calls FY 157 #[va,vb] w (Ret w λv w'=>Ae w' (λb=>w.heap.size<=b) v (Gv a b)):=by
 have HA:=Ac ha;have HB:=Ac hb;obtain⟨A,c,rfl,hc,hN⟩:=ha;obtain⟨B,d,rfl,hd,hM⟩:=hb;clear hN hM;have ha18:=xg hla;have hb18:=xg hlb;have d1:decide (((dig a).length:Int)<=2)=true:=Mc EN;have d2:decide (((dig b).length:Int)<=2)=true:=Mc EN;obtain⟨g,hg⟩:=FH (Gv a b);have hgl:g < 18446744073709551616:=by
  rcases Gt a with h | h
  ·rw[hg,h,Nat.gcd_zero_left];omega
  ·have:=Nat.gcd_le_left b h;omega
 have HG:=Ac hg;rw[<-hg];clear hg;go_in;go_wp2_with fail
 refine(qP w F _ a HA.out hla).mono ?_;rintro e w' ⟨rfl,rfl⟩;go_wp2_with fail
 refine(qP w F _ b HB.out hlb).mono ?_;rintro e w' ⟨rfl,rfl⟩;go_wp2_with fail
 refine(yR w a b ha18 hb18 hT).mono ?_;rintro e w1 ⟨_,rfl,hb1,rfl⟩;rw[<-HG.out];dsimp only;go_wp2_with fail
 refine(aeT w1 g hgl).mono ?_;rintro e w2 ⟨v,rfl,hb2,hv⟩;have HV:=Ac hv;clear hv;have hz:=hb1.size;go_wp2
 go_ret;exact⟨_,rfl,hb1.trans (hb2.mono hz),HV.out.mono λb hb _=>by omega⟩
theorem alO (w:FW) (F:FI) (va vb:F7) (a b:Nat) (ha:Ae w F va a) (hb:Ae w F vb b) (hla:(dig a).length<=100000) (hlb:(dig b).length<=100000) (hbig:¬ ((dig a).length<=2/\(dig b).length<=2)) (h1:a=1\/b=1) :
  Calls FY 157 #[va,vb] w (Ret w λv w'=>Ae w' (λb=>w.heap.size<=b) v (Gv a b)):=by
 have HA:=Ac ha;have HB:=Ac hb;obtain⟨A,c,rfl,hc,hN⟩:=ha;obtain⟨B,d,rfl,hd,hM⟩:=hb;clear hN hM;have HG:=Ac (show Gv a b=1 by rcases h1 with h | h <;> simp[h]);rw[HG.out];have hl1:(dig 1).length=1:=by rw[iL];rfl
 by_cases ha1:a=1
 ·have d1:decide (((dig a).length:Int)<=2)=true:=Mc (by rw[ha1]; omega);have d2:decide (((dig b).length:Int)<=2)=false:=L9 (by rw[ha1,hl1] at hbig; omega);have e1:decide (a=1)=true:=Mc ha1;clear hbig h1 ha1;go_in;go_wp2_with fail
  refine(oK w F _ a HA.out EN).mono ?_;rintro e w' ⟨rfl,rfl⟩;rw[e1];exact zbW
 ·have hb1:b=1:=h1.resolve_left ha1;have d1:decide (((dig a).length:Int)<=2)=false:=L9 (by rw[hb1,hl1] at hbig; omega);have e1:decide (a=1)=false:=L9 ha1;have e2:decide (b=1)=true:=Mc hb1;clear hbig h1 ha1 hb1;go_in;go_wp2_with fail
  refine(oK w F _ a HA.out EN).mono ?_;rintro e w' ⟨rfl,rfl⟩;rw[e1];dsimp only;go_wp2_with fail
  refine(oK w F _ b HB.out EN).mono ?_;rintro e w' ⟨rfl,rfl⟩;rw[e2];exact zbW
theorem alP (w:FW) (F:FI) (va vb:F7) (a0 b0:Nat) (ha:Ae w F va a0) (hb:Ae w F vb b0) (hla:(dig a0).length<=100000) (hlb:(dig b0).length<=100000) (hbig:¬ ((dig a0).length<=2/\(dig b0).length<=2)) (ha1:a0≠1) (hb1:b0≠1) (hT:Bd w) :
  Calls FY 157 #[va,vb] w (Ret w λv w'=>Ae w' (λb=>w.heap.size<=b) v (Gv a0 b0)):=by
 have HA:=Ac ha;have HB:=Ac hb;obtain⟨A,c,rfl,hc,hN⟩:=ha;obtain⟨B,d,rfl,hd,hM⟩:=hb;clear hN hM;obtain⟨G,hG⟩:=FH (Gv a0 b0);rw[<-hG];have HG:=Ac hG;clear hG;have e1:decide (a0=1)=false:=L9 ha1;have e2:decide (b0=1)=false:=L9 hb1;have hd12:(decide (((dig a0).length:Int)<=2)=false)\/(decide (((dig a0).length:Int)<=2)=true/\decide (((dig b0).length:Int)<=2)=false):=by
  by_cases h:(dig a0).length<=2
  ·exact .inr ⟨Mc EN,L9 EN⟩
  ·exact .inl (L9 EN)
 have HB3:=Ac hbig;clear ha1 hb1 hbig;have hT0:=hT.lt;go_in
 rcases hd12 with d1 | ⟨d1,d2⟩
 all_goals
  go_wp2_with fail
  refine(oK w F _ a0 HA.out EN).mono ?_;rintro e w' ⟨rfl,rfl⟩;rw[e1];dsimp only;go_wp2_with fail
  refine(oK w F _ b0 HB.out EN).mono ?_;rintro e w' ⟨rfl,rfl⟩;rw[e2];dsimp only;clear d1 e1 e2;go_wp2_with fail
  refine(zJ w F _ _ a0 b0 HA.out HB.out EN EN).mono ?_;rintro e w' ⟨rfl,z0,rfl⟩;go_upto_if 37 with fail
  go_cut [0,1] from 34 to 39 (λva vb wx=>∃ a b,wx=w.drewN z0/\Ae wx (Ext F w.heap.size) va a/\Ae wx (Ext F w.heap.size) vb b/\b<=a/\G=Gv a b/\(dig a).length<=100000)
  case first =>
   by_cases h:a0 < b0
   ·have hord:decide (dB a0 b0 < 0)=true:=by rw[je h];rfl
    have hod:dB a0 b0 < 0:=by rw[je h];decide
    generalize dB a0 b0=od at *;go_wp2_with fail
    go_meet
    exact zcl
   ·have hord:decide (dB a0 b0 < 0)=false:=by
     refine zcF ?_;split <;> (try split) <;> omega
    have hod:0<=dB a0 b0:=by have:=of_decide_eq_false hord;omega
    generalize dB a0 b0=od at *;go_wp2_with fail
    go_meet
    exact zcQ
  case rest =>
  obtain⟨a,b,rfl,hna,hnb,hba,zN,hlen⟩:=hcut;have HS:=Ac (Ij hna (Ij hnb zN));clear HA HB hna hnb zN hla hlb HG;go_wp2
  go_loopg [0,1] b (λf va vb wr=>∃ a b,b=f/\Ae wr (Ext F w.heap.size) va a/\Ae wr (Ext F w.heap.size) vb b/\b<=a/\G=Gv a b/\(dig a).length<=100000/\Below w.heap.size w wr)
  case atStart=>exact⟨a,b,rfl,HS.out.1,HS.out.2.1,hba,HS.out.2.2,hlen,aI (F9 _ w) z0⟩
  case round =>
   clear HS hba hlen;obtain⟨a,b,rfl,hna,hnb,hba,zN,hlen,hbel⟩:=hrel;have HNA:=Ac hna;have HNB:=Ac hnb;have HGC:=Ac zN;obtain⟨A',c',rfl,hc',_⟩:=hna;obtain⟨B',d',rfl,hd',_⟩:=hnb;have hlb:(dig b).length<=(dig a).length:=aT hba;have hz:=hbel.size;have HTW:=Ac (hT.below hT0 hbel);clear zN;by_cases h2:2 < (dig b).length
   ·have d2':decide ((2:Int) < ((dig b).length:Int))=true:=Mc EN;have hbp:0 < b:=by
     rcases Gt b with h | h
     ·rw[h,bD] at h2;simp at h2
     ·exact h
    go_wp2_with fail
    refine(lead_any wr (Ext F w.heap.size) _ _ a b HNA.out HNB.out hba EN hlen).mono ?_;rintro e w1 ⟨_,rfl,hb1,M,p,q,rfl,hM,hp,hq,hp18⟩;have hpq:q<=p:=by rw[hp,hq];exact Nat.div_le_div_right hba
    have hst:=Leh.start (a:=(a:Int)) (b:=(b:Int)) (M:=(M:Int)) (p0:=(p:Int)) (q0:=(q:Int)) (al:=((a % M:Nat):Int)) (be:=((b % M:Nat):Int))
     (by rw[hp]; have:=Nat.div_add_mod' a M; exact_mod_cast this.symm) (by rw[hq]; have:=Nat.div_add_mod' b M; exact_mod_cast this.symm) EN (by have:=IK a hM; omega) EN (by have:=IK b hM; omega) EN EN EN EN
    have HST:=Ac hst;clear hst hp hq hpq;have hz1:=hb1.size;have hB1:=hbel.trans (hb1.mono hz);dsimp only;go_wp2_with fail
    refine(ahF w1 a b _ _ _ (p:Int) (q:Int) HST.out EN).mono ?_;rintro e w' ⟨⟨p',q',xA,xB,xC,xD,rfl,kU,a1,a2,b1,b2,c1,c2,d1,d2⟩,rfl⟩;obtain⟨X,Y,hX,hY,hyx,hxa,hyb,hg⟩:=kU.nat rfl rfl;have HXY:=Ac (Ij hX (Ij hY hg));clear kU HST hX hY hg;dsimp only;by_cases hB0:xB=0
    ·have tB:(xB==0)=true:=by rw[hB0];rfl
     clear hB0 hyb;go_wp2_with fail
     refine(af9 w1 (Ext F w.heap.size) _ _ a b (HNA.out.below hb1) (HNB.out.below hb1) EN hlen EN).mono ?_;rintro e w2 ⟨_,rfl,hb2,vq,vr,rfl,hq,hr⟩;have HR:=Ac hr;clear hq hr;have hml:a % b < b:=IK _ hbp;go_wp2
     go_roundg (a % b)
     case measure=>exact hml
     case rel=>exact⟨b,a % b,rfl,(HNB.out.below hb1).below hb2,HR.out.mono (λb hb _=>hb.elim id λh=>.inr EN),EN,by rw[HGC.out,Iy,Nat.gcd_rec,Iy],EN,hB1.trans (hb2.mono EN)⟩
    ·have tB:(xB==0)=false:=beq_false_of_ne hB0;have hYb:=hyb.resolve_left hB0;clear hB0 hyb;go_wp2_with fail
     refine(aga w1 (Ext F w.heap.size) _ _ a b xA xB X (HNA.out.below hb1) (HNB.out.below hb1) hlen hlb EN EN EN EN HXY.out.1 hxa).mono ?_;rintro e w2 ⟨vx,rfl,hb2,hvx⟩;have HVX:=Ac hvx;clear hvx;have hz2:=hb2.size;go_wp2_with fail
     refine(aga w2 (Ext F w.heap.size) _ _ a b xC xD Y ((HNA.out.below hb1).below hb2) ((HNB.out.below hb1).below hb2) hlen hlb EN EN EN EN HXY.out.2.1 EN).mono ?_;rintro e w3 ⟨vy,rfl,hb3,hvy⟩;have HVY:=Ac hvy;clear hvy;have hXl:(dig X).length<=100000:=by have:=aT hxa;omega
     go_wp2
     go_roundg Y
     case measure=>exact hYb
     case rel=>exact⟨X,Y,rfl,(HVX.out.below hb3).mono (λb hb _=>.inr EN),HVY.out.mono (λb hb _=>.inr EN),hyx,by rw[HGC.out]; exact HXY.out.2.2.symm,hXl,hB1.trans ((hb2.trans (hb3.mono hz2)).mono EN)⟩
   ·have d2':decide ((2:Int) < ((dig b).length:Int))=false:=L9 EN;by_cases hb0:b=0
    ·have e0:(((dig b).length:Int)==0)=true:=by rw[hb0,bD];rfl
     have HF:=Ac (show G=a by rw[HGC.out,hb0,Nat.gcd_zero_right]);clear hb0;go_wp2_with fail
     refine(ad2 wr (Ext F w.heap.size) _ a HNA.out EN).mono ?_;rintro e w1 ⟨v,rfl,hb1,hv⟩;have HV:=Ac hv;clear hv;go_wp2
     go_ret;exact⟨_,rfl,hbel.trans (hb1.mono hz),by rw[HF.out]; exact HV.out.mono λb hb _=>by omega⟩
    ·have e0:(((dig b).length:Int)==0)=false:=by have:=bg.2 hb0;exact beq_false_of_ne EN
     go_wp2_with fail
     refine(af9 wr (Ext F w.heap.size) _ _ a b HNA.out HNB.out hb0 hlen EN).mono ?_;rintro e w1 ⟨_,rfl,hb1,vq,vr,rfl,hq,hr⟩;have HR:=Ac hr;clear hq hr;have hz1:=hb1.size;have hml:a % b < b:=IK _ EN;have hlr:(dig (a % b)).length<=2:=Gf (aT (Nat.le_of_lt hml)) EN;have hb18:b < 1000000000000000000:=xg EN;obtain⟨r,hr⟩:=FH (a % b);rw[<-hr] at hml hlr HR;have HF:=Ac (show G=Gv b r by rw[HGC.out,hr,Iy,Nat.gcd_rec,Iy]);clear hr hb0;have hGl:Gv b r < 18446744073709551616:=by
      have:=Nat.gcd_le_left r (show 0 < b by omega);omega
     dsimp only;go_wp2_with fail
     refine(qP w1 (Ext F w.heap.size) _ b (HNB.out.below hb1) EN).mono ?_;rintro e w' ⟨rfl,rfl⟩;go_wp2_with fail
     refine(qP w1 (Ext (Ext F w.heap.size) wr.heap.size) _ r HR.out hlr).mono ?_;rintro e w' ⟨rfl,rfl⟩;go_wp2_with fail
     refine(yR w1 b r hb18 EN (HTW.out.on hb1)).mono ?_;rintro e w2 ⟨_,rfl,hb2,rfl⟩;rw[<-HF.out];rw[<-HF.out] at hGl;have hz2:=hb2.size;dsimp only;go_wp2_with fail
     refine(aeT w2 G hGl).mono ?_;rintro e w3 ⟨v,rfl,hb3,hv⟩;have HV:=Ac hv;clear hv;go_wp2
     go_ret;exact⟨_,rfl,hbel.trans ((hb1.trans ((hb2.trans (hb3.mono hz2)).mono hz1)).mono hz),HV.out.mono λb hb _=>by omega⟩
theorem alQ (w:FW) (F:FI) (va vb:F7) (a b:Nat) (ha:Ae w F va a) (hb:Ae w F vb b) (hla:(dig a).length<=100000) (hlb:(dig b).length<=100000) (hT:Bd w) :
  Calls FY 157 #[va,vb] w (Ret w λv w'=>Ae w' (λb=>w.heap.size<=b) v (Gv a b)):=by
 by_cases h:(dig a).length<=2/\(dig b).length<=2
 ·exact ahR w F va vb a b ha hb h.1 h.2 hT
 by_cases h1:a=1\/b=1
 ·exact alO w F va vb a b ha hb hla hlb h h1
 ·exact alP w F va vb a b ha hb hla hlb h (λe=>h1 (.inl e)) (λe=>h1 (.inr e)) hT
theorem ae4 (w:FW) (F:FI) (va vb:F7) (a b:Nat) (ha:Ae w F va a) (hb:Ae w F vb b) (hla:(dig a).length<=100000) (hlb:(dig b).length<=100000) (hT:Bd w) :
  Calls FY 118 #[va,vb] w (Ret w λv _=>v = Gj (decide (Gv a b=1))):=by
 have HA:=Ac ha;have HB:=Ac hb;obtain⟨A,c,rfl,hc,hN⟩:=ha;obtain⟨B,d,rfl,hd,hM⟩:=hb;clear hN hM;obtain⟨g,hg⟩:=FH (Gv a b);have HG:=Ac hg;have HD:=Ac (show decide (Gv a b=1)=decide (g=1) from decide_eq_decide.2 (by rw[hg]));have hgl:(dig g).length<=100000:=by
  rcases Gt a with h | h
  ·rw[hg,h,Nat.gcd_zero_left];exact hlb
  ·exact Gf (aT (by rw[hg]; exact Nat.gcd_le_left b h)) hla
 clear hg;by_cases hs:(dig a).length<=2/\(dig b).length<=2
 ·have d1:decide (((dig a).length:Int)<=2)=true:=Mc EN;have d2:decide (((dig b).length:Int)<=2)=true:=Mc EN;have ha18:=xg hs.1; have hb18:=xg hs.2;have hs1:=hs.1; have hs2:=hs.2;have HI:=Ac (show((g:Int)==1)=decide (g=1) by
   by_cases h:g=1
   ·subst h;rfl
   ·rw[L9 h]; exact beq_false_of_ne EN)
  clear hs;go_in;go_wp2_with fail
  refine(qP w F _ a HA.out hs1).mono ?_;rintro e w' ⟨rfl,rfl⟩;go_wp2_with fail
  refine(qP w F _ b HB.out hs2).mono ?_;rintro e w' ⟨rfl,rfl⟩;go_wp2_with fail
  refine(yR w a b ha18 hb18 hT).mono ?_;rintro e w1 ⟨_,rfl,hb1,rfl⟩;rw[<-HG.out];dsimp only;go_wp2
  go_ret;exact⟨_,rfl,hb1,by rw[HD.out,<-HI.out]; rfl⟩
 ·have hd12:(decide (((dig a).length:Int)<=2)=false)\/(decide (((dig a).length:Int)<=2)=true/\decide (((dig b).length:Int)<=2)=false):=by
   by_cases h:(dig a).length<=2
   ·exact .inr ⟨Mc EN,L9 EN⟩
   ·exact .inl (L9 EN)
  clear hs;go_in
  rcases hd12 with d1 | ⟨d1,d2⟩
  all_goals
   go_wp2_with fail
   refine(alQ w F _ _ a b HA.out HB.out hla hlb hT).mono ?_;rintro e w1 ⟨v,rfl,hb1,hv⟩;rw[<-HG.out] at hv;have HV:=Ac hv;clear hv;dsimp only;go_wp2_with fail
   refine(oK w1 _ _ g HV.out EN).mono ?_;rintro e w' ⟨rfl,rfl⟩;dsimp only;go_wp2
   go_ret;exact⟨_,rfl,hb1,by rw[HD.out]; rfl⟩
theorem yj {α:Type} {p:α->Bool} {l:List α} {x:α} (hx:l[k]? = some x) (h:(l.take k).any p=false) (hp:p x=false):(l.take (k+1)).any p=false:=by
 rw[FP hx,List.any_append,h];simp[hp]
theorem zU (w:FW) (F:FI) (v:F7) (l:List Nat) (hv:Ag w F v l) (hu:∀ x∈l,x < 4294967296) (hl:l.length<=1000000) :
  Calls FY 153 #[v] w λe w'=>e = .returned (F6 F5 (dP l))/\w=w':=by
 obtain⟨A,c,rfl,hc,hN⟩:=hv;have HN:=Ac hN;clear hN;have HU:=Ac hu;clear hu;by_cases h1:1024 < l.length
 ·exact zbS
 have d1:decide ((1024:Int) < (l.length:Int))=false:=L9 EN;have H1:=Ac h1;go_in;go_wp2
 go_loopw [10] (λi wr=>∃ k:Nat,k<=l.length/\i = F6 F5 (k:Int)/\(l.take k).any (λx=>decide (LB<=x))=false/\w=wr) (λi _=>l.length - (intOf i).toNat)
 case atStart=>exact⟨0,EN,rfl,rfl,rfl⟩
 case round =>
  obtain⟨k,hk,rfl,hpre,rfl⟩:=hrel;have HP:=Ac hpre;clear hpre;by_cases hlt:k < l.length
  ·obtain⟨b,o,rfl,_,hb,hx⟩:=HN.out EN;refine zaQ ?_;intro x hx' ex;unfold dF at ex;rw[Gp] at ex;have hxu:=HU.out x (FT hx');have HX:=Ac hx';clear hx hx';by_cases hbad:1000000000<=x
   ·have HE:=Ac (show dP l=3 by
     unfold dP;rw[L6 H1.out,L8 (List.any_eq_true.2 ⟨x,FT HX.out,Mc hbad⟩)])
    exact zdE
   ·have d2:decide ((1000000000:Int)<=(x:Int))=false:=L9 EN;have HB:=Ac (show(decide (LB<=x))=false from L9 hbad);go_wp2
    go_roundw
    case rel=>exact⟨k+1,EN,by go_num,yj HX.out HP.out HB.out,by first | rfl | trivial⟩
    case measure=>simp[intOf]; omega
  ·have HA:=Ac (show l.any (λx=>decide (LB<=x))=false by have:=HP.out; rwa [Gl EN] at this);by_cases h0:0 < l.length
   ·obtain⟨b,o,rfl,_,hb,hx⟩:=HN.out h0;obtain⟨n1,hn1⟩:∃ n1,n1+1=l.length:=⟨l.length - 1,EN⟩;obtain⟨x,hx'⟩:=FC (l:=l) (k:=n1) EN;have ex:=hx n1 x hx';unfold dF at ex; rw[Gp] at ex;have HX:=Ac (show dP l=if x=0 then 3 else 0 by
     unfold dP;rw[L6 H1.out,HA.out,L6 aA,List.getLast?_eq_getElem?,show l.length - 1=n1 by omega,hx'];simp)
    have i1:(l.length:Int) - 1=(n1:Int):=EN;clear hx hx' hn1;by_cases hz:x=0
    ·exact zcV
    ·exact zcB
   ·have HE:=Ac (show dP l=0 by
     have:l = []:=Hq EN;rw[this]; rfl)
    have d3:decide ((0:Int) < (l.length:Int))=false:=L9 EN;exact ZP
theorem ae5 (w:FW) (F:FI) (vn vd:F7) (num den:List Nat) (hn:Ag w F vn num) (hd:Ag w F vd den) (hnu:∀ x∈num,x < 4294967296) (hdu:∀ x∈den,x < 4294967296) (hln:num.length<=1000000) (hld:den.length<=1000000) :
  Calls FY 117 #[vn,vd] w λe w'=>e = .returned (F6 F5 (eF num den))/\w=w':=by
 have HN:=Ac hn;have HD:=Ac hd;obtain⟨A,c,rfl,hc,hN⟩:=hn;obtain⟨B,d,rfl,hd,hM⟩:=hd;clear hN hM;have HNU:=Ac hnu;have HDU:=Ac hdu;clear hnu hdu;refine zdS ?_;intro HP;go_in;go_wp2_with fail
 refine(zU w F _ num HN.out HNU.out hln).mono ?_;rintro e w' ⟨rfl,rfl⟩;generalize dP num=e1 at *;by_cases h1:e1=0
 ·have t1:(e1 != 0)=false:=by rw[h1];rfl
  go_wp2_with fail
  refine(zU w F _ den HD.out HDU.out hld).mono ?_;rintro e w' ⟨rfl,rfl⟩;generalize dP den=e2 at *;by_cases h2:e2=0
  ·have t2:(e2 != 0)=false:=by rw[h2];rfl
   by_cases h3:den.length=0
   ·exact zbe
   ·exact za5
  ·exact zb4
 ·exact zcS
def U32 (r:Raw):Prop:=(∀ x∈r.num,x < 4294967296)/\∀ x∈r.den,x < 4294967296
theorem ae6 (w:FW) (F:FI) (v:F7) (r:Raw) (hv:Ah w F v r) (hu:U32 r) (hln:r.num.length<=100000) (hld:r.den.length<=100000) (hT:Bd w) :
  Calls FY 67 #[v] w (Ret w λu _=>u = F6 F5 (fM r)):=by
 obtain⟨A,c,B,d,rfl,hn,hd⟩:=hv.open;have HN:=Ac hn;have HD:=Ac hd;clear hv hn hd;refine zbX ?_;clear hu;intro HR HU HK;obtain⟨neg,num,den⟩:=r;dsimp only at *;go_in;go_wp2_with fail
 obtain⟨W,hW,rx,hB,hz⟩:=aJ w 42 #[Gj neg,FQ A num.length c,FQ B den.length d];rw[<-hW];clear hW;have HTW:=Ac (hT.on hB);replace HN:=Ac (Ag.on HN.out (FZ hB F));replace HD:=Ac (Ag.on HD.out (FZ hB F));refine Zd ?_;intro x0 x1 x2;clear rx hz;go_wp2_with fail
 refine(ae5 W F _ _ num den HN.out HD.out HU.out.1 HU.out.2 EN EN).mono ?_;rintro e w' ⟨rfl,rfl⟩;generalize eF num den=pe at *;by_cases h1:pe=0
 ·have t1:(pe != 0)=false:=by rw[h1];rfl
  have hk:=HK.out h1;have hnn:Ae W F (FQ A num.length c) (aH num):=by unfold Ae;rw[<-hk.1];exact HN.out
  have hdd:Ae W F (FQ B den.length d) (aH den):=by unfold Ae;rw[<-hk.2.1];exact HD.out
  have hl1:(dig (aH num)).length<=100000:=by rw[<-hk.1];exact hln
  have hl2:(dig (aH den)).length<=100000:=by rw[<-hk.2.1];exact hld
  have HNN:=Ac hnn;have HDD:=Ac hdd;clear hnn hdd hk HK;by_cases h2:num.length=0/\neg=true
  ·have t2:((num.length:Int)==0)=true:=by rw[h2.1];rfl
   have HE:=Ac (show fM ⟨neg,num,den⟩=3 by rw[HR.out,L6 (by simpa using h1),L8 (.inl h2)]);have h3:=h2.2;subst h3;clear h1 h2;go_wp2
   go_ret;exact⟨_,rfl,hB,by rw[HE.out]; rfl⟩
  ·have hor:(((num.length:Int)==0)=false)\/((((num.length:Int)==0)=true)/\neg=false):=by
    by_cases h:num.length=0
    ·refine .inr ⟨by rw[h]; rfl,?_⟩;cases hneg:neg
     ·rfl
     ·exact absurd ⟨h,hneg⟩ h2
    ·exact .inl (beq_false_of_ne EN)
   have HE:=Ac (show fM ⟨neg,num,den⟩=if Gv (aH num) (aH den)=1 then 0 else 3 by
    rw[HR.out,L6 (by simpa using h1)];by_cases hg:Gv (aH num) (aH den)=1
    ·rw[L6 (λh=>h.elim h2 (λh=>h hg)),L8 hg]
    ·rw[L8 (.inr hg),L6 hg])
   clear h1 h2 HR;rcases hor with t2 | ⟨t2,rfl⟩
   all_goals
    go_wp2_with fail
    refine(ae4 W F _ _ (aH num) (aH den) HNN.out HDD.out hl1 hl2 HTW.out).mono ?_;rintro e w1 ⟨_,rfl,hb1,rfl⟩;have hB1:=hB.trans (hb1.mono hB.size);by_cases hg:Gv (aH num) (aH den)=1
    ·have hdg:decide (Gv (aH num) (aH den)=1)=true:=Mc hg;rw[hdg];have HE2:=Ac (HE.out.trans (L8 hg));clear hg hdg;dsimp only;go_wp2
     go_ret;exact⟨_,rfl,hB1,by rw[HE2.out]; rfl⟩
    ·have hdg:decide (Gv (aH num) (aH den)=1)=false:=L9 hg;rw[hdg];have HE2:=Ac (HE.out.trans (L6 hg));clear hg hdg;dsimp only;go_wp2
     go_ret;exact⟨_,rfl,hB1,by rw[HE2.out]; rfl⟩
 ·exact zbw
theorem qy:rl 1=1:=by
 exact zc5
theorem yT (x:Rat) (h:fM (au x)=0):fC (au x)=if dI x=true\/0 < jC x 1 then 2 else 0:=by
 unfold fC;rw[L6 (by simpa using h),qX];rfl
theorem ake (w:FW) (F:FI) (v:F7) (r:Raw) (hv:Ah w F v r) (hu:U32 r) (hln:r.num.length<=100000) (hld:r.den.length<=100000) (hT:Bd w) :
  Calls FY 75 #[v] w (Ret w λu _=>u = F6 F5 (fC r)):=by
 have HV:=Ac hv.old;obtain⟨A,c,B,d,rfl,hn,hd⟩:=hv.open;clear hv hn hd;have HU:=Ac hu;clear hu;have HTT:=Ac hT;clear hT;go_in;go_wp2_with fail
 obtain⟨W,hW,rx,hB,hz⟩:=aJ w 42 #[Gj r.neg,FQ A r.num.length c,FQ B r.den.length d];rw[<-hW];clear hW;replace HTT:=Ac (HTT.out.on hB);replace HV:=Ac (HV.out.on (FZ hB _));refine Zd ?_;intro x0 x1 x2;clear rx;have hz:w.heap.size+1<=W.heap.size:=EN;go_wp2_with fail
 refine(ae6 W _ _ r HV.out HU.out hln hld HTT.out).mono ?_;rintro e wn ⟨_,rfl,hb,rfl⟩;refine ZL ?_;clear x0 x1 x2;intro x0 x1 x2;replace HV:=Ac (HV.out.below hb);refine Zc ?_;clear hz hB hb;intro hz hB;clear HTT;by_cases h1:fM r=0
 ·obtain⟨⟨x,rfl⟩,h2,h3⟩:=xu h1;have hrl:rl x<=1024:=by unfold rl;exact Nat.max_le.2 ⟨h2,h3⟩
  have t1:(fM (au x) != 0)=false:=by rw[h1];rfl
  have HE:=Ac (yT x h1);have HB:=Ac (show(au x).neg=dI x from rfl);clear h1 h2 h3 hln hld HU;generalize fM (au x)=re at *;by_cases hneg:dI x=true
  ·have HF:=Ac (HE.out.trans (L8 (.inl hneg)));have e1:(au x).neg=true:=by rw[HB.out];exact hneg
   clear hneg HB HE;exact zaM
  ·have e1:(au x).neg=false:=by rw[HB.out];simpa using hneg
   have HF:=Ac (HE.out.trans (show(if dI x=true\/0 < jC x 1 then (2:Int) else 0)=if 0 < jC x 1 then 2 else 0 by
    by_cases h:0 < jC x 1
    ·rw[L8 h,L8 (.inr h)]
    ·rw[L6 h,L6 (λk=>k.elim hneg h)]))
   clear hneg HB HE;obtain⟨o,ho⟩:=FH (jC x 1);rw[<-ho] at HF;have HO:=Ac ho;clear ho;by_cases hgt:0 < o
   ·skip
    have d1:decide (0 < o)=true:=Mc hgt;rw[e1] at HV x0;have HG:=Ac (HF.out.trans (L8 hgt));clear hgt HF;dsimp only;exact Yr
   ·skip
    have d1:decide (0 < o)=false:=L9 hgt;rw[e1] at HV x0;have HG:=Ac (HF.out.trans (L6 hgt));clear hgt HF;dsimp only;exact Yr
 ·have t1:(fM r != 0)=true:=by simp[h1]
  have HE:=Ac (show fC r=fM r by unfold fC; rw[L8 h1]);clear h1;generalize fM r=re at *;dsimp only;go_wp2
  go_ret;exact⟨_,rfl,hB,by rw[HE.out]; rfl⟩
theorem agu (w:FW) (F:FI) (v:F7) (xs:List Rat) (hv:BD w F v xs) (hl:xs.length<=100000) (hx:∀ x∈xs,rl x<=100000) :
  Calls FY 68 #[v] w (Ret w λu w'=>Bz w' (Ext F w.heap.size) u xs):=by
 obtain⟨A,c,rfl,hc,hN⟩:=hv;rw[FX] at hc hN;have HN:=Ac hN;clear hN;have HX:=Ac hx;clear hx;show Calls _ _ #[FQ A (xs.map au).length c] _ _;rw[FX];go_in;go_wp2
 go_loopw [3,8] (λu i wr=>∃ (k:Nat) (L:List RV),k<=xs.length/\i = F6 F5 (k:Int)/\L.length=k/\L.map RV.r=(xs.take k).map aB/\Bc wr w.heap.size 114 (Old F w.heap.size) u L/\Below w.heap.size w wr) (λ_ i _=>xs.length - (intOf i).toNat)
 case atStart=>exact⟨0,[],EN,rfl,rfl,rfl,Bc.nil _ _ _ _,F9 _ _⟩
 case round =>
  obtain⟨k,L,hk,rfl,hlen,hmap,hown,hbel⟩:=hrel;have HM:=Ac hmap;have HO:=Ac hown;have HLL:=Ac hlen;clear hmap hown hlen;have hz:=hbel.size;by_cases hlt:k < xs.length
  ·obtain⟨b,o,rfl,hF,hb,hx⟩:=HN.out EN;obtain⟨x,hx'⟩:=FC hlt;obtain⟨ex0,⟨vn,ex1,hn⟩,⟨vd,ex2,hd⟩⟩:=hx k (au x) (by rw[Gi,hx']; rfl);have hold:=aS hbel;have HXE:=Ac hx';have hrl:=HX.out x (FT hx');have HR:=Ac (Hw (r:=au x) (Ah.old (JL (r:=au x) rfl hn hd)) hbel);obtain⟨A1,c1,rfl,_,_⟩:=hn;obtain⟨A2,c2,rfl,_,_⟩:=hd;replace ex1:w.cell? ⟨b,o+k*3+1,none⟩=some (FQ A1 (dig x.num.natAbs).length c1):=ex1;replace ex2:w.cell? ⟨b,o+k*3+2,none⟩=some (FQ A2 (dig x.den).length c2):=ex2;clear hx hx';go_wp2_with fail
   obtain⟨W2,hW2,rz,hB2,hzz⟩:=aJ wr 42 #[Gj (au x).neg,FQ A1 (dig x.num.natAbs).length c1,FQ A2 (dig x.den).length c2];rw[<-hW2];clear hW2;replace HR:=Ac (HR.out.below hB2);replace HO:=Ac (HO.out.below hB2);have jo:=hbel.trans (hB2.mono hz);refine zbo ?_;intro x0 x1 x2;clear hold hB2;go_wp2_with fail
   refine(xG W2 _ _ x HR.out hrl).mono ?_;rintro e wn ⟨u,rfl,hb2,hu⟩;replace HO:=Ac (HO.out.below hb2);have fQ:=jo.trans (hb2.mono jo.size);have hz3:=fQ.size;obtain⟨q,hq,rfl,iJ⟩:=Ah.rv hu;have HQ:=Ac hq;have HF:=Ac iJ;clear hu x0 x1 x2 rz hb2 jo hq iJ;dsimp only[RV.cells];go_wp2_with (at_builtin; refine rY (F:=Old F w.heap.size) rfl _ _ 96 114 Tryz.underlying96 Tryz.infoNum rfl w.heap.size (FV _) u3 L rfl q (by have:=HLL.out; omega) rfl HO.out (HF.out.keep (λb hb _=>⟨hb,λe=>by have:=(HO.out.row.lt b e).1; have:=hb.2; omega⟩) (Gh _ _)) fQ ?_; intro g cap w' hown' aZ hlt'; have HO':=Ac hown'; clear hown')
   go_roundw
   case rel=>exact⟨k+1,L ++ [q],EN,by go_num,by rw[Gn,HLL.out]; rfl,by rw[GL,HM.out,FP HXE.out,GL]; show _ ++ [q.r]=_ ++ [aB x]; rw[HQ.out],HO'.out,aZ⟩
   case measure=>simp[intOf]; omega
  ·go_wp2
   go_ret;refine zdr ?_;intro hall;refine zc2 ?_;have:=HO.out.raws (G:=Ext F w.heap.size) (λb hb=>.inl hb.1) (λb hb=>.inr hb);rw[HM.out,hall] at this;exact this
theorem sum_any (w:FW) (F:FI) (v:F7) (xs:List Rat) (hv:Bz w F v xs) (hl:xs.length<=100000) (hx:∀ x∈xs,rl x<=20000) (hs:∀ k,rl (fO (xs.take k))<=20000) :
  Calls FY 69 #[v] w (Ret w λu w'=>NmV w' (Ext F w.heap.size) u (fO xs)):=by
 obtain⟨A,c,rfl,hc,hN⟩:=hv;rw[FX] at hc hN;have HN:=Ac hN;clear hN;have HX:=Ac hx;clear hx;have HS:=Ac hs;clear hs;show Calls _ _ #[FQ A (xs.map aB).length c] _ _;rw[FX];go_in;go_wp2_with fail
 obtain⟨W,hW,ry,rz,hB,hz⟩:=alloc2 w 114 #[Gj false,FQ none 0 0,FQ none 0 0] 114 #[Gj false,FQ none 0 0,FQ none 0 0];rw[<-hW];clear hW;have hz:w.heap.size+2<=W.heap.size:=hz;have hry:=Ac ry;have hrz:=Ac rz;clear ry rz;try go_wp2
 go_loopw [8] (λi wr=>∃ (k:Nat) (s:Rat) (A':Option Addr) (c':Nat) (B':Option Addr) (d':Nat),k<=xs.length/\i = F6 F5 (k:Int)/\s=fO (xs.take k)/\Row wr w.heap.size 114 [Gj false,FQ none 0 0,FQ none 0 0]/\Row wr (w.heap.size+1) 114 [Gj (aB s).neg,FQ A' (aB s).num.length c',FQ B' (aB s).den.length d'] /\
  NmV wr (Ext (Old F w.heap.size) (w.heap.size+2)) (.agg #[Gj (aB s).neg,FQ A' (aB s).num.length c',FQ B' (aB s).den.length d']) s/\Below w.heap.size w wr/\w.heap.size+2<=wr.heap.size) (λi _=>xs.length - (intOf i).toNat)
 case atStart =>
  have h0:aB 0=⟨false,[],[]⟩:=by unfold aB;rw[L8 (show(0:Rat).den=1 from rfl),show(0:Rat).num=0 from rfl,Int.natAbs_zero,bD];rfl
  refine⟨0,0,none,0,none,0,EN,rfl,rfl,hry.out,?_,?_,hB,hz⟩
  ·rw[h0];exact hrz.out
  ·rw[h0];exact NmV.zero _ _ _ _ _ _
 case round =>
  clear hry hrz hB hz;obtain⟨k,s,A',c',B',d',hk,rfl,hsum,hry,hrz,hnm,hB,hz⟩:=hrel;have HSU:=Ac hsum;have HNM:=Ac hnm;clear hsum hnm;have hrs:=HS.out k;rw[<-HSU.out] at hrs;by_cases hlt:k < xs.length
  ·obtain⟨b,o,rfl,hF,hb,hx⟩:=HN.out EN;obtain⟨x,hx'⟩:=FC hlt;obtain⟨ex0,⟨vn,ex1,hn⟩,⟨vd,ex2,hd⟩⟩:=hx k (aB x) (by rw[Gi,hx']; rfl);have hold:=aS hB;have HXE:=Ac hx';have hrl:=HX.out x (FT hx');have HR:=Ac (Ah.mono (G:=Ext (Old F w.heap.size) (w.heap.size+2)) (Hw (r:=aB x) (Ah.old (JL (r:=aB x) rfl hn hd)) hB) (λb hb _=>.inl hb));obtain⟨A1,c1,rfl,_,_⟩:=hn;obtain⟨A2,c2,rfl,_,_⟩:=hd;clear hx hx';have y0:=λo=>(hrz.alloc o).cell (i:=0) rfl;have y1:=λo=>(hrz.alloc o).cell (i:=1) rfl;have y2:=λo=>(hrz.alloc o).cell (i:=2) rfl
   go_wp2_with fail
   obtain⟨W2,hW2,rz,hB2,hzz⟩:=aJ wr 114 #[Gj (aB x).neg,FQ A1 (aB x).num.length c1,FQ A2 (aB x).den.length c2];rw[<-hW2];clear hW2;replace HR:=Ac (HR.out.below hB2);replace HNM:=Ac (HNM.out.below hB2);replace hry:=hry.below hB2 hry.lt;replace hrz:=hrz.below hB2 hrz.lt;replace hB:=hB.trans (hB2.mono hB.size);refine zbo ?_;intro x0 x1 x2;clear y0 y1 y2;have y0:=hrz.cell (i:=0) rfl;have y1:=hrz.cell (i:=1) rfl;have y2:=hrz.cell (i:=2) rfl;clear hold hB2;go_wp2_with fail
   refine(agn W2 _ _ _ s x HNM.out HR.out hrs hrl).mono ?_;rintro e wn ⟨u,rfl,hb2,hu⟩;replace hu:NmV wn (Ext (Old F w.heap.size) (w.heap.size+2)) u (s+x):=hu.mono (λb hb _=>hb.elim id λh=>.inr EN);have HU:=Ac hu;obtain⟨A4,c4,B4,d4,rfl,hn,hd⟩:=hu.open;clear hn hd hu;replace hry:=hry.below hb2 hry.lt;replace hrz:=hrz.below hb2 hrz.lt;replace hB:=hB.trans (hb2.mono hB.size);have hz2:=hb2.size;clear x0 x1 x2 rz y0 y1 y2 hb2;have q0:=hrz.cell (i:=0) rfl;have y0:=hrz.frozen 0;have q1:=hrz.cell (i:=1) rfl;have y1:=hrz.frozen 1;have q2:=hrz.cell (i:=2) rfl;have y2:=hrz.frozen 2;dsimp only;go_wp2_with fail
   obtain⟨Wz,hWz,hrw,hwz,hkz⟩:=bG hrz (Gj (aB (s+x)).neg) (FQ A4 (aB (s+x)).num.length c4) (FQ B4 (aB (s+x)).den.length d4);rw[<-hWz];clear q0 q1 q2 y0 y1 y2;have hryz:Row Wz w.heap.size 114 [Gj false,FQ none 0 0,FQ none 0 0]:=by
    rw[hWz];exact((hry.other (a:=⟨w.heap.size+1,0,none⟩) aF _).other (a:=⟨w.heap.size+1,1,none⟩) aF _).other (a:=⟨w.heap.size+1,2,none⟩) aF _
   have hsz:Wz.heap.size=wn.heap.size:=by rw[hWz];simp
   clear hWz;have HUU:=Ac (HU.out.keep (λb hb _=>hb) (hkz (Ext (Old F w.heap.size) (w.heap.size+2)) (λh=>h.elim (λh=>by have:=h.2; omega) λh=>by omega)));go_roundw
   case rel=>exact⟨k+1,s+x,A4,c4,B4,d4,EN,by go_num,by rw[FP HXE.out,tN,<-HSU.out],hryz,hrw,HUU.out,hwz _ _ EN hB,EN⟩
   case measure=>simp[intOf]; omega
  ·refine zdr ?_;intro hall;have HF:=Ac (show s=fO xs by rw[HSU.out,hall]);clear hall;have p0:=hrz.cell (i:=0) rfl;have p1:=hrz.cell (i:=1) rfl;have p2:=hrz.cell (i:=2) rfl;have q0:=hry.cell (i:=0) rfl;have y0:=hry.frozen 0;have q1:=hry.cell (i:=1) rfl;have y1:=hry.frozen 1;have q2:=hry.cell (i:=2) rfl;have y2:=hry.frozen 2;go_wp2
   obtain⟨Wz,hWz,hrz,hwz,hkz⟩:=bG hry (Gj (aB s).neg) (FQ A' (aB s).num.length c') (FQ B' (aB s).den.length d');refine Zh ?_;clear hWz q0 q1 q2 y0 y1 y2;intro t0 t1 t2;refine bodyPost_ret (v:=.agg #[Gj (aB s).neg,FQ A' (aB s).num.length c',FQ B' (aB s).den.length d']) (by simp[results,Tryz.results69,go_sem,t0,t1,t2]) rfl ?_;exact⟨_,rfl,hwz _ _ EN hB,by rw[<-HF.out]; exact HNM.out.keep (λb hb _=>hb.elim (λh=>.inl h.1) λh=>.inr EN) (hkz _ (λh=>h.elim (λh=>by have:=h.2; omega) λh=>by omega))⟩
open List renaming getElem_toArray → lq1, getElem_cons_zero → lq2, getElem_cons_succ → lq3, setIfInBounds_toArray → lq4, set_cons_zero → lq5, set_cons_succ → lq6
theorem FK.below {w w':FW} {v:F7} {l:List Raw} (h:FK w F v l) (hb:Below w.heap.size w w'):FK w' F v l:=h.on (FZ hb F)
theorem abM {l:List Raw} (ha:acts[k]? = some a) (hl:m[k]? = some l):(IW nS acts m)[k]? = some (nS a l):=by
 rw[List.getElem?_zipWith,ha,hl]
theorem nH {l:List Raw} (hlen:m.length=acts.length) (h0:iW ((IW nS acts m).take k)=0) (ha:acts[k]? = some a) (hl:m[k]? = some l) (hne:nS a l≠0):kS acts m=nS a l:=by
 unfold kS;rw[L6 EN];exact yL h0 (abM ha hl) hne
theorem ad9 (hlen:m.length=acts.length) (h0:iW ((IW nS acts m).take k)=0) (hk:m.length<=k):kS acts m=0:=by
 unfold kS;rw[L6 EN];rwa [Gl aG] at h0
def AX (m:List (List Raw)):Prop:=∀ l∈m,l.length<=100000/\∀ r∈l,U32 r/\r.num.length<=100000/\r.den.length<=100000
theorem o8 {l:List Raw} {j:Nat} (hla:(l.length:Int)=a) (h0:iW ((l.map fC).take j)=0) (hr:l[j]? = some r) (hne:fC r≠0):nS a l=fC r:=by
 have hs:nY l=fC r:=yL h0 (by rw[Gi,hr]; rfl) hne;unfold nS;rw[L6 EN,L8 (by rw[hs]; exact hne),hs]
theorem yt {l:List Raw} (hla:(l.length:Int)=a) (h0:nY l=0):nS a l=if jC (fO (l.map uJ)) 1≠0 then 14 else 0:=by
 unfold nS;rw[L6 EN,L6 EN]
theorem ahS (w:FW) (F:FI) (vg vm:F7) (g:Gm) (m:List (List Raw)) (hg:AA w F vg g) (hm:FM w F vm m) (hT:Bd w) (hlm:m.length<=100000) (hli:g.Fh.length<=100000) (hb:AX m) (hact:∀ i∈g.Fh,i.actions<=10) :
  Calls FY 74 #[vg,vm] w (Ret w λv _=>v = F6 F5 (kS (g.Fh.map Inf.actions) m)):=by
 obtain⟨vn,vi,rfl,⟨A,c,rfl,hc,hN⟩,⟨Ai,ci,rfl,hci,hI⟩⟩:=hg;obtain⟨Am,cm,rfl,hcm,hM⟩:=hm;have HI:=Ac hI;have HM:=Ac hM;have HBB:=Ac hb;have HA:=Ac hact;have HTT:=Ac hT;clear hN hI hM hb hact hT;obtain⟨acts,zV⟩:=FH (g.Fh.map Inf.actions);rw[<-zV];have hal:acts.length=g.Fh.length:=by rw[zV,FX]
 have HAC:=Ac zV;clear zV;by_cases hlen:m.length=g.Fh.length
 ·have d1:((m.length:Int) != (g.Fh.length:Int))=false:=aG;have HLE:=Ac (show m.length=acts.length by omega);have hle1:m.length<=g.Fh.length:=EN;have hle2:g.Fh.length<=m.length:=EN;have hle3:m.length<=acts.length:=EN;clear hlen hal;go_in;go_wp2_with fail
  refine ZJ ?_;intro W hW rx hB hz;clear hW;refine(qZ W 1 aA aA).mono ?_;rintro e w1 ⟨u,rfl,hb1,hu⟩;obtain⟨one,hone⟩:∃ one:Rat,one=((1:Int):Rat):=⟨_,rfl⟩;rw[<-hone] at hu;have H1:=Ac (show one=1 from hone);clear hone;have BH:=Ac (hu.mono (G:=λ_=>True) (λ_ _ _=>trivial));obtain⟨A1,c1,B1,d1',rfl,hn,hd⟩:=hu.open;clear hn hd hu;replace rx:=rx.below hb1 rx.lt;replace hB:=hB.trans (hb1.mono hB.size);clear hb1;have hz1:w.heap.size+1<=w1.heap.size:=by have:=rx.lt;omega
  dsimp only;go_wp2
  obtain⟨W1,hW1,ry,hB1,hzz⟩:=aJ w1 114 #[Gj (aB one).neg,FQ A1 (aB one).num.length c1,FQ B1 (aB one).den.length d1'];rw[<-hW1];clear hW1;replace BH:=Ac (BH.out.below hB1);replace rx:=rx.below hB1 rx.lt;replace hB:=hB.trans (hB1.mono hB.size);replace HTT:=Ac (HTT.out.on hB);replace HI:=Ac (λh=>by
   obtain⟨b,o,h1,h2,h3,h4⟩:=HI.out h;exact(⟨b,o,h1,⟨h2,h3⟩,GZ h3 hB.size,λk x hx=>⟨ah (h4 k x hx).c0 hB,ah (h4 k x hx).c1 hB⟩⟩:∃ b o,Ai=some ⟨b,o,none⟩/\Old F w.heap.size b/\b < W1.heap.size/\∀ k x,g.Fh[k]? = some x->D6 W1 (Old F w.heap.size) b (o+k*2) x))
  replace HM:=Ac (FM.keep (G:=F) (⟨Am,cm,rfl,hcm,HM.out⟩:FM w F _ m) (λ_ h _=>h) (FZ hB F));clear hB1;have g2:=rx.cell (i:=2) rfl;have o0:=ry.cell (i:=0) rfl;have o1:=ry.cell (i:=1) rfl;have o2:=ry.cell (i:=2) rfl;have hgs:w.heap.size < W1.heap.size:=EN;have hos:w1.heap.size < W1.heap.size:=EN;clear rx ry hz hzz;have hz2:=hB.size;go_loopw [20] (λi wr=>∃ k:Nat,k<=m.length/\i = F6 F5 (k:Int)/\iW ((IW nS acts m).take k)=0/\Below W1.heap.size W1 wr) (λi _=>m.length - (intOf i).toNat)
  case atStart=>exact⟨0,EN,rfl,rfl,F9 _ _⟩
  case round =>
   obtain⟨k,hk,rfl,hpre,hbel⟩:=hrel;have HP:=Ac hpre;clear hpre;have hold:=aS hbel;have hzr:=hbel.size;by_cases hlt:k < m.length
   ·obtain⟨l,hl⟩:=FC hlt;obtain⟨inf,gU⟩:=FC (l:=g.Fh) (k:=k) EN;have hak:acts[k]? = some inf.actions:=by rw[HAC.out,Gi,gU];rfl
    obtain⟨A0,c0,he,_,hM⟩:=HM.out;cases he;obtain⟨b,o,rfl,hF,hbl,hx⟩:=hM EN;obtain⟨ur,eu,hrow⟩:=hx k l hl;rw[Gp] at eu;have HRW:=Ac hrow;obtain⟨Ar,cr,rfl,hcr,_⟩:=hrow;obtain⟨b2,p2,rfl,hF2,anb,hx2⟩:=HI.out EN;have ei:=(hx2 k inf gU).c1;have hia:inf.actions<=10:=HA.out inf (FT gU);have iJ:=HBB.out l (FT hl);have HFI:=Ac iJ.2;have hll:=iJ.1;have HL:=Ac hl;have HK:=Ac hak;clear hx hx2 hM hl gU hak iJ;by_cases hact:(l.length:Int)=inf.actions
    ·have d2:((l.length:Int) != inf.actions)=false:=aG;have CX:=Ac hact;go_wp2
     go_loopw [36] (λi wi=>∃ j:Nat,j<=l.length/\i = F6 F5 (j:Int)/\iW ((l.map fC).take j)=0/\Below W1.heap.size W1 wi) (λi _=>l.length - (intOf i).toNat)
     case atStart=>exact⟨0,EN,rfl,rfl,hbel⟩
     case round =>
      clear hold hbel hzr;obtain⟨j,hj,rfl,hpre,hbel⟩:=hrel;have HPJ:=Ac hpre;clear hpre;have hold:=aS hbel;have hzr:=hbel.size;by_cases hlt2:j < l.length
      ·obtain⟨A2,c2,he,_,hR⟩:=HRW.out;cases he;obtain⟨b3,o3,rfl,hF3,hb3,hx3⟩:=hR EN;obtain⟨r,hr⟩:=FC hlt2;obtain⟨ex0,⟨vn,ex1,hn⟩,⟨vd,ex2,hd⟩⟩:=hx3 j r hr;have HRV:=Ac (Hw (JL (r:=r) rfl hn hd) hbel);obtain⟨A4,c4,rfl,_,_⟩:=hn;obtain⟨A5,c5,rfl,_,_⟩:=hd;have hfr:=HFI.out r (FT hr);have HFR:=Ac hfr.1;have hf2:=hfr.2.1;have hf3:=hfr.2.2;have HRR:=Ac hr;clear hx3 hR hr hfr;go_wp2_with fail
       obtain⟨W2,hW2,rz,hB2,hzz⟩:=aJ wr 42 #[Gj r.neg,FQ A4 r.num.length c4,FQ A5 r.den.length c5];rw[<-hW2];clear hW2;replace HRV:=Ac (HRV.out.below hB2);refine zbo ?_;intro x0 x1 x2;replace hbel:=hbel.trans (hB2.mono hbel.size);clear hold hB2 rz;go_wp2_with fail
       refine(ake W2 F _ r HRV.out HFR.out hf2 hf3 (HTT.out.on hbel)).mono ?_;rintro e wn ⟨_,rfl,hb,rfl⟩;replace hbel:=hbel.trans (hb.mono hbel.size);clear hb x0 x1 x2;have HSE:=Ac (rfl:fC r=fC r);generalize hse:fC r=se at *;have HS2:=Ac hse;clear hse HSE;by_cases hs0:se=0
       ·have t1:(se != 0)=false:=by rw[hs0];rfl
        have HS0:=Ac hs0;clear hs0;dsimp only;go_wp2
        go_roundw
        case rel=>exact⟨j+1,EN,by go_num,pO HPJ.out (by rw[Gi,HRR.out]; show some (fC r)=_; rw[HS2.out,HS0.out]),hbel⟩
        case measure=>simp[intOf]; omega
       ·have t1:(se != 0)=true:=by simp[hs0]
        have hrow:nS inf.actions l=se:=(o8 CX.out HPJ.out HRR.out (by rw[HS2.out]; exact hs0)).trans HS2.out;have HE:=Ac ((nH HLE.out HP.out HK.out HL.out (by rw[hrow]; exact hs0)).trans hrow);clear hs0 hrow;dsimp only;exact zaT
      ·have hsh:nY l=0:=by
        have:=HPJ.out;rw[Gl aG] at this;exact this
       obtain⟨xs,hxs,hlx⟩:=yM hsh;have hrow:=yt CX.out hsh;rw[hxs,acj] at hrow;have hxl:xs.length<=10:=by
        have h1:=CX.out;rw[hxs,FX] at h1;omega
       have HXS:=Ac hxs;have HRA:=Ac (show BD wr F (FQ Ar l.length cr) xs by
        show FK wr F _ (xs.map au);rw[<-HXS.out]; exact HRW.out.on (FZ hbel F))
       have hsm:∀ k,rl (fO (xs.take k))<=20000:=λk=>by
        have h1:=aeX (xs.take k) (λx hx=>hlx x (List.mem_of_mem_take hx));have h2:(xs.take k).length<=xs.length:=aG;omega
       have hsm2:rl (fO xs)<=20000:=by
        have h1:=aeX xs hlx;omega
       have aea:rl one<=20000:=by rw[H1.out,qy];omega
       have AZ:=Ac (show nS inf.actions l=if jC (fO xs) one≠0 then 14 else 0 by rw[H1.out]; rw[hxs]; exact hrow);have HLX:=Ac hlx;have HSM:=Ac hsm;clear hsh hxs hrow hlx hsm hold;replace o0:=ah o0 hbel;replace o1:=ah o1 hbel;replace o2:=ah o2 hbel;replace BH:=Ac (BH.out.below hbel);go_wp2_with fail
       refine wp_region_held_drew (S:=λw'=>w'.cell? ⟨w1.heap.size,0,none⟩=some (Gj (aB one).neg)/\w'.cell? ⟨w1.heap.size,1,none⟩=some (FQ A1 (aB one).num.length c1)/\w'.cell? ⟨w1.heap.size,2,none⟩=some (FQ B1 (aB one).den.length d1')) ak ⟨o0,o1,o2⟩ (λhHeld=>?_);have hb:Below wr.heap.size wr wr.drew:=aI (F9 _ wr) 1;refine zcw ?_;clear o0 o1 o2 HRA BH;intro o0 o1 o2 HRA BH;refine Y4 ?_;clear hzr hbel hb;intro hzr hbel;generalize wr.drew=wn at *;refine tkm [0,3] ?_;refine tk2 1 ak rfl λK hK=>?_
       go_simp;refine(agu _ F _ xs HRA.out EN (λx hx=>by have:=HLX.out x hx; omega)).mono ?_;rintro e wn ⟨u,rfl,hb,hu⟩;have HNU:=Ac (FK.keep (G:=λ_=>True) hu (λ_ _ _=>trivial) (Gh _ _));clear hu;refine zcw ?_;clear o0 o1 o2 HRA BH;intro o0 o1 o2 HRA BH;refine Y4 ?_;clear hzr hbel hb;intro hzr hbel;dsimp only;clear hHeld;refine hK.out _ _ ⟨o0,o1,o2⟩ (λhHeld=>?_);clear hK K;refine Zb ?_;refine tk2 2 ak rfl λK hK=>?_
       go_simp;refine(sum_any _ (λ_=>True) _ xs HNU.out EN (λx hx=>by have:=HLX.out x hx; omega) HSM.out).mono ?_;rintro e wn ⟨us,rfl,hb,hu⟩;have HSU:=Ac (Ah.mono (G:=λ_=>True) hu (λ_ _ _=>trivial));clear hu;refine zcw ?_;clear o0 o1 o2 HRA BH;intro o0 o1 o2 HRA BH;replace HNU:=Ac (HNU.out.below hb);refine Y4 ?_;clear hzr hbel hb;intro hzr hbel;dsimp only;clear hHeld;refine hK.out _ _ ⟨o0,o1,o2⟩ (λhHeld=>?_);clear hK K;refine Zb ?_;refine tk2 4 ak rfl λK hK=>?_
       go_simp;refine(acF _ (λ_=>True) _ _ (fO xs) one HSU.out BH.out hsm2 aea).mono ?_;rintro e wn ⟨_,rfl,hb,rfl⟩;refine zcw ?_;clear o0 o1 o2 HRA BH;intro o0 o1 o2 HRA BH;replace HNU:=Ac (HNU.out.below hb);replace HSU:=Ac (HSU.out.below hb);refine Y4 ?_;clear hzr hbel hb;intro hzr hbel;dsimp only;clear hHeld;refine hK.out _ _ ⟨o0,o1,o2⟩ (λhHeld=>?_);clear hK K;refine Zb ?_;refine tkm [5] ?_;refine Yf ?_;clear hHeld;clear o0 o1 o2 HNU HSU;generalize jC (fO xs) one=e0 at *;refine ZR ?_;by_cases h0:e0=0
       ·have t1:(e0 != 0)=false:=by rw[h0];rfl
        have hr0:nS inf.actions l=0:=by rw[AZ.out,L6 (by simpa using h0)]
        have HR0:=Ac hr0;clear hr0 h0;go_wp2
        go_roundw
        case rel=>exact⟨k+1,EN,by go_num,pO HP.out (by rw[abM HK.out HL.out,HR0.out]),hbel⟩
        case measure=>simp[intOf]; omega
       ·refine zc6 ?_;clear h0;intro t1 HE;exact zaT
    ·have d2:((l.length:Int) != inf.actions)=true:=aG;have h3:nS inf.actions l=3:=by unfold nS;rw[L8 hact]
     have HE:=Ac ((nH HLE.out HP.out HK.out HL.out (by rw[h3]; decide)).trans h3);exact zaT
   ·have HE:=Ac (ad9 HLE.out HP.out EN);exact zaT
 ·have d1:((m.length:Int) != (g.Fh.length:Int))=true:=aG;have HE:=Ac (show kS acts m=3 by unfold kS; rw[L8 EN]);exact zbg
theorem uP (w:FW) (F:FI) (va vb:F7) (a b:Nat) (ha:Ae w F va a) (hb:Ae w F vb b) (hla:(dig a).length<=1000000) (hlb:(dig b).length<=1000000) :
  Calls FY 55 #[va,vb] w (Ret w λv _=>v = F6 F5 (dB a b)):=by
 refine(aht w F va vb a b ha hb hla hlb).mono ?_;rintro e w' ⟨rfl,z0,rfl⟩;exact⟨_,rfl,aI (F9 _ w) _,rfl⟩
theorem aeb (w:FW) (x:Nat):Ag (w.alloc (.cells #[.int .u32 (x:Int)] 103)) (λb=>w.heap.size<=b) (FQ (some ⟨w.heap.size,0,none⟩) 1 1) [x]:=by
 have h:=Row.new w 103 #[.int .u32 (x:Int)];have h2:=Row.limbs (l:=[x]) (by simpa [aU] using h) (F:=λb=>w.heap.size<=b) (FV _) (n:=1) (c:=1) aF (FV _);simpa using h2
theorem yU (w:FW) (x:Nat) (hx:x < 1000000000) :
  Calls FY 146 #[.int .u32 (x:Int)] w (Ret w λv w'=>Ae w' (λb=>w.heap.size<=b) v x):=by
 go_in;go_wp2_with fail
 refine(nC _ (λb=>w.heap.size<=b) _ 1 1 [x] rfl (aeb w x) EN).mono ?_;rintro e w' ⟨rfl,rfl⟩;have ht:=Ag.trim (l:=[x]) rfl (aeb w x) (λy hy=>by simp at hy; subst hy; exact hx);have hn:aH [x]=x:=by simp[aH]
 rw[hn] at ht;have HT:=Ac ht;clear ht hn;go_wp2
 go_ret;exact⟨_,rfl,(F9 _ _).alloc (FV _) _,HT.out⟩
def pU (n:Nat):Int:=if 1024 < (dig n).length then 5 else 0
def sG (n:Nat):List Nat:=if 1024 < (dig n).length then [] else dig n
theorem qR (w:FW) (F:FI) (v:F7) (n:Nat) (hv:Ae w F v n) (hl:(dig n).length<=1000000) :
  Calls FY 138 #[v] w (Ret w λu w'=>∃ t,u = .tuple #[t,F6 F5 (pU n)]/\Ag w' (λb=>w.heap.size<=b) t (sG n)):=by
 have HV:=Ac hv;obtain⟨A,c,rfl,hc,hN⟩:=hv;clear hN;by_cases h:1024 < (dig n).length
 ·have HE:=Ac (show pU n=5 by unfold pU; rw[L8 h]);have HI:=Ac (show sG n = [] from L8 h);have d1:decide ((1024:Int) < ((dig n).length:Int))=true:=Mc EN;clear h;go_in;go_wp2
  go_ret2;exact⟨_,rfl,F9 _ _,_,by rw[HE.out]; rfl,by rw[HI.out]; exact iT _ _ _ _⟩
 ·have HE:=Ac (show pU n=0 by unfold pU; rw[L6 h]);have HI:=Ac (show sG n=dig n from L6 h);have d1:decide ((1024:Int) < ((dig n).length:Int))=false:=L9 EN;clear h;go_in;go_wp2_with (at_builtin; refine sZ (F:=F) rfl _ _ 40 G8 rfl (some ⟨w.heap.size,0,none⟩) (λ_ h=>by cases h; exact⟨_,rfl⟩) _ (dig n) rfl rfl (HV.out.on (Same.alloc _ _ _)) hl ?_; intro u w3 hb3 hi3)
  have HI3:=Ac hi3.limbs;clear hi3;go_wp2
  go_ret2;exact⟨_,rfl,((F9 w.heap.size w).alloc (FV _) _).trans (hb3.mono aF),_,by rw[HE.out]; rfl,by rw[HI.out]; exact HI3.out.keep (λb hb _=>by simp at hb; omega) (Gh _ _)⟩
theorem ifT' {c:Bool} {p q:Prop} (h:c=true) (hp:p):if c=true then p else q:=by rw[L8 h]; exact hp
theorem ahT {P:Program} (w:FW) {a:Act} {K:Act->FW->Prop} {Q:Exit->Act->FW->Prop} (l c:Operand) (t:TypeId) (hop:o.op=Op.makeSlice t l c)
  (e:TypeId) (z:F7) (bytes:Nat) (ht:P.underlying t=some (.slice e)) (hinfo:(P.info? e).map (λi=>(i.zero,i.size,i.bytes))=some (some z,1,bytes)) (hz1:z.cells = #[z])
  (n:Nat) (hl:a.eval l = F6 F5 (n:Int)) (hc:a.eval c = F6 F5 (n:Int)) (hn:n<=1000000) (hb:bytes<=1000)
  (hK:∀ w1,Below w.heap.size w w1->w1.heap.size=w.heap.size+1->Row w1 w.heap.size e (F8 n z)->K (a.put o.dst (FQ (some ⟨w.heap.size,0,none⟩) n n)) w1) :
  Oper.wp P o a w K Q:=by
 have hbytes:bytes*n<=281474976710656:=by
  exact zde
 exact zab
theorem acG {w:FW} {a:Act} {K:Act->FW->Prop} {Q:Exit->Act->FW->Prop} (s x:Operand) (t:TypeId) (ht:Tryz.prog.underlying t=some (.slice 103)) (ho:o.op = .call { callee:=.builtin .append,args:=#[s,x],argTypes:=#[t,t] })
  (base:Option Addr) (hbase:∀ a,base=some a->∃ b,a=⟨b,0,none⟩) (v:F7) (l:List Nat) (hs:a.eval s = FQ base 0 0) (hx:a.eval x=v) (hv:Ag w F v l) (hm:l.length<=1000000)
  (h:∀ u w',Below w.heap.size w w'->Bh w.heap.size l u w'->K (a.put o.dst u) w'):Oper.wp FY o a w K Q:=by
 obtain⟨A',cap,w',hrun,h2,h3,h4⟩:=yg w F t o.type ht base hbase v l hv hm;refine zcg ?_;refine h _ w' h2 ⟨A',cap,rfl,h3,λh0=>?_⟩;obtain⟨e,rest,hrow⟩:=h4 h0;exact⟨_,rest,e,FV _,hrow⟩
def Fact.limbs (F:FI) (l:List Nat):Fact:=⟨λv w=>Ag w F v l,λ_ _ _ h hb=>h.on (FZ hb F)⟩
def Fact.zeros (B m:Nat):Fact:=⟨λv w=>∃ b,v = FQ (some ⟨b,0,none⟩) m m/\B<=b/\Row w b 103 (aU (F8 m 0)),λ_ _ _ ⟨b,h1,h2,h3⟩ hb=>⟨b,h1,h2,h3.below hb h3.lt⟩⟩
theorem ae7 {w:FW} {a:Act} {Q:Exit->Act->FW->Prop} (hgd:o.guard=none) (s x:Operand) (t:TypeId) (ht:Tryz.prog.underlying t=some (.slice 103))
  (ho:o.op = .call { callee:=.builtin .append,args:=#[s,x],argTypes:=#[t,t] })
  (base:Nat) (v u:F7) (l m:List Nat) (hs:a.eval s=v) (hown:w.ownsRow base 103 1 v l.length (aU l)) (hx:a.eval x=u) (hu:Ag w F u m) (hm:0 < m.length) (hlen:l.length+m.length<=1000000) (hbase:base<=w.heap.size)
  (h:∀ g cap w',w'.ownsRow base 103 1 (FQ (some ⟨g,0,none⟩) (l.length+m.length) cap) (l++m).length (aU (l++m))->w.grownBy w' v.ownBlock->g < w'.heap.size ->
   wpList FY ops Q rest (a.put o.dst (FQ (some ⟨g,0,none⟩) (l.length+m.length) cap)) w') :
  wpList FY ops Q (o :: rest) a w:=by
 obtain⟨i0,hi,hz0,hz1,hz2⟩:=info_parts IU;obtain⟨A,c,rfl,hc,hr⟩:=hu;obtain⟨b,off,rfl,_,_,hcell⟩:=hr hm;refine wpList_append_lies w hgd s x _ ho base _ i0 _ 1 4 ht hi hz0 hz1 hz2 rfl EN v l.length _ hs hown ⟨b,off,none⟩ m.length c (aU m) hx aF (λj y hj=>?_) (by simp[Value.oneCell']) hm (by unfold maxLen; omega) EN hbase w.heap.size rfl ?_
 ·rw[Gi] at hj;obtain⟨y,hy,rfl⟩:=Option.map_eq_some_iff.1 hj;have:=hcell j y hy;unfold dF at this;exact zdC
 ·intro g cap w' h1 h2 h3 h4;exact h g cap w' (by simpa [aU] using h1) h2 h4
theorem Ag.drop {w:FW} (h:Ag w F (FQ A l.length c) l) (hk:k<=l.length):∀ b o,A=some ⟨b,o,none⟩->Ag w F (FQ (some ⟨b,o+k,none⟩) (l.drop k).length (c - k)) (l.drop k):=by
 intro b o hA;obtain⟨A',c',he,hc,hr⟩:=h;cases he;subst hA;refine⟨_,_,rfl,by rw[J4]; omega,λh0=>?_⟩;obtain⟨b',o',e,hF,hlt,hx⟩:=hr (by rw[J4] at h0; omega);cases e;refine⟨b,o+k,rfl,hF,hlt,λj x hj=>?_⟩;rw[List.getElem?_drop] at hj;have:=hx _ x hj;rw[show o+k+j*1=o+(k+j)*1 by omega];exact this
theorem ahU (hn:n=(dig b).length) (hb0:b≠0):(dig (b*(LB / ((dig b).getD (n - 1) 0+1)))).length=n:=by
 have h1:=aV (vN hn hb0);have h2:=(rO hb0);rw[<-hn] at h2;have h3:=(jB h2.1 h2.2.1).1;have h4:b<=b*(LB / ((dig b).getD (n - 1) 0+1)):=by
  have:b*1<=b*(LB / ((dig b).getD (n - 1) 0+1)):=Gq _ h3;omega
 have h5:=aT h4;omega
theorem agv {w W:FW} {a:Act} {Q:Exit->Act->FW->Prop} (hgd:o.guard=none) (s x:Operand) (t:TypeId) (ht:Tryz.prog.underlying t=some (.slice 103))
  (ho:o.op = .call { callee:=.builtin .append,args:=#[s,x],argTypes:=#[t,t] })
  (y:Nat) (u:F7) (l:List Nat) (hW:W=w.alloc (.cells #[.int .u32 (y:Int)] 103)) (hs:a.eval s = FQ (some ⟨w.heap.size,0,none⟩) 1 1) (hx:a.eval x=u) (hu:Ag w F u l) (hl:l.length<=900000)
  (h:∀ A cap w',Below w.heap.size w w'->Ag w' (λb=>w.heap.size<=b) (FQ A (l.length+1) cap) (y :: l)->wpList FY ops Q rest (a.put o.dst (FQ A (l.length+1) cap)) w') :
  wpList FY ops Q (o :: rest) a W:=by
 have hrow:Row W w.heap.size 103 (aU [y]):=by rw[hW];exact Row.new w 103 #[.int .u32 (y:Int)]
 have hB:Below w.heap.size w W:=by rw[hW];exact(F9 _ w).alloc (FV _) _
 have hsz:w.heap.size < W.heap.size:=by rw[hW];simp
 have huW:=hu.on (FZ hB F);have hown:W.ownsRow w.heap.size 103 1 (FQ (some ⟨w.heap.size,0,none⟩) 1 1) [y].length (aU [y]) :=
  ⟨aF,.inr ⟨w.heap.size,1,(aU [y]).toArray,rfl,FV _,hrow,FV _,by unfold maxLen; omega,aF,aF⟩⟩
 by_cases h0:0 < l.length
 ·refine ae7 hgd s x t ht ho w.heap.size _ u [y] l hs hown hx huW h0 aG EN ?_;intro g cap w' h1 h2 h3;have hl:=jE h1 (F:=λb=>w.heap.size<=b) (λb hb=>(h1.lt b hb).1);have e:[y].length+l.length=l.length+1:=aG;rw[e] at hl ⊢;exact h _ _ w' (hB.grown h2 EN (λk hk=>by cases hk; exact FV _)) hl
 ·have hl0:l = []:=Hq EN;subst hl0;refine wpList_plain hgd λK hK=>?_
  obtain⟨i0,hi,hz0,hz1,hz2⟩:=info_parts IU;obtain⟨A,c,rfl,_,_⟩:=huW;have hsrc:Src FY i0.size t (FQ A 0 c) 0 [] W:=by
   cases A with
   | none=>exact Src.ofNil W ht c
   | some ad=>exact Src.ofSlice W ht ad 0 c [] aF aF aF
  have hrun:=run_append_room_src (P:=FY) W t t o.type _ i0 ht hi w.heap.size 0 1 1 _ 0 [] hsrc EN aF aF;unfold Oper.wp execOp;simp only[ho,resolve,invoke,builtin,Sem.run_bind,Sem.run_pure,Result.andThen_ok,List.map_toArray,Hr,Jp,hs,hx];rw[show(([]:List Nat).length)=0 from rfl,hrun];refine hK _ _ (h _ _ W hB ?_);have h2:=Row.limbs (l:=[y]) hrow (F:=λb=>w.heap.size<=b) (FV _) (n:=1) (c:=1) aF (FV _);simpa using h2
theorem alR (n k:Nat):dig (aH ((dig n).drop k))=(dig n).drop k:=by
 refine tC ((aP n).drop k) ?_;rw[List.getLast?_drop];split
 ·simp
 ·exact tH n
theorem ajf (n k:Nat):aH ((dig n).drop k) < LB ^ ((dig n).length - k):=by
 have h:=gV ((aP n).drop k);rwa [J4] at h
theorem akf {n kk L:Nat} (hx:(dig R)[kk]? = some x) (hL:L=aH ((dig R).drop (kk+1))):L*LB+x=aH ((dig R).drop kk):=by
 rw[bT,<-hL,aN hx,Gy,Nat.add_comm]
theorem ady (l:List Nat) (hl:Limbs l) (k:Nat):aH (l.drop k)=aH l / LB ^ k:=by
 by_cases h:k<=l.length
 ·have h1:=gI l h;have h2:=gV (hl.take k);rw[G5,Hy h] at h2;rw[h1,Nat.add_mul_div_left _ _ (Bl k),I7 h2,Iz]
 ·rw[Jg EN];have h2:=gV hl;have h3:LB ^ l.length<=LB ^ k:=Io aA EN;rw[I7 EN];rfl
theorem agw (hR:R < b) (hb:(dig b).length=n) (hx:x < LB):x+LB*R < LB*b/\(dig (x+LB*R)).length<=n+1:=by
 have h1:x+LB*R < LB*b:=by
  have:LB*(R+1)<=LB*b:=Gq _ hR;rw[Nat.mul_add] at this;omega
 refine⟨h1,aV (GZ h1 ?_)⟩;rw[Nat.pow_succ,Gy];refine H8 _ ?_;have:=lS b;rw[hb] at this;omega
theorem rC {w:FW} (h:w.ownsRow B 103 1 (FQ A l.length c) l.length (aU l)) (hl:Limbs l):Bh B (dig (aH l)) (FQ A (fF l l.length) c) w:=by
 have ht:=afJ hl;have hle:=adL l l.length;have hlen:(dig (aH l)).length=fF l l.length:=by rw[<-ht,G5,Hy hle]
 rcases h.2 with⟨e,h0⟩ | ⟨g,cap,cur,e,hb,hg,hnc,_,hsz,htake⟩
 ·injection e with e1 e2 e3
  refine⟨A,c,by rw[hlen],EN,λhp=>by omega⟩
 ·injection e with e1 e2 e3
  subst e1;subst e3;refine⟨_,c,by rw[hlen],EN,λhp=>⟨g,cur.toList.drop (fF l l.length),rfl,hb,?_⟩⟩;have e:aU (dig (aH l))++cur.toList.drop (fF l l.length)=cur.toList:=by
   have h1:aU (dig (aH l))=cur.toList.take (fF l l.length):=by
    rw[<-ht];have h2:cur.toList.take (fF l l.length)=(aU l).take (fF l l.length):=by
     rw[<-htake,List.take_take,Gp,Hy hle]
    rw[h2];unfold aU;rw[List.map_take]
   rw[h1,List.take_append_drop]
  unfold Row;rw[e,hg]
theorem Bh.other {w w':FW} {v:F7} (h:Bh B l v w) (hk:∀ g,B<=g->g < w.heap.size->w'.heap[g]? = w.heap[g]?):Bh B l v w':=by
 obtain⟨A,c,rfl,hc,hr⟩:=h;refine⟨A,c,rfl,hc,λh0=>?_⟩;obtain⟨b,rest,rfl,hb,hrow⟩:=hr h0;exact⟨b,rest,rfl,hb,hrow.of_block (hk b hb hrow.lt)⟩
theorem Bh.lower {w:FW} {B':Nat} {v:F7} (h:Bh B l v w) (hB:B'<=B):Bh B' l v w:=by
 obtain⟨A,c,rfl,hc,hr⟩:=h;refine⟨A,c,rfl,hc,λh0=>?_⟩;obtain⟨b,rest,rfl,hb,hrow⟩:=hr h0;exact⟨b,rest,rfl,Gf hB hb,hrow⟩
theorem agx {a:Nat}:0 < dB a b↔b < a:=by unfold dB; split <;> (try split) <;> omega
theorem ahV (w:FW) (F:FI) (va vb:F7) (a b:Nat) (ha:Ae w F va a) (hb:Ae w F vb b) (hb0:b≠0) (hla:(dig a).length<=50000) (hge:b<=a) :
  Calls FY 111 #[va,vb] w (Ret w (CQ F w.heap.size a b)):=by
 have HVA:=Ac ha;have HVB:=Ac hb;have hlb:(dig b).length<=(dig a).length:=aT hge;have hord:decide (dB a b < 0)=false:=by
  refine zcF ?_;split <;> (try split) <;> omega
 obtain⟨A,c,rfl,hc,_⟩:=ha;obtain⟨B,d,rfl,hd,hNb⟩:=hb;obtain⟨n,hn⟩:=FH ((dig b).length);have hn1':1<=n:=by rw[hn];exact bg.2 hb0
 obtain⟨b1,o1,rfl,_,hb1',hx⟩:=hNb EN;obtain⟨t,ht'⟩:=FC (l:=dig b) (k:=n - 1) EN;have et:=hx (n - 1) t ht';unfold dF at et;rw[Gp] at et;have gt:(dig b).getD (n - 1) 0=t:=aN ht';have htl:t < 1000000000:=(aP b).get ht';have ht1:1<=t:=by have:=(rO hb0).1;rw[<-hn,gt] at this;exact this
 obtain⟨f1,f2,_,_,_⟩:=jB ht1 htl;have hfI:(1000000000:Int) / ((t:Int)+1)=((LB / (t+1):Nat):Int):=by
  rw[show((t:Int)+1)=((t+1:Nat):Int) by omega,show(1000000000:Int)=((LB:Nat):Int) from rfl,nZ]
 obtain⟨f,hf⟩:=FH (LB / (t+1));have hbl:=ahU hn hb0;rw[gt,<-hf] at hbl;have hal:(dig (a*f)).length<=(dig a).length+1:=aV (uy EN);rw[<-hf] at hfI f1 f2;obtain⟨a',ha'⟩:∃ a',a'=a*f:=⟨_,rfl⟩;obtain⟨b',hb'⟩:∃ b',b'=b*f:=⟨_,rfl⟩;rw[<-ha'] at hal;rw[<-hb'] at hbl;have hba':b'<=a':=by rw[ha',hb'];exact H8 _ hge
 have agm:b'≠0:=by rw[hb'];exact Jk hb0 EN
 obtain⟨la,aaE⟩:∃ la,la=(dig a').length:=⟨_,rfl⟩;have hnla:n<=la:=by rw[aaE,<-hbl];exact aT hba'
 have HSC:=Ac (Ij ha' hb');have HBL:=Ac hbl;have HLA:=Ac aaE;have hlal:la<=50001:=EN;rw[<-hn] at HVB hd hlb ⊢;have hla2:(dig a).length<=50000:=hla;refine zcr ?_;intro n1 hn1;have i1:(n:Int) - 1=(n1:Int):=EN;rw[show n - 1=n1 by omega] at et;have l1:n1 < n:=EN;have HN:=Ac hn;have HB0:=Ac hb0;clear hn gt hx ht' hf hge ha' hb' aaE hbl hb0;go_in;go_wp2_with fail
 have EH:=Ac (show Ae w F (FQ (some ⟨b1,o1,none⟩) n d) b from HVB.out);refine(uP w F _ _ a b HVA.out HVB.out EN (by rw[<-HN.out]; omega)).mono ?_;rintro e wn ⟨_,rfl,hb,rfl⟩;have hB:=hb;replace et:=ah et hb;replace HVA:=Ac (HVA.out.below hb);replace HVB:=Ac (HVB.out.below hb);clear hb;generalize dB a b=od at *;dsimp only;go_wp2_with fail
 refine(yU _ f EN).mono ?_;rintro e wn ⟨vf,rfl,hb,hu⟩;have HF:=Ac (hu.mono (G:=λb=>w.heap.size<=b) (λb h _=>Gf hB.size h));clear hu;replace et:=ah et hb;replace HVA:=Ac (HVA.out.below hb);replace HVB:=Ac (HVB.out.below hb);refine YW ?_;clear hB hb;intro hB;go_wp2_with fail
 refine(iY _ (λb=>F b\/w.heap.size<=b) _ _ a f (HVA.out.mono (λ_ h _=>.inl h)) (HF.out.mono (λ_ h _=>.inr h)) EN (by have:=aV (n:=f) (k:=1) (by unfold LB; omega); omega)).mono ?_;rintro e wn ⟨va',rfl,hb,hu⟩;rw[<-HSC.out.1] at hu;have HA:=Ac (hu.mono (G:=λb=>w.heap.size<=b) (λb h _=>Gf hB.size h));clear hu;replace et:=ah et hb;replace HVA:=Ac (HVA.out.below hb);replace HVB:=Ac (HVB.out.below hb);replace HF:=Ac (HF.out.below hb);refine YW ?_;clear hB hb;intro hB;go_wp2_with fail
 refine(iY _ (λb=>F b\/w.heap.size<=b) _ _ b f (HVB.out.mono (λ_ h _=>.inl h)) (HF.out.mono (λ_ h _=>.inr h)) (by rw[<-HN.out]; omega) (by have:=aV (n:=f) (k:=1) (by unfold LB; omega); omega)).mono ?_;rintro e wn ⟨vb',rfl,hb,hu⟩;rw[<-HSC.out.2] at hu;have HB:=Ac (hu.mono (G:=λb=>w.heap.size<=b) (λb h _=>Gf hB.size h));clear hu;replace et:=ah et hb;replace HVA:=Ac (HVA.out.below hb);replace HVB:=Ac (HVB.out.below hb);replace HF:=Ac (HF.out.below hb);replace HA:=Ac (HA.out.below hb);refine YW ?_;clear hB hb;intro hB;clear et HVA HVB EH hb1' i1;obtain⟨Aa,ca,rfl,hca,hNa'⟩:=HA.out;obtain⟨Ab,cb,rfl,hcb,hNb'⟩:=HB.out;obtain⟨ba,oa,rfl,_,hba1,_⟩:=hNa' (by rw[<-HLA.out]; omega);obtain⟨bb,ob,rfl,_,hbb1,hxb⟩:=hNb' (by rw[HBL.out]; omega);obtain⟨t',ht2⟩:=FC (l:=dig b') (k:=n1) (by rw[HBL.out]; omega);have et:=hxb n1 t' ht2;unfold dF at et;rw[Gp] at et;have ht'l:t' < 1000000000:=(aP b').get ht2;have HTP:=Ac (show(dig b').getD ((dig b').length - 1) 0=t' by rw[HBL.out,show n - 1=n1 by omega]; exact aN ht2);have ht'1:1<=t':=by have:=(rO agm).1;rw[HTP.out] at this;exact this
 rw[<-HLA.out] at hca HA ⊢;rw[HBL.out] at hcb HB ⊢;clear hNa' hNb' hxb ht2;have i1:(n:Int) - 1=(n1:Int):=EN;obtain⟨m,hm⟩:∃ m,m+n=la+1:=⟨la+1 - n,EN⟩;have hwm:IntKind.i64.wrap (IntKind.i64.wrap ((la:Int) - (n:Int))+1)=(m:Int):=by rw[GH ((la:Int) - (n:Int)) EN,GH _ EN];omega
 have HAL:=Ac (show Ag wn (λb=>w.heap.size<=b) (FQ (some ⟨ba,oa,none⟩) (dig a').length ca) (dig a') by rw[<-HLA.out]; exact HA.out);have HDR:=Ac (show Ag wn (λb=>w.heap.size<=b) (FQ (some ⟨ba,oa+m,none⟩) ((dig a').drop m).length (ca - m)) ((dig a').drop m) from HAL.out.drop (by rw[<-HLA.out]; omega) _ _ rfl);have hdl:((dig a').drop m).length=la - m:=by rw[J4,<-HLA.out]
 have HDL:=Ac hdl;obtain⟨D,hD⟩:=FH ((dig a').drop m);rw[<-hD] at HDR HDL hdl;have HDE:=Ac hD;clear hD HAL;have hwb:=hB.size;go_wp2_with fail
 clear hfI i1;refine wp_region_held_drew (S:=λ_=>True) ak trivial (λhHeld=>?_);refine tkm [0,1,2,3,4,6,7,8,9,10,11,12] ?_;clear hwm;refine og (js:=[5,13,14,15,16]) ((Hold.of (Fact.limbs (λb=>w.heap.size<=b) D) (FQ (some ⟨ba,oa+m,none⟩) D.length (ca - m))).and (Hold.below wn.heap.size wn))
  [(5,Fact.zeros wn.heap.size m),(13,Fact.limbs (λb=>w.heap.size<=b) D),(14,Fact.limbs (λb=>w.heap.size<=b) D),(15,Fact.zeros wn.heap.size m),(16,Fact.limbs (λb=>w.heap.size<=b) D)] ak ⟨Ag.on HDR.out (Same.drewN _ _ 1),FV _,aI (F9 _ wn) 1⟩ (λ_ _=>trivial) ?_
 refine Flow.cons (o:=_) rfl (λwk hS hf K hK=>?_) (λv5=>?_)
 ·refine ifT' rfl ?_;refine ahT _ _ _ 40 rfl 103 (.int .u32 0) 4 G8 IU rfl m rfl rfl EN EN ?_;intro w1 hb1 hz1 hr1;exact hK.out _ _ hb1 ⟨_,rfl,hS.2.1,by rw[gQ]; exact hr1⟩
 refine Zb ?_;refine Flow.cons (o:=_) rfl (λwk hS hf K hK=>?_) (λv13=>?_)
 ·have hSl:=hS.1;go_simp;try simp only[Int.toNat_natCast]
  have hml:m<=la:=EN;rw[L8 hml];rw[show la - m=D.length from hdl.symm];by_cases hcm:ca=m
  ·have hD0:D = []:=Hq EN;rw[L8 hcm];refine hK.out _ _ (F9 _ _) ?_;show Ag wk _ _ D;rw[hD0];exact iT _ _ _ _
  ·rw[L6 hcm];exact hK.out _ _ (F9 _ _) hSl
 refine Zb ?_;refine Flow.cons (o:=_) rfl (λwk hS hf K hK=>?_) (λv14=>?_)
 ·have f13:=eY (f:=Fact.limbs (λb=>w.heap.size<=b) D) (hf (13,v13) aF ak) rfl;refine ifT' rfl ?_;refine acG _ _ 40 G8 rfl none (λ_ h=>by cases h) v13 D rfl rfl f13 EN ?_;intro u w' hb hi;exact hK.out _ _ hb (Ag.keep hi.limbs (λb h _=>Gf (Gf hwb hS.2.1) h) (Gh _ _))
 refine Zb ?_;refine Flow.cons (o:=_) rfl (λwk hS hf K hK=>?_) (λv15=>?_)
 ·have f5:=eY (f:=Fact.zeros wn.heap.size m) (hf (5,v5) aF ak) rfl;go_simp;exact hK.out _ _ (F9 _ _) f5
 refine Zb ?_;refine Flow.cons (o:=_) rfl (λwk hS hf K hK=>?_) (λv16=>?_)
 ·have f14:=eY (f:=Fact.limbs (λb=>w.heap.size<=b) D) (hf (14,v14) aF ak) rfl;go_simp;exact hK.out _ _ (F9 _ _) f14
 refine Zb ?_;refine Flow.nil (λwE hS hf=>?_);have f15:=eY (f:=Fact.zeros wn.heap.size m) (hf (15,v15) aF) rfl;have f16:=eY (f:=Fact.limbs (λb=>w.heap.size<=b) D) (hf (16,v16) aF) rfl;obtain⟨_,hSz,hSb⟩:=hS;obtain⟨bq,hv15,hbq,hrq⟩:=f15;dsimp only at hv15;subst hv15;have HRQ:=Ac hrq;have hBE:Below wn.heap.size wn wE:=hSb;have hBQ:=hrq.lt;have hR0:aH D < b':=by
  rw[HDE.out];refine GZ (ajf a' m) ?_;have h1:=aau agm;rw[HBL.out] at h1;rw[<-HLA.out,show la - m=n - 1 by omega];exact h1
 have HR0:=Ac hR0;have HR16:=Ac (show Ae wE (λb=>w.heap.size<=b) v16 (aH D) by unfold Ae; rw[HDE.out,alR,<-HDE.out]; exact f16);clear hf f16 hrq hHeld HDR hdl et hR0 hSz;have i4:(la:Int) - (n:Int)=(m:Int) - 1:=EN;go_wp2_with fail
 clear i4;try generalize IntKind.i64.wrap ((la:Int) - (n:Int))=jk
 go_loopw [5,9,10,11,12] (λrv iv _ _ _ wr=>∃ (k R:Nat) (Q:List Nat),k<=m/\iv = F6 F5 ((k:Int) - 1)/\aH ((dig a').drop k)=b'*aH (Q.drop k)+R/\R < b'/\Q.length=m/\Limbs Q/\Row wr bq 103 (aU Q) /\
  ((k=m/\Ae wr (λb=>w.heap.size<=b) rv R)\/Bh (bq+1) (dig R) rv wr)/\Below wn.heap.size wn wr/\wE.heap.size<=wr.heap.size) (λ_ iv _ _ _ _=>(intOf iv+1).toNat)
 case atStart =>
  refine⟨m,aH D,F8 m 0,FV _,rfl,?_,HR0.out,aF,Limbs.zeros _,HRQ.out,.inl ⟨rfl,HR16.out⟩,hBE,FV _⟩;rw[<-HDE.out,Jg aF];simp[aH]
 case round =>
  clear HRQ HR0 HR16 hBE;obtain⟨k,R,Q,hk,rfl,hinv,hR,hQl,anL,hrq,hown,hbel,hsz⟩:=hrel;have hzw:=hbel.size;have hB2:Below w.heap.size w wr:=hB.trans (hbel.mono hwb);have HQL:=Ac hQl;have HQM:=Ac anL;have HI:=Ac hinv;have HO:=Ac hown;have hvr:Ae wr (λb=>w.heap.size<=b) u5 R:=by
   rcases hown with h | h
   ·exact h.2
   ·exact Ag.keep h.limbs (λb hb _=>by omega) (Gh _ _)
  have hRl:(dig R).length<=n:=by have:=aT (Nat.le_of_lt hR);rw[HBL.out] at this;exact this
  clear hQl anL hinv hown;rcases Gt k with h0 | h0
  ·subst h0;have ahK:Bh (bq+1) (dig R) u5 wr:=by
    rcases HO.out with h | h
    ·omega
    ·exact h
   clear hvr HO;have hsc:=aa3 (a:=a) (b:=b) (f:=f) (q:=aH Q) (r:=R) EN (by have:=HI.out; rw[I4,I4,aX,HSC.out.1,HSC.out.2] at this; exact this) (by rw[<-HSC.out.2]; exact hR);have HQR:=Ac hsc;clear hsc;have hfd:dig f = [f]:=kQ EN (by unfold LB; omega);obtain⟨Af,cf,hvf,hcf,hNf⟩:=HF.out;have hfl:(dig f).length=1:=by rw[hfd];rfl
   obtain⟨bf,of,rfl,_,hbf,hxf⟩:=hNf EN;have ef:wn.cell? ⟨bf,of,none⟩=some (.int .u32 (f:Int)):=by
    have:=hxf 0 f (by rw[hfd]; rfl);unfold dF at this;simpa using this
   rw[hfl] at hvf hcf;subst hvf;obtain⟨Ar,cr,rfl,hcr,hrr⟩:=ahK;obtain⟨t0,ht0⟩:=FH ((dig R).length);rw[<-ht0] at hcr hrr hRl ⊢;have HT0:=Ac ht0;have alS:Ag wr (λb=>w.heap.size<=b) (FQ (some ⟨bq,0,none⟩) m m) Q:=kH hrq (by show w.heap.size<=bq; omega) HQL.out (FV _);clear hNf hxf hfd hfl HI;rcases Gt t0 with h0 | hpos
   ·subst h0;have HR0:=Ac (show R=0 by rw[<-zC]; exact HT0.out.symm);have HQW:=Ac alS;clear alS;clear ht0;obtain⟨wp,rfl⟩:∃ wp:FW,wp=wr:=⟨_,rfl⟩;go_wp2_with fail
    go_loopw [13,14] (λ_ iv wr=>iv = F6 F5 (-1)/\wp=wr) (λ_ _ _=>0)
    case atStart=>exact⟨rfl,rfl⟩
    case round =>
     obtain⟨rfl,rfl⟩:=hrel;go_wp2_with fail
     refine(nC wp (λb=>w.heap.size<=b) (some ⟨bq,0,none⟩) m m Q HQL.out HQW.out EN).mono ?_;rintro e w' ⟨rfl,rfl⟩;have HTQ:=Ac (Ag.trim HQL.out HQW.out HQM.out);dsimp only;go_wp2_with fail
     refine(nC wp (λb=>w.heap.size<=b) Ar 0 cr [] rfl (iT _ _ _ _) EN).mono ?_;rintro e w' ⟨rfl,rfl⟩;dsimp only;go_wp2
     go_ret2;refine⟨_,rfl,hB2,_,_,rfl,?_,?_⟩
     ·rw[<-HQR.out.1];exact HTQ.out.mono λb hb _=>.inr hb
     ·rw[<-HQR.out.2,HR0.out,Nat.zero_div];exact Ae.zero _ _ _ _
   ·obtain⟨g,rest,rfl,hg,hrow⟩:=hrr hpos;have hglt:=hrow.lt;have AZ:=Ac hrow;clear hrr alS hrow ht0;have HRQ2:=Ac hrq;clear hrq;have hd0:aH ((dig R).drop t0)=0:=by rw[Jg (by rw[<-HT0.out]; omega)];rfl
    obtain⟨wp,rfl⟩:∃ wp:FW,wp=wr:=⟨_,rfl⟩;go_wp2_with fail
    go_loopw [13,14] (λsv iv wr=>∃ (kk s:Nat) (l:List Nat),kk<=t0/\iv = F6 F5 ((kk:Int) - 1)/\sv = .int .u64 (s:Int)/\s < f/\l.length=t0/\l.take kk=(dig R).take kk/\aH ((dig R).drop kk)=f*aH (l.drop kk)+s/\Limbs l /\
     Row wr g 103 (aU l++rest)/\Row wr bq 103 (aU Q)/\Below wn.heap.size wn wr/\wp.heap.size<=wr.heap.size) (λ_ iv _=>(intOf iv+1).toNat)
    case atStart =>
     exact⟨t0,0,dig R,FV _,rfl,rfl,EN,HT0.out.symm,rfl,by rw[hd0]; omega,aP R,AZ.out,HRQ2.out,hbel,FV _⟩
    case round =>
     clear AZ HRQ2 hd0;obtain⟨kk,s,l,hkk,rfl,rfl,hsf,hll,htk,hinv,hlim,hrow,hrq,jo,hsz2⟩:=hrel;have HTK:=Ac htk;have HINV:=Ac hinv;have EI:=Ac hlim;have HLL:=Ac hll;have hef:wr.cell? ⟨bf,of,none⟩=some (.int .u32 (f:Int)):=(aS jo bf of hbf).trans ef;have hzb:=jo.size;have hBw:Below w.heap.size w wr:=hB.trans (jo.mono hwb);clear htk hinv hlim;rcases Gt kk with h0 | h0
     ·subst h0;have hfin:aH l=R / f:=by
       have h1:=HINV.out;rw[I4,I4,aX] at h1;rw[h1,Nat.mul_add_div EN,I7 hsf,Nat.add_zero]
      have HFIN:=Ac hfin;have HQW:=Ac (show Ag wr (λb=>w.heap.size<=b) (FQ (some ⟨bq,0,none⟩) m m) Q from kH hrq (by show w.heap.size<=bq; omega) HQL.out (FV _));have HRW:=Ac (show Ag wr (λb=>w.heap.size<=b) (FQ (some ⟨g,0,none⟩) t0 cr) l from(Bh.limbs (B:=w.heap.size) ⟨_,cr,by rw[hll],EN,λ_=>⟨g,rest,rfl,EN,hrow⟩⟩));clear hfin hrow hrq hll;go_wp2_with fail
      refine(nC wr (λb=>w.heap.size<=b) (some ⟨bq,0,none⟩) m m Q HQL.out HQW.out EN).mono ?_;rintro e w' ⟨rfl,rfl⟩;have HTQ:=Ac (Ag.trim HQL.out HQW.out HQM.out);dsimp only;go_wp2_with fail
      refine(nC wr (λb=>w.heap.size<=b) (some ⟨g,0,none⟩) t0 cr l HLL.out HRW.out EN).mono ?_;rintro e w' ⟨rfl,rfl⟩;have HTR:=Ac (Ag.trim HLL.out HRW.out EI.out);dsimp only;go_wp2
      go_ret2;refine⟨_,rfl,hBw,_,_,rfl,?_,?_⟩
      ·rw[<-HQR.out.1];exact HTQ.out.mono λb hb _=>.inr hb
      ·rw[<-HQR.out.2,<-HFIN.out];exact HTR.out.mono λb hb _=>.inr hb
     ·obtain⟨k2,rfl⟩:∃ k2,kk=k2+1:=⟨kk - 1,EN⟩;have e3:((k2+1:Nat):Int) - 1=(k2:Int):=EN;rw[e3];obtain⟨y,hy⟩:=FC (l:=l) (k:=k2) EN;have hyl:y < 1000000000:=EI.out.get hy;have hyd:(dig R)[k2]? = some y:=by
       have h1:(l.take (k2+1))[k2]? = ((dig R).take (k2+1))[k2]?:=by rw[HTK.out]
       rw[KI EN,KI EN,hy] at h1;exact h1.symm
      have hyc:(aU l++rest)[k2]? = some (.int .u32 (y:Int)):=by
       rw[List.getElem?_append_left aG];exact bn hy
      have ey:=hrow.cell hyc;have fy:=hrow.frozen k2;obtain⟨e,he⟩:=FH ((s*LB+y) / f);obtain⟨s2,hs2⟩:=FH ((s*LB+y) % f);have hel:e < LB:=by rw[he];exact wB hsf hyl
      have hs2l:s2 < f:=by rw[hs2];exact IK _ EN
      have hqI:((s:Int)*1000000000+(y:Int)) / (f:Int)=(e:Int):=by
       rw[he,<-nZ];congr 1
      have hrI:((s:Int)*1000000000+(y:Int)) % (f:Int)=(s2:Int):=by
       rw[hs2,<-tV];congr 1
      have HST:=Ac (yE (A:=0) (q:=l) (a:=dig R) (i:=k2) (d:=f) (r:=s) (r':=s2) (s:=e) EN HINV.out (by rw[aN hyd,he,hs2]; exact(Nat.div_add_mod _ _).symm));have Dj:=Ac hrow;have HRQ3:=Ac hrq;have hgw:g < wr.heap.size:=EN;have hell:e < 1000000000:=hel;clear he hs2 hyd hyc hy hrow hrq hll;go_wp2
      go_roundw
      case rel =>
       refine⟨k2,s2,l.set k2 e,EN,by go_num,by go_num,hs2l,by rw[He]; exact HLL.out,?_,HST.out,EI.out.set hel,?_,?_,?_,?_⟩
       ·have h1:=HTK.out;have h2:=congrArg (List.take k2) h1;rw[List.take_take,List.take_take,Hy EN] at h2;rw[List.take_set_of_le EN];exact h2
       ·have h:=Dj.out.set k2 (.int .u32 (e:Int));rw[List.set_append_left _ _ (by have:=HLL.out; simp; omega),bC] at h;exact h
       ·exact HRQ3.out.other (a:=⟨g,k2,none⟩) aG _
       ·exact jo.setCell (p:=⟨g,k2,none⟩) (by show wn.heap.size<=g; omega) _
       ·simp;omega
      case measure=>simp[intOf]
  ·obtain⟨j,rfl⟩:∃ j,k=j+1:=⟨k - 1,EN⟩;have e1:((j+1:Nat):Int) - 1=(j:Int):=EN;rw[e1];have hjm:j < m:=EN;have hjla:j < la:=EN;have hRA:=HA.out.below hbel;obtain⟨x,hx'⟩:=FC (l:=dig a') (k:=j) (by rw[<-HLA.out]; omega);have ex:wr.cell? ⟨ba,oa+j,none⟩=some (.int .u32 (x:Int)):=by
    obtain⟨A2,c2,hE,_,hh⟩:=hRA;cases hE;obtain⟨b2,o2,hE2,_,_,hxx⟩:=hh (by rw[<-HLA.out]; omega);cases hE2;have:=hxx j x hx';unfold dF at this;rw[Gp] at this;exact this
   have hxl:x < 1000000000:=(aP a').get hx';have HX:=Ac (aN hx');clear hx' hRA;have HVR:=Ac hvr;obtain⟨Ar,cr,rfl,hcr,_⟩:=hvr;obtain⟨wp,rfl⟩:∃ wp:FW,wp=wr:=⟨_,rfl⟩;go_wp2_with (at_builtin; refine agv (w:=wp) (F:=λb=>w.heap.size<=b) rfl _ _ 40 G8 rfl x _ (dig R) rfl rfl rfl HVR.out EN ?_; intro A3 c3 w3 hb3 hi3; have HI3:=Ac hi3; clear hi3)
   have hz3:=hb3.size;refine(nC w3 (λb=>wp.heap.size<=b) A3 ((dig R).length+1) c3 (x :: dig R) aF HI3.out EN).mono ?_;rintro e w' ⟨rfl,rfl⟩;have htr:=Ag.trim aF HI3.out (λy hy=>by
    rcases List.mem_cons.1 hy with h | h
    ·subst h;exact hxl
    ·exact aP R y h)
   rw[show aH (x :: dig R)=x+LB*R by show x+LB*aH (dig R)=_; rw[aX]] at htr;obtain⟨hRb,hRrl⟩:=agw (x:=x) hR HBL.out hxl;obtain⟨Rr,hRr⟩:=FH (x+LB*R);rw[<-hRr] at htr hRb hRrl;have HRR:=Ac hRr;have hte:fF (x :: dig R) ((dig R).length+1)=(dig Rr).length:=by
    obtain⟨A5,c5,he,_⟩:=htr;injection he
   rw[hte] at htr ⊢;have HTR:=Ac htr;obtain⟨lr,hlr⟩:=FH ((dig Rr).length);rw[<-hlr] at hRrl HTR ⊢;have HLR:=Ac hlr;have hxr:∀ k y:Nat,(dig Rr)[k]? = some y->∃ b o,A3=some ⟨b,o,none⟩/\w3.cell? ⟨b,o+k,none⟩=some (.int .u32 (y:Int)):=by
    intro k y hk;obtain⟨A5,c5,he,_,hh⟩:=htr;cases he;obtain⟨b5,o5,e5,_,_,hx5⟩:=hh (by have:=FD hk; omega);have h9:=hx5 k y hk;unfold dF at h9;rw[Gp] at h9;exact⟨b5,o5,e5,h9⟩
   have HXR:=Ac hxr;clear hRr hte hlr hxr htr HI3 HVR hcr;dsimp only;go_wp2_with fail
   go_loopw [10,11] (λlv kv wr=>∃ kk L:Nat,kk<=lr/\(n1<=kk\/kk=lr)/\kv = F6 F5 ((kk:Int) - 1)/\lv = .int .u64 (L:Int)/\L=aH ((dig Rr).drop kk)/\w3=wr) (λ_ kv _=>(intOf kv+1).toNat)
   case atStart=>exact⟨lr,0,FV _,.inr rfl,rfl,rfl,by rw[Jg (by rw[<-HLR.out]; omega)]; rfl,rfl⟩
   case round =>
    obtain⟨kk,L,hkk,hkn,rfl,rfl,hL,rfl⟩:=hrel;have HLL:=Ac hL;clear hL;by_cases hkc:n1+1<=kk
    ·obtain⟨k1,rfl⟩:∃ k1,kk=k1+1:=⟨kk - 1,EN⟩;have e2:((k1+1:Nat):Int) - 1=(k1:Int):=EN;rw[e2];obtain⟨y,hy⟩:=FC (l:=dig Rr) (k:=k1) (by rw[<-HLR.out]; omega);obtain⟨b5,o5,rfl,ey⟩:=HXR.out k1 y hy;have hyl:y < 1000000000:=(aP Rr).get hy;have hL1:L < 1000000000:=by
      rw[HLL.out];refine GZ (ajf Rr (k1+1)) ?_;rw[<-HLR.out];have:LB ^ (lr - (k1+1))<=LB ^ 1:=Io aA EN;simpa using this
     have HNX:=Ac (akf (n:=n) hy HLL.out);clear hy;have hi5:(n:Int) - 1=(n1:Int):=EN;have hc5:decide ((n1:Int)<=(k1:Int))=true:=Mc EN;go_wp2
     go_roundw
     case rel=>exact⟨k1,L*LB+y,EN,EN,by go_num,by go_num,HNX.out,by first | rfl | trivial⟩
     case measure=>simp[intOf]
    ·have hLv:L=Rr / LB ^ n1:=by
      rw[HLL.out];rcases hkn with h | h
      ·rw[show kk=n1 by omega,ady _ (aP Rr),aX]
      ·rw[h,Jg (by rw[<-HLR.out]; omega)];have h2:=lS Rr;rw[<-HLR.out] at h2;have h3:LB ^ lr<=LB ^ n1:=Io aA EN;rw[I7 EN];rfl
     have HLV:=Ac hLv;clear hLv HLL;have hi5:(n:Int) - 1=(n1:Int):=EN;have hc5:decide ((n1:Int)<=(kk:Int) - 1)=false:=L9 EN;have hbn:aH []=0:=rfl;have hge:=ak9 (b:=b') (r:=Rr) agm hRb;rw[HBL.out,show n - 1=n1 by omega,show(dig b').getD n1 0=t' by have:=HTP.out; rwa [HBL.out,show n - 1=n1 by omega] at this,<-HLV.out] at hge;obtain⟨q,hq⟩:=FH (L / t');rw[<-hq] at hge;have hqI:(L:Int) / (t':Int)=(q:Int):=by rw[hq,nZ]
     have hLlt:L < 1000000000000000000:=by
      rw[HLV.out];refine(I8 (Bl _)).2 ?_;refine GZ (lS Rr) ?_;rw[<-HLR.out,show(1000000000000000000:Nat)=LB ^ 2 by decide,<-Nat.pow_add];exact Io aA EN
     have hql:q < 1000000000000000000:=by rw[hq];exact JD (JJ _ _) hLlt
     have HGE:=Ac hge;have HB3:=Ac ((HB.out.below hbel).below hb3);clear hq hge hkn;go_wp2_with fail
     all_goals
      go_loopw [12] (λdv wr=>∃ d:Nat,dv = .int .u64 (d:Int)/\Rr / b'<=d/\d < 1000000000/\Below w3.heap.size w3 wr) (λdv _=>(intOf dv).toNat)
      case atStart =>
       first
        | exact⟨q,by first | rfl | go_num,by have:=HGE.out; omega,EN,F9 _ _⟩
        | exact⟨999999999,by first | rfl | go_num,by have:=HGE.out; unfold LB at this; omega,EN,F9 _ _⟩
      case round =>
       obtain⟨d,rfl,hdge,hdl,hb4⟩:=hrel;have hz4:=hb4.size;have HD:=Ac hdge;clear hdge;have HBR:=Ac (HB3.out.below hb4);have HRR4:=Ac (Ae.below (n:=Rr) HTR.out hb4);go_wp2_with fail
       refine(yU wr d EN).mono ?_;rintro e w5 ⟨vd,rfl,hb5,hvd⟩;have HVD:=Ac hvd;clear hvd;have hz5:=hb5.size;have HBR5:=Ac (HBR.out.below hb5);have HRR5:=Ac (Ae.below (n:=Rr) HRR4.out hb5);dsimp only;go_wp2_with fail
       refine(iY w5 (λb=>w.heap.size<=b) _ _ b' d HBR5.out (HVD.out.mono (λb hb _=>by omega)) (by rw[HBL.out]; omega) (by have:=aV (n:=d) (k:=1) (by unfold LB; omega); omega)).mono ?_;rintro e w6 ⟨vt,rfl,hb6,hvt⟩;have HVT:=Ac hvt;clear hvt;have hz6:=hb6.size;have HRR6:=Ac (Ae.below (n:=Rr) HRR5.out hb6);have hltd:(dig (b'*d)).length<=n+1:=Gf (dW _ _) (by rw[HBL.out]; have:=aV (n:=d) (k:=1) (by unfold LB; omega); omega);dsimp only;go_wp2_with fail
       refine(uP w6 (λb=>w.heap.size<=b) _ _ (b'*d) Rr (HVT.out.mono (λb hb _=>by omega)) (HRR6.out.mono (λb hb _=>by omega)) EN (by rw[<-HLR.out]; omega)).mono ?_;rintro e w7 ⟨_,rfl,hb7,rfl⟩;have hb47:Below w3.heap.size w3 w7:=hb4.trans ((hb5.trans ((hb6.trans (hb7.mono hz6)).mono hz5)).mono hz4);by_cases hgt:Rr < b'*d
       ·have hdd:decide (0 < dB (b'*d) Rr)=true:=Mc (agx.2 hgt);have an5:Rr / b' < d:=(I8 EN).2 (by rw[Gy]; exact hgt);have hd1:1<=d:=JD (Nat.zero_le _) an5;have HDL:=Ac an5;clear hgt an5;dsimp only;go_wp2
        go_roundw
        case rel=>exact⟨d - 1,by go_num,Nat.le_sub_one_of_lt HDL.out,EN,hb47⟩
        case measure=>simp[intOf]; omega
       ·have hdd:decide (0 < dB (b'*d) Rr)=false:=L9 (λh=>hgt (agx.1 h));have hde:d=Rr / b':=ala agm HD.out EN;have EJ:=Ac hde;clear hgt hde;have hz7:=hb7.size;have HBR7:=Ac (HBR5.out.below (hb6.trans (hb7.mono hz6)));have HRR7:=Ac (Ae.below (n:=Rr) HRR6.out hb7);have hz47:=hb47.size;dsimp only;go_wp2_with fail
        refine(yU w7 d EN).mono ?_;rintro e w8 ⟨vd,rfl,hb8,hvd⟩;have HVD8:=Ac hvd;clear hvd;have hz8:=hb8.size;dsimp only;go_wp2_with fail
        refine(iY w8 (λb=>w.heap.size<=b) _ _ b' d (HBR7.out.below hb8) (HVD8.out.mono (λb hb _=>by omega)) (by rw[HBL.out]; omega) (by have:=aV (n:=d) (k:=1) (by unfold LB; omega); omega)).mono ?_;rintro e w9 ⟨vt,rfl,hb9,hvt⟩;have HVT9:=Ac hvt;clear hvt;have hz9:=hb9.size;have hle9:b'*d<=Rr:=by rw[EJ.out];exact Nat.mul_div_le _ _
        dsimp only;go_wp2_with fail
        refine(yN w9 (λb=>w.heap.size<=b) _ _ Rr (b'*d) ((Ae.below (n:=Rr) HRR7.out (hb8.trans (hb9.mono hz8))).mono (λb hb _=>by omega)) (HVT9.out.mono (λb hb _=>by omega)) hle9 (by rw[<-HLR.out]; omega)).mono ?_;rintro e w10 ⟨_,rfl,hb10,l10,A10,c10,rfl,hn10,hl10,alT⟩;have ahK:=rC alT hl10;rw[hn10,show Rr - b'*d=Rr % b' from ajB EJ.out] at ahK;have alU:Below w3.heap.size w3 w10:=hb47.trans ((hb8.trans ((hb9.trans (hb10.mono hz9)).mono hz8)).mono hz47);have alV:Below wp.heap.size wp w10:=hb3.trans (alU.mono hz3);have hbqw:bq < wp.heap.size:=GZ hBQ hsz;have ajg:=hrq.below alV hbqw;have hz10:=hb10.size;have HCOP:=Ac ahK;have hvl:∃ v10,v10=Value.slice A10 (fF l10 l10.length) c10:=⟨_,rfl⟩;obtain⟨v10,hv10⟩:=hvl;have HV10:=Ac hv10;have hqd:Q.length=m:=HQL.out;have hjQ:(aU Q).length=m:=by simp[hqd]
        obtain⟨yq,hyq⟩:=FC (l:=aU Q) (k:=j) EN;have hcq:=ajg.cell hyq;have hfq:=ajg.frozen j;have alW:Below wn.heap.size wn w10:=hbel.trans (alV.mono hzw);have Fa:=Ac alW;have Fb:=Ac ajg;have HNXT:=Ac (ajC (a:=dig a') (q:=Q) (i:=j) (b:=b') (r:=R) (d:=d) EN HI.out (by rw[HX.out,<-HRR.out]; exact EJ.out));have qA:bq+1<=w9.heap.size:=EN;have hwq:wE.heap.size<=w10.heap.size:=EN;clear alT hn10 hl10 ahK hyq ajg hb10 hb9 hb8 hb7 hb6 hb5 hb4 alU alV alW hle9 hv10 hrq;dsimp only;go_wp2
        go_roundw
        case rel =>
         refine⟨j,Rr % b',Q.set j d,EN,by go_num,?_,IK _ EN,by rw[He]; exact hqd,HQM.out.set hdl,?_,.inr ?_,?_,?_⟩
         ·have h:=HNXT.out;rw[HX.out,<-HRR.out] at h;exact h
         ·have h:=Fb.out.set j (.int .u32 (d:Int));rw[bC] at h;exact h
         ·refine Bh.lower (B:=w9.heap.size) (HCOP.out.other (λg hg _=>?_)) qA;exact Below.heap_setCell _ _ _ _ (λe=>by simp at e; omega)
         ·exact Fa.out.setCell (p:=⟨bq,j,none⟩) hbq _
         ·simp;exact hwq
        case measure=>simp[intOf]
theorem aaH (w:FW) (F:FI) (va vb:F7) (a b:Nat) (ha:Ae w F va a) (hb:Ae w F vb b) (hb0:b≠0) (hla:(dig a).length<=50000) (hlb:(dig b).length<=50000) :
  Calls FY 111 #[va,vb] w (Ret w (CQ F w.heap.size a b)):=by
 by_cases hlt:a < b
 ·have hord:decide (dB a b < 0)=true:=by rw[je hlt];rfl
  have HLT:=Ac hlt;have HVA:=Ac ha;have HVB:=Ac hb;clear ha hb hlt hb0;go_in;go_wp2_with fail
  refine(uP w F _ _ a b HVA.out HVB.out EN EN).mono ?_;rintro e wn ⟨_,rfl,hb1,rfl⟩;generalize dB a b=od at *;dsimp only;go_wp2
  go_ret2;refine⟨_,rfl,hb1,_,_,rfl,?_,?_⟩
  ·exact zdI
  ·rw[Nat.mod_eq_of_lt HLT.out];exact HVA.out.ext hb1
 ·exact ahV w F va vb a b ha hb hb0 hla EN
theorem iR (w:FW) (F:FI) (va vb:F7) (a0 b0:Nat) (ha:Ae w F va a0) (hb:Ae w F vb b0) (hla:(dig a0).length<=50000) (hlb:(dig b0).length<=50000) :
  Calls FY 95 #[va,vb] w (Ret w λv w'=>Ae w' (Ext F w.heap.size) v (Gv a0 b0)):=by
 have HA:=Ac ha;have HB:=Ac hb;clear ha hb;obtain⟨G,hG⟩:=FH (Gv a0 b0);rw[<-hG];have HG:=Ac hG;clear hG;go_in;go_wp2_with fail
 go_loopg [0,1,5,6] b0 (λf va vb _ _ wr=>∃ a b,b=f/\Ae wr (Ext F w.heap.size) va a/\Ae wr (Ext F w.heap.size) vb b/\G=Gv a b/\(dig a).length<=50000/\(dig b).length<=50000/\Below w.heap.size w wr)
 case atStart=>exact⟨a0,b0,rfl,HA.out.mono (λb h _=>.inl h),HB.out.mono (λb h _=>.inl h),HG.out,hla,hlb,F9 _ _⟩
 case round =>
  clear HA HB hla hlb HG;obtain⟨a,b,rfl,hna,hnb,zN,hla,hlb,hbel⟩:=hrel;have HNA:=Ac hna;have HNB:=Ac hnb;have HGC:=Ac zN;obtain⟨A,c,rfl,hc,_⟩:=hna;obtain⟨B,d,rfl,hd,_⟩:=hnb;have hz:=hbel.size;clear zN;by_cases hb0:b=0
  ·have d1:decide (0 < (dig b).length)=false:=L9 (by rw[hb0,bD]; simp);exact zce
  ·have d1:decide (0 < (dig b).length)=true:=Mc (bg.2 hb0);have HB0:=Ac hb0;have hml:a % b < b:=IK _ EN;clear hb0;go_wp2_with fail
   refine(aaH wr (Ext F w.heap.size) _ _ a b HNA.out HNB.out HB0.out hla hlb).mono ?_;rintro e w2 ⟨_,rfl,hb2,vq,vr,rfl,hq,hr⟩;have HR:=Ac hr;clear hq hr;have hlr:(dig (a % b)).length<=50000:=by have:=aT (Nat.le_of_lt hml);omega
   have HML:=Ac hml;go_wp2
   go_roundg (a % b)
   case measure=>exact HML.out
   case rel=>exact⟨b,a % b,rfl,HNB.out.below hb2,HR.out.mono (λb hb _=>hb.elim id λh=>.inr EN),by rw[HGC.out,Iy,Nat.gcd_rec,Iy],hlb,hlr,hbel.trans (hb2.mono hz)⟩
theorem anc {neg:Bool} {d:Nat} (hd:d≠0) (hn:n≠0) (hg:g=Gv n d):au (mkRat (sgI neg n) d)=⟨neg,dig (n / g),dig (d / g)⟩:=by
 have h:=jl (sgI neg n) hd;rw[qG,<-hg] at h;unfold au;rw[h.1,h.2.1,mg _ hd,xk hn]
theorem ahW:au 0=⟨false,[],[1]⟩:=by
 unfold au;rw[show(0:Rat).num=0 from rfl,show(0:Rat).den=1 from rfl,Int.natAbs_zero,bD,iL];rfl
theorem mO (w:FW) (F:FI) (neg:Bool) (vn vd:F7) (n d:Nat) (hn:Ae w F vn n) (hd:Ae w F vd d) (hd0:d≠0) (hln:(dig n).length<=50000) (hld:(dig d).length<=50000) :
  Calls FY 53 #[Gj neg,vn,vd] w (Ret w λv w'=>RtV w' (Ext F w.heap.size) v (mkRat (sgI neg n) d)):=by
 have HN:=Ac hn.old;have HD:=Ac hd.old;obtain⟨A,c,rfl,hc,_⟩:=hn;obtain⟨B,e,rfl,he,_⟩:=hd;by_cases h0:n=0
 ·have HZ:=Ac (show mkRat (sgI neg n) d=0 by rw[h0,ai9]);have hl0:(((dig n).length:Int)==0)=true:=by rw[h0,bD];rfl
  clear h0 hd0;go_in;go_wp2
  obtain⟨W,hW,hr,hr2,hB,hz⟩:=alloc2 w 42 #[Gj false,FQ none 0 0,FQ (some ⟨w.heap.size+1,0,none⟩) 1 1] 103 #[.int .u32 1];rw[<-hW];clear hW;have t0:=hr.cell (i:=0) rfl;have t1:=hr.cell (i:=1) rfl;have t2:=hr.cell (i:=2) rfl;refine bodyPost_ret (v:=.agg #[Gj false,FQ none 0 0,FQ (some ⟨w.heap.size+1,0,none⟩) 1 1]) (by simp[results,Tryz.results53,go_sem,t0,t1,t2]) rfl ?_;refine⟨_,rfl,hB,?_⟩;unfold RtV;rw[HZ.out,ahW];refine JL rfl (iT _ _ _ _) ?_;have h2:=Row.limbs (l:=[1]) (by simpa [aU] using hr2) (F:=Ext F w.heap.size) (.inr EN) (n:=1) (c:=1) aF (FV _);simpa using h2
 ·obtain⟨g,hg⟩:=FH (Gv n d);have HLR:=Ac (anc (neg:=neg) hd0 h0 hg);have hg0:g≠0:=by rw[hg];exact Lu (Jq _ (Jz hd0))
  have hlg:(dig g).length<=50000:=Gf (aT (by rw[hg]; exact Nat.gcd_le_right _ (Jz hd0))) hld;have hl0:(((dig n).length:Int)==0)=false:=by have:=bg.2 h0;exact beq_false_of_ne EN
  have HG:=Ac hg;clear hg h0 hd0;go_in;go_wp2_with fail
  refine Z5 ?_;intro W hr hB hz;replace HN:=Ac (Ae.below (n:=n) HN.out hB);replace HD:=Ac (Ae.below (n:=d) HD.out hB);refine(iR _ _ _ _ n d HN.out HD.out hln hld).mono ?_;rintro e wn ⟨vg,rfl,hb,hu⟩;rw[<-HG.out] at hu;have HGG:=Ac (hu.mono (G:=(Ext (Old F w.heap.size) (w.heap.size+1))) (λb hb _=>hb.elim .inl λh=>.inr EN));clear hu;replace HN:=Ac (HN.out.below hb);replace HD:=Ac (HD.out.below hb);refine YE ?_;clear hr hz hB hb;intro hr hz hB;dsimp only;go_wp2_with fail
  refine(aaH _ (Ext (Old F w.heap.size) (w.heap.size+1)) _ _ n g (Ae.mono HN.out (λb hb _=>.inl hb)) HGG.out hg0 hln hlg).mono ?_;rintro e wn ⟨_,rfl,hb,vq,vr,rfl,hu,hu2⟩;have HQ:=Ac (hu.mono (G:=(Ext (Old F w.heap.size) (w.heap.size+1))) (λb hb _=>hb.elim id λh=>.inr EN));obtain⟨Aq,cq,rfl,_,_⟩:=hu;clear hu2;replace HN:=Ac (HN.out.below hb);replace HD:=Ac (HD.out.below hb);replace HGG:=Ac (HGG.out.below hb);refine YE ?_;clear hr hz hB hb;intro hr hz hB;dsimp only;go_wp2_with fail
  refine(aaH _ (Ext (Old F w.heap.size) (w.heap.size+1)) _ _ d g (Ae.mono HD.out (λb hb _=>.inl hb)) HGG.out hg0 hld hlg).mono ?_;rintro e wn ⟨_,rfl,hb,vq2,vr2,rfl,hu,hu2⟩;have HP:=Ac (hu.mono (G:=(Ext (Old F w.heap.size) (w.heap.size+1))) (λb hb _=>hb.elim id λh=>.inr EN));obtain⟨Ap,cp,rfl,_,_⟩:=hu;clear hu2;replace HN:=Ac (HN.out.below hb);replace HD:=Ac (HD.out.below hb);replace HGG:=Ac (HGG.out.below hb);replace HQ:=Ac (HQ.out.below hb);refine YE ?_;clear hr hz hB hb;intro hr hz hB;refine Zu ?_;intro q0 y0 q1 y1 q2 y2;go_wp2
  obtain⟨Wz,hWz,hrz,hwz,hkz⟩:=bG hr (Gj neg) (FQ Aq (dig (n / g)).length cq) (FQ Ap (dig (d / g)).length cp);refine Zh ?_;clear hWz q0 q1 q2 y0 y1 y2;intro t0 t1 t2;refine bodyPost_ret (v:=.agg #[Gj neg,FQ Aq (dig (n / g)).length cq,FQ Ap (dig (d / g)).length cp]) (by simp[results,Tryz.results53,go_sem,t0,t1,t2]) rfl ?_;exact⟨_,rfl,hwz _ _ (FV _) hB,by unfold RtV; rw[HLR.out]; exact(JL (r:=⟨neg,dig (n / g),dig (d / g)⟩) rfl HQ.out HP.out).keep (λb hb _=>hb.elim (λh=>.inl h.1) λh=>.inr EN) (hkz _ (λh=>h.elim (λh=>by have:=h.2; omega) λh=>by omega))⟩
theorem yw (w:FW) (F:FI) (v:F7) (l:List Nat) (hv:Ag w F v l) (hu:∀ x∈l,x < 4294967296) (hl:l.length<=1000000) :
  Calls FY 135 #[v] w λe w'=>e = .returned (F6 F5 (dP l))/\w=w':=by
 obtain⟨A,c,rfl,hc,hN⟩:=hv;have HN:=Ac hN;clear hN;have HU:=Ac hu;clear hu;by_cases h1:1024 < l.length
 ·exact zbS
 have d1:decide ((1024:Int) < (l.length:Int))=false:=L9 EN;have H1:=Ac h1;go_in;go_wp2
 go_loopw [3] (λi wr=>∃ k:Nat,k<=l.length/\i = F6 F5 (k:Int)/\(l.take k).any (λx=>decide (LB<=x))=false/\w=wr) (λi _=>l.length - (intOf i).toNat)
 case atStart=>exact⟨0,EN,rfl,rfl,rfl⟩
 case round =>
  obtain⟨k,hk,rfl,hpre,rfl⟩:=hrel;have HP:=Ac hpre;clear hpre;by_cases hlt:k < l.length
  ·obtain⟨b,o,rfl,_,hb,hx⟩:=HN.out EN;refine zaQ ?_;intro x hx' ex;unfold dF at ex;rw[Gp] at ex;have hxu:=HU.out x (FT hx');have HX:=Ac hx';clear hx hx';by_cases hbad:1000000000<=x
   ·have HE:=Ac (show dP l=3 by
     unfold dP;rw[L6 H1.out,L8 (List.any_eq_true.2 ⟨x,FT HX.out,Mc hbad⟩)])
    exact zdE
   ·have d2:decide ((1000000000:Int)<=(x:Int))=false:=L9 EN;have HB:=Ac (show(decide (LB<=x))=false from L9 hbad);go_wp2
    go_roundw
    case rel=>exact⟨k+1,EN,by go_num,yj HX.out HP.out HB.out,by first | rfl | trivial⟩
    case measure=>simp[intOf]; omega
  ·have HA:=Ac (show l.any (λx=>decide (LB<=x))=false by have:=HP.out; rwa [Gl EN] at this);by_cases h0:0 < l.length
   ·obtain⟨b,o,rfl,_,hb,hx⟩:=HN.out h0;obtain⟨n1,hn1⟩:∃ n1,n1+1=l.length:=⟨l.length - 1,EN⟩;obtain⟨x,hx'⟩:=FC (l:=l) (k:=n1) EN;have ex:=hx n1 x hx';unfold dF at ex; rw[Gp] at ex;have HX:=Ac (show dP l=if x=0 then 3 else 0 by
     unfold dP;rw[L6 H1.out,HA.out,L6 aA,List.getLast?_eq_getElem?,show l.length - 1=n1 by omega,hx'];simp)
    have i1:(l.length:Int) - 1=(n1:Int):=EN;clear hx hx' hn1;by_cases hz:x=0
    ·exact zcV
    ·exact zcB
   ·have HE:=Ac (show dP l=0 by
     have:l = []:=Hq EN;rw[this]; rfl)
    have d3:decide ((0:Int) < (l.length:Int))=false:=L9 EN;exact ZP
theorem ahX (w:FW) (F:FI) (vn vd:F7) (num den:List Nat) (hn:Ag w F vn num) (hd:Ag w F vd den) (hnu:∀ x∈num,x < 4294967296) (hdu:∀ x∈den,x < 4294967296) (hln:num.length<=1000000) (hld:den.length<=1000000) :
  Calls FY 94 #[vn,vd] w λe w'=>e = .returned (F6 F5 (eF num den))/\w=w':=by
 have HN:=Ac hn;have HD:=Ac hd;obtain⟨A,c,rfl,hc,hN⟩:=hn;obtain⟨B,d,rfl,hd,hM⟩:=hd;clear hN hM;have HNU:=Ac hnu;have HDU:=Ac hdu;clear hnu hdu;refine zdS ?_;intro HP;go_in;go_wp2_with fail
 refine(yw w F _ num HN.out HNU.out hln).mono ?_;rintro e w' ⟨rfl,rfl⟩;generalize dP num=e1 at *;by_cases h1:e1=0
 ·have t1:(e1 != 0)=false:=by rw[h1];rfl
  go_wp2_with fail
  refine(yw w F _ den HD.out HDU.out hld).mono ?_;rintro e w' ⟨rfl,rfl⟩;generalize dP den=e2 at *;by_cases h2:e2=0
  ·have t2:(e2 != 0)=false:=by rw[h2];rfl
   by_cases h3:den.length=0
   ·exact zbe
   ·exact za5
  ·exact zb4
 ·exact zcS
theorem agy (h:(dig g).length=1):dig g = [g]:=by
 have h0:g≠0:=bg.1 EN;refine kQ h0 ?_;have:=lS g;rw[h,Nat.pow_one] at this;exact this
def CJ (r:Raw) (g:Nat):Prop:=fM r=if g≠1 then 3 else if r.neg=true/\r.num.length=0 then 3 else 0
theorem akg (h:fM r=if (r.num.length=0/\r.neg=true)\/Gv (aH r.num) (aH r.den)≠1 then 3 else 0) (hg:g=Gv (aH r.num) (aH r.den)):CJ r g:=by
 unfold CJ;rw[h];by_cases hg1:g=1
 ·rw[L6 (show ¬ (g≠1) from λk=>k hg1)];by_cases h2:r.neg=true/\r.num.length=0
  ·rw[L8 (Or.inl ⟨h2.2,h2.1⟩),L8 h2]
  ·rw[L6 (λh=>Or.elim h (λh=>h2 ⟨h.2,h.1⟩) (λh=>h (hg.symm.trans hg1))),L6 h2]
 ·rw[L8 (Or.inr (λh=>hg1 (hg.trans h))),L8 hg1]
theorem tq (w:FW) (F:FI) (v:F7) (r:Raw) (hv:Ah w F v r) (hu:U32 r) (hln:r.num.length<=100000) (hld:r.den.length<=100000) :
  Calls FY 42 #[v] w (Ret w λu _=>u = F6 F5 (fM r)):=by
 obtain⟨A,c,B,d,rfl,hn,hd⟩:=hv.open;have HN:=Ac hn;have HD:=Ac hd;clear hv hn hd;refine zbX ?_;clear hu;intro HR HU HK;obtain⟨neg,num,den⟩:=r;dsimp only at *;go_in;go_wp2_with fail
 obtain⟨W,hW,rx,hB,hz⟩:=aJ w 42 #[Gj neg,FQ A num.length c,FQ B den.length d];rw[<-hW];clear hW;replace HN:=Ac (Ag.on HN.out (FZ hB F));replace HD:=Ac (Ag.on HD.out (FZ hB F));refine Zd ?_;intro x0 x1 x2;clear rx;have hz:w.heap.size+1<=W.heap.size:=EN;go_wp2_with fail
 refine(ahX W F _ _ num den HN.out HD.out HU.out.1 HU.out.2 EN EN).mono ?_;rintro e w' ⟨rfl,rfl⟩;generalize eF num den=pe at *;by_cases h1:pe=0
 ·have t1:(pe != 0)=false:=by rw[h1];rfl
  have hk:=HK.out h1;have hnn:Ae W F (FQ A num.length c) (aH num):=by unfold Ae;rw[<-hk.1];exact HN.out
  have hdd:Ae W F (FQ B den.length d) (aH den):=by unfold Ae;rw[<-hk.2.1];exact HD.out
  have hl1:(dig (aH num)).length<=50000:=by rw[<-hk.1];have:=hk.2.2.2.1;omega
  have hl2:(dig (aH den)).length<=50000:=by rw[<-hk.2.1];have:=hk.2.2.2.2;omega
  have HNN:=Ac hnn;have HDD:=Ac hdd;have hg0:Gv (aH num) (aH den)≠0:=Lu (Jq _ (Jz hk.2.2.1));clear hnn hdd hk HK;obtain⟨g,hg⟩:=FH (Gv (aH num) (aH den));rw[<-hg] at hg0;have HE:=Ac (akg (r:=⟨neg,num,den⟩) (g:=g) (HR.out.trans (L6 (by simpa using h1))) hg);have HG:=Ac hg;have hG0:=Ac hg0;clear h1 HR hg hg0;by_cases hlen:(dig g).length=1
  ·have e1:(((dig g).length:Int) != 1)=false:=by rw[hlen];rfl
   have HDG:=Ac (agy hlen);have hpos:0 < (dig g).length:=EN;clear hlen;have hor:((g:Int) != 1)=true/\fM ⟨neg,num,den⟩=3\/((g:Int) != 1)=false/\(neg=true/\((num.length:Int)==0)=true/\fM ⟨neg,num,den⟩=3\/neg=true/\((num.length:Int)==0)=false/\fM ⟨neg,num,den⟩=0\/neg=false/\fM ⟨neg,num,den⟩=0):=by
    have he:=HE.out;unfold CJ at he;by_cases hg:g=1
    ·rw[L6 (by simpa using hg)] at he;refine .inr ⟨by rw[hg]; rfl,?_⟩;cases neg
     ·rw[L6 aF] at he;exact .inr (.inr ⟨rfl,he⟩)
     ·by_cases h2:num.length=0
      ·rw[L8 ⟨rfl,h2⟩] at he;exact .inl ⟨rfl,by rw[h2]; rfl,he⟩
      ·rw[L6 (λh=>h2 h.2)] at he;exact .inr (.inl ⟨rfl,beq_false_of_ne EN,he⟩)
    ·rw[L8 hg] at he;exact .inl ⟨aG,he⟩
   have two:∀ (b:Bool) (T:Int),fM ⟨neg,num,den⟩=T->True:=λ_ _ _=>trivial
   clear two;rcases hor with⟨e2,he⟩ | ⟨e2,⟨rfl,e3,he⟩ | ⟨rfl,e3,he⟩ | ⟨rfl,he⟩⟩
   ·exact ZC
   ·exact ZC
   ·exact ZC
   ·exact ZC
  ·have e1:(((dig g).length:Int) != 1)=true:=aG;have HT:=Ac (show fM ⟨neg,num,den⟩=3 by
    have he:=HE.out;unfold CJ at he;rw[L8 (λh=>hlen (by rw[h,iL]; rfl))] at he;exact he)
   clear hlen HE;go_wp2_with fail
   refine(iR W F _ _ (aH num) (aH den) HNN.out HDD.out hl1 hl2).mono ?_;rintro e w1 ⟨va,rfl,hb,hu⟩;rw[<-HG.out] at hu;obtain⟨A1,c1,rfl,_,_⟩:=hu;have hB1:=hB.trans (hb.mono hB.size);refine ZL ?_;clear x0 x1 x2;intro x0 x1 x2;clear hb;dsimp only;go_wp2
   go_ret;exact⟨_,rfl,hB1,by rw[HT.out]; rfl⟩
 ·exact zbw
theorem Ag.below {w w':FW} {v:F7} (h:Ag w F v l) (hb:Below w.heap.size w w'):Ag w' F v l:=h.on (FZ hb F)
theorem Ag.mono {w:FW} {G:FI} {v:F7} (h:Ag w F v l) (hFG:∀ b,F b->b < w.heap.size->G b):Ag w G v l:=h.keep hFG (Gh _ _)
theorem ane (x:Rat):(iE x=5/\bV x=⟨false,[],[]⟩/\(pU x.num.natAbs=5\/pU x.num.natAbs=0/\pU x.den=5))\/(iE x=0/\bV x=au x/\pU x.num.natAbs=0/\pU x.den=0/\sG x.num.natAbs=dig x.num.natAbs/\sG x.den=dig x.den):=by
 unfold iE bV pU sG rl;by_cases h1:1024 < (dig x.num.natAbs).length
 ·refine .inl ⟨L8 EN,L8 EN,.inl (L8 h1)⟩
 ·by_cases h2:1024 < (dig x.den).length
  ·exact .inl ⟨L8 EN,L8 EN,.inr ⟨L6 h1,L8 h2⟩⟩
  ·exact .inr ⟨L6 EN,L6 EN,L6 h1,L6 h2,L6 h1,L6 h2⟩
theorem ahY (w:FW) (F:FI) (va:F7) (x:Rat) (ha:RtV w F va x) (hl:rl x<=1000000) (ho:iE x=5) (hr:bV x=⟨false,[],[]⟩) (h4:pU x.num.natAbs=5) :
  Calls FY 100 #[va] w (Ret w λv w'=>∃ u,v = .tuple #[u,F6 F5 (iE x)]/\Ah w' (λb=>w.heap.size<=b) u (bV x)):=by
 have HO:=Ac ho;have HR:=Ac hr;clear ho hr;have l1:=gy x;have l2:=gB x;have HX:=Ac ha.old;obtain⟨A,c,B,d,rfl,hn,hd⟩:=ha.open;clear hn hd ha;go_in;go_wp2_with fail
 refine zah ?_;clear HX;intro W rx rz hB hz HX;refine za7 ?_;intro hz x0 x1 x2;clear rx;obtain⟨_,_,hh,hn,hd⟩:=HX.out;refine zaI ?_;intro HNX HDX;cases hh;clear hn hd;refine za2 ?_;go_wp2_with fail
 refine(qR _ _ _ x.num.natAbs HNX.out EN).mono ?_;rintro e wn ⟨_,rfl,hb,t4,rfl,hu⟩;refine zcZ ?_;intro H4;clear hu;refine ZL ?_;clear x0 x1 x2;intro x0 x1 x2;refine zbq ?_;clear HNX HDX;intro HNX HDX;refine zaX ?_;clear rz hz hB hb;intro rz hz hB;go_wp2_with fail
 refine(qR _ _ _ x.den HDX.out EN).mono ?_;rintro e wn ⟨_,rfl,hb,t5,rfl,hu⟩;refine zdB ?_;intro H5;generalize pU x.den=e5 at *;clear hu;refine ZL ?_;clear x0 x1 x2;intro x0 x1 x2;refine zbq ?_;clear HNX HDX;intro HNX HDX;replace H4:=Ac (H4.out.below hb);refine zaX ?_;clear rz hz hB hb;intro rz hz hB;refine Zk ?_;intro q0 y0 q1 y1 q2 y2;go_wp2
 refine za8 ?_;clear q0 q1 q2 y0 y1 y2;intro Wz hrz hwz hkz;intro t0 t1 t2;refine bodyPost_ret (v:=.tuple #[.agg #[Gj false,FQ none 0 0,FQ none 0 0],F6 F5 5]) (by simp[results,Tryz.results100,go_sem,t0,t1,t2]) rfl ?_;exact zdF
theorem ahZ (w:FW) (F:FI) (va:F7) (x:Rat) (ha:RtV w F va x) (hl:rl x<=1000000) (ho:iE x=5) (hr:bV x=⟨false,[],[]⟩) (h4:pU x.num.natAbs=0) (h5:pU x.den=5) :
  Calls FY 100 #[va] w (Ret w λv w'=>∃ u,v = .tuple #[u,F6 F5 (iE x)]/\Ah w' (λb=>w.heap.size<=b) u (bV x)):=by
 have HO:=Ac ho;have HR:=Ac hr;clear ho hr;have l1:=gy x;have l2:=gB x;have HX:=Ac ha.old;obtain⟨A,c,B,d,rfl,hn,hd⟩:=ha.open;clear hn hd ha;go_in;go_wp2_with fail
 refine zah ?_;clear HX;intro W rx rz hB hz HX;refine za7 ?_;intro hz x0 x1 x2;clear rx;obtain⟨_,_,hh,hn,hd⟩:=HX.out;refine zaI ?_;intro HNX HDX;cases hh;clear hn hd;refine za2 ?_;go_wp2_with fail
 refine(qR _ _ _ x.num.natAbs HNX.out EN).mono ?_;rintro e wn ⟨_,rfl,hb,t4,rfl,hu⟩;refine zcZ ?_;intro H4;clear hu;refine ZL ?_;clear x0 x1 x2;intro x0 x1 x2;refine zbq ?_;clear HNX HDX;intro HNX HDX;refine zaX ?_;clear rz hz hB hb;intro rz hz hB;go_wp2_with fail
 refine(qR _ _ _ x.den HDX.out EN).mono ?_;rintro e wn ⟨_,rfl,hb,t5,rfl,hu⟩;refine zdB ?_;intro H5;rw[h5];clear hu;refine ZL ?_;clear x0 x1 x2;intro x0 x1 x2;refine zbq ?_;clear HNX HDX;intro HNX HDX;replace H4:=Ac (H4.out.below hb);refine zaX ?_;clear rz hz hB hb;intro rz hz hB;refine Zk ?_;intro q0 y0 q1 y1 q2 y2;go_wp2
 refine za8 ?_;clear q0 q1 q2 y0 y1 y2;intro Wz hrz hwz hkz;intro t0 t1 t2;refine bodyPost_ret (v:=.tuple #[.agg #[Gj false,FQ none 0 0,FQ none 0 0],F6 F5 5]) (by simp[results,Tryz.results100,go_sem,t0,t1,t2]) rfl ?_;exact zdF
theorem ah0 (w:FW) (F:FI) (va:F7) (x:Rat) (ha:RtV w F va x) (hl:rl x<=1000000) (ho:iE x=0) (hr:bV x=⟨(au x).neg,sG x.num.natAbs,sG x.den⟩) (h4:pU x.num.natAbs=0) (h5:pU x.den=0) :
  Calls FY 100 #[va] w (Ret w λv w'=>∃ u,v = .tuple #[u,F6 F5 (iE x)]/\Ah w' (λb=>w.heap.size<=b) u (bV x)):=by
 have HO:=Ac ho;have HR:=Ac hr;clear ho hr;have l1:=gy x;have l2:=gB x;have HX:=Ac ha.old;obtain⟨A,c,B,d,rfl,hn,hd⟩:=ha.open;clear hn hd ha;go_in;go_wp2_with fail
 refine zah ?_;clear HX;intro W rx rz hB hz HX;refine za7 ?_;intro hz x0 x1 x2;clear rx;obtain⟨_,_,hh,hn,hd⟩:=HX.out;refine zaI ?_;intro HNX HDX;cases hh;clear hn hd;refine za2 ?_;go_wp2_with fail
 refine(qR _ _ _ x.num.natAbs HNX.out EN).mono ?_;rintro e wn ⟨_,rfl,hb,t4,rfl,hu⟩;refine zcZ ?_;intro H4;obtain⟨A4,c4,rfl,_,_⟩:=hu;refine ZL ?_;clear x0 x1 x2;intro x0 x1 x2;refine zbq ?_;clear HNX HDX;intro HNX HDX;refine zaX ?_;clear rz hz hB hb;intro rz hz hB;go_wp2_with fail
 refine(qR _ _ _ x.den HDX.out EN).mono ?_;rintro e wn ⟨_,rfl,hb,t5,rfl,hu⟩;refine zdB ?_;intro H5;rw[h5];obtain⟨A5,c5,rfl,_,_⟩:=hu;refine ZL ?_;clear x0 x1 x2;intro x0 x1 x2;refine zbq ?_;clear HNX HDX;intro HNX HDX;replace H4:=Ac (H4.out.below hb);refine zaX ?_;clear rz hz hB hb;intro rz hz hB;refine Zk ?_;intro q0 y0 q1 y1 q2 y2;go_wp2
 obtain⟨Wz,hWz,hrz,hwz,hkz⟩:=bG rz (Gj (au x).neg) (FQ A4 (sG x.num.natAbs).length c4) (FQ A5 (sG x.den).length c5);refine Zh ?_;clear hWz q0 q1 q2 y0 y1 y2;intro t0 t1 t2;refine bodyPost_ret (v:=.tuple #[.agg #[Gj (au x).neg,FQ A4 (sG x.num.natAbs).length c4,FQ A5 (sG x.den).length c5],F6 F5 0]) (by simp[results,Tryz.results100,go_sem,t0,t1,t2]) rfl ?_;exact⟨_,rfl,hwz _ _ EN hB,_,by rw[HO.out],by rw[HR.out]; exact(JL (r:=⟨(au x).neg,sG x.num.natAbs,sG x.den⟩) rfl H4.out H5.out).keep (λb hb _=>Gf (Nat.le_add_right _ 2) hb) (hkz _ (λh=>by omega))⟩
theorem ae8 (w:FW) (F:FI) (va:F7) (x:Rat) (ha:RtV w F va x) (hl:rl x<=1000000) :
  Calls FY 100 #[va] w (Ret w λv w'=>∃ u,v = .tuple #[u,F6 F5 (iE x)]/\Ah w' (λb=>w.heap.size<=b) u (bV x)):=by
 rcases ane x with⟨ho,hr,h4 | ⟨h4,h5⟩⟩ | ⟨ho,hr,h4,h5,h6,h7⟩
 ·exact ahY w F va x ha hl ho hr h4
 ·exact ahZ w F va x ha hl ho hr h4 h5
 ·exact ah0 w F va x ha hl ho (by rw[hr,h6,h7]; rfl) h4 h5
theorem ajh (x y:Rat):mkRat (sgI (dI x != dI y) (x.num.natAbs*y.num.natAbs)) (x.den*y.den)=x*y:=by
 rw[amQ,lZ,lZ,<-Rat.mul_def']
theorem anf (x y:Rat):mkRat (sgI (dI x) (x.num.natAbs*y.den)+sgI (dI y) (y.num.natAbs*x.den)) (x.den*y.den)=x+y:=by
 rw[mY,mY,lZ,lZ,Rat.add_def']
theorem nI (w:FW) (F:FI) (va vb:F7) (x y:Rat) (ha:RtV w F va x) (hb:RtV w F vb y) (hlx:rl x<=20000) (hly:rl y<=20000) :
  Calls FY 16 #[va,vb] w (Ret w λv w'=>RtV w' (Ext F w.heap.size) v (x*y)):=by
 have lx:=gy x;have lx2:=gB x;have ly:=gy y;have ly2:=gB y;have hl1:(dig (x.num.natAbs*y.num.natAbs)).length<=40000:=Gf (dW _ _) EN;have hl2:(dig (x.den*y.den)).length<=40000:=Gf (dW _ _) EN;have HML:=Ac (ajh x y);have hd0:x.den*y.den≠0:=Jk x.den_nz y.den_nz;refine zcT ?_;intro HX HY;obtain⟨A,c,B,d,rfl,hn,hd⟩:=ha.open;obtain⟨A',c',B',d',rfl,hn',hd'⟩:=hb.open;clear hn hd hn' hd' ha hb;go_in;go_wp2_with fail
 refine Ye ?_;clear HX HY;intro W rx ry rz hB hz HX HY;refine zaP ?_;intro hz;intro x0 x1 x2 y0 y1 y2;clear rx ry;obtain⟨_,_,hh,hn,hd⟩:=HX.out;refine zbx ?_;intro HNX HDX;cases hh;clear hn hd;obtain⟨_,_,hh,hn,hd⟩:=HY.out;refine zby ?_;intro HNY HDY;cases hh;clear hn hd;refine Ym ?_;intro hHeld hb;refine Ze ?_;clear x0 x1 x2 y0 y1 y2 HX HY HNX HNY HDX HDY;intro x0 x1 x2 y0 y1 y2 HX HY HNX HNY HDX HDY;refine ZE ?_;clear rz hz hB hb;intro rz hz hB;generalize W.drew=wn at *;refine tkm [0,1,2,3,4,5,6,7,8,10,11,12,13] ?_;refine tk2 9 ak rfl λK hK=>?_
 go_simp;refine(iY _ _ _ _ x.num.natAbs y.num.natAbs HNX.out HNY.out EN EN).mono ?_;rintro e wn ⟨vn,rfl,hb,hu⟩;have HP:=Ac (hu.mono (G:=(Ext (Old F w.heap.size) (w.heap.size+3))) (λb hb _=>.inr EN));clear hu;refine Ze ?_;clear x0 x1 x2 y0 y1 y2 HX HY HNX HNY HDX HDY;intro x0 x1 x2 y0 y1 y2 HX HY HNX HNY HDX HDY;refine ZO ?_;clear rz hz hB hb hHeld hK K;intro rz hz hB hHeld;refine tk2 14 ak rfl λK hK=>?_
 go_simp;refine(iY _ _ _ _ x.den y.den HDX.out HDY.out EN EN).mono ?_;rintro e wn ⟨vd,rfl,hb,hu⟩;have HQ:=Ac (hu.mono (G:=(Ext (Old F w.heap.size) (w.heap.size+3))) (λb hb _=>.inr EN));clear hu;refine Ze ?_;clear x0 x1 x2 y0 y1 y2 HX HY HNX HNY HDX HDY;intro x0 x1 x2 y0 y1 y2 HX HY HNX HNY HDX HDY;replace HP:=Ac (HP.out.below hb);refine ZO ?_;clear rz hz hB hb hHeld hK K;intro rz hz hB hHeld;refine tk2 15 ak rfl λK hK=>?_
 go_simp;refine(mO _ _ _ _ _ (x.num.natAbs*y.num.natAbs) (x.den*y.den) HP.out HQ.out hd0 EN EN).mono ?_;rintro e wn ⟨vm,rfl,hb,hu⟩;have hu2:RtV wn (Ext (Old F w.heap.size) (w.heap.size+3)) vm (x*y):=by rw[show(!(au x).neg==(au y).neg)=(dI x != dI y) from rfl,HML.out] at hu;exact hu.mono (λb hb _=>hb.elim id λh=>.inr EN)
 have HM:=Ac hu2;obtain⟨Am,cm,Bm,dm,rfl,hn,hd⟩:=hu2.open;clear hn hd hu hu2;refine Ze ?_;clear x0 x1 x2 y0 y1 y2 HX HY HNX HNY HDX HDY;intro x0 x1 x2 y0 y1 y2 HX HY HNX HNY HDX HDY;replace HP:=Ac (HP.out.below hb);replace HQ:=Ac (HQ.out.below hb);refine zaY ?_;clear rz hz hB hb hHeld hK K x0 x1 x2 y0 y1 y2;intro rz hz hB;intro q0 y0 q1 y1 q2 y2;go_wp2
 refine ZR ?_;go_wp2
 obtain⟨Wz,hWz,hrz,hwz,hkz⟩:=bG rz (Gj (au (x*y)).neg) (FQ Am (au (x*y)).num.length cm) (FQ Bm (au (x*y)).den.length dm);refine Zh ?_;clear hWz q0 q1 q2 y0 y1 y2;intro t0 t1 t2;refine bodyPost_ret (v:=.agg #[Gj (au (x*y)).neg,FQ Am (au (x*y)).num.length cm,FQ Bm (au (x*y)).den.length dm]) (by simp[results,Tryz.results16,go_sem,t0,t1,t2]) rfl ?_;exact Zq
theorem kV (w:FW) (F:FI) (va vb:F7) (x y:Rat) (ha:RtV w F va x) (hb:RtV w F vb y) (hlx:rl x<=20000) (hly:rl y<=20000) :
  Calls FY 13 #[va,vb] w (Ret w λv w'=>RtV w' (Ext F w.heap.size) v (x+y)):=by
 have lx:=gy x;have lx2:=gB x;have ly:=gy y;have ly2:=gB y;obtain⟨p,hp⟩:=FH (x.num.natAbs*y.den);obtain⟨q,hq⟩:=FH (y.num.natAbs*x.den);obtain⟨D,hD⟩:=FH (x.den*y.den);have hlp:(dig p).length<=40000:=by rw[hp];exact Gf (dW _ _) EN
 have hlq:(dig q).length<=40000:=by rw[hq];exact Gf (dW _ _) EN
 have hlD:(dig D).length<=40000:=by rw[hD];exact Gf (dW _ _) EN
 have hls:=vO p q;have hlm1:=aT (Nat.sub_le p q);have hlm2:=aT (Nat.sub_le q p);have hal:=anf x y;rw[<-hp,<-hq,<-hD] at hal;have HML:=Ac hal;have HP:=Ac hp;have HQ:=Ac hq;have HDD:=Ac hD;have hd0:D≠0:=by rw[hD];exact Jk x.den_nz y.den_nz
 clear hal hp hq hD;refine zcT ?_;intro HX HY;obtain⟨A,c,B,d,rfl,hn,hd⟩:=ha.open;obtain⟨A',c',B',d',rfl,hn',hd'⟩:=hb.open;clear hn hd hn' hd' ha hb;go_in;go_wp2_with fail
 refine Ye ?_;clear HX HY;intro W rx ry rz hB hz HX HY;refine zaP ?_;intro hz;intro x0 x1 x2 y0 y1 y2;clear rx ry;obtain⟨_,_,hh,hn,hd⟩:=HX.out;refine zbx ?_;intro HNX HDX;cases hh;clear hn hd;obtain⟨_,_,hh,hn,hd⟩:=HY.out;refine zby ?_;intro HNY HDY;cases hh;clear hn hd;refine wp_region_held_drew (S:=λw'=>w'.cell? ⟨w.heap.size,0,none⟩=some (Gj (au x).neg)/\w'.cell? ⟨w.heap.size,1,none⟩=some (FQ A (au x).num.length c)/\w'.cell? ⟨w.heap.size,2,none⟩=some (FQ B (au x).den.length d)/\w'.cell? ⟨w.heap.size+1,0,none⟩=some (Gj (au y).neg)/\w'.cell? ⟨w.heap.size+1,1,none⟩=some (FQ A' (au y).num.length c')/\w'.cell? ⟨w.heap.size+1,2,none⟩=some (FQ B' (au y).den.length d')) ak ⟨x0,x1,x2,y0,y1,y2⟩ (λhHeld=>?_);refine zcC ?_;intro hb;refine Ze ?_;clear x0 x1 x2 y0 y1 y2 HX HY HNX HNY HDX HDY;intro x0 x1 x2 y0 y1 y2 HX HY HNX HNY HDX HDY;refine ZE ?_;clear rz hz hB hb;intro rz hz hB;generalize W.drew=wn at *;refine tkm [0,1,2,3,5,6,7,8,10,11,12,13] ?_;refine tk2 4 ak rfl λK hK=>?_
 go_simp;refine(iY _ _ _ _ x.num.natAbs y.den HNX.out HDY.out EN EN).mono ?_;rintro e wn ⟨vp,rfl,hb,hu⟩;rw[<-HP.out] at hu;have HVP:=Ac (hu.mono (G:=(Ext (Old F w.heap.size) (w.heap.size+3))) (λb hb _=>.inr EN));clear hu;refine Ze ?_;clear x0 x1 x2 y0 y1 y2 HX HY HNX HNY HDX HDY;intro x0 x1 x2 y0 y1 y2 HX HY HNX HNY HDX HDY;refine ZO ?_;clear rz hz hB hb hHeld hK K;intro rz hz hB hHeld;refine tk2 9 ak rfl λK hK=>?_
 go_simp;refine(iY _ _ _ _ y.num.natAbs x.den HNY.out HDX.out EN EN).mono ?_;rintro e wn ⟨vq,rfl,hb,hu⟩;rw[<-HQ.out] at hu;have HVQ:=Ac (hu.mono (G:=(Ext (Old F w.heap.size) (w.heap.size+3))) (λb hb _=>.inr EN));clear hu;refine Ze ?_;clear x0 x1 x2 y0 y1 y2 HX HY HNX HNY HDX HDY;intro x0 x1 x2 y0 y1 y2 HX HY HNX HNY HDX HDY;replace HVP:=Ac (HVP.out.below hb);refine ZO ?_;clear rz hz hB hb hHeld hK K;intro rz hz hB hHeld;refine tk2 14 ak rfl λK hK=>?_
 go_simp;refine(iY _ _ _ _ x.den y.den HDX.out HDY.out EN EN).mono ?_;rintro e wn ⟨vD,rfl,hb,hu⟩;rw[<-HDD.out] at hu;have HVD:=Ac (hu.mono (G:=(Ext (Old F w.heap.size) (w.heap.size+3))) (λb hb _=>.inr EN));clear hu;refine Ze ?_;clear x0 x1 x2 y0 y1 y2 HX HY HNX HNY HDX HDY;intro x0 x1 x2 y0 y1 y2 HX HY HNX HNY HDX HDY;replace HVP:=Ac (HVP.out.below hb);replace HVQ:=Ac (HVQ.out.below hb);refine ZO ?_;clear rz hz hB hb hHeld hK K;intro rz hz hB hHeld;refine tkm [15,16,17] ?_;refine Yf ?_;clear hHeld;by_cases hs:(au x).neg=(au y).neg
 ·have hbb:((au x).neg==(au y).neg)=true:=by simp[hs]
  have HJ:=Ac (show mkRat (sgI (au x).neg (p+q)) D=x+y by rw[<-HML.out,<-jJ x,<-jJ y,<-hs,ad5]);clear hs;go_wp2_with fail
  refine Zj ?_;intro hHeld hb;clear x0 x1 x2 y0 y1 y2 HX HY HNX HNY HDX HDY;intro x0 x1 x2 y0 y1 y2 HX HY HNX HNY HDX HDY;refine Yv ?_;clear HVP HVQ HVD;intro HVP HVQ HVD;refine ZE ?_;clear rz hz hB hb;intro rz hz hB;generalize wn.drew=wn at *;refine tkm [0,1,2,3,5] ?_;refine tk2 4 ak rfl λK hK=>?_
  go_simp;refine(ajQ _ _ _ _ p q HVP.out HVQ.out EN EN).mono ?_;rintro e wn ⟨vs,rfl,hb,hu⟩;have HVS:=Ac (hu.mono (G:=(Ext (Old F w.heap.size) (w.heap.size+3))) (λb hb _=>.inr EN));clear hu;refine Ze ?_;clear x0 x1 x2 y0 y1 y2 HX HY HNX HNY HDX HDY;intro x0 x1 x2 y0 y1 y2 HX HY HNX HNY HDX HDY;refine Yv ?_;clear HVP HVQ HVD;intro HVP HVQ HVD;refine ZO ?_;clear rz hz hB hb hHeld hK K;intro rz hz hB hHeld;refine tk2 6 ak rfl λK hK=>?_
  go_simp;refine(mO _ (Ext (Old F w.heap.size) (w.heap.size+3)) _ _ _ (p+q) D HVS.out HVD.out hd0 EN EN).mono ?_;rintro e wn ⟨vm,rfl,hb,hu⟩;have hu2:RtV wn (Ext (Old F w.heap.size) (w.heap.size+3)) vm (x+y):=by rw[HJ.out] at hu;exact hu.mono (λb hb _=>hb.elim id λh=>.inr EN)
  have HM:=Ac hu2;obtain⟨Am,cm,Bm,dm,rfl,hn,hd⟩:=hu2.open;clear hn hd hu hu2;refine Ze ?_;clear x0 x1 x2 y0 y1 y2 HX HY HNX HNY HDX HDY;intro x0 x1 x2 y0 y1 y2 HX HY HNX HNY HDX HDY;refine Yv ?_;clear HVP HVQ HVD;intro HVP HVQ HVD;replace HVS:=Ac (HVS.out.below hb);refine zaY ?_;clear rz hz hB hb hHeld hK K x0 x1 x2 y0 y1 y2;intro rz hz hB;intro q0 y0 q1 y1 q2 y2;go_wp2
  refine ZR ?_;go_wp2
  refine zbZ ?_;clear q0 q1 q2 y0 y1 y2;intro Wz hrz hwz hkz;intro t0 t1 t2;refine bodyPost_ret (v:=.agg #[Gj (au (x+y)).neg,FQ Am (au (x+y)).num.length cm,FQ Bm (au (x+y)).den.length dm]) (by simp[results,Tryz.results13,go_sem,t0,t1,t2]) rfl ?_;exact Zq
 ·have hbb:((au x).neg==(au y).neg)=false:=by simp[hs]
  go_wp2_with fail
  refine(uP _ _ _ _ p q HVP.out HVQ.out EN EN).mono ?_;rintro e wn ⟨_,rfl,hb,rfl⟩;refine Ze ?_;clear x0 x1 x2 y0 y1 y2 HX HY HNX HNY HDX HDY;intro x0 x1 x2 y0 y1 y2 HX HY HNX HNY HDX HDY;refine Yv ?_;clear HVP HVQ HVD;intro HVP HVQ HVD;refine zaX ?_;clear rz hz hB hb;intro rz hz hB;by_cases hpq:q<=p
  ·have hord:decide (0<=dB p q)=true:=Mc (by unfold dB; split <;> (try split) <;> omega);have HJ:=Ac (show mkRat (sgI (au x).neg (p - q)) D=x+y by rw[<-HML.out,<-jJ x,<-jJ y,aja hs hpq]);have HPQ:=Ac hpq;clear hs hpq;generalize dB p q=od at *;go_wp2_with fail
   refine Zj ?_;intro hHeld hb;clear x0 x1 x2 y0 y1 y2 HX HY HNX HNY HDX HDY;intro x0 x1 x2 y0 y1 y2 HX HY HNX HNY HDX HDY;refine Yv ?_;clear HVP HVQ HVD;intro HVP HVQ HVD;refine ZE ?_;clear rz hz hB hb;intro rz hz hB;generalize wn.drew=wn at *;refine tkm [0,1,2,3,5] ?_;refine tk2 4 ak rfl λK hK=>?_
   go_simp;refine(yN _ _ _ _ p q HVP.out HVQ.out HPQ.out EN).mono ?_;rintro e wn ⟨vs,rfl,hb,hu⟩;obtain⟨ls,As,cs,hvs,hns,agz,howns⟩:=hu;subst hvs;have hcs:=rC howns agz;rw[hns] at hcs;have HVS:=Ac (show Ae wn (Ext (Old F w.heap.size) (w.heap.size+3)) (FQ As (fF ls ls.length) cs) (p - q) from Ag.keep (G:=(Ext (Old F w.heap.size) (w.heap.size+3))) hcs.limbs (λb hb _=>.inr EN) (Gh _ _));clear howns agz hns hcs;refine Ze ?_;clear x0 x1 x2 y0 y1 y2 HX HY HNX HNY HDX HDY;intro x0 x1 x2 y0 y1 y2 HX HY HNX HNY HDX HDY;refine Yv ?_;clear HVP HVQ HVD;intro HVP HVQ HVD;refine ZO ?_;clear rz hz hB hb hHeld hK K;intro rz hz hB hHeld;refine tk2 6 ak rfl λK hK=>?_
   go_simp;refine(mO _ (Ext (Old F w.heap.size) (w.heap.size+3)) _ _ _ (p - q) D HVS.out HVD.out hd0 EN EN).mono ?_;rintro e wn ⟨vm,rfl,hb,hu⟩;have hu2:RtV wn (Ext (Old F w.heap.size) (w.heap.size+3)) vm (x+y):=by rw[HJ.out] at hu;exact hu.mono (λb hb _=>hb.elim id λh=>.inr EN)
   have HM:=Ac hu2;obtain⟨Am,cm,Bm,dm,rfl,hn,hd⟩:=hu2.open;clear hn hd hu hu2;refine Ze ?_;clear x0 x1 x2 y0 y1 y2 HX HY HNX HNY HDX HDY;intro x0 x1 x2 y0 y1 y2 HX HY HNX HNY HDX HDY;refine Yv ?_;clear HVP HVQ HVD;intro HVP HVQ HVD;replace HVS:=Ac (HVS.out.below hb);refine zaY ?_;clear rz hz hB hb hHeld hK K x0 x1 x2 y0 y1 y2;intro rz hz hB;intro q0 y0 q1 y1 q2 y2;go_wp2
   refine ZR ?_;go_wp2
   refine zbZ ?_;clear q0 q1 q2 y0 y1 y2;intro Wz hrz hwz hkz;intro t0 t1 t2;refine bodyPost_ret (v:=.agg #[Gj (au (x+y)).neg,FQ Am (au (x+y)).num.length cm,FQ Bm (au (x+y)).den.length dm]) (by simp[results,Tryz.results13,go_sem,t0,t1,t2]) rfl ?_;exact Zq
  ·have hord:decide (0<=dB p q)=false:=L9 (by unfold dB; split <;> (try split) <;> omega);have HJ:=Ac (show mkRat (sgI (au y).neg (q - p)) D=x+y by rw[<-HML.out,<-jJ x,<-jJ y,ajb hs EN]);have HPQ:=Ac (show p<=q by omega);clear hs hpq;generalize dB p q=od at *;go_wp2_with fail
   refine Zj ?_;intro hHeld hb;clear x0 x1 x2 y0 y1 y2 HX HY HNX HNY HDX HDY;intro x0 x1 x2 y0 y1 y2 HX HY HNX HNY HDX HDY;refine Yv ?_;clear HVP HVQ HVD;intro HVP HVQ HVD;refine ZE ?_;clear rz hz hB hb;intro rz hz hB;generalize wn.drew=wn at *;refine tkm [0,1,2,3,5] ?_;refine tk2 4 ak rfl λK hK=>?_
   go_simp;refine(yN _ _ _ _ q p HVQ.out HVP.out HPQ.out EN).mono ?_;rintro e wn ⟨vs,rfl,hb,hu⟩;obtain⟨ls,As,cs,hvs,hns,agz,howns⟩:=hu;subst hvs;have hcs:=rC howns agz;rw[hns] at hcs;have HVS:=Ac (show Ae wn (Ext (Old F w.heap.size) (w.heap.size+3)) (FQ As (fF ls ls.length) cs) (q - p) from Ag.keep (G:=(Ext (Old F w.heap.size) (w.heap.size+3))) hcs.limbs (λb hb _=>.inr EN) (Gh _ _));clear howns agz hns hcs;refine Ze ?_;clear x0 x1 x2 y0 y1 y2 HX HY HNX HNY HDX HDY;intro x0 x1 x2 y0 y1 y2 HX HY HNX HNY HDX HDY;refine Yv ?_;clear HVP HVQ HVD;intro HVP HVQ HVD;refine ZO ?_;clear rz hz hB hb hHeld hK K;intro rz hz hB hHeld;refine tk2 6 ak rfl λK hK=>?_
   go_simp;refine(mO _ (Ext (Old F w.heap.size) (w.heap.size+3)) _ _ _ (q - p) D HVS.out HVD.out hd0 EN EN).mono ?_;rintro e wn ⟨vm,rfl,hb,hu⟩;have hu2:RtV wn (Ext (Old F w.heap.size) (w.heap.size+3)) vm (x+y):=by rw[HJ.out] at hu;exact hu.mono (λb hb _=>hb.elim id λh=>.inr EN)
   have HM:=Ac hu2;obtain⟨Am,cm,Bm,dm,rfl,hn,hd⟩:=hu2.open;clear hn hd hu hu2;refine Ze ?_;clear x0 x1 x2 y0 y1 y2 HX HY HNX HNY HDX HDY;intro x0 x1 x2 y0 y1 y2 HX HY HNX HNY HDX HDY;refine Yv ?_;clear HVP HVQ HVD;intro HVP HVQ HVD;replace HVS:=Ac (HVS.out.below hb);refine zaY ?_;clear rz hz hB hb hHeld hK K x0 x1 x2 y0 y1 y2;intro rz hz hB;intro q0 y0 q1 y1 q2 y2;go_wp2
   refine ZR ?_;go_wp2
   refine zbZ ?_;clear q0 q1 q2 y0 y1 y2;intro Wz hrz hwz hkz;intro t0 t1 t2;refine bodyPost_ret (v:=.agg #[Gj (au (x+y)).neg,FQ Am (au (x+y)).num.length cm,FQ Bm (au (x+y)).den.length dm]) (by simp[results,Tryz.results13,go_sem,t0,t1,t2]) rfl ?_;exact Zq
theorem akh (w:FW) (F:FI) (v:F7) (x:Rat) (hv:RtV w F v x) :
  Calls FY 26 #[v] w (Ret w λu _=>u = Gj (decide (x=0))):=by
 obtain⟨A,c,B,d,rfl,hn,hd⟩:=hv.open;clear hn hd hv;rw[jJ,oL];generalize (au x).den.length=dl;by_cases h:x=0
 ·exact zdJ
 ·exact zdD
theorem agA {x:Rat}:au (-x)=⟨!dI x&&decide (0 < (dig x.num.natAbs).length),dig x.num.natAbs,dig x.den⟩:=by
 unfold au;rw[Rat.neg_num,Rat.neg_den,Int.natAbs_neg];by_cases h:x=0
 ·subst h;rw[show(-(0:Rat))=0 from by simp];simp[bD,ajF]
 ·rw[ald h];have:=bg.2 (show x.num.natAbs≠0 from λe=>h ((lF x).1 e));simp[this]
theorem acH (w:FW) (F:FI) (v:F7) (x:Rat) (hv:RtV w F v x) :
  Calls FY 14 #[v] w (Ret w λu w'=>RtV w' F u (-x)):=by
 have HX:=Ac hv.old;obtain⟨A,c,B,d,rfl,hn,hd⟩:=hv.open;clear hn hd hv;rw[jJ,oL];have HM:=Ac (agA (x:=x));obtain⟨ng,hng⟩:=FH (dI x);rw[<-hng];have HNG:=Ac hng;clear hng;by_cases h0:0 < (dig x.num.natAbs).length
 ·have d0:decide (0 < (dig x.num.natAbs).length)=true:=Mc h0;have HMM:=Ac (show au (-x)=⟨!ng,dig x.num.natAbs,dig x.den⟩ by rw[HM.out,d0,HNG.out]; simp);clear HM h0;cases ng
  ·go_in;go_wp2
   obtain⟨W,hW,hr,hr2,hB,hz⟩:=alloc2 w 42 #[Gj true,FQ A (dig x.num.natAbs).length c,FQ B (au x).den.length d] 42 #[Gj true,FQ A (dig x.num.natAbs).length c,FQ B (au x).den.length d];rw[<-hW];clear hW;have t0:=hr2.cell (i:=0) rfl;have t1:=hr2.cell (i:=1) rfl;have t2:=hr2.cell (i:=2) rfl;refine bodyPost_ret (v:=.agg #[Gj true,FQ A (dig x.num.natAbs).length c,FQ B (au x).den.length d]) (by simp[results,KT,go_sem,t0,t1,t2]) rfl ?_;exact ZY
  ·go_in;go_wp2
   refine Yt ?_;intro W hr hr2 hB hz t0 t1 t2;refine bodyPost_ret (v:=.agg #[Gj false,FQ A (dig x.num.natAbs).length c,FQ B (au x).den.length d]) (by simp[results,KT,go_sem,t0,t1,t2]) rfl ?_;exact ZY
 ·have d0:decide (0 < (dig x.num.natAbs).length)=false:=L9 h0;have HMM:=Ac (show au (-x)=⟨false,dig x.num.natAbs,dig x.den⟩ by rw[HM.out,d0]; simp);clear HM;cases ng
  ·go_in;go_wp2
   refine Yt ?_;intro W hr hr2 hB hz t0 t1 t2;refine bodyPost_ret (v:=.agg #[Gj false,FQ A (dig x.num.natAbs).length c,FQ B (au x).den.length d]) (by simp[results,KT,go_sem,t0,t1,t2]) rfl ?_;exact ZY
  ·go_in;go_wp2
   refine Yt ?_;intro W hr hr2 hB hz t0 t1 t2;refine bodyPost_ret (v:=.agg #[Gj false,FQ A (dig x.num.natAbs).length c,FQ B (au x).den.length d]) (by simp[results,KT,go_sem,t0,t1,t2]) rfl ?_;exact ZY
theorem ang {n:Int} (hn:n≠0):dig n.natAbs=(n.natAbs % LB) :: dig (n.natAbs / LB):=lY EN
theorem aaI (w:FW) (n:Int) (h1:-1000000000000<=n) (h2:n<=1000000000000) :
  Calls FY 96 #[F6 F5 n] w (Ret w λv w'=>Ae w' (λb=>w.heap.size<=b) v n.natAbs):=by
 go_in;go_wp2
 go_loopw [0,3,4] (λu v _ wr=>∃ (m:Int) (l:List Nat),u = F6 F5 m∧-1000000000000<=m/\m<=1000000000000/\l++dig m.natAbs=dig n.natAbs/\wr.ownsRow w.heap.size 103 1 v l.length (aU l)/\Below w.heap.size w wr) (λu _ _ _=>(intOf u).natAbs)
 case atStart=>exact⟨n,[],rfl,h1,h2,rfl,Ko _ _ _ _,F9 _ _⟩
 case round =>
  obtain⟨m,l,rfl,hm1,hm2,hd,hown,hbel⟩:=hrel;have HD:=Ac hd;have HO:=Ac hown;have hll:l.length<=1000000:=by
   have h1:(dig n.natAbs).length<=3:=aV (by unfold LB; omega);exact zc7
  clear hd hown;by_cases h0:m=0
  ·subst h0;go_wp2
   go_ret;refine zc2 ?_;have h2:=HD.out;rw[Int.natAbs_zero,bD,List.append_nil] at h2;unfold Ae;rw[<-h2];exact jE HO.out λb hb=>(HO.out.lt b hb).1
  ·have hne:(m != 0)=true:=by simp[h0]
   have HD2:=Ac (show l ++ [m.natAbs % 1000000000]++dig (m.natAbs / 1000000000)=dig n.natAbs by rw[<-HD.out,ang h0]; simp[LB]);obtain⟨r,hr⟩:∃ r:Nat,r=m.natAbs % 1000000000:=⟨_,rfl⟩;obtain⟨m2,adz⟩:∃ m2:Nat,m2=m.natAbs / 1000000000:=⟨_,rfl⟩;rw[<-hr,<-adz] at HD2;have hr9:r < 1000000000:=EN;have HLT:=Ac (show m2 < m.natAbs by omega);have hm2b:m2<=1000000000000:=EN;have key:(m=(m.natAbs:Int)/\0 < m)\/(m = -(m.natAbs:Int)/\m < 0):=EN;obtain⟨k,hk⟩:=FH m.natAbs;rw[<-hk] at hr adz HLT key;rcases key with⟨hme,hp⟩ | ⟨hme,hp⟩
   ·have ht:m.tmod 1000000000=(r:Int):=by rw[hme,hr];rfl
    have hq:m.tdiv 1000000000=(m2:Int):=by rw[hme,adz];rfl
    have hmx:(if -(r:Int) > (r:Int) then -(r:Int) else (r:Int))=(r:Int):=L6 EN;have hnl:¬ ((r:Int) < -(r:Int)):=EN;have HK:=Ac hk;clear hr adz h0 hme hk;go_wp2_with (at_builtin; refine dh rfl _ _ 40 G8 rfl w.heap.size (FV _) u3 l rfl _ r EN hll rfl HO.out hbel ?_; intro g cap w' hown' aZ hlt' iM; have HO':=Ac hown'; clear hown' iM)
    go_roundw
    case rel=>exact⟨(m2:Int),l ++ [r],by go_num,EN,EN,by rw[Int.natAbs_natCast]; exact HD2.out,by simpa using HO'.out,aZ⟩
    case measure=>simp only[intOf]; have:=HLT.out; have:=HK.out; omega
   ·have ht:m.tmod 1000000000 = -(r:Int):=by rw[hme,hr,Int.neg_tmod];rfl
    have hq:m.tdiv 1000000000 = -(m2:Int):=by rw[hme,adz,Int.neg_tdiv];rfl
    have HK:=Ac hk;clear hr adz h0 hme hk;go_wp2_with (at_builtin; refine dh rfl _ _ 40 G8 rfl w.heap.size (FV _) u3 l rfl _ r EN hll rfl HO.out hbel ?_; intro g cap w' hown' aZ hlt' iM; have HO':=Ac hown'; clear hown' iM)
    go_roundw
    case rel=>exact⟨-(m2:Int),l ++ [r],by go_num,EN,EN,by rw[Int.natAbs_neg,Int.natAbs_natCast]; exact HD2.out,by simpa using HO'.out,aZ⟩
    case measure=>simp only[intOf]; have:=HLT.out; have:=HK.out; omega
theorem aki (n:Int):mkRat (sgI (decide (n < 0)) n.natAbs) 1=(n:Rat):=by
 have h:sgI (decide (n < 0)) n.natAbs=n:=by
  unfold sgI;by_cases h:n < 0 <;> simp[h] <;> omega
 rw[h];exact(Rat.ext (by rw[Rat.num_mkRat]; simp) (by rw[Rat.den_mkRat]; simp))
theorem akj (a b:Int) (hb:b≠0):mkRat (sgI (decide (a < 0) != decide (b < 0)) a.natAbs) b.natAbs=(a:Rat) / (b:Rat):=by
 have e:(a:Rat) / (b:Rat)=Rat.divInt a b:=(Rat.divInt_eq_div a b).symm;rw[e];have hb2:b=sgI (decide (b < 0)) b.natAbs:=by unfold sgI;by_cases h:b < 0 <;> simp[h] <;> omega
 have ha2:a=sgI (decide (a < 0)) a.natAbs:=by unfold sgI;by_cases h:a < 0 <;> simp[h] <;> omega
 have h2:Rat.divInt a b=Rat.divInt (sgI (decide (a < 0)) a.natAbs) (sgI (decide (b < 0)) b.natAbs):=by rw[<-ha2,<-hb2]
 rw[h2];generalize decide (a < 0)=s;generalize decide (b < 0)=t;unfold sgI;cases s <;> cases t <;> simp[Rat.divInt_ofNat,Rat.divInt_neg']
theorem mP (w:FW) (n:Int) (h1:-1000000000000<=n) (h2:n<=1000000000000) :
  Calls FY 43 #[F6 F5 n] w (Ret w λv w'=>RtV w' (λb=>w.heap.size<=b) v (n:Rat)):=by
 have hl:(dig n.natAbs).length<=50000:=by have:(dig n.natAbs).length<=3:=aV (by unfold LB; omega);omega
 have HW:=Ac (aki n);obtain⟨ng,hng⟩:=FH (decide (n < 0));rw[<-hng] at HW;go_in;go_wp2_with fail
 refine Z5 ?_;intro W hr hB hz;refine(aaI W n h1 h2).mono ?_;rintro e wn ⟨vn,rfl,hb,hu⟩;refine zba ?_;clear hu hr hz hB hb;intro HN hr hz hB;go_wp2_with fail
 obtain⟨W2,hW2,hr2,hb,hz2⟩:=aJ wn 103 #[.int .u32 1];have hone:Ae W2 (λb=>w.heap.size+1<=b) (FQ (some ⟨wn.heap.size,0,none⟩) 1 1) 1:=by rw[hW2];exact(ags wn).mono (λb hb _=>by omega)
 rw[<-hW2];clear hW2 hr2 hz2;replace HN:=Ac (HN.out.below hb);refine YE ?_;clear hr hz hB hb;intro hr hz hB;have BH:=Ac hone;clear hone;rw[<-hng];refine(mO _ (λb=>w.heap.size+1<=b) ng _ _ n.natAbs 1 HN.out BH.out aA hl (by rw[iL]; simp)).mono ?_;rintro e wn ⟨vm,rfl,hb,hu⟩;rw[HW.out] at hu;have hu2:RtV wn (λb=>w.heap.size+1<=b) vm (n:Rat):=hu.mono (λb hb _=>hb.elim id λh=>by omega);have HM:=Ac hu2;obtain⟨Am,cm,Bm,dm,rfl,hn,hd⟩:=hu2.open;clear hn hd hu hu2;replace HN:=Ac (HN.out.below hb);replace BH:=Ac (BH.out.below hb);refine YE ?_;clear hr hz hB hb;intro hr hz hB;refine Zu ?_;intro q0 y0 q1 y1 q2 y2;go_wp2
 obtain⟨Wz,hWz,hrz,hwz,hkz⟩:=bG hr (Gj (au (n:Rat)).neg) (FQ Am (au (n:Rat)).num.length cm) (FQ Bm (au (n:Rat)).den.length dm);refine Zh ?_;clear hWz q0 q1 q2 y0 y1 y2;intro t0 t1 t2;refine bodyPost_ret (v:=.agg #[Gj (au (n:Rat)).neg,FQ Am (au (n:Rat)).num.length cm,FQ Bm (au (n:Rat)).den.length dm]) (by simp[results,Tryz.results43,go_sem,t0,t1,t2]) rfl ?_;exact zao
theorem ah1 (w:FW) (a b:Int) (ha1:-1000000000000<=a) (ha2:a<=1000000000000) (hb1:-1000000000000<=b) (hb2:b<=1000000000000) (hb0:b≠0) :
  Calls FY 139 #[F6 F5 a,F6 F5 b] w (Ret w λv w'=>RtV w' (λb=>w.heap.size<=b) v ((a:Rat) / (b:Rat))):=by
 have hla:(dig a.natAbs).length<=50000:=by have:(dig a.natAbs).length<=3:=aV (by unfold LB; omega);omega
 have hlb:(dig b.natAbs).length<=50000:=by have:(dig b.natAbs).length<=3:=aV (by unfold LB; omega);omega
 have HW:=Ac (akj a b hb0);have agm:b.natAbs≠0:=EN;obtain⟨na,hna⟩:=FH (decide (a < 0));obtain⟨nb,hnb⟩:=FH (decide (b < 0));rw[<-hna,<-hnb] at HW;clear hb0;go_in;go_wp2_with fail
 rw[<-hna,<-hnb];refine Z5 ?_;intro W hr hB hz;refine(aaI W a ha1 ha2).mono ?_;rintro e wn ⟨vn,rfl,hb,hu⟩;refine zba ?_;clear hu hr hz hB hb;intro HN hr hz hB;go_wp2_with fail
 refine(aaI _ b hb1 hb2).mono ?_;rintro e wn ⟨vd,rfl,hb,hu⟩;refine zb1 ?_;clear hu HN;intro HD HN;clear hr hz hB hb;intro hr hz hB;dsimp only;go_wp2_with fail
 refine(mO _ (λb=>w.heap.size+1<=b) _ _ _ a.natAbs b.natAbs HN.out HD.out agm hla hlb).mono ?_;rintro e wn ⟨vm,rfl,hb,hu⟩;have hu2:RtV wn (λb=>w.heap.size+1<=b) vm ((a:Rat) / (b:Rat)):=by rw[show(!decide (a < 0)==decide (b < 0))=(na != nb) by rw[hna,hnb]; rfl,HW.out] at hu;exact hu.mono (λb hb _=>hb.elim id λh=>by omega)
 have HM:=Ac hu2;obtain⟨Am,cm,Bm,dm,rfl,hn,hd⟩:=hu2.open;clear hn hd hu hu2;replace HN:=Ac (HN.out.below hb);replace HD:=Ac (HD.out.below hb);refine YE ?_;clear hr hz hB hb;intro hr hz hB;refine Zu ?_;intro q0 y0 q1 y1 q2 y2;go_wp2
 obtain⟨Wz,hWz,hrz,hwz,hkz⟩:=bG hr (Gj (au ((a:Rat) / (b:Rat))).neg) (FQ Am (au ((a:Rat) / (b:Rat))).num.length cm) (FQ Bm (au ((a:Rat) / (b:Rat))).den.length dm);refine Zh ?_;clear hWz q0 q1 q2 y0 y1 y2;intro t0 t1 t2;refine bodyPost_ret (v:=.agg #[Gj (au ((a:Rat) / (b:Rat))).neg,FQ Am (au ((a:Rat) / (b:Rat))).num.length cm,FQ Bm (au ((a:Rat) / (b:Rat))).den.length dm]) (by simp[results,Tryz.results139,go_sem,t0,t1,t2]) rfl ?_;exact zao
def Fact.aec (B:Nat) (t:TypeId) (l:List F7):Fact:=⟨λv w=>∃ b,v = .pointer (some ⟨b,0,none⟩)/\B<=b/\Row w b t l,λ_ _ _ ⟨b,h1,h2,h3⟩ hb=>⟨b,h1,h2,h3.below hb h3.lt⟩⟩
theorem pV (w:FW) (F:FI) (va vb:F7) (x y:Rat) (ha:RtV w F va x) (hb:RtV w F vb y) (hlx:rl x<=20000) (hly:rl y<=20000) :
  Calls FY 44 #[va,vb] w (Ret w λv _=>v = F6 F5 (jC x y)):=by
 have HO:=Ac (alg x y);have hny:=aeJ y;refine zcT ?_;intro HX HY;obtain⟨A,c,B,d,rfl,hn,hd⟩:=ha.open;obtain⟨A',c',B',d',rfl,hn',hd'⟩:=hb.open;clear hn hd hn' hd' ha hb;go_in;go_wp2_with fail
 obtain⟨W,hW,rx,ry,hB,hz⟩:=alloc2 w 42 #[Gj (au x).neg,FQ A (au x).num.length c,FQ B (au x).den.length d] 42 #[Gj (au y).neg,FQ A' (au y).num.length c',FQ B' (au y).den.length d'];rw[<-hW];clear hW;replace HX:=Ac (HX.out.on (FZ hB _));replace HY:=Ac (HY.out.on (FZ hB _));have hz:w.heap.size+2<=W.heap.size:=hz;refine ZG ?_;intro x0 x1 x2 y0 y1 y2;clear rx ry;refine aW (λw'=>w'.cell? ⟨w.heap.size,0,none⟩=some (Gj (au x).neg)/\w'.cell? ⟨w.heap.size,1,none⟩=some (FQ A (au x).num.length c)/\w'.cell? ⟨w.heap.size,2,none⟩=some (FQ B (au x).den.length d)/\w'.cell? ⟨w.heap.size+1,0,none⟩=some (Gj (au y).neg)/\w'.cell? ⟨w.heap.size+1,1,none⟩=some (FQ A' (au y).num.length c')/\w'.cell? ⟨w.heap.size+1,2,none⟩=some (FQ B' (au y).den.length d')) 5 1 ak rfl ak ?_;refine Zz ?_;intro hHeld hb;refine zZ ?_;clear x0 x1 x2 y0 y1 y2 HX HY;intro x0 x1 x2 y0 y1 y2 HX HY;refine Zc ?_;clear hz hB hb;intro hz hB;generalize W.drew=wn at *;refine tkm [0,1] ?_;refine og (js:=[2,3,4]) ((Hold.cell (w.heap.size) 0 (Gj (au x).neg)).and ((Hold.cell (w.heap.size) 1 (FQ A (au x).num.length c)).and ((Hold.cell (w.heap.size) 2 (FQ B (au x).den.length d)).and ((Hold.cell (w.heap.size+1) 0 (Gj (au y).neg)).and ((Hold.cell (w.heap.size+1) 1 (FQ A' (au y).num.length c')).and ((Hold.cell (w.heap.size+1) 2 (FQ B' (au y).den.length d')).and ((Hold.of (Fact.raw (Old F w.heap.size) (au x)) (.agg #[Gj (au x).neg,FQ A (au x).num.length c,FQ B (au x).den.length d])).and ((Hold.of (Fact.raw (Old F w.heap.size) (au y)) (.agg #[Gj (au y).neg,FQ A' (au y).num.length c',FQ B' (au y).den.length d'])).and (Hold.below (w.heap.size+2) wn))))))))) [(2,Fact.raw (Ext (Old F w.heap.size) (w.heap.size+2)) (au (-y))),(3,Fact.raw (Ext (Old F w.heap.size) (w.heap.size+2)) (au (x + -y))),(4,Fact.aec (w.heap.size+2) 42 [Gj false,FQ none 0 0,FQ none 0 0])] ak ⟨x0,x1,x2,y0,y1,y2,HX.out,HY.out,⟨hz,(F9 _ _).mono (FV _)⟩⟩ (λ_ h=>⟨h.1,h.2.1,h.2.2.1,h.2.2.2.1,h.2.2.2.2.1,h.2.2.2.2.2.1⟩) ?_;refine Flow.cons (o:=_) rfl (λwk hS hf K hK=>?_) (λv2=>?_)
 ·go_simp;refine(acH wk (Old F w.heap.size) _ y hS.2.2.2.2.2.2.2.1).mono ?_;rintro e w' ⟨u,rfl,hb,hu⟩;exact hK.out _ _ hb (Ah.mono hu (λb hb _=>.inl hb))
 refine Zb ?_;refine Flow.cons (o:=_) rfl (λwk hS hf K hK=>?_) (λv3=>?_)
 ·have f2:=eY (f:=Fact.raw (Ext (Old F w.heap.size) (w.heap.size+2)) (au (-y))) (hf (2,v2) aF ak) rfl;go_simp;refine(kV wk (Ext (Old F w.heap.size) (w.heap.size+2)) _ _ x (-y) (Ah.mono hS.2.2.2.2.2.2.1 (λb hb _=>.inl hb)) f2 hlx EN).mono ?_;rintro e w' ⟨u,rfl,hb,hu⟩;have hw2:=hS.2.2.2.2.2.2.2.2.1;exact hK.out _ _ hb (Ah.mono hu (λb hb _=>hb.elim id λh=>.inr EN))
 refine Zb ?_;refine Flow.cons (o:=_) rfl (λwk hS hf K hK=>?_) (λv4=>?_)
 ·go_simp;exact hK.out _ _ ((F9 _ _).alloc (FV _) _) ⟨_,rfl,hS.2.2.2.2.2.2.2.2.1,Row.new wk 42 #[Gj false,FQ none 0 0,FQ none 0 0]⟩
 refine Zb ?_;refine Flow.nil (λwE hS hf=>?_);have f3:=eY (f:=Fact.raw (Ext (Old F w.heap.size) (w.heap.size+2)) (au (x + -y))) (hf (3,v3) aF) rfl;have f4:=eY (f:=Fact.aec (w.heap.size+2) 42 [Gj false,FQ none 0 0,FQ none 0 0]) (hf (4,v4) aF) rfl;have hBe:=hS.2.2.2.2.2.2.2.2.2;obtain⟨A6,c6,B6,d6,hv6,_,_⟩:=Ah.open f3;dsimp only at hv6;subst hv6;obtain⟨bd,hv4,hbd,hrd⟩:=f4;dsimp only at hv4;subst hv4;have hBE:Below w.heap.size w wE:=hB.trans (hBe.mono EN);clear hf hS f3 x0 x1 x2 y0 y1 y2;refine zaf ?_;have q0:=hrd.cell (i:=0) rfl;have z0:=hrd.frozen 0;have q1:=hrd.cell (i:=1) rfl;have z1:=hrd.frozen 1;have q2:=hrd.cell (i:=2) rfl;have z2:=hrd.frozen 2;go_wp2_with fail
 refine ZR ?_;obtain⟨W2,hW2,an6,hw2,_⟩:=bG hrd (Gj (au (x + -y)).neg) (FQ A6 (au (x + -y)).num.length c6) (FQ B6 (au (x + -y)).den.length d6);rw[<-hW2];have hB2:Below w.heap.size w W2:=hw2 _ _ EN hBE;clear hW2 q0 q1 q2 z0 z1 z2;have q0:=an6.cell (i:=0) rfl;have q1:=an6.cell (i:=1) rfl;have q2:=an6.cell (i:=2) rfl;have HSG:nT (x + -y)=if (x + -y).num.natAbs=0 then 0 else if dI (x + -y) then -1 else 1:=rfl
 have HSGN:=Ac HSG;clear HSG;rw[oL] at q1;rw[jJ] at q0;by_cases h0:(x + -y).num.natAbs=0
 ·have HE:=Ac (show jC x y=0 by rw[HO.out,HSGN.out,L8 h0]);have hl0:(((dig (x + -y).num.natAbs).length:Int)==0)=true:=by rw[h0,bD];rfl
  clear h0;exact zdo
 ·have hl0:(((dig (x + -y).num.natAbs).length:Int)==0)=false:=by have:=bg.2 h0;exact beq_false_of_ne EN
  have HE1:=Ac (show jC x y=if dI (x + -y) then -1 else 1 by rw[HO.out,HSGN.out,L6 h0]);clear h0;generalize dI (x + -y)=ng at *;cases ng
  ·have HE:=Ac (show jC x y=1 from HE1.out);exact zdo
  ·have HE:=Ac (show jC x y = -1 from HE1.out);exact zdo
theorem xI (w:FW) (n:Nat) (h2:n<=1000000000000) :
  Calls FY 92 #[F6 F5 (n:Int)] w (Ret w λv w'=>Ae w' (λb=>w.heap.size<=b) v n):=by
 go_in;go_wp2
 go_loopw [0,3] (λu v wr=>∃ (m:Nat) (l:List Nat),u = F6 F5 (m:Int)/\m<=1000000000000/\l++dig m=dig n/\wr.ownsRow w.heap.size 103 1 v l.length (aU l)/\Below w.heap.size w wr) (λu _ _=>(intOf u).natAbs)
 case atStart=>exact⟨n,[],rfl,h2,rfl,Ko _ _ _ _,F9 _ _⟩
 case round =>
  obtain⟨m,l,rfl,hm2,hd,hown,hbel⟩:=hrel;have HD:=Ac hd;have HO:=Ac hown;have hll:l.length<=1000000:=by
   have h1:(dig n).length<=3:=aV (by unfold LB; omega);exact zc7
  clear hd hown;by_cases h0:m=0
  ·exact Y3
  ·have hne:decide (0 < m)=true:=aG;have HD2:=Ac (show l ++ [m % 1000000000]++dig (m / 1000000000)=dig n by rw[<-HD.out,lY h0]; simp[LB]);obtain⟨r,hr⟩:∃ r:Nat,r=m % 1000000000:=⟨_,rfl⟩;obtain⟨m2,adz⟩:∃ m2:Nat,m2=m / 1000000000:=⟨_,rfl⟩;rw[<-hr,<-adz] at HD2;have hr9:r < 1000000000:=EN;have HLT:=Ac (show m2 < m by omega);have hm2b:m2<=1000000000000:=EN;have ht:(m:Int).tmod 1000000000=(r:Int):=by rw[hr];rfl
   have hq:(m:Int).tdiv 1000000000=(m2:Int):=by rw[adz];rfl
   clear hr adz h0;go_wp2_with (at_builtin; refine dh rfl _ _ 40 G8 rfl w.heap.size (FV _) u3 l rfl _ r EN hll rfl HO.out hbel ?_; intro g cap w' hown' aZ hlt' iM; have HO':=Ac hown'; clear hown' iM)
   go_roundw
   case rel=>exact⟨m2,l ++ [r],by go_num,hm2b,HD2.out,by simpa using HO'.out,aZ⟩
   case measure=>simp only[intOf]; have:=HLT.out; omega
theorem aji (w:FW) (a b:Nat) (h1:a<=1000000000000) (h2:b<=1000000000000) :
  Calls FY 91 #[F6 F5 (a:Int),F6 F5 (b:Int)] w (Ret w λv _=>v = F6 F5 (Gv a b:Int)):=by
 go_in;go_wp2
 go_loopw [0,1] (λu v wr=>∃ (x y:Nat),u = F6 F5 (x:Int)/\v = F6 F5 (y:Int)/\x<=1000000000000/\y<=1000000000000/\Gv x y=Gv a b/\Below w.heap.size w wr) (λ_ v _=>(intOf v).natAbs)
 case atStart=>exact⟨a,b,rfl,rfl,h1,h2,rfl,F9 _ _⟩
 case round =>
  obtain⟨x,y,rfl,rfl,hx,hy,hg,hbel⟩:=hrel;have HG:=Ac hg;clear hg;by_cases h0:y=0
  ·subst h0;have hmx:(if -(x:Int) > (x:Int) then -(x:Int) else (x:Int))=(x:Int):=L6 EN;have hnl:¬ ((x:Int) < -(x:Int)):=EN;go_wp2
   go_ret;refine zc2 ?_;have:=HG.out;rw[Nat.gcd_zero_right] at this;rw[<-this];first | rfl | (rw[hmx]) | (simp[hnl])
  ·have hne:((y:Int) != 0)=true:=aG;obtain⟨r,hr⟩:∃ r:Nat,r=x % y:=⟨_,rfl⟩;have ht:(x:Int).tmod (y:Int)=(r:Int):=by rw[hr];rfl
   have hlt:r < y:=by rw[hr];exact IK _ EN
   have HG2:=Ac (show Gv y r=Gv a b by rw[<-HG.out,hr,Iy x y,Nat.gcd_rec y x,Iy]);clear hr;have hy0:(y:Int)≠0:=EN;go_wp2
   go_quiet (fail)
   go_wp2
   go_roundw
   case rel=>exact⟨y,r,rfl,by go_num,hy,EN,HG2.out,aI hbel _⟩
   case measure=>simp only[intOf]; omega
theorem nJ (neg:Bool) (n b:Nat) (hb:b≠0):au (mkRat (sgI neg n) b)=⟨neg&&decide (n≠0),dig (n / Gv n b),dig (b / Gv n b)⟩:=by
 have h:=jl (sgI neg n) hb;rw[qG] at h;unfold au;rw[h.1,h.2.1,mg _ hb];by_cases h0:n=0
 ·subst h0;rw[ab4];simp
 ·rw[xk h0];simp[h0]
theorem aed (w:FW) (n b:Nat) (h1:n<=1000000000000) (h2:b<=1000000000000) (hb0:b≠0) :
  Calls FY 39 #[F6 F5 (n:Int),F6 F5 (b:Int)] w (Ret w λv w'=>RtV w' (λb=>w.heap.size<=b) v (mkRat (sgI false n) b)):=by
 have HM:=Ac (nJ false n b hb0);refine za9 ?_;clear HM;intro hg0 HGN HG;generalize Gv n b=g at *;have e1:n / g<=n:=JJ _ _;have e2:b / g<=b:=JJ _ _;have t2:(b:Int).tdiv (g:Int)=((b / g:Nat):Int):=rfl;have hgz:(g:Int)≠0:=EN;have t1:(n:Int).tdiv (g:Int)=((n / g:Nat):Int):=rfl;have hbn:(false&&decide (n≠0))=false:=rfl;rw[hbn];have h1':n<=1000000000000:=h1;obtain⟨q,hq⟩:=FH (n / g);obtain⟨d,hd⟩:=FH (b / g);rw[<-hq] at t1 e1 ⊢;rw[<-hd] at t2 e2 ⊢;clear hq hd hbn;have hmx:(if -(n:Int) > (n:Int) then -(n:Int) else (n:Int))=(n:Int):=L6 EN;have hnl:¬ ((n:Int) < -(n:Int)):=EN;have hlt:decide ((q:Int) < 0)=false:=L9 EN;go_in;go_wp2_with fail
 refine Z5 ?_;intro W hr hB hz;try rw[hmx]
 refine(HG.out _).mono ?_;rintro e wn ⟨vn,rfl,hb,rfl⟩;refine YE ?_;clear hr hz hB hb;intro hr hz hB;dsimp only;go_wp2_with fail
 go_quiet (fail)
 have hb:Below wn.heap.size wn (wn.drewN nq):=aI (F9 _ wn) nq;refine YE ?_;clear hr hz hB hb;intro hr hz hB;generalize wn.drewN nq=wn at *;go_wp2_with fail
 refine(xI _ q EN).mono ?_;rintro e wn ⟨vn,rfl,hb,hu⟩;refine zba ?_;clear hu hr hz hB hb;intro HN hr hz hB;go_wp2_with fail
 refine(xI _ d EN).mono ?_;rintro e wn ⟨vd,rfl,hb,hu⟩;refine zb1 ?_;clear hu HN;intro HD HN;clear hr hz hB hb;intro hr hz hB;have hn:=HN.out;have hd:=HD.out;obtain⟨Am,cm,rfl,_,_⟩:=hn;obtain⟨Bm,dm,rfl,_,_⟩:=hd;refine Zu ?_;intro q0 y0 q1 y1 q2 y2;go_wp2
 obtain⟨Wz,hWz,hrz,hwz,hkz⟩:=bG hr (Gj false) (FQ Am (dig q).length cm) (FQ Bm (dig d).length dm);refine Zh ?_;clear hWz q0 q1 q2 y0 y1 y2;intro t0 t1 t2;refine bodyPost_ret (v:=.agg #[Gj false,FQ Am (dig q).length cm,FQ Bm (dig d).length dm]) (by simp[results,Tryz.results39,go_sem,t0,t1,t2]) rfl ?_;exact zbA
theorem akk (w:FW) (n b:Nat) (h1:n<=1000000000000) (h2:b<=1000000000000) (hb0:b≠0) (hn0:n≠0) :
  Calls FY 39 #[F6 F5 (-(n:Int)),F6 F5 (b:Int)] w (Ret w λv w'=>RtV w' (λb=>w.heap.size<=b) v (mkRat (sgI true n) b)):=by
 have HM:=Ac (nJ true n b hb0);refine za9 ?_;clear HM;intro hg0 HGN HG;generalize Gv n b=g at *;have e1:n / g<=n:=JJ _ _;have e2:b / g<=b:=JJ _ _;have t2:(b:Int).tdiv (g:Int)=((b / g:Nat):Int):=rfl;have hgz:(g:Int)≠0:=EN;have t1:(-(n:Int)).tdiv (g:Int) = -((n / g:Nat):Int):=by rw[Int.neg_tdiv];rfl
 have hq0:0 < n / g:=Nat.div_pos (Nat.le_of_dvd EN HGN.out) hg0;have hbn:(true&&decide (n≠0))=true:=by simp[hn0]
 rw[hbn];have h1':n<=1000000000000:=h1;obtain⟨q,hq⟩:=FH (n / g);obtain⟨d,hd⟩:=FH (b / g);rw[<-hq] at t1 e1 ⊢;rw[<-hd] at t2 e2 ⊢;rw[<-hq] at hq0;clear hq hd hbn;have hmx:(if - -(n:Int) > -(n:Int) then - -(n:Int) else -(n:Int))=(n:Int):=by rw[L8 EN];omega
 have hnl:(-(n:Int) < - -(n:Int)):=EN;have adA:(-(n:Int) < (n:Int)):=EN;have hlt:decide (-(q:Int) < 0)=true:=Mc EN;have hlt2:decide (0 < q)=true:=Mc hq0;go_in;go_wp2_with fail
 refine Z5 ?_;intro W hr hB hz;try rw[hmx]
 refine(HG.out _).mono ?_;rintro e wn ⟨vn,rfl,hb,rfl⟩;refine YE ?_;clear hr hz hB hb;intro hr hz hB;dsimp only;go_wp2_with fail
 go_quiet (fail)
 have hb:Below wn.heap.size wn (wn.drewN nq):=aI (F9 _ wn) nq;refine YE ?_;clear hr hz hB hb;intro hr hz hB;generalize wn.drewN nq=wn at *;go_wp2_with fail
 refine(xI _ q EN).mono ?_;rintro e wn ⟨vn,rfl,hb,hu⟩;refine zba ?_;clear hu hr hz hB hb;intro HN hr hz hB;go_wp2_with fail
 refine(xI _ d EN).mono ?_;rintro e wn ⟨vd,rfl,hb,hu⟩;refine zb1 ?_;clear hu HN;intro HD HN;clear hr hz hB hb;intro hr hz hB;have hn:=HN.out;have hd:=HD.out;obtain⟨Am,cm,rfl,_,_⟩:=hn;obtain⟨Bm,dm,rfl,_,_⟩:=hd;refine Zu ?_;intro q0 y0 q1 y1 q2 y2;go_wp2
 obtain⟨Wz,hWz,hrz,hwz,hkz⟩:=bG hr (Gj true) (FQ Am (dig q).length cm) (FQ Bm (dig d).length dm);refine Zh ?_;clear hWz q0 q1 q2 y0 y1 y2;intro t0 t1 t2;refine bodyPost_ret (v:=.agg #[Gj true,FQ Am (dig q).length cm,FQ Bm (dig d).length dm]) (by simp[results,Tryz.results39,go_sem,t0,t1,t2]) rfl ?_;exact zbA
theorem aaJ (w:FW) (a:Int) (b:Nat) (h1:-1000000000000<=a) (h2:a<=1000000000000) (h3:b<=1000000000000) (hb0:b≠0) :
  Calls FY 39 #[F6 F5 a,F6 F5 (b:Int)] w (Ret w λv w'=>RtV w' (λb=>w.heap.size<=b) v (mkRat a b)):=by
 obtain⟨n,rfl | rfl⟩:=Int.eq_nat_or_neg a
 ·have:=aed w n b EN h3 hb0;simpa [sgI] using this
 ·by_cases h0:n=0
  ·subst h0;have:=aed w 0 b EN h3 hb0;simpa [sgI] using this
  ·have:=akk w n b EN h3 hb0 h0;simpa [sgI] using this
theorem uQ (w:FW) (a:Int) (b:Nat) (h1:-1000000000000<=a) (h2:a<=1000000000000) (h3:b<=1000000000000) (hb0:b≠0) :
  Calls FY 10 #[F6 F5 a,F6 F5 (b:Int)] w (Ret w λv w'=>RtV w' (λb=>w.heap.size<=b) v (mkRat a b)):=by
 have HR:=Ac (λw=>aaJ w a b h1 h2 h3 hb0);generalize mkRat a b=x at *;go_in;go_wp2_with fail
 refine Z5 ?_;intro W hr hB hz;refine(HR.out _).mono ?_;rintro e wn ⟨vm,rfl,hb,hu⟩;have hu2:RtV wn (λb=>w.heap.size+1<=b) vm x:=hu.mono (λb hb _=>by omega);have HM:=Ac hu2;obtain⟨Am,cm,Bm,dm,rfl,hn,hd⟩:=hu2.open;clear hn hd hu hu2;refine YE ?_;clear hr hz hB hb;intro hr hz hB;refine Zu ?_;intro q0 y0 q1 y1 q2 y2;go_wp2
 obtain⟨Wz,hWz,hrz,hwz,hkz⟩:=bG hr (Gj (au x).neg) (FQ Am (au x).num.length cm) (FQ Bm (au x).den.length dm);refine Zh ?_;clear hWz q0 q1 q2 y0 y1 y2;intro t0 t1 t2;refine bodyPost_ret (v:=.agg #[Gj (au x).neg,FQ Am (au x).num.length cm,FQ Bm (au x).den.length dm]) (by simp[results,Tryz.results10,go_sem,t0,t1,t2]) rfl ?_;exact zao
theorem Tryz.infoRatT:(Tryz.prog.info? 42).map (λi=>(i.zero,i.size,i.bytes))=some (some (.agg #[Gj false,FQ none 0 0,FQ none 0 0]),3,56):=ak
theorem iy (w:FW) (F:FI) (v:F7) (l:List Int) (b:Nat) (hv:Aj w F v l) (hl:l.length<=1000) (hx:∀ x∈l,-1000000000000<=x/\x<=1000000000000) (h3:b<=1000000000000) (hb0:b≠0) :
  Calls FY 32 #[F6 F5 (b:Int),v] w (Ret w λv w'=>BD w' (λb=>w.heap.size<=b) v (l.map λx=>mkRat x b)):=by
 have HV:=Ac hv;obtain⟨A,c,rfl,hc,hr⟩:=hv;have HR:=Ac hr;have HX:=Ac hx;clear hr hx;go_in;go_wp2
 go_loopw [5,6] (λu i wr=>∃ (k:Nat) (L:List RV),k<=l.length/\i = F6 F5 (k:Int)/\L.length=k/\L.map RV.r=((l.take k).map λx=>au (mkRat x b))/\Bc wr w.heap.size 42 (λb=>w.heap.size<=b) u L/\Below w.heap.size w wr) (λ_ i _=>l.length - (intOf i).toNat)
 case atStart=>exact⟨0,[],EN,rfl,rfl,rfl,Bc.nil _ _ _ _,F9 _ _⟩
 case round =>
  obtain⟨k,L,hk,rfl,hLl,hLr,hown,hbel⟩:=hrel;have HO:=Ac hown;have HL:=Ac hLr;have HLL:=Ac hLl;clear hown hLr hLl;by_cases hlt:k < l.length
  ·obtain⟨bb,o,rfl,_,hb',hcell⟩:=HR.out EN;obtain⟨x,hxk⟩:=FC hlt;have e1:=hcell k x hxk;unfold jP at e1;rw[Gp] at e1;have hxb:=HX.out x (FT hxk);have HXK:=Ac hxk;have hold:=aS hbel;clear hcell hxk;have hz:=hbel.size;go_wp2_with fail
   refine(uQ wr x b hxb.1 hxb.2 h3 hb0).mono ?_;rintro e w2 ⟨vm,rfl,hb2,hu⟩;obtain⟨q,hq,rfl,hqf⟩:=Ah.rv hu;refine zc9 ?_;intro jo HO2;have HF:=Ac (show q.fine w2 (Apart (λb=>w.heap.size<=b) u5) from hqf.keep (λb hb _=>⟨EN,λe=>by have:=(HO.out.row.lt b e).2; omega⟩) (Gh _ _));have HQ:=Ac hq;clear hqf hu hq hb2 hold hbel;dsimp only[RV.cells];go_wp2_with (at_builtin; refine rY (F:=λb=>w.heap.size<=b) rfl _ _ 38 42 Tryz.underlying38 Tryz.infoRatT rfl w.heap.size (FV _) u5 L rfl q (by have:=HLL.out; omega) rfl HO2.out HF.out jo ?_; intro g cap w' hown' aZ hlt'; have HO':=Ac hown'; clear hown')
   go_roundw
   case rel=>exact⟨k+1,L ++ [q],EN,by go_num,by rw[Gn,HLL.out]; rfl,by rw[GL,HL.out,FP HXK.out,GL,Hr,Jp,HQ.out]; rfl,HO'.out,aZ⟩
   case measure=>simp[intOf]; omega
  ·go_wp2
   go_ret;refine zay ?_;intro h5;rw[List.map_map];exact h5
def nK:List (List Rat):=[[1,1].map λx=>mkRat x 2,[1,1].map λx=>mkRat x 2,[1,1,1].map λx=>mkRat x 3]
theorem Row.qB {w:FW} {l:List Int} (h:Row w b 3 (l.map (Value.int .i64))) (hF:F b):Aj w F (FQ (some ⟨b,0,none⟩) l.length l.length) l:=by
 refine⟨_,_,rfl,FV _,λ_=>⟨b,0,rfl,hF,h.lt,λk x hk=>?_⟩⟩;unfold jP;rw[Iz,Gp];exact h.cell (by rw[Gi,hk]; rfl)
theorem anM {w:FW} {v1 v2 v3:F7} {l1 l2 l3:List Raw} (h:Row w b 38 [v1,v2,v3]) (hF:F b) (h1:FK w F v1 l1) (h2:FK w F v2 l2) (h3:FK w F v3 l3):FM w F (FQ (some ⟨b,0,none⟩) 3 3) [l1,l2,l3]:=by
 refine⟨_,_,rfl,FV _,λ_=>⟨b,0,rfl,hF,h.lt,λk x hk=>?_⟩⟩;rw[Iz,Gp];match k,hk with
 | 0,hk=>cases hk; exact⟨v1,h.cell rfl,h1⟩
 | 1,hk=>cases hk; exact⟨v2,h.cell rfl,h2⟩
 | 2,hk=>cases hk; exact⟨v3,h.cell rfl,h3⟩
theorem wI (w:FW):Calls FY 30 #[] w (Ret w λv w'=>Ak w' (λb=>w.heap.size<=b) v nK):=by
 go_in;have hB:=F9 w.heap.size w;go_wp2_with fail
 obtain⟨wa0,hwa,hr,hb,hz'⟩:=aJ w 3 #[F6 F5 1,F6 F5 1];rw[<-hwa];have hi:=Row.qB (l:=[1,1]) (F:=λ_=>True) hr trivial;clear hwa hr;replace hB:=hB.trans (hb.mono hB.size);have hz0:=hB.size;clear hb;refine(iy wa0 _ _ [1,1] 2 hi aA aA aA aA).mono ?_;rintro e wb0 ⟨v0,rfl,hb,hu⟩;have H0:=Ac (hu.keep (G:=λb=>w.heap.size<=b) (λb hb _=>by omega) (Gh _ _));clear hu hi;refine YW ?_;clear hB hb;intro hB;go_wp2_with fail
 obtain⟨wa1,hwa,hr,hb,hz'⟩:=aJ wb0 3 #[F6 F5 1,F6 F5 1];rw[<-hwa];have hi:=Row.qB (l:=[1,1]) (F:=λ_=>True) hr trivial;clear hwa hr;replace H0:=Ac (Ju H0.out (FZ hb _));replace hB:=hB.trans (hb.mono hB.size);have hz1:=hB.size;clear hb;refine(iy wa1 _ _ [1,1] 2 hi aA aA aA aA).mono ?_;rintro e wb1 ⟨v1,rfl,hb,hu⟩;have H1:=Ac (hu.keep (G:=λb=>w.heap.size<=b) (λb hb _=>by omega) (Gh _ _));clear hu hi;replace H0:=Ac (Ju H0.out (FZ hb _));refine YW ?_;clear hB hb;intro hB;go_wp2_with fail
 obtain⟨wa2,hwa,hr,hb,hz'⟩:=aJ wb1 3 #[F6 F5 1,F6 F5 1,F6 F5 1];rw[<-hwa];have hi:=Row.qB (l:=[1,1,1]) (F:=λ_=>True) hr trivial;clear hwa hr;replace H0:=Ac (Ju H0.out (FZ hb _));replace H1:=Ac (Ju H1.out (FZ hb _));replace hB:=hB.trans (hb.mono hB.size);have hz2:=hB.size;clear hb;refine(iy wa2 _ _ [1,1,1] 3 hi aA aA aA aA).mono ?_;rintro e wb2 ⟨v2,rfl,hb,hu⟩;have H2:=Ac (hu.keep (G:=λb=>w.heap.size<=b) (λb hb _=>by omega) (Gh _ _));clear hu hi;replace H0:=Ac (Ju H0.out (FZ hb _));replace H1:=Ac (Ju H1.out (FZ hb _));refine YW ?_;clear hB hb;intro hB;have c0:=H0.out;have c1:=H1.out;have c2:=H2.out;obtain⟨A0,d0,rfl,_,_⟩:=c0;obtain⟨A1,d1,rfl,_,_⟩:=c1;obtain⟨A2,d2,rfl,_,_⟩:=c2;have hzz:=hB.size;go_wp2
 refine bodyPost_ret (v:=FQ (some ⟨wb2.heap.size,0,none⟩) 3 3) (by simp[results,Tryz.results30,go_sem]) rfl ?_;generalize hwa:World.alloc _ _=wz;obtain⟨wz',hwz,hr,hb,hz'⟩:=aJ wb2 38 #[FQ A0 2 d0,FQ A1 2 d1,FQ A2 3 d2];have hww:wz=wz':=by rw[<-hwa,hwz]
 rw[hww];refine⟨_,rfl,hB.trans (hb.mono hB.size),?_⟩;exact anM hr hzz (Ju H0.out (FZ hb _)) (Ju H1.out (FZ hb _)) (Ju H2.out (FZ hb _))
theorem alX {x y:Rat} (hy:y≠0):mkRat (sgI (dI x != dI y) (x.num.natAbs*y.den)) (x.den*y.num.natAbs)=x / y:=by
 have h:=tJ hy;rw[Rat.div_def,<-ajh,h.1,h.2.1,h.2.2]
theorem ah2 (w:FW) (F:FI) (va vb:F7) (x y:Rat) (ha:RtV w F va x) (hb:RtV w F vb y) (hlx:rl x<=20000) (hly:rl y<=20000) (hy0:y≠0) :
  Calls FY 102 #[va,vb] w (Ret w λv w'=>RtV w' (Ext F w.heap.size) v (x / y)):=by
 have lx:=gy x;have lx2:=gB x;have ly:=gy y;have ly2:=gB y;have hl1:(dig (x.num.natAbs*y.den)).length<=40000:=Gf (dW _ _) EN;have hl2:(dig (x.den*y.num.natAbs)).length<=40000:=Gf (dW _ _) EN;have HML:=Ac (alX (x:=x) hy0);have hd0:x.den*y.num.natAbs≠0:=Jk x.den_nz λh=>hy0 ((lF y).1 h)
 clear hy0;refine zcT ?_;intro HX HY;obtain⟨A,c,B,d,rfl,hn,hd⟩:=ha.open;obtain⟨A',c',B',d',rfl,hn',hd'⟩:=hb.open;clear hn hd hn' hd' ha hb;go_in;go_wp2_with fail
 refine Ye ?_;clear HX HY;intro W rx ry rz hB hz HX HY;refine zaP ?_;intro hz;intro x0 x1 x2 y0 y1 y2;clear rx ry;obtain⟨_,_,hh,hn,hd⟩:=HX.out;refine zbx ?_;intro HNX HDX;cases hh;clear hn hd;obtain⟨_,_,hh,hn,hd⟩:=HY.out;refine zby ?_;intro HNY HDY;cases hh;clear hn hd;refine Ym ?_;intro hHeld hb;refine Ze ?_;clear x0 x1 x2 y0 y1 y2 HX HY HNX HNY HDX HDY;intro x0 x1 x2 y0 y1 y2 HX HY HNX HNY HDX HDY;refine ZE ?_;clear rz hz hB hb;intro rz hz hB;generalize W.drew=wn at *;refine tkm [0,1,2,3,4,5,6,7,8,10,11,12,13] ?_;refine tk2 9 ak rfl λK hK=>?_
 go_simp;refine(iY _ _ _ _ x.num.natAbs y.den HNX.out HDY.out EN EN).mono ?_;rintro e wn ⟨vn,rfl,hb,hu⟩;have HP:=Ac (hu.mono (G:=(Ext (Old F w.heap.size) (w.heap.size+3))) (λb hb _=>.inr EN));clear hu;refine Ze ?_;clear x0 x1 x2 y0 y1 y2 HX HY HNX HNY HDX HDY;intro x0 x1 x2 y0 y1 y2 HX HY HNX HNY HDX HDY;refine ZO ?_;clear rz hz hB hb hHeld hK K;intro rz hz hB hHeld;refine tk2 14 ak rfl λK hK=>?_
 go_simp;refine(iY _ _ _ _ x.den y.num.natAbs HDX.out HNY.out EN EN).mono ?_;rintro e wn ⟨vd,rfl,hb,hu⟩;have HQ:=Ac (hu.mono (G:=(Ext (Old F w.heap.size) (w.heap.size+3))) (λb hb _=>.inr EN));clear hu;refine Ze ?_;clear x0 x1 x2 y0 y1 y2 HX HY HNX HNY HDX HDY;intro x0 x1 x2 y0 y1 y2 HX HY HNX HNY HDX HDY;replace HP:=Ac (HP.out.below hb);refine ZO ?_;clear rz hz hB hb hHeld hK K;intro rz hz hB hHeld;refine tk2 15 ak rfl λK hK=>?_
 go_simp;refine(mO _ _ _ _ _ (x.num.natAbs*y.den) (x.den*y.num.natAbs) HP.out HQ.out hd0 EN EN).mono ?_;rintro e wn ⟨vm,rfl,hb,hu⟩;have hu2:RtV wn (Ext (Old F w.heap.size) (w.heap.size+3)) vm (x / y):=by rw[show(!(au x).neg==(au y).neg)=(dI x != dI y) from rfl,HML.out] at hu;exact hu.mono (λb hb _=>hb.elim id λh=>.inr EN)
 have HM:=Ac hu2;obtain⟨Am,cm,Bm,dm,rfl,hn,hd⟩:=hu2.open;clear hn hd hu hu2;refine Ze ?_;clear x0 x1 x2 y0 y1 y2 HX HY HNX HNY HDX HDY;intro x0 x1 x2 y0 y1 y2 HX HY HNX HNY HDX HDY;replace HP:=Ac (HP.out.below hb);replace HQ:=Ac (HQ.out.below hb);refine zaY ?_;clear rz hz hB hb hHeld hK K x0 x1 x2 y0 y1 y2;intro rz hz hB;intro q0 y0 q1 y1 q2 y2;go_wp2
 refine ZR ?_;go_wp2
 obtain⟨Wz,hWz,hrz,hwz,hkz⟩:=bG rz (Gj (au (x / y)).neg) (FQ Am (au (x / y)).num.length cm) (FQ Bm (au (x / y)).den.length dm);refine Zh ?_;clear hWz q0 q1 q2 y0 y1 y2;intro t0 t1 t2;refine bodyPost_ret (v:=.agg #[Gj (au (x / y)).neg,FQ Am (au (x / y)).num.length cm,FQ Bm (au (x / y)).den.length dm]) (by simp[results,Tryz.results102,go_sem,t0,t1,t2]) rfl ?_;exact Zq
end Go.Proofs.YtnmeejofpkhlkaaGreatDoor

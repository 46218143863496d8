/- Part of a claim. -/
import Derived.Test.YtnmeejofpkhlkaaGreatDoorE27
import Derived.Test.YtnmeejofpkhlkaaGreatDoorE23
import Derived.Deep.Cut
set_option linter.all false
set_option maxRecDepth 100000
set_option maxHeartbeats 12800000
namespace Go.Proofs.YtnmeejofpkhlkaaGreatDoor
open Go.RowKit.Below renaming refl->F9
open Below renaming same'->FZ,wrote->Iq
open Bool renaming and_eq_true->GN
open Go.IntKind renaming i64->F5
open Go renaming Value->F7,World->FW
open Go.Value renaming bool->Gj,int->F6,slice->FQ
open Int renaming add_sub_cancel->LM,toNat_natCast->Gu
open Go.IntWalk renaming i64_in->GH
open List renaming any_eq_false->Ja,append_assoc->GY,append_nil->Hz,eq_of_mem_replicate->KH,flatMap_cons->Kt,getD_eq_getElem?_getD->FU,getElem?_append_left->Hg,getElem?_append_right->Gx,getElem?_eq_getElem->GX,getElem?_map->Gi,getElem?_of_mem->Gz,getElem?_set_ne->Ia,getElem?_set_self->Ib,length_append->Gn,length_map->FX,length_replicate->Lm,length_set->He,map_append->GL,map_cons->Hr,map_nil->Jp,mem_cons_of_mem->GI,mem_of_getElem?->FT,range->Ir,replicate->F8,take_of_length_le->Gl
open Nat renaming le_refl->FV,le_trans->Gf,lt_of_le_of_lt->JD,mul_one->Gp,sub_self->Ih,zero_add->Iz,zero_le->GR
open Option.some renaming injEq->Hu
open Same renaming refl->Gh
open Tryz renaming infoIntK->JQ
open Go.Proofs.Tryz renaming prog->FY,underlying22->Ic,underlying83->Kw
open Wrote renaming refl->H6,setCell->Iu
open Lib renaming hid → Ac
open Go.RowKit
variable {F Fd G K:FI} {aC info z:Int} {ss:List (List (List Int))} {seen:List (List Int)} {cs l:List Int} {cr:List Nat} {a b c cap f g i j k level n x:Nat} {α:Type} {et t:TypeId}
theorem dX {w:FW} {o:Nat} {v:F7} (h:w.cell? ⟨b,o,none⟩=some v) (ob:Obj):(w.alloc ob).cell? ⟨b,o,none⟩=some v:=ah h ((F9 _ _).alloc (FV _) _)
theorem aej {w:FW} {A:Option Addr} (h:Aj w F (FQ A n c) l) (hl:0 < l.length):∃ b o,A=some ⟨b,o,none⟩/\F b/\b < w.heap.size/\∀ (k:Nat) (x:Int),l[k]? = some x->w.cell? ⟨b,o+k,none⟩=some (F6 F5 x):=by
 obtain⟨A',c',he,_,hx⟩:=h;simp only[Value.slice.injEq] at he;obtain⟨rfl,_,rfl⟩:=he;obtain⟨b3,o3,h1,h2,h3,h4⟩:=hx hl;exact⟨b3,o3,h1,h2,h3,λk x hk=>by have:=h4 k x hk; unfold jP at this; rw[Gp] at this; exact this⟩
open List renaming getElem_toArray → lq1, getElem_cons_zero → lq2, getElem_cons_succ → lq3, setIfInBounds_toArray → lq4, set_cons_zero → lq5, set_cons_succ → lq6
theorem qL (C:MC) (s:MS):∀ k,(iF C k s).1.length=k
 | 0=>rfl
 | k+1=>by unfold iF; simp[qL C s k]
theorem acS (C:MC) (s:MS):∀ k,∀ x∈(iF C k s).1,-3<=x/\x<=3
 | 0=>λx h=>by cases h
 | k+1=>λx h=>by
  have e:(iF C (k+1) s).1=(iF C k s).1 ++ [((iF C k s).2.draw C 7).1 - 3]:=rfl;rw[e] at h;rcases List.mem_append.1 h with h | h
  ·exact acS C s k x h
  ·rw[List.mem_singleton.1 h];have:=jc C.L (iF C k s).2.at' (n:=7) aA;have e2:((iF C k s).2.draw C 7).1=dY C.L (iF C k s).2.at' 7:=rfl;omega
theorem OwnSl.fz {K:Knd α} {w:FW} {base:Nat} {L:List α} (h:OwnSl K w base et F (FQ (some ⟨g,0,none⟩) n cap) L) (i:Nat):w.frozen? ⟨g,i,none⟩=false:=by
 rcases h.row.2 with⟨h',_⟩ | ⟨g',cap',cur,h',hb,hg,_⟩
 ·simp at h'
 ·simp only[Value.slice.injEq,Hu,Addr.mk.injEq,and_true,true_and] at h';obtain⟨rfl,_,rfl⟩:=h';simp[World.frozen?,hg]
theorem OwnSl.dH {K:Knd α} {w:FW} {base:Nat} {L:List α} (h:OwnSl K w base et F (FQ (some ⟨g,0,none⟩) L.length cap) L) (hi:i < L.length) (j:Nat) (hj:j < K.n):∃ v,w.cell? ⟨g,i*K.n+j,none⟩=some v:=by
 rcases h.at with⟨h',_⟩ | ⟨g',cap',h',_,_,_,_,hx⟩
 ·simp at h'
 ·simp only[Value.slice.injEq,Hu,Addr.mk.injEq,and_true,true_and] at h';obtain⟨rfl,rfl⟩:=h';obtain⟨q,hq⟩:=FC hi;obtain⟨u,hu⟩:=FC (l:=K.cells q) (k:=j) (by rw[K.len]; exact hj);have:=hx i q hq j u hu;rw[Iz] at this;exact⟨u,this⟩
theorem OwnSl.setInt {w:FW} {base:Nat} {L:List Int} (h:OwnSl rE w base et F (FQ (some ⟨g,0,none⟩) L.length cap) L) (i:Nat) (z:Int):OwnSl rE (w.setCell ⟨g,i,none⟩ (F6 F5 z)) base et F (FQ (some ⟨g,0,none⟩) L.length cap) (L.set i z):=by
 refine⟨?_,λ_ _=>trivial⟩;have hm:∀ l:List Int,l.flatMap rE.cells=l.map (Value.int .i64):=λl=>by
  induction l with
  | nil=>rfl
  | cons a l ih=>rw[Kt,Hr,ih]; rfl
 have hr:=(h.row.stored i (F6 F5 z)).1;rw[He,hm,List.map_set,<-hm];exact hr
theorem acT {C:MC} {M:ML} {vv vn vi:F7} {Lv:List VV} {Ln:List NV} {s:MS} {W:FW} (h:MAt C M Fd vv vn vi Lv Ln s W) (i:Nat) (hi:i < Ln.length) (hp1:1<=C.ay) (hp4:C.ay<=4) :
  Calls FY 88 #[.pointer (some ⟨M.mb,0,none⟩),F6 F5 (i:Int)] W λe w'=>e = .returned (.tuple #[])/\∃ q,q.n=⟨3,0,0,[],[],oz C (iF C C.ay.toNat s).1⟩ /\
   MAt C M (λb=>Fd b\/(W.heap.size<=b/\b < w'.heap.size)) vv vn vi Lv (Ln.set i q) (pY C i s) w'/\Wrote (Mut M.mb M.db vv vn vi) W w':=by
 have HM:=Ac h;clear h;go_in
 go_upto_region 1 with(fail)
 obtain⟨W1,hW1,rx,hB1,hz1⟩:=aJ W 127 #[F6 F5 3,F6 F5 0,F6 F5 0,FQ none 0 0,FQ none 0 0,FQ none 0 0];rw[<-hW1];obtain⟨xb,hxb⟩:=FH W.heap.size;rw[<-hxb] at rx ⊢;have hxl:xb < W1.heap.size:=EN;have hx1:W.heap.size<=xb:=EN;have HW:=Ac (Iq hB1 (Mut M.mb M.db vv vn vi));have HM1:=Ac (HM.out.below hB1);clear hW1 hB1 hz1 hxb;go_wp2_with fail
 go_loopw [5] (λiv wr=>∃ (k:Nat) (u:F7),k<=C.ay.toNat/\iv = F6 F5 (k:Int)/\OwnSl rE wr W1.heap.size 3 (λ_=>True) u (iF C k s).1/\Row wr xb 127 [F6 F5 3,F6 F5 0,F6 F5 0,FQ none 0 0,FQ none 0 0,u]/\MAt C M Fd vv vn vi Lv Ln (iF C k s).2 wr/\Wrote (Mut M.mb M.db vv vn vi) W wr/\W1.heap.size<=wr.heap.size) (λiv _=>C.ay.toNat - (intOf iv).toNat)
 case atStart=>exact⟨0,_,EN,rfl,OwnSl.nil _ _ _ _ _,rx,HM1.out,HW.out,FV _⟩
 case round =>
  clear rx HM1 HW;obtain⟨k,u,hk,rfl,hown,rx,hm,hw,k6⟩:=hrel;have HO:=Ac hown;have HW:=Ac hw;have HM1:=Ac hm;have m7:=hm.box.cell (i:=7) rfl;clear hown hw hm;by_cases hkt:k < C.ay.toNat
  ·have t0:decide ((k:Int) < C.ay)=true:=Mc EN;have m0:=HM1.out.box.cell (i:=0) rfl;have x5:=rx.cell (i:=5) rfl;obtain⟨ps,hps⟩:=FH ((iF C k s).2);obtain⟨pl,hpl⟩:=FH ((iF C k s).1);have hpk:iF C (k+1) s=(pl ++ [(ps.draw C 7).1 - 3],(ps.draw C 7).2):=by rw[iF,hps,hpl]
   have HPK:=Ac hpk;have afi:pl.length=k:=by rw[hpl];exact qL C s k
   rw[<-hps] at HM1;rw[<-hpl] at HO;have hd:=jc C.L ps.at' (n:=7) aA;obtain⟨dv,hdv⟩:=FH ((ps.draw C 7).1);have HDV:=Ac hdv;have hdb:0<=dv/\dv < 7:=by rw[hdv];exact hd
   have hwd:IntKind.i64.wrap (dv - 3)=dv - 3:=GH _ EN;rw[<-hdv] at HPK;clear hpk hps hpl hd hdv;go_wp2_with fail
   clear m7;refine aW (λw'=>w'.cell? ⟨M.mb,0,none⟩=some (.pointer (some ⟨M.db,0,none⟩))/\w'.cell? ⟨xb,5,none⟩=some (u)) 10 2 ak rfl ak ?_;have hHeld:(λw':FW=>w'.cell? ⟨M.mb,0,none⟩=some (.pointer (some ⟨M.db,0,none⟩))/\w'.cell? ⟨xb,5,none⟩=some (u)) wr.drew:=⟨m0,x5⟩;refine zac ?_;intro hb;replace m0:=ah m0 hb;replace x5:=ah x5 hb;replace HM1:=Ac (HM1.out.below hb);replace HO:=Ac (HO.out.below hb);replace rx:=rx.below hb rx.lt;refine zbC ?_;clear HW k6 hb;intro HW k6;generalize wr.drew=wn at *;refine tkm [0,1,2,3,4,5] ?_;refine tk2 6 ak rfl λK hK=>?_
   go_simp;refine(agJ HM1.out 7 aA aA).mono ?_;rintro e wm ⟨rfl,hm2,hw2⟩;rw[<-HDV.out];have hdbx:M.db≠xb:=by have:=HM.out.dr.lt;omega
   replace m0:=aY m0 hw2 HM1.out.fK.2.2;replace x5:=aY x5 hw2 hdbx.symm;have HUB:=Ac HO.out.row.lt;have hdl:=HM.out.dr.lt;replace HO:=Ac (show OwnSl rE wm W1.heap.size 3 (λ_=>True) u pl from⟨(OwnSl.wrote (F:=λ_=>False) (K:=rE) ⟨HO.out.row,λ_ _=>trivial⟩ hw2 λb hb=>hb.elim (λh=>h.elim) λhb e=>by have:=(HUB.out b hb).1; omega).row,λ_ _=>trivial⟩);replace rx:=rx.wrote hw2 hdbx.symm;replace HW:=Ac (HW.out.step hw2 λi _ e=>.inr (.inl e));replace k6:=Gf k6 hw2.size;replace HM1:=Ac hm2;clear hw2 hm2 hHeld HUB;refine hK.out _ _ ⟨m0,x5⟩ (λhHeld=>?_);clear hK K;refine Zb ?_;refine tkm [7] ?_;refine tk2 8 ak rfl λK hK=>?_
   go_simp;refine hK.out _ _ ⟨dX m0 _,dX x5 _⟩ (λhHeld=>?_);clear hK K;refine Zb ?_;refine tk2 9 ak rfl λK hK=>?_
   refine nO (K:=rE) (F:=λ_=>True) (W:=wm) rfl _ _ 22 3 8 _ Ic JQ rfl aA rfl W1.heap.size k6 u pl rfl (dv - 3) _ rfl EN rfl HO.out trivial ?_;intro g' cap wq hown' hwq hat' hlt';have HUB:=Ac HO.out.row.lt;have hml:=HM.out.box.lt;have am1:=HM.out.dr.lt;have une:∀ b,b < W1.heap.size->u.ownBlock≠some b:=λb hb e=>by have:=(HUB.out b e).1;omega
   replace m0:=aY m0 hwq (une _ EN);replace x5:=aY x5 hwq (une _ hxl);replace rx:=rx.wrote hwq (une _ hxl);replace HM1:=Ac (HM1.out.on (hwq.same λb hb=>une b (by have:=HM.out.ain hb; omega)));replace HW:=Ac (HW.out.step hwq λi hi e=>absurd e (une i EN));replace k6:=Gf k6 hwq.size;clear HO;rw[afi] at hown';have HO:=Ac hown';clear hown' hwq hat' hlt' hHeld HUB une;refine hK.out _ _ ⟨m0,x5⟩ (λhHeld=>?_);refine zdM ?_;clear hK K hHeld;have ff:=rx.frozen 5;obtain⟨Wz,hWz⟩:=FH (wq.setCell ⟨xb,5,none⟩ (FQ (some ⟨g',0,none⟩) (k+1) cap));have rx2:Row Wz xb 127 [F6 F5 3,F6 F5 0,F6 F5 0,FQ none 0 0,FQ none 0 0,(FQ (some ⟨g',0,none⟩) (k+1) cap)]:=ste hWz rx;have hwz:Wrote (λb=>b=xb) wq Wz:=hWz▸Iu (K:=λb=>b=xb) (p:=⟨xb,5,none⟩) (H6 _ _) (.inl rfl) _;have HM2:=Ac (HM1.out.on (hwz.same λb hb=>by have:=HM.out.ain hb; omega));have HO2:=Ac (show OwnSl rE Wz W1.heap.size 3 (λ_=>True) (FQ (some ⟨g',0,none⟩) (k+1) cap) (pl ++ [dv - 3]) from⟨(OwnSl.wrote (F:=λ_=>False) (K:=rE) ⟨HO.out.row,λ_ _=>trivial⟩ hwz λb hb=>hb.elim (λh=>h.elim) λhb e=>by have:=(HO.out.row.lt b hb).1; omega).row,λ_ _=>trivial⟩);have HWZ:=Ac (HW.out.step hwz λi hi e=>by omega);have k7:W1.heap.size<=Wz.heap.size:=Gf k6 hwz.size;have HX:=Ac hWz;have RX:=Ac rx2;clear hWz rx2 rx hwz HM1 HO HW m0;go_wp2
   refine zaf ?_;go_wp2
   rw[<-HX.out];refine zaB ?_;go_wp2
   go_roundw
   case rel=>exact⟨k+1,_,EN,by go_num,by rw[HPK.out]; exact HO2.out,RX.out,by rw[HPK.out]; exact HM2.out,HWZ.out,k7⟩
   case measure=>simp[intOf]; omega
  ·have hke:C.ay.toNat=k:=EN;have t0:decide ((k:Int) < C.ay)=false:=L9 EN;have m5:=HM1.out.box.cell (i:=5) rfl;have hvn:∃ g cap,vn = FQ (some ⟨g,0,none⟩) Ln.length cap:=by
    rcases HM.out.Fg.at with⟨_,h⟩ | ⟨g,cap,h,_⟩
    ·rw[h] at hi;exact absurd hi aF
    ·exact⟨g,cap,h⟩
   obtain⟨gn,cn,rfl⟩:=hvn;have hpi:=acS C s k;obtain⟨ps,hps⟩:=FH ((iF C k s).2);obtain⟨pl,hpl⟩:=FH ((iF C k s).1);have afi:pl.length=k:=by rw[hpl];exact qL C s k
   rw[<-hpl] at HO hpi;rw[<-hps] at HM1;have HE:=Ac (show pY C i s = { ps with Fg:=ps.Fg.set i ⟨3,0,0,[],[],oz C pl⟩ }/\oz C (iF C C.ay.toNat s).1=oz C pl by rw[hpl,hps,<-hke]; exact⟨rfl,rfl⟩);clear hps hpl;have hu:∃ g cap,u = FQ (some ⟨g,0,none⟩) k cap:=by
    rcases HO.out.at with⟨_,h⟩ | ⟨g,cap,h,_⟩
    ·rw[h] at afi;simp at afi;omega
    ·exact⟨g,cap,by rw[<-afi]; exact h⟩
   obtain⟨gu,cu,rfl⟩:=hu;cases hz:C.zero with
   | false =>
    rw[hz] at m5;have hpy:oz C pl=pl:=L6 (by rw[hz]; simp);have m8:=HM1.out.box.cell (i:=8) rfl;refine zcb ?_;intro x0 x1 x2 x3 x4 x5;go_wp2_with fail
    refine ZB ?_;clear m8 x0 x1 x2 x3 x4 x5 HM1 HO rx HW k6;intro hHeld m8 x0 x1 x2 x3 x4 x5 HM1 HO rx HW k6;generalize wr.drew=wn at *;refine tkm [0,1,2,3,4,5,6] ?_;refine Zn ?_;clear hHeld;intro f0 f1 f2 f3 f4 f5 q0 y0 q1 y1 q2 y2 q3 y3 q4 y4 q5 y5 HMB hbm agM HM2;refine zbO ?_;intro W9 hW9 hm9 hw9;have hsz:W9.heap.size=wn.heap.size:=by rw[hW9];simp
    refine zcz ?_;intro H9 HM9 HW9;clear hW9 hm9 hw9 HM1 HM2;go_wp2
    refine zaf ?_;go_wp2
    rw[<-H9.out];unfold Bj;go_end0;exact zbi
   | true =>
    rw[hz] at m5;by_cases h2:C.ay=2
    ·have t2:(C.ay==2)=true:=by rw[h2];rfl
     obtain⟨p0,p1,rfl⟩:∃ a b,pl = [a,b]:=by
      match pl,afi with
      | [a,b],_=>exact⟨a,b,rfl⟩
      | [],h=>simp at h; omega
      | [_],h=>simp at h; omega
      | _ :: _ :: _ :: _,h=>simp at h; omega
     obtain rfl:k=2:=by simpa using afi.symm
     have hpy:oz C [p0,p1] = [p0,-p0]:=by rw[oz,L8 ⟨hz,h2⟩];rfl
     have hp0:=hpi p0 aF;have hwn:IntKind.i64.wrap (-p0) = -p0:=GH _ EN;have x5:=rx.cell (i:=5) rfl;have hc:=HO.out.at;obtain⟨c0,c1⟩:wr.cell? ⟨gu,0,none⟩=some (F6 F5 p0)/\wr.cell? ⟨gu,1,none⟩=some (F6 F5 p1):=by
      rcases hc with⟨h,_⟩ | ⟨g,cap,h,_,_,_,_,hx⟩
      ·simp at h
      ·simp only[Value.slice.injEq,Hu,Addr.mk.injEq,and_true,true_and] at h;obtain⟨rfl,_⟩:=h;exact⟨hx 0 p0 rfl 0 _ rfl,hx 1 p1 rfl 0 _ rfl⟩
     clear hc;go_wp2_with fail
     refine aW (λw'=>w'.cell? ⟨xb,5,none⟩=some (FQ (some ⟨gu,0,none⟩) 2 cu)/\w'.cell? ⟨gu,0,none⟩=some (F6 F5 p0)/\w'.cell? ⟨gu,1,none⟩=some (F6 F5 p1)) 7 2 ak rfl ak ?_;have hHeld:(λw':FW=>w'.cell? ⟨xb,5,none⟩=some (FQ (some ⟨gu,0,none⟩) 2 cu)/\w'.cell? ⟨gu,0,none⟩=some (F6 F5 p0)/\w'.cell? ⟨gu,1,none⟩=some (F6 F5 p1)) wr.drew:=⟨x5,c0,c1⟩;refine zac ?_;intro hb;replace x5:=ah x5 hb;replace c0:=ah c0 hb;replace c1:=ah c1 hb;replace HM1:=Ac (HM1.out.below hb);replace HO:=Ac (HO.out.below hb);replace rx:=rx.below hb rx.lt;refine zbC ?_;clear HW k6 hb;intro HW k6;generalize wr.drew=wn at *;refine tkm [0,1,2,3,4,5,6] ?_;refine Zx ?_;clear hHeld;have f1:=HO.out.fz 1;obtain⟨Wz,hWz⟩:=FH (wn.setCell ⟨gu,1,none⟩ (F6 F5 (-p0)));have hgu:=HO.out.row.lt gu rfl;have hml:=HM.out.box.lt;have am1:=HM.out.dr.lt;have hwz:Wrote (λb=>b=gu) wn Wz:=hWz▸Iu (K:=λb=>b=gu) (p:=⟨gu,1,none⟩) (H6 _ _) (.inl rfl) _;have HO2:=Ac (show OwnSl rE Wz W1.heap.size 3 (λ_=>True) (FQ (some ⟨gu,0,none⟩) 2 cu) [p0,-p0] from hWz▸OwnSl.setInt (L:=[p0,p1]) HO.out 1 (-p0));have HX:=Ac hWz;clear hWz;go_wp2
     refine zaf ?_;go_wp2
     rw[<-HX.out];have hxg:xb≠gu:=λe=>by have:=hgu.1;omega
     unfold Bj;refine ZR ?_;replace rx:=rx.wrote hwz hxg;replace HM1:=Ac (HM1.out.on (hwz.same λb hb e=>by have:=HM.out.ain hb; have:=hgu.1; omega));replace HW:=Ac (HW.out.step hwz λj hj e=>by have:=hgu.1; omega);replace k6:=Gf k6 hwz.size;clear HO x5 c0 c1 f1 hwz HX;have HO:=Ac HO2.out;clear HO2 hgu hml am1 hxg;have m8:=HM1.out.box.cell (i:=8) rfl;refine zcb ?_;intro x0 x1 x2 x3 x4 x5;go_wp2_with fail
     refine aW (λw'=>w'.cell? ⟨M.mb,8,none⟩=some (FQ (some ⟨gn,0,none⟩) Ln.length cn)/\w'.cell? ⟨xb,0,none⟩=some (F6 F5 3)/\w'.cell? ⟨xb,1,none⟩=some (F6 F5 0)/\w'.cell? ⟨xb,2,none⟩=some (F6 F5 0)/\w'.cell? ⟨xb,3,none⟩=some (FQ none 0 0)/\w'.cell? ⟨xb,4,none⟩=some (FQ none 0 0)/\w'.cell? ⟨xb,5,none⟩=some (FQ (some ⟨gu,0,none⟩) 2 cu)) 7 2 ak rfl ak ?_;have hHeld:(λw':FW=>w'.cell? ⟨M.mb,8,none⟩=some (FQ (some ⟨gn,0,none⟩) Ln.length cn)/\w'.cell? ⟨xb,0,none⟩=some (F6 F5 3)/\w'.cell? ⟨xb,1,none⟩=some (F6 F5 0)/\w'.cell? ⟨xb,2,none⟩=some (F6 F5 0)/\w'.cell? ⟨xb,3,none⟩=some (FQ none 0 0)/\w'.cell? ⟨xb,4,none⟩=some (FQ none 0 0)/\w'.cell? ⟨xb,5,none⟩=some (FQ (some ⟨gu,0,none⟩) 2 cu)) Wz.drew:=⟨m8,x0,x1,x2,x3,x4,x5⟩;refine Zv ?_;have hb:Below Wz.heap.size Wz Wz.drew:=aI (F9 _ Wz) 1;replace m8:=ah m8 hb;refine ZL ?_;clear x0 x1 x2;intro x0 x1 x2;replace x3:=ah x3 hb;replace x4:=ah x4 hb;replace x5:=ah x5 hb;replace HM1:=Ac (HM1.out.below hb);replace HO:=Ac (HO.out.below hb);replace rx:=rx.below hb rx.lt;refine zbC ?_;clear HW k6 hb;intro HW k6;generalize Wz.drew=wn at *;refine tkm [0,1,2,3,4,5,6] ?_;refine Zn ?_;clear hHeld;intro f0 f1 f2 f3 f4 f5 q0 y0 q1 y1 q2 y2 q3 y3 q4 y4 q5 y5 HMB hbm agM HM2;obtain⟨W9,hW9,hm9,hw9⟩:=HM2.out.setNode rfl hi ⟨⟨3,0,0,[],[],[p0,-p0]⟩,FQ none 0 0,FQ none 0 0,FQ (some ⟨gu,0,none⟩) 2 cu⟩ ⟨agM,agM,HO.out.ints λb hb=>.inr ⟨by have:=(HO.out.row.lt b hb).1; omega,(HO.out.row.lt b hb).2⟩⟩;have hsz:W9.heap.size=wn.heap.size:=by rw[hW9];simp
     refine zcz ?_;intro H9 HM9 HW9;clear hW9 hm9 hw9 HM1 HM2;go_wp2
     refine zaf ?_;go_wp2
     rw[<-H9.out];unfold Bj;go_end0;exact⟨rfl,⟨⟨3,0,0,[],[],[p0,-p0]⟩,FQ none 0 0,FQ none 0 0,FQ (some ⟨gu,0,none⟩) 2 cu⟩,by rw[HE.out.2,hpy],by rw[HE.out.1,hpy,hsz]; exact HM9.out,HW9.out⟩
    ·have t2:(C.ay==2)=false:=by simpa using h2
     have hpy:oz C pl=pl:=L6 (by simp[h2]);have m8:=HM1.out.box.cell (i:=8) rfl;refine zcb ?_;intro x0 x1 x2 x3 x4 x5;go_wp2_with fail
     refine ZB ?_;clear m8 x0 x1 x2 x3 x4 x5 HM1 HO rx HW k6;intro hHeld m8 x0 x1 x2 x3 x4 x5 HM1 HO rx HW k6;generalize wr.drew=wn at *;refine tkm [0,1,2,3,4,5,6] ?_;refine Zn ?_;clear hHeld;intro f0 f1 f2 f3 f4 f5 q0 y0 q1 y1 q2 y2 q3 y3 q4 y4 q5 y5 HMB hbm agM HM2;refine zbO ?_;intro W9 hW9 hm9 hw9;have hsz:W9.heap.size=wn.heap.size:=by rw[hW9];simp
     refine zcz ?_;intro H9 HM9 HW9;clear hW9 hm9 hw9 HM1 HM2;go_wp2
     refine zaf ?_;go_wp2
     rw[<-H9.out];unfold Bj;go_end0;exact zbi
theorem OwnSl.form {K:Knd α} {w:FW} {base:Nat} {v:F7} {L:List α} (h:OwnSl K w base et F v L):∃ A c,v = FQ A L.length c/\L.length<=c/\(0 < L.length->∃ g,A=some ⟨g,0,none⟩):=by
 rcases h.at with⟨rfl,rfl⟩ | ⟨g,cap,rfl,_,_,hc,_⟩
 ·exact YN
 ·exact⟨_,cap,rfl,hc,λ_=>⟨g,rfl⟩⟩
theorem air {s:MS} {I:List Inf} {x:Inf} (hp:¬ aC < 0) (hI:s.Fh=I ++ [x]) (hi:info=(I.length:Int)) (hno:s.Fg.any (kX info)=false):lQ info aC s = { s with Fh:=I,views:=s.views.dropLast }:=by
 have hn:¬ (aC < 0\/info≠(s.Fh.length:Int) - 1):=by
  rw[hI];simp;omega
 unfold lQ;rw[L6 hn,hno];subst hi;simp[hI]
theorem acU {s:MS} (h:s.Fg.any (kX info)=true):lQ info aC s=s:=by
 unfold lQ;rw[L8 h];split <;> rfl
theorem aok {f:Nd->Bool} {Ln:List NV} {N:List Nd} (hN:Ln.map NV.n=N) {q:NV} (hq:Ln[k]? = some q) (hf:f q.n=true):N.any f=true:=by
 rw[<-hN,List.any_eq_true];exact⟨q.n,List.mem_map.2 ⟨q,FT hq,rfl⟩,hf⟩
theorem agN {f:Nd->Bool} {Ln:List NV} {q:NV} (h:∀ j p,j < k->Ln[j]? = some p->f p.n=false) (hq:Ln[k]? = some q) (hf:f q.n=false):∀ j p,j < k+1->Ln[j]? = some p->f p.n=false:=λj p hj hp=>by
 by_cases e:j=k
 ·subst e; rw[hq] at hp; cases hp; exact hf
 ·exact h j p EN hp
theorem not_any {f:Nd->Bool} {Ln:List NV} {N:List Nd} (hN:Ln.map NV.n=N) (h:∀ j p,j < Ln.length->Ln[j]? = some p->f p.n=false):N.any f=false:=by
 rw[<-hN,Ja];intro n hn;obtain⟨q,hq,rfl⟩:=List.mem_map.1 hn;obtain⟨j,hj,e⟩:=List.mem_iff_getElem.1 hq;rw[h j q hj (by rw[<-e]; exact GX hj)];simp
theorem MAt.aoL {C:MC} {M:ML} {vv vn vi:F7} {Lv:List VV} {Ln:List NV} {s:MS} {W W':FW} (h:MAt C M Fd vv vn vi Lv Ln s W) {gi ci:Nat} {x:Inf} {I:List Inf} (hI:s.Fh=I ++ [x]) (hi:vi = FQ (some ⟨gi,0,none⟩) (I.length+1) ci) (hW:W'=W.setCell ⟨M.mb,9,none⟩ (FQ (some ⟨gi,0,none⟩) I.length ci)) :
  MAt C M Fd vv vn (FQ (some ⟨gi,0,none⟩) I.length ci) Lv Ln { s with Fh:=I } W'/\Wrote (λb=>b=M.mb) W W':=by
 subst hi;have hw:Wrote (λb=>b=M.mb) W (W.setCell ⟨M.mb,9,none⟩ (FQ (some ⟨gi,0,none⟩) I.length ci)):=Iu (K:=λb=>b=M.mb) (H6 _ _) (p:=⟨M.mb,9,none⟩) (.inl rfl) _;rw[hW];have gU:=h.Fh;rw[hI] at gU;refine⟨?_,hw⟩;exact {
  box:=h.box.set 9 _
  dr:=h.dr.wrote hw (λe=>h.fK.2.2 e.symm)
  list:=h.list.on (hw.same λb hb e=>by have:=h.abG hb; have:=h.fK.1; subst e; omega)
  lev:=h.lev.wrote hw λb hb=>hb.elim (λhb=>(h.fdn hb).1) λhb=>(h.lvn hb).1
  views:=h.views.wrote hw λb hb=>hb.elim (λhb=>(h.fdn hb).1) λhb=>(h.dQ b hb).1
  Fg:=h.Fg.wrote hw λb hb=>hb.elim (λhb=>(h.fdn hb).1) λhb=>(h.eX b hb).1
  Fh:=gU.short.wrote hw λb hb=>hb.elim (λhb=>(h.fdn hb).1) λhb=>(h.gK b hb).1
  qK:=h.qK
  rD:=h.rD
  out:=h.out
  foot:=λb hb=>⟨(h.foot b hb).1,by have:=(h.foot b hb).2.1; simp; omega,(h.foot b hb).2.2⟩
  fK:=h.fK
  kZ:=h.kZ
  dQ:=h.dQ
  eX:=h.eX
  gK:=h.gK
  draws:=h.draws
 }
theorem MAt.aoM {C:MC} {M:ML} {vv vn vi:F7} {Lv:List VV} {Ln:List NV} {s:MS} {W W':FW} (h:MAt C M Fd vv vn vi Lv Ln s W) {gv cv:Nat} {y:VV} {L':List VV} (hL:Lv=L' ++ [y]) (hv:vv = FQ (some ⟨gv,0,none⟩) (L'.length+1) cv) (hW:W'=W.setCell ⟨M.mb,2,none⟩ (FQ (some ⟨gv,0,none⟩) L'.length cv)) :
  MAt C M Fd (FQ (some ⟨gv,0,none⟩) L'.length cv) vn vi L' Ln { s with views:=s.views.dropLast } W'/\Wrote (λb=>b=M.mb) W W':=by
 subst hv hL;have hw:Wrote (λb=>b=M.mb) W (W.setCell ⟨M.mb,2,none⟩ (FQ (some ⟨gv,0,none⟩) L'.length cv)):=Iu (K:=λb=>b=M.mb) (H6 _ _) (p:=⟨M.mb,2,none⟩) (.inl rfl) _;rw[hW];refine⟨?_,hw⟩;exact {
  box:=h.box.set 2 _
  dr:=h.dr.wrote hw (λe=>h.fK.2.2 e.symm)
  list:=h.list.on (hw.same λb hb e=>by have:=h.abG hb; have:=h.fK.1; subst e; omega)
  lev:=h.lev.wrote hw λb hb=>hb.elim (λhb=>(h.fdn hb).1) λhb=>(h.lvn hb).1
  views:=h.views.short.wrote hw λb hb=>hb.elim (λhb=>(h.fdn hb).1) λhb=>(h.dQ b hb).1
  Fg:=h.Fg.wrote hw λb hb=>hb.elim (λhb=>(h.fdn hb).1) λhb=>(h.eX b hb).1
  Fh:=h.Fh.wrote hw λb hb=>hb.elim (λhb=>(h.fdn hb).1) λhb=>(h.gK b hb).1
  qK:=by
   have:=h.qK;rw[GL,Hr,Jp] at this;rw[<-this];simp
  rD:=h.rD
  out:=h.out
  foot:=λb hb=>⟨(h.foot b hb).1,by have:=(h.foot b hb).2.1; simp; omega,(h.foot b hb).2.2⟩
  fK:=h.fK
  kZ:=h.kZ
  dQ:=h.dQ
  eX:=h.eX
  gK:=h.gK
  draws:=h.draws
 }
def Less (C:MC) (M:ML) (Fd:FI) (vv vn vi:F7) (Ln:List NV) (s:MS) (W w':FW):Prop:=∃ vv' vi' Lv',vv'.ownBlock=vv.ownBlock/\vi'.ownBlock=vi.ownBlock/\MAt C M Fd vv' vn vi' Lv' Ln s w'/\Wrote (Mut M.mb M.db vv vn vi) W w'
theorem akw {C:MC} {M:ML} {vv vn vi:F7} {Lv:List VV} {Ln:List NV} {s:MS} {W:FW} (h:MAt C M Fd vv vn vi Lv Ln s W) (info aC:Int) (h0:0<=info) (hne:0 < Ln.length) (hvl:s.views.length=s.Fh.length) (hil:s.Fh.length<=1000000) (hnl:Ln.length<=1000000) :
  Calls FY 90 #[.pointer (some ⟨M.mb,0,none⟩),F6 F5 info,F6 F5 aC] W λe w'=>e = .returned (.tuple #[])/\Less C M Fd vv vn vi Ln (lQ info aC s) W w':=by
 have HM:=Ac h;clear h;obtain⟨Ai,ci,rfl,hci,hgi⟩:=HM.out.Fh.form;have m9:=HM.out.box.cell (i:=9) rfl;have hw1:IntKind.i64.wrap ((s.Fh.length:Int) - 1)=(s.Fh.length:Int) - 1:=GH _ EN;go_in
 by_cases hp:aC < 0
 ·have t1:decide (aC < 0)=true:=Mc hp;have e:lQ info aC s=s:=L8 (.inl hp);exact zbT
 have t1:decide (aC < 0)=false:=L9 hp;by_cases hn:info=(s.Fh.length:Int) - 1
 case neg =>
  have t2:(info != ((s.Fh.length:Int) - 1))=true:=by simpa using hn
  have e:lQ info aC s=s:=L8 (.inr hn);exact zbT
 have t2:(info != ((s.Fh.length:Int) - 1))=false:=by simpa using hn
 have hlv:Lv.length=s.Fh.length:=by rw[<-hvl,<-HM.out.qK,FX]
 obtain⟨I,x,hI⟩:∃ I x,s.Fh=I ++ [x]:=by
  rcases List.eq_nil_or_concat s.Fh with h | ⟨I,x,h⟩
  ·rw[h] at hn;simp at hn;omega
  ·exact⟨I,x,by simpa using h⟩
 obtain⟨L',y,hL⟩:∃ L' y,Lv=L' ++ [y]:=by
  rcases List.eq_nil_or_concat Lv with h | ⟨I,x,h⟩
  ·rw[h,hI] at hlv;simp at hlv
  ·exact⟨I,x,by simpa using h⟩
 have hIl:s.Fh.length=I.length+1:=by rw[hI];simp
 have hLl:Lv.length=L'.length+1:=by rw[hL];simp
 have hll:L'.length=I.length:=EN;obtain⟨gi,rfl⟩:=hgi EN;obtain⟨Av,cv,rfl,hcv,hgv⟩:=HM.out.views.form;obtain⟨gv,rfl⟩:=hgv EN;obtain⟨An,cn,rfl,hcn,hgn⟩:=HM.out.Fg.form;obtain⟨gn,rfl⟩:=hgn hne;have hin:info=(I.length:Int):=EN;have HD:=Ac (λhno=>air (s:=s) hp hI hin hno);have HDR:=Ac (HM.out.below (aI (F9 _ W) 1));have m8:=HM.out.box.cell (i:=8) rfl;have hx:=HM.out.Fg.at;obtain⟨hcell⟩:Nonempty (∀ k q,Ln[k]? = some q->W.cell? ⟨gn,k*6,none⟩=some (F6 F5 q.n.kind)/\W.cell? ⟨gn,k*6+2,none⟩=some (F6 F5 q.n.info)):=by
  rcases hx with⟨h,_⟩ | ⟨g,cap,h,_,_,_,_,hx⟩
  ·simp at h
  ·simp only[Value.slice.injEq,Hu,Addr.mk.injEq,and_true,true_and] at h;obtain⟨rfl,_⟩:=h;refine⟨λk q hk=>⟨?_,?_⟩⟩
   ·have:=hx k q hk 0 _ rfl;rw[Iz] at this;exact this
   ·have:=hx k q hk 2 _ rfl;rw[Iz] at this;exact this
 have HC:=Ac hcell;clear hcell hx;have HN:=Ac HM.out.rD;subst hin;rw[hIl] at m9 hci;rw[hLl] at hcv;clear t2 hw1 hn;have hwA:IntKind.i64.wrap ((I.length:Int)+1 - 1)=(I.length:Int):=by rw[LM];exact GH _ EN
 have hwB:IntKind.i64.wrap (I.length:Int)=(I.length:Int):=GH _ EN;have hwC:IntKind.i64.wrap ((L'.length:Int)+1 - 1)=(L'.length:Int):=by rw[LM];exact GH _ EN
 have hwD:IntKind.i64.wrap (L'.length:Int)=(L'.length:Int):=GH _ EN;have hcv2:L'.length<=cv:=EN;have akx:I.length<=ci:=EN;have HE:=Ac (show Lv.length=L'.length+1/\s.Fh.length=I.length+1 from⟨hLl,hIl⟩);clear hgi hgv hgn hlv hll hLl hIl;go_wp2
 go_loopw [6] (λiv wr=>∃ k:Nat,k<=Ln.length/\iv = F6 F5 (k:Int)/\wr=W/\Hid (∀ j q,j < k->Ln[j]? = some q->kX (I.length:Int) q.n=false)) (λiv _=>Ln.length - (intOf iv).toNat)
 case atStart=>exact⟨0,GR _,rfl,rfl,Ac λj q hj=>absurd hj (Nat.not_lt_zero _)⟩
 case round =>
  obtain⟨k,hk,rfl,rfl,hno⟩:=hrel;by_cases hkt:k < Ln.length
  ·have t0:decide ((k:Int) < (Ln.length:Int))=true:=Mc EN;obtain⟨q,hq⟩:=FC hkt;obtain⟨c0,c2⟩:=HC.out k q hq;obtain⟨kd,hkd⟩:=FH q.n.kind;obtain⟨kf,hkf⟩:=FH q.n.info;have HK:=Ac (show kX (I.length:Int) q.n=(decide (kd=2)&&decide (kf=(I.length:Int))) by rw[hkd,hkf]; rfl);have HQ:=Ac hq;rw[<-hkd] at c0;rw[<-hkf] at c2;clear hkd hkf hq;by_cases hk2:kd=2
   ·have t3:(kd==2)=true:=by simpa using hk2
    by_cases hk3:kf=(I.length:Int)
    ·have t4:(kf==(I.length:Int))=true:=by simpa using hk3
     have HU:=Ac (show kX (I.length:Int) q.n=true by rw[HK.out]; simp[hk2,hk3]);clear hk2 hk3;go_wp2_with fail
     refine bodyPost_ret (results_none rfl _ _ _) rfl ?_;exact⟨rfl,_,_,Lv,rfl,rfl,by rw[acU (aok HN.out HQ.out HU.out)]; exact HM.out,H6 _ _⟩
    ·have t4:(kf==(I.length:Int))=false:=by simpa using hk3
     have HU:=Ac (show kX (I.length:Int) q.n=false by rw[HK.out]; simp[hk3]);clear hk2 hk3;go_wp2_with fail
     go_roundw
     case rel=>exact⟨k+1,EN,by go_num,trivial,Ac (agN hno.out HQ.out HU.out)⟩
     case measure=>simp[intOf]; omega
   ·have t3:(kd==2)=false:=by simpa using hk2
    have HU:=Ac (show kX (I.length:Int) q.n=false by rw[HK.out]; simp[hk2]);clear hk2;go_wp2_with fail
    go_roundw
    case rel=>exact⟨k+1,EN,by go_num,trivial,Ac (agN hno.out HQ.out HU.out)⟩
    case measure=>simp[intOf]; omega
  ·have hke:Ln.length=k:=EN;have t0:decide ((k:Int) < (Ln.length:Int))=false:=L9 EN;have HZ:=Ac (HD.out (not_any HN.out (by rw[hke]; exact hno.out)));have m2:=HM.out.box.cell (i:=2) rfl;have f9:=HM.out.box.frozen 9;obtain⟨Wy,hWy⟩:=FH (wr.setCell ⟨M.mb,9,none⟩ (FQ (some ⟨gi,0,none⟩) I.length ci));have hvi:=HM.out.Fh.form;obtain⟨hm1,hw1⟩:=HM.out.aoL hI (by rw[HE.out.2]) hWy;have hm2:=hm1.box.cell (i:=2) rfl;rw[HE.out.1] at hm2;have HM1:=Ac hm1;have HW:=Ac hw1;have HY:=Ac hWy;clear hm1 hw1 hWy;go_wp2_with fail
   rw[<-HY.out];clear HY m2 f9;refine aW (λw'=>w'.cell? ⟨M.mb,2,none⟩=some (FQ (some ⟨gv,0,none⟩) (L'.length+1) cv)) 12 3 ak rfl ak ?_;have hHeld:(λw':FW=>w'.cell? ⟨M.mb,2,none⟩=some (FQ (some ⟨gv,0,none⟩) (L'.length+1) cv)) Wy.drew:=hm2;refine Zv ?_;have hb:Below Wy.heap.size Wy Wy.drew:=aI (F9 _ Wy) 1;replace hm2:=ah hm2 hb;replace HM1:=Ac (HM1.out.below hb);replace HW:=Ac (HW.out.trans (Iq hb _));clear hb;generalize Wy.drew=wn at *;refine tkm [0,1,2,3,4,5,6,7,8,9,10,11] ?_;refine Yf ?_;clear hHeld;have f2:=HM1.out.box.frozen 2;obtain⟨Wz,hWz⟩:=FH (wn.setCell ⟨M.mb,2,none⟩ (FQ (some ⟨gv,0,none⟩) L'.length cv));obtain⟨hm3,hw3⟩:=HM1.out.aoM hL (by rw[HE.out.1]) hWz;have HM3:=Ac hm3;have HW3:=Ac (HW.out.trans hw3);have HY:=Ac hWz;clear hm3 hw3 hWz;refine zaf ?_;go_wp2
   refine zaf ?_;go_wp2
   refine zaf ?_;go_wp2
   rw[<-HY.out];unfold Bj;go_end0;exact⟨rfl,FQ (some ⟨gv,0,none⟩) L'.length cv,FQ (some ⟨gi,0,none⟩) I.length ci,L',rfl,rfl,by rw[HZ.out]; exact HM3.out,(H6 _ _).step HW3.out λi _ e=>.inl e⟩
def DU (C:MC) (n:Nd):Prop:=n.kind=3/\n.aC=0/\n.info=0/\n.next = []/\n.weights = []/\(n.pay.length:Int)=C.ay/\(∀ x∈n.pay,-3<=x/\x<=3)/\(C.zero=true->C.ay=2->∃ x,n.pay = [x,-x])
def Dv (C:MC) (V:List View) (I:List Inf) (level:Nat) (seen:List (List Int)) (n:Nd):Prop :=
 level < C.levels.length/\1<=n.next.length/\n.next.length<=3/\n.pay = [] /\
  (((C.levels.getD level default).aC < 0/\n.kind=1/\n.aC=0/\n.info=0/\n.weights.length=n.next.length/\∀ x∈n.weights,1<=x/\x<=3) \/
  (0<=(C.levels.getD level default).aC/\n.kind=2/\n.aC=(C.levels.getD level default).aC/\n.weights = []/\∃ x:Nat,n.info=(x:Int)/\I[x]? = some ⟨n.aC,n.next.length⟩/\V[x]? = some ⟨n.aC,level,seen.getD n.aC.toNat [],x⟩))
inductive Bt (C:MC) (V:List View) (I:List Inf) (N:List Nd):Nat->List (List (List Int))->List Int->Nat->Nat->Prop
 | nil (level a:Nat):Bt C V I N level [] [] a a
 | fin {level a b:Nat} {n:Nd} {seen:List (List Int)} {ss:List (List (List Int))} {cs:List Int}:N[a]? = some n->DU C n->Bt C V I N level ss cs (a+1) b->Bt C V I N level (seen :: ss) ((a:Int) :: cs) a b
 | mid {level a m b:Nat} {n:Nd} {seen:List (List Int)} {ss:List (List (List Int))} {cs:List Int}:N[a]? = some n->Dv C V I level seen n ->
   Bt C V I N (level+1) ((Ir n.next.length).map λk=>iK (C.levels.getD level default) k seen) n.next (a+1) m->Bt C V I N level ss cs m b->Bt C V I N level (seen :: ss) ((a:Int) :: cs) a b
section
variable {C:MC} {V V':List View} {I I':List Inf} {N N':List Nd}
theorem agO {dep deep:Int} {n:Nd} (hn:N[a]? = some n):bP N (f+1) a dep deep=bK (λa d=>bP N f a (dep+1) d) n.next ((a:Int)+1) (max deep dep):=by
 rw[bP];simp only[hn]
theorem Bt.le (h:Bt C V I N level ss cs a b):a<=b:=by
 induction h with
 | nil=>exact FV _
 | fin _ _ _ ih=>omega
 | mid _ _ _ _ ih1 ih2=>omega
theorem Bt.grow (h:Bt C V I N level ss cs a b):(∀ i,a<=i->i < b->N'[i]? = N[i]?) ->
  (∀ (i:Nat) (n:Nd) (x:Nat) (p:Inf) (q:View),a<=i->i < b->N[i]? = some n->n.kind=2->n.info=x->I[x]? = some p->V[x]? = some q->I'[x]? = some p/\V'[x]? = some q)->Bt C V' I' N' level ss cs a b:=by
 induction h with
 | nil level a=>intro _ _; exact .nil _ _
 | @fin level a b n seen ss cs hn he hr ih =>
  intro hN hI;have l:=hr.le;exact .fin ((hN a (FV _) EN).trans hn) he (ih (λi h1 h2=>hN i EN h2) λi n x p q h1 h2=>hI i n x p q EN h2)
 | @mid level a m b n seen ss cs hn hm hk hr ih1 ih2 =>
  intro hN hI;have l1:=hk.le;have l2:=hr.le;refine .mid ((hN a (FV _) EN).trans hn) ?_ (ih1 (λi h1 h2=>hN i EN EN) λi n x p q h1 h2=>hI i n x p q EN EN) (ih2 (λi h1 h2=>hN i EN h2) λi n x p q h1 h2=>hI i n x p q EN h2);obtain⟨h1,h2,h3,h4,h5⟩:=hm;refine⟨h1,h2,h3,h4,h5.imp id ?_⟩;rintro⟨k0,k1,k2,k3,x,k4,k5,k6⟩;obtain⟨e1,e2⟩:=hI a n x _ _ (FV _) EN hn k1 k4 k5 k6;exact⟨k0,k1,k2,k3,x,k4,e1,e2⟩
theorem Bt.snoc {m:Nat} (h:Bt C V I N level ss cs a m) {c:Int}:Bt C V I N level [seen] [c] m b->Bt C V I N level (ss ++ [seen]) (cs ++ [c]) a b:=by
 induction h with
 | nil level a=>intro k; exact k
 | fin hn he _ ih=>intro k; exact .fin hn he (ih k)
 | mid hn hm hk _ _ ih=>intro k; exact .mid hn hm hk (ih k)
theorem Bt.span (h:Bt C V I N level ss cs a b):Span N cs a b:=by
 induction h with
 | nil level a=>exact .nil a
 | @fin level a b n seen ss cs hn he _ ih=>exact .cons hn (by rw[he.2.2.2.1]; exact .nil _) ih
 | mid hn _ _ _ ih1 ih2=>exact .cons hn ih1 ih2
theorem Bt.node (h:Bt C V I N level ss cs a b):∀ i n,a<=i->i < b->N[i]? = some n->DU C n\/∃ l seen,Dv C V I l seen n:=by
 induction h with
 | nil level a=>intro i n h1 h2; omega
 | @fin level a b n seen ss cs hn he _ ih =>
  intro i n' h1 h2 hi;by_cases e:i=a
  ·subst e;rw[hn] at hi;cases hi;exact .inl he
  ·exact ih i n' EN h2 hi
 | @mid level a m b n seen ss cs hn hm hk hr ih1 ih2 =>
  intro i n' h1 h2 hi;by_cases e:i=a
  ·subst e;rw[hn] at hi;cases hi;exact .inr ⟨_,_,hm⟩
  ·by_cases e2:i < m
   ·exact ih1 i n' EN e2 hi
   ·exact ih2 i n' EN h2 hi
theorem Bt.walk (h:Bt C V I N level ss cs a b):∀ (f:Nat) (dep deep:Int),b<=a+f->level<=C.levels.length→-1<=deep->deep<=dep+(C.levels.length - level:Nat) ->
  (bK (λa d=>bP N f a dep d) cs a deep).1=(b:Int)∧-1<=(bK (λa d=>bP N f a dep d) cs a deep).2/\(bK (λa d=>bP N f a dep d) cs a deep).2<=dep+(C.levels.length - level:Nat):=by
 induction h with
 | nil level a=>intro f dep deep _ _ h1 h2; exact⟨rfl,h1,h2⟩
 | @fin level a b n seen ss cs hn he hr ih =>
  intro f dep deep hf hl h1 h2;have hb1:=hr.le;obtain⟨f,rfl⟩:∃ f',f=f'+1:=⟨f - 1,EN⟩;have hw:bP N (f+1) a dep deep=((a:Int)+1,max deep dep):=by
   rw[agO hn,he.2.2.2.1];rfl
  unfold bK;rw[L6 aF,Gu];simp only[hw];rw[L6 EN];have:=ih (f+1) dep (max deep dep) EN hl EN EN;rw[Int.natCast_add] at this;exact this
 | @mid level a m b n seen ss cs hn hm hk hr ih1 ih2 =>
  intro f dep deep hf hl h1 h2;have hb1:=hr.le;have hb2:=hk.le;obtain⟨f,rfl⟩:∃ f',f=f'+1:=⟨f - 1,EN⟩;obtain⟨k1,k2,k3⟩:=ih1 f (dep+1) (max deep dep) EN (by have:=hm.1; omega) EN (by have:=hm.1; omega);rw[Int.natCast_add] at k1 k2 k3;have hw:=agO (f:=f) (dep:=dep) (deep:=deep) hn;unfold bK;rw[L6 aF,Gu];simp only[hw];rw[show((1:Nat):Int)=1 from rfl] at k1 k2 k3;rw[k1,L6 EN];exact ih2 (f+1) dep _ EN hl k2 (by have:=hm.1; omega)
end
structure KM (O:List (Nat×Nat)) (N:List Nd) (cr:List Nat):Prop where
 up:cr.Pairwise (· < ·)
 lt:∀ c∈cr,c < N.length
 by':∀ j n,N[j]? = some n->n.kind=2->∃ x c:Nat,n.info=(x:Int)/\cr[x]? = some c/\c<=j
 has:∀ x c:Nat,cr[x]? = some c->(∃ n,N[c]? = some n/\n.kind=2/\n.info=(x:Int))\/(c,x)∈O
theorem KM.nil:KM [] [] []:=⟨.nil,λ_ h=>(by cases h),λ_ _ h=>(by simp at h),λ_ _ h=>(by simp at h)⟩
section
variable {O:List (Nat×Nat)} {N:List Nd} {cr:List Nat}
theorem KM.push (h:KM O N cr):KM O (N ++ [kN]) cr where
 up:=h.up
 lt c hc:=by have:=h.lt c hc; simp; omega
 by' j n hj hk:=by
  by_cases hl:j < N.length
  ·rw[Hg hl] at hj;exact h.by' j n hj hk
  ·rw[Gx EN] at hj;have:n=kN:=by simpa using FT hj
   subst this;cases hk
 has x c hc:=by
  rcases h.has x c hc with⟨n,hn,hr⟩ | ho
  ·exact .inl ⟨n,by rw[Hg (FD hn)]; exact hn,hr⟩
  ·exact .inr ho
theorem KM.make (h:KM O N cr):KM ((N.length,cr.length) :: O) (N ++ [kN]) (cr ++ [N.length]) where
 up:=by
  rw[List.pairwise_append];exact⟨h.up,aF,λa ha b hb=>by rw[List.mem_singleton.1 hb]; exact h.lt a ha⟩
 lt c hc:=by
  rcases List.mem_append.1 hc with hc | hc
  ·have:=h.lt c hc;simp;omega
  ·rw[List.mem_singleton.1 hc];simp
 by' j n hj hk:=by
  obtain⟨x,c,h1,h2,h3⟩:=h.push.by' j n hj hk;exact⟨x,c,h1,by rw[Hg (FD h2)]; exact h2,h3⟩
 has x c hc:=by
  by_cases hl:x < cr.length
  ·rw[Hg hl] at hc;exact(h.push.has x c hc).imp id λh=>GI _ h
  ·rw[Gx EN] at hc;have e:x - cr.length < [N.length].length:=FD hc;have e2:x=cr.length:=by simp at e;omega
   subst e2;rw[Ih] at hc;simp at hc;subst hc;exact .inr aF
theorem KM.set (h:KM O N cr) {m n:Nd} (hm:N[i]? = some m) (hk:m.kind≠2) (hn:n.kind=2->∃ x c:Nat,n.info=(x:Int)/\cr[x]? = some c/\c<=i):KM O (N.set i n) cr where
 up:=h.up
 lt c hc:=by rw[He]; exact h.lt c hc
 by' j n' hj hk':=by
  by_cases e:i=j
  ·subst e;rw[Ib (FD hm)] at hj;cases hj;exact hn hk'
  ·rw[Ia e] at hj;exact h.by' j n' hj hk'
 has x c hc:=by
  rcases h.has x c hc with⟨n',hn',h1,h2⟩ | ho
  ·refine .inl ⟨n',?_,h1,h2⟩;rw[Ia (λe=>by subst e; rw[hm] at hn'; cases hn'; exact hk h1)];exact hn'
  ·exact .inr ho
theorem KM.close (h:KM ((i,x) :: O) N cr) {n:Nd} (hm:N[i]? = some n) (hk:n.kind=2) (hx:n.info=x):KM O N cr where
 up:=h.up
 lt:=h.lt
 by':=h.by'
 has y c hc:=by
  rcases h.has y c hc with h1 | h1
  ·exact .inl h1
  ·rcases List.mem_cons.1 h1 with h1 | h1
   ·cases h1;exact .inl ⟨n,hm,hk,hx⟩
   ·exact .inr h1
end
def VI (V:List View) (I:List Inf):Prop:=∀ (x:Nat) (v:View),V[x]? = some v->∃ f,I[x]? = some f/\f.aC=v.aC
def BI (O:List (Nat×Nat)) (V:List View) (level:Nat):Prop:=∀ c x:Nat,(c,x)∈O->∃ v,V[x]? = some v/\v.level < (level:Int)
structure Grown (O:List (Nat×Nat)) (cr:List Nat) (s r:MS):Prop where
 grow:∃ T Iv Vv cv,r.Fg=s.Fg++T/\r.Fh=s.Fh++Iv/\r.views=s.views++Vv/\KM O r.Fg (cr++cv)/\(cr++cv).length=r.Fh.length
 vi:VI r.views r.Fh
theorem BI.up {O:List (Nat×Nat)} {V W:List View} (h:BI O V level):BI O (V++W) (level+1):=λc x hc=>by
 obtain⟨v,hv,hl⟩:=h c x hc;exact⟨v,by rw[Hg (FD hv)]; exact hv,EN⟩
theorem uY {L M:List α} {x:α} (h:L[k]? = some x):(L++M)[k]? = some x:=by rw[Hg (FD h)]; exact h
theorem Bt.app {C:MC} {V W:List View} {I J:List Inf} {N T:List Nd} (h:Bt C V I N level ss cs a b) (hb:b<=N.length):Bt C (V++W) (I++J) (N++T) level ss cs a b :=
 h.grow (λi _ hi=>Hg EN) λi n x p q _ _ _ _ _ h1 h2=>⟨uY h1,uY h2⟩
theorem endOk (C:MC) (hp:0<=C.ay) (s:MS):DU C ⟨3,0,0,[],[],oz C (iF C C.ay.toNat s).1⟩:=by
 have hl:=qL C s C.ay.toNat;have hi:=acS C s C.ay.toNat;refine⟨rfl,rfl,rfl,rfl,rfl,?_,?_,?_⟩
 ·show((oz C (iF C C.ay.toNat s).1).length:Int)=C.ay;unfold oz;split <;> simp[hl] <;> omega
 ·intro x hx;have hx:x∈oz C (iF C C.ay.toNat s).1:=hx;unfold oz at hx;split at hx
  ·rcases List.mem_or_eq_of_mem_set hx with h | h
   ·exact hi x h
   ·have h0:(iF C C.ay.toNat s).1.getD 0 0∈(iF C C.ay.toNat s).1:=by
     rename_i h2
     have:0 < (iF C C.ay.toNat s).1.length:=by rw[hl,h2.2];decide
     rw[FU,GX this];exact List.getElem_mem this
    have:=hi _ h0;omega
  ·exact hi x hx
 ·intro hz h2;show ∃ x,oz C (iF C C.ay.toNat s).1 = [x,-x];rw[h2] at hl ⊢;unfold oz;rw[L8 ⟨hz,h2⟩];generalize (iF C (2:Int).toNat s).1=l at *;match l,hl with
  | [a,b],_=>exact⟨a,rfl⟩
theorem BI.app {O:List (Nat×Nat)} {V W:List View} (h:BI O V level):BI O (V++W) level:=λc x hc=>by
 obtain⟨v,hv,hl⟩:=h c x hc;exact⟨v,uY hv,hl⟩
theorem aaO {C:MC} (hp:0<=C.ay) {O:List (Nat×Nat)} {s t:MS} (h:KM O s.Fg cr) (hl:cr.length=s.Fh.length) (hv:VI s.views s.Fh) (hn:t.Fg=s.Fg ++ [kN]) (hi:t.Fh=s.Fh) (hw:t.views=s.views) :
  Grown O cr s (pY C s.Fg.length t)/\Bt C (pY C s.Fg.length t).views (pY C s.Fg.length t).Fh (pY C s.Fg.length t).Fg level [seen] [(s.Fg.length:Int)] s.Fg.length (pY C s.Fg.length t).Fg.length:=by
 have ho:=endOk C hp t;obtain⟨a,ha⟩:=yX C t C.ay.toNat;generalize hq:(⟨3,0,0,[],[],oz C (iF C C.ay.toNat t).1⟩:Nd)=q at ho;have e:pY C s.Fg.length t = { t with at':=a,Fg:=t.Fg.set s.Fg.length q }:=by unfold pY;simp only[ha,<-hq]
 rw[e];simp only[hn,hi,hw];have hset:(s.Fg ++ [kN]).set s.Fg.length q=s.Fg ++ [q]:=by rw[List.set_append_right _ _ (FV _),Ih];rfl
 have hget:(s.Fg ++ [kN])[s.Fg.length]? = some kN:=by rw[Gx (FV _),Ih];rfl
 refine⟨⟨⟨[q],[],[],[],hset,aF,aF,?_,by simpa using hl⟩,hv⟩,?_⟩
 ·rw[Hz];exact h.push.set hget aA λhk=>by have:=ho.1;omega
 ·rw[hset];have hg:(s.Fg ++ [q])[s.Fg.length]? = some q:=by rw[Gx (FV _),Ih];rfl
  have:=Bt.fin (C:=C) (V:=s.views) (I:=s.Fh) (N:=s.Fg ++ [q]) (level:=level) (seen:=seen) hg ho (.nil level _);rw[Gn];exact this
structure Opn (level:Nat) (p:Place) (seen:List (List Int)) (O:List (Nat×Nat)) (cr:List Nat) (s:MS) (o:Int×Int×MS):Prop where
 Fg:o.2.2.Fg=s.Fg ++ [kN]
 ex:∃ (P:List (Nat×Nat)) (Iv:List Inf) (Vv:List View) (cv:List Nat),o.2.2.Fh=s.Fh++Iv/\o.2.2.views=s.views++Vv/\KM P o.2.2.Fg (cr++cv)/\(cr++cv).length=o.2.2.Fh.length/\BI P o.2.2.views (level+1) /\
  (p.aC < 0->P=O)/\(¬ p.aC < 0->∃ x c:Nat,o.1=(x:Int)/\o.2.2.Fh[x]? = some ⟨p.aC,o.2.1⟩/\o.2.2.views[x]? = some ⟨p.aC,level,seen.getD p.aC.toNat [],x⟩/\(cr++cv)[x]? = some c/\c<=s.Fg.length/\(P=O\/P=(s.Fg.length,x) :: O))
 vi:VI o.2.2.views o.2.2.Fh
 drop:(lQ o.1 p.aC o.2.2).Fg=s.Fg ++ [kN]/\(lQ o.1 p.aC o.2.2).Fh=s.Fh/\(lQ o.1 p.aC o.2.2).views=s.views
theorem al9 {C:MC} {p:Place} {O:List (Nat×Nat)} {s t:MS} (hj:JM C 0 s) (h:KM O s.Fg cr) (hl:cr.length=s.Fh.length) (hv:VI s.views s.Fh) (ho:BI O s.views level) (hn:t.Fg=s.Fg ++ [kN]) (hi:t.Fh=s.Fh) (hw:t.views=s.views) :
  Opn level p seen O cr s (nN C p (level:Int) seen t):=by
 unfold nN;by_cases hp:p.aC < 0
 ·rw[L8 hp];have e:lQ 0 p.aC t=t:=by unfold lQ;rw[L8 (.inl hp)]
  refine⟨hn,⟨O,[],[],[],by simp[hi],by simp[hw],by rw[Hz,hn]; exact h.push,by simp[hi,hl],?_,λ_=>rfl,λh=>absurd hp h⟩,by simp only[hi,hw]; exact hv,by simp only[e]; exact⟨hn,hi,hw⟩⟩;have:=ho.up (W:=[]);rw[Hz] at this;simp only[hw];exact this
 ·rw[L6 hp];simp only;unfold kM;obtain⟨sl,hsl⟩:=FH (seen.getD p.aC.toNat []);rw[<-hsl];cases hf:t.views.find? (fD p.aC (level:Int) sl) with
  | some v =>
   simp only;have hm:=List.mem_of_find?_eq_some hf;have hs:=List.find?_some hf;rw[hw] at hm;obtain⟨x,hx⟩:=Gz hm;have hvi:=hj.vi x v hx;unfold fD at hs;simp only[GN,decide_eq_true_eq] at hs;obtain⟨⟨s1,s2⟩,s3⟩:=hs;obtain⟨v1,v2,v3,v4⟩:=v;simp only at s1 s2 s3 hvi;subst s1 s2 s3 hvi;obtain⟨f,hfx,hfp⟩:=hv x _ hx;obtain⟨f1,f2⟩:=f;simp only at hfp;subst hfp;have hxc:x < cr.length:=by rw[hl];exact FD hfx
   obtain⟨c,hc⟩:=FC hxc;have hst:∃ n,s.Fg[c]? = some n/\n.kind=2/\n.info=x:=by
    rcases h.has x c hc with h1 | h1
    ·exact h1
    ·obtain⟨v,hv1,hv2⟩:=ho c x h1;rw[hx] at hv1;cases hv1;simp only at hv2;omega
   have hcl:=h.lt c (FT hc);have e:lQ (x:Int) p.aC t=t:=by
    refine acU (List.any_eq_true.2 ?_);obtain⟨n,n1,n2,n3⟩:=hst;exact⟨n,by rw[hn]; exact List.mem_append_left _ (FT n1),by simp[kX,n2,n3]⟩
   have ea:(t.Fh.getD x default).actions=f2:=by rw[hi,FU,hfx];rfl
   refine⟨hn,⟨O,[],[],[],by simp[hi],by simp[hw],by rw[Hz,hn]; exact h.push,by simp[hi,hl],?_,λh=>absurd h hp,λ_=>?_⟩,by simp only[hi,hw]; exact hv,by simp only[e]; exact⟨hn,hi,hw⟩⟩
   ·have:=ho.up (W:=[]);rw[Hz] at this;simp only[hw];exact this
   ·refine⟨x,c,rfl,?_,by simp only[hw]; rw[<-hsl]; exact hx,by simpa using hc,EN,.inl rfl⟩;show t.Fh[x]? = some ⟨p.aC,(t.Fh.getD x default).actions⟩;rw[ea,hi];exact hfx
  | none =>
   simp only;have ea:((t.Fh ++ [(⟨p.aC,1+dY C.L t.at' 3⟩:Inf)]).getD t.Fh.length default).actions=1+dY C.L t.at' 3:=by rw[FU,Gx (FV _),Ih];rfl
   have hvl:=hj.vl;have hno:t.Fg.any (kX (t.Fh.length:Int))=false:=by
    rw[Ja];intro n hmem hu;rw[hn] at hmem;unfold kX at hu;simp only[GN,decide_eq_true_eq] at hu;rcases List.mem_append.1 hmem with hmem | hmem
    ·obtain⟨j,hj⟩:=Gz hmem;obtain⟨x,c,h1,h2,_⟩:=h.by' j n hj hu.1;have:=FD h2;rw[hi] at hu;omega
    ·rw[List.mem_singleton.1 hmem] at hu;exact absurd hu.1 aA
   refine⟨hn,⟨(s.Fg.length,cr.length) :: O,[⟨p.aC,1+dY C.L t.at' 3⟩],[⟨p.aC,level,sl,t.Fh.length⟩],[s.Fg.length],by show t.Fh ++ [(⟨p.aC,1+dY C.L t.at' 3⟩:Inf)]=s.Fh ++ [⟨p.aC,1+dY C.L t.at' 3⟩]; rw[hi],by show t.views ++ [(⟨p.aC,level,sl,t.Fh.length⟩:View)]=s.views ++ [⟨p.aC,level,sl,t.Fh.length⟩]; rw[hw],?_,by show _=(t.Fh ++ [(⟨p.aC,1+dY C.L t.at' 3⟩:Inf)]).length; simp[hi,hl],?_,λh=>absurd h hp,λ_=>⟨t.Fh.length,s.Fg.length,rfl,?_,?_,?_,FV _,.inr (by rw[hi,hl])⟩⟩,?_,?_⟩
   ·show KM _ t.Fg _;rw[hn];exact h.make
   ·show BI _ (t.views ++ [⟨p.aC,level,sl,t.Fh.length⟩]) (level+1);intro c x hc;rcases List.mem_cons.1 hc with hc | hc
    ·cases hc;refine⟨⟨p.aC,level,sl,t.Fh.length⟩,?_,by show(level:Int) < ((level+1:Nat):Int); omega⟩;rw[Gx (by rw[hw,hvl,hl]; exact FV _),hw,hvl,hl,Ih];rfl
    ·have:=(ho.up (W:=[⟨p.aC,level,sl,t.Fh.length⟩])) c x hc;rw[hw];exact this
   ·simp only[Gu,MS.draw,ea];rw[Gx (FV _),Ih];rfl
   ·show(t.views ++ [(⟨p.aC,level,sl,t.Fh.length⟩:View)])[t.Fh.length]? = _;rw[<-hsl,Gx (by rw[hw,hvl,hi]; exact FV _),hw,hvl,hi,Ih];rfl
   ·rw[Gx (by rw[hi,hl]; exact FV _),hi,hl,Ih];rfl
   ·show VI (t.views ++ [⟨p.aC,level,sl,t.Fh.length⟩]) (t.Fh ++ [⟨p.aC,1+dY C.L t.at' 3⟩]);intro x v hx;by_cases hxl:x < t.views.length
    ·rw[Hg hxl,hw] at hx;obtain⟨f,hf1,hf2⟩:=hv x v hx;exact⟨f,by rw[hi]; exact uY hf1,hf2⟩
    ·rw[Gx EN] at hx;have e1:x - t.views.length < 1:=FD hx;have e2:x=t.Fh.length:=by rw[hw] at e1 hxl;rw[hi];omega
     have e3:x - t.views.length=0:=EN;rw[e3] at hx;simp at hx;subst hx;exact⟨⟨p.aC,1+dY C.L t.at' 3⟩,by rw[e2,Gx (FV _),Ih]; rfl,rfl⟩
   ·unfold lQ;rw[L6 (by simp[MS.draw]; omega)];rw[L6 (by simp only[MS.draw]; rw[hno]; simp)];refine⟨hn,?_,?_⟩
    ·simp[MS.draw,hi]
    ·simp[MS.draw,hw]
theorem Grown.refl {O:List (Nat×Nat)} {s:MS} (h:KM O s.Fg cr) (hl:cr.length=s.Fh.length) (hv:VI s.views s.Fh):Grown O cr s s:=⟨⟨[],[],[],[],aF,aF,aF,by simpa using h,by simpa using hl⟩,hv⟩
structure Sub (C:MC) (O:List (Nat×Nat)) (cr:List Nat) (level:Nat) (ss:List (List (List Int))) (cs:List Int) (s r:MS):Prop where
 j:JM C 0 r
 grown:Grown O cr s r
 bt:Bt C r.views r.Fh r.Fg level ss cs s.Fg.length r.Fg.length
theorem agP {C:MC} {rec:List (List Int)->MS->Nat×MS} {p:Place} {seen:List (List Int)} {level n:Nat} {O:List (Nat×Nat)} (hs:∀ l∈seen,l.length=n)
  (hrec:∀ sn s cr,(∀ l∈sn,l.length=n+1)->JM C 0 s->1<=s.pending->KM O s.Fg cr->cr.length=s.Fh.length->VI s.views s.Fh->BI O s.views level ->
   (rec sn s).1=s.Fg.length/\(rec sn s).2.pending=s.pending - 1/\Sub C O cr level [sn] [(s.Fg.length:Int)] s (rec sn s).2) :
  ∀ (k:Nat) (s:MS) (cr:List Nat),JM C 0 s->(k:Int)<=s.pending->KM O s.Fg cr->cr.length=s.Fh.length->VI s.views s.Fh->BI O s.views level ->
   (dZ C rec p seen k s).s.pending=s.pending - k/\Sub C O cr level ((Ir k).map λi=>iK p i seen) (dZ C rec p seen k s).next s (dZ C rec p seen k s).s/\(dZ C rec p seen k s).next.length=k/\(p.aC < 0->(dZ C rec p seen k s).weights.length=k/\∀ x∈(dZ C rec p seen k s).weights,1<=x/\x<=3)/\(¬ p.aC < 0->(dZ C rec p seen k s).weights = [])
 | 0,s,cr,hj,hk,h,hl,hv,ho=>⟨by simp[dZ],⟨hj,Grown.refl h hl hv,.nil _ _⟩,rfl,λ_=>⟨rfl,λ_ h=>by cases h⟩,λ_=>rfl⟩
 | k+1,s,cr,hj,hk,h,hl,hv,ho=>by
  obtain⟨i1,⟨i2,i3,i4⟩,i5,i6,i7⟩:=agP hs hrec k s cr hj EN h hl hv ho;have e:dZ C rec p seen (k+1) s=(let r:=dZ C rec p seen k s
   let d:=if p.aC < 0 then (r.weights ++ [1+(r.s.draw C 3).1],(r.s.draw C 3).2) else (r.weights,r.s)
   let c:=rec (iK p k seen) d.2
   ⟨d.1,r.next ++ [(c.1:Int)],c.2⟩):=rfl
  rw[e];generalize dZ C rec p seen k s=r at *;obtain⟨ws,nx,q⟩:=r;simp only at i1 i2 i3 i4 i5 i6 i7 ⊢;obtain⟨w2,a,hd,hw1,hw2⟩:∃ w2 a,(if p.aC < 0 then (ws ++ [1+(q.draw C 3).1],(q.draw C 3).2) else (ws,q))=(w2,{ q with at':=a })/\(p.aC < 0->w2.length=k+1/\∀ x∈w2,1<=x/\x<=3)/\(¬ p.aC < 0->w2 = []):=by
   by_cases hp:p.aC < 0
   ·refine⟨_,dR C.L q.at',L8 hp,λ_=>⟨by simp[(i6 hp).1],λx hx=>?_⟩,λh=>absurd hp h⟩;rcases List.mem_append.1 hx with hx | hx
    ·exact(i6 hp).2 x hx
    ·rw[List.mem_singleton.1 hx];have:=jc C.L q.at' (n:=3) aA;have e3:(q.draw C 3).1=dY C.L q.at' 3:=rfl;omega
   ·exact⟨ws,q.at',L6 hp,λh=>absurd h hp,i7⟩
  rw[hd];simp only;obtain⟨T,Iv,Vv,cv,g1,g2,g3,g4,g5⟩:=i3.grow;obtain⟨j1,j2,j3⟩:=hrec (iK p k seen) { q with at':=a } (cr++cv) (xJ hs) (i2.at a) (by show 1<=q.pending; omega) g4 g5 i3.vi (by show BI O q.views level; rw[g3]; exact ho.app);obtain⟨k2,k3,k4⟩:=j3;have k2':=k3.grow;obtain⟨T',Iv',Vv',cv',n1,n2,n3,n4,n5⟩:=k2';refine⟨?_,⟨k2,⟨⟨T++T',Iv++Iv',Vv++Vv',cv++cv',?_,?_,?_,?_,?_⟩,k3.vi⟩,?_⟩,by simp[i5],hw1,hw2⟩
  ·rw[j2];show q.pending - 1=_;omega
  ·rw[n1];show q.Fg++T'=_;rw[g1,GY]
  ·rw[n2];show q.Fh++Iv'=_;rw[g2,GY]
  ·rw[n3];show q.views++Vv'=_;rw[g3,GY]
  ·rw[<-GY];exact n4
  ·rw[<-GY];exact n5
  ·rw[j1,List.range_succ,GL];refine Bt.snoc ?_ k4;rw[n1,n2,n3];exact i4.app (FV _)
theorem aaP {C:MC} (hC:BL C) (hpl:0<=C.ay):∀ (f level:Nat) (seen:List (List Int)) (s:MS) (O:List (Nat×Nat)) (cr:List Nat),level+f=C.levels.length+1->level<=C.levels.length->(∀ l∈seen,l.length=level)->JM C 0 s->1<=s.pending->KM O s.Fg cr->cr.length=s.Fh.length->VI s.views s.Fh->BI O s.views level ->
  (bW C f level seen s).1=s.Fg.length/\(bW C f level seen s).2.pending=s.pending - 1/\Sub C O cr level [seen] [(s.Fg.length:Int)] s (bW C f level seen s).2
 | 0,level,seen,s,O,cr,hf,hl,_,_,_,_,_,_,_=>by omega
 | f+1,level,seen,s,O,cr,hf,hl,hs,hj,hp,h,hcl,hv,ho=>by
  have hJ:=abR hC (f+1) level seen s hf hl hs hj hp;have h1:=hj.push hp;suffices hh:(bW C (f+1) level seen s).1=s.Fg.length/\Grown O cr s (bW C (f+1) level seen s).2/\Bt C (bW C (f+1) level seen s).2.views (bW C (f+1) level seen s).2.Fh (bW C (f+1) level seen s).2.Fg level [seen] [(s.Fg.length:Int)] s.Fg.length (bW C (f+1) level seen s).2.Fg.length from
   ⟨hh.1,hJ.2.1,hJ.1,hh.2.1,hh.2.2⟩
  clear hJ;unfold bW;simp only;split
  ·exact⟨rfl,aaO hpl h hcl hv rfl rfl rfl⟩
  rename_i hne
  have hlv:level < C.levels.length:=EN;split
  ·exact⟨rfl,aaO hpl h hcl hv rfl rfl rfl⟩
  have hpp:=hC.pl _ (getD_mem (L:=C.levels) (k:=level) EN);have h5:=hC.len;obtain⟨o1,o2,o3,o4,o5,o6⟩:=JM.open (h1.at (dR C.L s.at')) (C.levels.getD level default) EN (level:Int) seen (λl hl=>by rw[hs l hl]; omega);have hop:=al9 (C:=C) (p:=C.levels.getD level default) (level:=level) (seen:=seen) (t:={ s with at':=dR C.L s.at',pending:=s.pending - 1,Fg:=s.Fg ++ [kN] }) hj h hcl hv ho rfl rfl rfl;obtain⟨S,hS⟩:=FH (nN C (C.levels.getD level default) (level:Int) seen { s with at':=dR C.L s.at',pending:=s.pending - 1,Fg:=s.Fg ++ [kN] });have e:nN C (C.levels.getD level default) (level:Int) seen (MS.draw C { s with pending:=s.pending - 1,Fg:=s.Fg ++ [kN] } 8).2=S:=hS.symm;rw[e];rw[<-hS] at o1 o2 o3 o4 o5 o6 hop;clear hS e;split
  ·exact⟨rfl,aaO hpl h hcl hv hop.drop.1 hop.drop.2.1 hop.drop.2.2⟩
  rename_i hm
  obtain⟨P,Iv,Vv,cv,g1,g2,g3,g4,g5,g6,g7⟩:=hop.ex;have hn:=hop.Fg;have o2:S.2.2.pending=s.pending - 1:=o2;rw[o2] at hm;have j4:JM C 0 { S.2.2 with pending:=S.2.2.pending+S.2.1 }:=⟨o1.vl,o1.vi,o1.il,by
   show(S.2.2.Fg.length:Int)+(S.2.2.pending+S.2.1)<=C.most;rw[hn,o2]; simp; omega,by
   show 0<=S.2.2.pending+S.2.1;have:=o1.p0; omega,o1.vs,o1.ac⟩
  obtain⟨k1,⟨k2,k3,k4⟩,k5,k6,k7⟩:=agP (C:=C) (rec:=bW C f (level+1)) (p:=C.levels.getD level default) (level:=level+1) (O:=P) hs (λsn t cr' hsn ht hpt hk' hl' hv' ho' =>
   aaP hC hpl f (level+1) sn t P cr' EN EN hsn ht hpt hk' hl' hv' ho') S.2.1.toNat { S.2.2 with pending:=S.2.2.pending+S.2.1 } (cr++cv) j4 (by show(S.2.1.toNat:Int)<=S.2.2.pending+S.2.1; have:=o1.p0; omega) g3 g4 hop.vi g5
  refine⟨rfl,?_⟩;generalize dZ C (bW C f (level+1)) (C.levels.getD level default) seen S.2.1.toNat { S.2.2 with pending:=S.2.2.pending+S.2.1 } = r at *;obtain⟨ws,nx,q⟩:=r;simp only at k1 k2 k3 k4 k5 k6 k7 ⊢;obtain⟨T,Jv,Wv,dv,n1,n2,n3,n4,n5⟩:=k3.grow;have n1:q.Fg=s.Fg ++ [kN]++T:=by rw[n1]; show S.2.2.Fg++T=_; rw[hn]
  have n2:q.Fh=S.2.2.Fh++Jv:=n2;have n3:q.views=S.2.2.views++Wv:=n3;have k4:Bt C q.views q.Fh q.Fg (level+1) ((Ir S.2.1.toNat).map λi=>iK (C.levels.getD level default) i seen) nx S.2.2.Fg.length q.Fg.length:=k4;rw[hn,Gn] at k4;have hget:q.Fg[s.Fg.length]? = some kN:=by rw[n1,GY,Gx (FV _),Ih]; rfl
  obtain⟨H,hH⟩:=FH (jL (C.levels.getD level default) S.1 ws nx);rw[<-hH];have hHn:H.next=nx:=by rw[hH]; unfold jL; split <;> rfl
  have hHp:H.pay = []:=by rw[hH]; unfold jL; split <;> rfl
  have hset:q.Fg.set s.Fg.length H=s.Fg++(H :: T):=by
   rw[n1,GY,List.set_append_right _ _ (FV _),Ih];rfl
  have hkind:H.kind=2->∃ x c:Nat,H.info=x/\(cr++cv++dv)[x]? = some c/\c<=s.Fg.length:=λhk=>by
   by_cases hp0:(C.levels.getD level default).aC < 0
   ·rw[hH] at hk;unfold jL at hk;rw[L8 hp0] at hk;cases hk
   ·obtain⟨x,c,x1,_,_,x4,x5,_⟩:=g7 hp0;exact⟨x,c,by rw[hH]; unfold jL; rw[L6 hp0]; exact x1,uY x4,x5⟩
  have hK:=n4.set hget aA hkind;have hK2:KM O (q.Fg.set s.Fg.length H) (cr++cv++dv):=by
   by_cases hp0:(C.levels.getD level default).aC < 0
   ·rw[g6 hp0] at hK;exact hK
   ·obtain⟨x,c,x1,_,_,x4,x5,x6⟩:=g7 hp0;rcases x6 with x6 | x6
    ·rw[x6] at hK;exact hK
    ·rw[x6] at hK;exact hK.close (Ib (FD hget)) (by rw[hH]; unfold jL; rw[L6 hp0]) (by rw[hH]; unfold jL; rw[L6 hp0]; exact x1)
  have hmid:Dv C q.views q.Fh level seen H:=by
   have ho5:1<=S.2.1.toNat/\S.2.1.toNat<=3:=by clear hK hK2 hkind n4 k3 k4;omega
   refine⟨hlv,by rw[hHn,k5]; exact ho5.1,by rw[hHn,k5]; exact ho5.2,hHp,?_⟩;by_cases hp0:(C.levels.getD level default).aC < 0
   ·refine .inl ⟨hp0,?_⟩;rw[hHn,hH];unfold jL;rw[L8 hp0];exact⟨rfl,rfl,rfl,by rw[k5]; exact(k6 hp0).1,(k6 hp0).2⟩
   ·obtain⟨x,c,x1,x2,x3,_⟩:=g7 hp0;have hpl2:H.aC=(C.levels.getD level default).aC:=by rw[hH];unfold jL;rw[L6 hp0]
    refine .inr ⟨Int.not_lt.1 hp0,by rw[hH]; unfold jL; rw[L6 hp0],hpl2,by rw[hH]; unfold jL; rw[L6 hp0]; exact k7 hp0,x,by rw[hH]; unfold jL; rw[L6 hp0]; exact x1,?_,?_⟩
    ·have hS2:((S.2.1.toNat:Nat):Int)=S.2.1:=Int.toNat_of_nonneg (Int.le_trans aA o5);rw[hHn,k5,hpl2,n2,uY x2,hS2]
    ·rw[hpl2,n3];exact uY x3
  refine⟨⟨⟨H :: T,Iv++Jv,Vv++Wv,cv++dv,hset,by rw[n2,g1,GY],by rw[n3,g2,GY],by rw[<-GY]; exact hK2,by rw[<-GY]; exact n5⟩,k3.vi⟩,?_⟩;rw[He];refine Bt.mid (n:=H) (m:=q.Fg.length) (by exact Ib (FD hget)) hmid ?_ (.nil _ _);rw[hHn,k5];exact k4.grow (λi h1 _=>Ia (by simp at h1; omega)) λi n x p q _ _ _ _ _ h1 h2=>⟨h1,h2⟩
theorem qg (L:List Int) {ay:Int} (hp:0<=ay):∀ (k a:Nat),(fU L ay k a).1.length=k/\∀ p∈(fU L ay k a).1,p.aC < ay∧-1<=p.aC/\2<=p.many/\p.many<=3/\0<=p.seen/\p.seen<=15
 | 0,a=>⟨rfl,λ_ h=>by cases h⟩
 | k+1,a=>by
  obtain⟨h1,h2⟩:=qg L hp k a;unfold fU;simp only;refine⟨by simp[h1],λp hpm=>?_⟩;rcases List.mem_append.1 hpm with h | h
  ·exact h2 p h
  ·rw[List.mem_singleton.1 h];have d1:=jc L (fU L ay k a).2 (n:=ay+1) EN;have d2:=jc L (dR L (fU L ay k a).2) (n:=2) aA;have d3:=jc L (dR L (dR L (fU L ay k a).2)) (n:=16) aA;simp only;omega
structure BJ (C:MC) (V:List View) (cr:List Nat) (g:Gm):Prop where
 places:BL C
 ay:C.ay=g.ay
 bt:Bt C V g.Fh g.Fg 0 [F8 g.ay.toNat []] [(0:Int)] 0 g.Fg.length
 km:KM [] g.Fg cr
 len:cr.length=g.Fh.length
 vi:VI V g.Fh
 most:(g.Fg.length:Int)<=C.most
 many:g.Fh.length<=g.Fg.length
theorem acV (L:List Int) {ay most:Int} (zero:Bool) (hp:1<=ay) (hm:1<=most):∃ C V cr,BJ C V cr (qc L ay most zero)/\C.zero=zero/\C.most=most:=by
 refine Z4 ?_;intro hl hpl hd hC hJ h1 h2 h3;obtain⟨T,Iv,Vv,cv,g1,g2,g3,g4,g5⟩:=h3.grown.grow;refine⟨_,_,cv,⟨hC,rfl,h3.bt,?_,?_,h3.grown.vi,?_,?_⟩,rfl,rfl⟩
 ·exact g4
 ·exact g5
 ·have:=h3.j.np;have:=h3.j.p0;show((bW _ _ _ _ _).2.Fg.length:Int)<=_;omega
 ·exact h3.j.il
theorem abo {ay:Int} {ni:Nat}:∀ {l:List Nd},(∀ x∈l,aQ ay ni x=0)->dA ay ni l=0
 | [],_=>rfl
 | y :: l,h=>by
  unfold dA;rw[L6 (by simpa using h y aF)];exact abo λx hx=>h x (GI _ hx)
theorem afj {Fg:List Nd} {s:Nat} (hc:c < k) (hm:mv Fg s c=true) (hn:∀ i,i < c->mv Fg s i=false):∃ l,bU Fg s k=(c:Int) :: l:=by
 unfold bU;have e:Ir k=Ir c++(c :: List.range' (c+1) (k - c - 1)):=by
  rw[List.range_eq_range',List.range_eq_range',<-List.range'_succ,show k - c - 1+1=k - c by omega];have:=List.range'_append_1 (s:=0) (m:=c) (n:=k - c);rw[Iz,show c+(k - c)=k by omega] at this;exact this.symm
 have e2:(Ir c).filter (mv Fg s) = []:=by
  rw[List.filter_eq_nil_iff];intro i hi;rw[hn i (List.mem_range.1 hi)];simp
 rw[e,List.filter_append,e2,List.nil_append,List.filter_cons_of_pos hm];exact⟨_,rfl⟩
section
variable {C:MC} {V:List View} {cr:List Nat} {g:Gm}
theorem BJ.node (h:BJ C V cr g) {n:Nd} (hn:n∈g.Fg):DU C n\/∃ l seen,Dv C V g.Fh l seen n:=by
 obtain⟨i,hi⟩:=Gz hn;exact h.bt.node i n (GR _) (FD hi) hi
theorem BJ.pos (h:BJ C V cr g):0 < g.Fg.length:=by
 have:=h.bt.span;cases this with
 | cons hn _ _=>exact FD hn
theorem ajn {lo hi:Int} (h:∀ x∈l,lo<=x/\x<=hi):outside lo hi l=false:=by
 unfold outside;rw[Ja];intro x hx;have:=h x hx;simp;omega
theorem BJ.first (h:BJ C V cr g) (hc:cr[x]? = some c):∃ l,bU g.Fg x g.Fg.length=(c:Int) :: l:=by
 obtain⟨n,n1,n2,n3⟩:=(h.km.has x c hc).resolve_right aF;refine afj (FD n1) (by unfold mv; rw[n1]; simp[n2,n3]) λi hi=>?_
 cases hm:mv g.Fg x i with
 | false=>rfl
 | true =>
  unfold mv at hm;cases hg:g.Fg[i]? with
  | none=>rw[hg] at hm; cases hm
  | some n' =>
   rw[hg] at hm;simp only[GN,decide_eq_true_eq] at hm;obtain⟨y,d,y1,y2,y3⟩:=h.km.by' i n' hg hm.1;have:y=x:=EN;subst this;rw[hc] at y2;cases y2;omega
theorem BJ.form (h:BJ C V cr g) (hp1:1<=g.ay) (hp4:g.ay<=4) (hm:C.most<=200):bF g=0:=by
 have hpos:=h.pos;have hmo:=h.most;have hma:=h.many;have hne:dA g.ay g.Fh.length g.Fg=0:=by
  refine abo λn hn=>?_
  rcases h.node hn with he | ⟨l,seen,hmid⟩
  ·obtain⟨e1,e2,e3,e4,e5,e6,e7,_⟩:=he;unfold aQ iV;rw[L6 EN,L6 EN,L8 e1,e4,e5,L6 (by rw[<-h.ay]; simp[e2,e3,e6]),ajn λx hx=>by have:=e7 x hx; omega];rfl
  ·obtain⟨m1,m2,m3,m4,m5⟩:=hmid;have hpp:=h.places.pl _ (getD_mem (L:=C.levels) (k:=l) m1);rcases m5 with⟨a0,a1,a2,a3,a4,a5⟩ | ⟨a0,a1,a2,a3,x,a4,a5,a6⟩
   ·unfold aQ dw;rw[L8 a1,m4,L6 (by rintro(h | h | h | h | h | h) <;> first | omega | exact h a2 | exact h a3 | exact h a4 | (simp at h)),ajn λx hx=>by have:=a5 x hx; omega];rfl
   ·have:=FD a5;unfold aQ fA;rw[L6 EN,L8 a1,m4,a3,L6 (by rintro(h | h | h | h) <;> first | omega | (simp at h)),L6 (by have:=h.ay; omega)]
 have hw:=h.bt.walk (g.Fg.length+1) 0 0 EN (GR _) EN EN;have hw2:(bP g.Fg (g.Fg.length+1) 0 0 0).1=g.Fg.length/\(bP g.Fg (g.Fg.length+1) 0 0 0).2<=40:=by
  have h5:=h.places.len;unfold bK at hw;rw[L6 aF] at hw;have e0:((0:Nat):Int).toNat=0:=rfl;rw[e0] at hw;split at hw
  ·omega
  ·unfold bK at hw;exact⟨hw.1,by have:=hw.2.2; omega⟩
 have hin:BN g:=oJ hne;have ht:qH g=false:=by
  unfold qH;rw[Ja];intro n hn hb;unfold eH at hb;rcases h.node hn with he | ⟨l,seen,m1,m2,m3,m4,m5⟩
  ·have:=he.1;simp[this] at hb
  ·rcases m5 with⟨a0,a1,_⟩ | ⟨a0,a1,a2,a3,x,a4,a5,a6⟩
   ·simp[a1] at hb
   ·rw[a4,Gu,FU,a5] at hb;simp at hb
 have hset:∀ x,x < g.Fh.length->∃ c l,cr[x]? = some c/\(dK g)[x]? = some ((c:Int) :: l):=λx hx=>by
  obtain⟨c,hc⟩:=FC (l:=cr) (k:=x) (by rw[h.len]; exact hx);obtain⟨l,hl⟩:=h.first hc;exact⟨c,l,hc,by rw[ji hin hx,hl]⟩
 have hno:lG (dK g)=false:=by
  unfold lG;rw[Ja];intro l hl hb;obtain⟨x,hx⟩:=Gz hl;have hlen:(dK g).length=g.Fh.length:=fE _ _ _;obtain⟨c,l',_,h2⟩:=hset x (by rw[<-hlen]; exact FD hx);rw[hx] at h2;cases h2;simp at hb
 have hfi:fB (dK g) g.Fh.length=false:=by
  unfold fB;rw[Ja];intro i hi hb;rw[List.mem_range'_1] at hi;obtain⟨c,l,c1,c2⟩:=hset i EN;obtain⟨d,l',d1,d2⟩:=hset (i - 1) EN;unfold jS at hb;rw[FU (l:=dK g),c2,FU (l:=dK g),d2] at hb;simp at hb;have hpw:=h.km.up;rw[List.pairwise_iff_getElem] at hpw;have:=hpw (i - 1) i (FD d1) (FD c1) EN;rw[GX (FD c1)] at c1;rw[GX (FD d1)] at d1;injection c1 with c1;injection d1 with d1
  omega
 unfold bF;rw[L6 (by unfold jH; omega),L6 (by simpa using hne),L6 (by simpa using hw2.1),L6 EN];unfold kL;rw[L6 (by simp[ht]),L6 (by simp[hno]),L6 (by simp[hfi])]
end
def Fj (w:FW) (_:FI) (b o:Nat) (x:Int×Int):Prop:=w.cell? ⟨b,o,none⟩=some (F6 F5 x.1)/\w.cell? ⟨b,o+1,none⟩=some (F6 F5 x.2)
def AL (w:FW) (F:FI) (v:F7) (l:List (Int×Int)):Prop:=BQ 2 Fj w F v l
theorem AL.keep {w w':FW} {v:F7} {l:List (Int×Int)} (h:AL w F v l) (hFG:∀ b,F b->b < w.heap.size->G b) (hs:Same F w w'):AL w' G v l :=
 BQ.keep h hFG hs.size λ_ _ _ _ hb hl hx=>⟨by rw[hs.cell hb hl]; exact hx.1,by rw[hs.cell hb hl]; exact hx.2⟩
theorem AL.on {w w':FW} {v:F7} {l:List (Int×Int)} (h:AL w F v l) (hs:Same F w w'):AL w' F v l:=h.keep (λ_ h _=>h) hs
theorem AL.nil (w:FW) (F:FI):AL w F (FQ none 0 0) []:=⟨none,0,rfl,FV _,λh=>absurd h aF⟩
def aag:Knd (Int×Int) where
 n:=2
 cells q:=[F6 F5 q.1,F6 F5 q.2]
 fine _ _ _:=True
 len _:=rfl
 pos:=aA
 one _ u hu:=by
  simp only[List.mem_cons,List.not_mem_nil,or_false] at hu;rcases hu with rfl | rfl <;> rfl
 keep _ _ _:=trivial
theorem OwnSl.pairs {w:FW} {base:Nat} {v:F7} {L:List (Int×Int)} (h:OwnSl aag w base et F v L) (hG:∀ b,base<=b->G b):AL w G v L:=by
 rcases h.at with⟨rfl,rfl⟩ | ⟨g,cap,rfl,hb,hg,hcap,hf,hx⟩
 ·exact AL.nil _ _
 ·exact⟨_,cap,rfl,hcap,λ_=>⟨g,0,rfl,hG g hb,hg,λk q hq=>⟨hx k q hq 0 _ rfl,hx k q hq 1 _ rfl⟩⟩⟩
theorem OwnSl.apart {K:Knd α} {w:FW} {base nb:Nat} {v:F7} {L:List α} {vs:List F7} (h:OwnSl K w base et F v L) (hr:Row w nb t vs) (hne:et≠t):v.ownBlock≠some nb:=by
 rcases h.row.2 with⟨rfl,_⟩ | ⟨g,cap,cur,rfl,_,hg,_⟩
 ·intro e;cases e
 ·intro e;have e:some g=some nb:=e;cases e;unfold Row at hr;rw[hr] at hg;cases hg;exact hne rfl
theorem AL.open {w:FW} {v:F7} {l:List (Int×Int)} (h:AL w F v l):∃ A c,v = FQ A l.length c:=by
 obtain⟨A,c,h,_⟩:=h;exact⟨A,c,h⟩
theorem Tryz.infoPair:(Tryz.prog.info? 141).map (λi=>(i.zero,i.size,i.bytes))=some (some (.agg #[F6 F5 0,F6 F5 0]),2,16):=ak
theorem afk (w:FW) (F:FI) (v:F7) (g:Gm) (node:Nat) (pl:Int) (hg:AA w F v g) (hsm:Small g) (hgd:Good g) (hno:node < g.Fg.length) :
  Calls FY 99 #[v,F6 F5 (node:Int),F6 F5 pl] w (Ret w λu w'=>AL w' (λb=>w.heap.size<=b) u (gG g pl node)):=by
 have HG:=Ac hg;have HS:=Ac hsm;have HGD:=Ac hgd;have hn100:=hsm.Fg;obtain⟨vn,vi,rfl,⟨A,c,rfl,hc,hN⟩,⟨Ai,ci,rfl,hci,_⟩⟩:=hg;obtain⟨b,q,rfl,hFb,hbl,hcell⟩:=hN hgd.pos;have HC:=Ac hcell;clear hN hcell hsm hgd;go_in;go_wp2_with fail
 refine zb8 ?_;intro W hW rx hB hz;clear hW;have hz2:=hB.size;replace HG:=Ac (HG.out.on (FZ hB F));refine Zd ?_;intro x0 x1 x2;clear rx hz;go_wp2_with fail
 refine(xU W F _ g HG.out HS.out HGD.out.pos HGD.out.ahq).mono ?_;rintro e w1 ⟨u,rfl,hb1,hu⟩;have hB1:=hB.trans (hb1.mono hB.size);have y1:=ah x1 hb1;have hz3:=hb1.size;have HPL:=Ac (qw g.Fg);obtain⟨aky,wQ⟩:=FH (iI g.Fg);have HPE:=Ac wQ;rw[<-wQ] at hu;obtain⟨Ap,cp,rfl,hcp,hx⟩:=hu;obtain⟨bp,op,rfl,hbp,hbpl,hpc⟩:=hx (by rw[wQ,HPL.out]; exact HGD.out.pos);have hpl:aky.length=g.Fg.length:=by rw[wQ,HPL.out]
 rw[hpl];have HPC:=Ac hpc;clear hb1 hB hx hpc wQ hcp x0 x1 x2 hpl;dsimp only;go_wp2_with fail
 go_loopw [8,9] (λbv av wr=>∃ (c f:Nat) (L:List (Int×Int)),c < g.Fg.length/\c<=f/\av = F6 F5 (c:Int)/\L++lH g pl f c=lH g pl g.Fg.length node/\L.length+100*c<=100*node/\OwnSl aag wr w1.heap.size 141 (λ_=>True) bv L/\Below w1.heap.size w1 wr) (λ_ av _=>(intOf av).toNat)
 case atStart=>exact⟨node,g.Fg.length,[],hno,EN,rfl,rfl,aF,OwnSl.nil _ _ _ _ _,F9 _ _⟩
 case round =>
  obtain⟨ch,f,L,hch,hcf,rfl,hw,hLl,hown,hbel⟩:=hrel;have HW:=Ac hw;have HO:=Ac hown;clear hw hown;obtain⟨p,hp,hcase⟩:=HGD.out.par hch;rw[<-HPE.out] at hp;have ep:=HPC.out ch p hp;unfold jP at ep;rw[Gp] at ep;replace ep:=ah ep hbel;have HPP:=Ac hp;clear hp;rcases hcase with⟨h0,rfl⟩ | ⟨pq,n,rfl,hpq,hni,_⟩
  ·subst h0;rw[Nat.add_zero] at ep;have hend:L=lH g pl g.Fg.length node:=by rw[<-HW.out,jT HGD.out,Hz]
   have HE:=Ac hend;have hLl2:L.length<=10000:=EN;obtain⟨Al,cl,rfl,hcl,hxl⟩:=HO.out.pairs (G:=λ_=>True) (λ_ _=>trivial);have HXL:=Ac hxl;obtain⟨wp,rfl⟩:∃ wp:FW,wp=wr:=⟨_,rfl⟩;have hw0:IntKind.i64.wrap ((L.length:Int) - 1)=(L.length:Int) - 1:=GH _ EN;have hBp:=hB1.trans (hbel.mono hB1.size);clear hend HO hxl HW hLl hcl;go_wp2_with fail
   go_loopw [12,13] (λov zv wr=>∃ (i:Nat) (z:Int),i<=L.length/\zv = F6 F5 z/\z=(i:Int) - 1/\OwnSl aag wr wp.heap.size 141 (λ_=>True) ov (L.reverse.take (L.length - i))/\Below wp.heap.size wp wr) (λ_ zv _=>(intOf zv+1).toNat)
   case atStart=>exact⟨L.length,(L.length:Int) - 1,EN,rfl,rfl,by rw[Ih,List.take_zero]; exact OwnSl.nil _ _ _ _ _,F9 _ _⟩
   case round =>
    clear hw0;obtain⟨i,z,hi,rfl,hz,hown,anl⟩:=hrel;have HO:=Ac hown;clear hown;rcases Nat.eq_zero_or_pos i with h0 | h0
    ·subst h0;have t0:decide ((0:Int)<=z)=false:=L9 EN;clear hz;go_wp2
     go_ret;refine⟨_,rfl,hBp.trans (anl.mono hBp.size),?_⟩;have h5:=HO.out.pairs (G:=λb=>w.heap.size<=b) (λb hb=>by have:=hbel.size; omega);rw[Nat.sub_zero,Gl aF,HE.out] at h5;exact h5
    ·obtain⟨i',hii⟩:∃ j,i=j+1:=⟨i - 1,EN⟩;subst hii;obtain rfl:z=(i':Int):=EN;have t0:decide ((0:Int)<=(i':Int))=true:=Mc EN;have hw2:IntKind.i64.wrap ((i':Int) - 1)=(i':Int) - 1:=GH _ EN;obtain⟨bl,ol,rfl,_,anb,hcl⟩:=HXL.out EN;obtain⟨x,hx⟩:=FC (l:=L) (k:=i') EN;obtain⟨r0,r1⟩:=hcl i' x hx;replace r0:=ah r0 anl;replace r1:=ah r1 anl;have HX:=Ac (show L.reverse[L.length - (i'+1)]? = some x by rw[List.getElem?_reverse EN,show L.length - 1 - (L.length - (i'+1))=i' by omega]; exact hx);have hlen:(L.reverse.take (L.length - (i'+1))).length=L.length - (i'+1):=by rw[List.length_take,List.length_reverse];omega
     have HLN:=Ac hlen;clear hcl hx hz h0 hlen;go_wp2_with (at_builtin; refine iH (K:=aag) (F:=λ_=>True) rfl _ _ 139 141 16 _ Tryz.underlying139 Tryz.infoPair rfl aA rfl wp.heap.size (FV _) u12 (L.reverse.take (L.length - (i'+1))) rfl x _ rfl (by rw[HLN.out]; omega) rfl HO.out trivial anl ?_; intro g' cap w' hown' aZ hlt' _; have HO':=Ac hown'; clear hown')
     go_roundw
     case rel =>
      refine⟨i',(i':Int) - 1,EN,rfl,rfl,?_,aZ⟩;have h5:=HO'.out;rw[HLN.out,<-FP HX.out] at h5;rw[show L.length - i'=L.length - (i'+1)+1 by omega];exact h5
     case measure=>simp[intOf] <;> omega
  ·have ama:pq < g.Fg.length:=FD hni;obtain⟨f',rfl⟩:∃ k,f=k+1:=⟨f - 1,EN⟩;have hws:=HW.out;rw[nV HGD.out hch (by rw[<-HPE.out]; exact HPP.out) hni,<-GY] at hws;have HWS:=Ac hws;have hnx:=HS.out.next n (FT hni);have hne:=HC.out pq n hni;have n0:=hne.c0;have n1:=hne.c1;have n2:=hne.c2;obtain⟨v3,n3,h3⟩:=hne.c3;obtain⟨v4,n4,h4⟩:=hne.c4;obtain⟨v5,n5,h5⟩:=hne.c5;have H3:=Ac h3;obtain⟨A3,c3,rfl,_,_⟩:=h3;obtain⟨A4,c4,rfl,_,_⟩:=h4;obtain⟨A5,c5,rfl,_,_⟩:=h5;have hBr:=hB1.trans (hbel.mono hB1.size);replace n0:=ah n0 hBr;replace n1:=ah n1 hBr;replace n2:=ah n2 hBr;replace n3:=ah n3 hBr;replace n4:=ah n4 hBr;replace n5:=ah n5 hBr;have z1:=ah y1 hbel;have HX:=Ac hni;clear hne hni hws HW;go_wp2_with fail
   refine aW (λw'=>w'.cell? ⟨w.heap.size,1,none⟩=some (FQ (some ⟨b,q,none⟩) g.Fg.length c)/\w'.cell? ⟨bp,op+ch,none⟩=some (F6 F5 (pq:Int))/\w'.cell? ⟨b,q+pq*6,none⟩=some (F6 F5 n.kind)/\w'.cell? ⟨b,q+pq*6+1,none⟩=some (F6 F5 n.aC)/\w'.cell? ⟨b,q+pq*6+2,none⟩=some (F6 F5 n.info)/\w'.cell? ⟨b,q+pq*6+3,none⟩=some (FQ A3 n.next.length c3)/\w'.cell? ⟨b,q+pq*6+4,none⟩=some (FQ A4 n.weights.length c4)/\w'.cell? ⟨b,q+pq*6+5,none⟩=some (FQ A5 n.pay.length c5)) 9 1 ak rfl ak ?_;have hHeld:(λw':FW=>w'.cell? ⟨w.heap.size,1,none⟩=some (FQ (some ⟨b,q,none⟩) g.Fg.length c)/\w'.cell? ⟨bp,op+ch,none⟩=some (F6 F5 (pq:Int))/\w'.cell? ⟨b,q+pq*6,none⟩=some (F6 F5 n.kind)/\w'.cell? ⟨b,q+pq*6+1,none⟩=some (F6 F5 n.aC)/\w'.cell? ⟨b,q+pq*6+2,none⟩=some (F6 F5 n.info)/\w'.cell? ⟨b,q+pq*6+3,none⟩=some (FQ A3 n.next.length c3)/\w'.cell? ⟨b,q+pq*6+4,none⟩=some (FQ A4 n.weights.length c4)/\w'.cell? ⟨b,q+pq*6+5,none⟩=some (FQ A5 n.pay.length c5)) wr.drew:=⟨z1,ep,n0,n1,n2,n3,n4,n5⟩;refine zac ?_;intro hb;replace z1:=ah z1 hb;replace ep:=ah ep hb;replace n0:=ah n0 hb;replace n1:=ah n1 hb;replace n2:=ah n2 hb;replace n3:=ah n3 hb;replace n4:=ah n4 hb;replace n5:=ah n5 hb;replace HO:=Ac (HO.out.below hb);replace hbel:=hbel.trans (hb.mono hbel.size);clear hb;generalize wr.drew=wn at *;refine tkm [0,1,2,3,4,5,6,7] ?_;refine tk2 8 ak rfl λK hK=>?_
   go_simp;refine hK.out _ _ ⟨dX z1 _,dX ep _,dX n0 _,dX n1 _,dX n2 _,dX n3 _,dX n4 _,dX n5 _⟩ (λhHeld=>?_);refine zdM ?_;clear hK K hHeld;go_wp2
   obtain⟨W1,hW1,rn,hb,hz1⟩:=aJ wn 127 #[F6 F5 n.kind,F6 F5 n.aC,F6 F5 n.info,FQ A3 n.next.length c3,FQ A4 n.weights.length c4,FQ A5 n.pay.length c5];rw[<-hW1];unfold Bj;refine ZR ?_;obtain⟨nb,hnb⟩:=FH wn.heap.size;have k3:w1.heap.size<=nb:=by rw[hnb];exact hbel.size
   rw[<-hnb] at rn ⊢;replace z1:=ah z1 hb;replace ep:=ah ep hb;replace n0:=ah n0 hb;replace n1:=ah n1 hb;replace n2:=ah n2 hb;replace n3:=ah n3 hb;replace n4:=ah n4 hb;replace n5:=ah n5 hb;replace HO:=Ac (HO.out.below hb);replace hbel:=hbel.trans (hb.mono hbel.size);clear hb;have k4:nb < W1.heap.size:=rn.lt;have HRN:=Ac rn;obtain⟨lim,hlim⟩:=FH W1.heap.size;clear hz1 hnb hW1 rn z1 ep n0 n1 n2 n3 n4 n5;go_wp2_with fail
   go_loopw [8,11] (λbv jv wr=>∃ (j:Nat) (M:List (Int×Int)),j<=n.next.length/\jv = F6 F5 (j:Int)/\M=L++gW pl n ch j/\OwnSl aag wr w1.heap.size 141 (λ_=>True) bv M/\Row wr nb 127 [F6 F5 n.kind,F6 F5 n.aC,F6 F5 n.info,FQ A3 n.next.length c3,FQ A4 n.weights.length c4,FQ A5 n.pay.length c5]/\Below w1.heap.size w1 wr) (λ_ jv _=>n.next.length - (intOf jv).toNat)
   case atStart=>exact⟨0,L,EN,rfl,by rw[zI,Hz],HO.out,HRN.out,hbel⟩
   case round =>
    clear HO HRN hbel hlim k4;obtain⟨j,M,hj,rfl,hM,hown,rn,hbel⟩:=hrel;have HM:=Ac hM;have HO:=Ac hown;have n0:=rn.cell (i:=0) rfl;have n1:=rn.cell (i:=1) rfl;have n2:=rn.cell (i:=2) rfl;have n3:=rn.cell (i:=3) rfl;have hsl:=vW (pl:=pl) (n:=n) (c:=ch) (j:=j);have hMl:M.length=L.length+(gW pl n ch j).length:=by rw[hM,Gn]
    have hMb:M.length<=20000:=EN;have HML:=Ac hMl;clear hM hown hMl;by_cases hjt:j < n.next.length
    case neg =>
     have HE:=Ac (show M=L++gW pl n ch n.next.length by rw[HM.out,show j=n.next.length by omega]);replace HML:=Ac (show M.length<=L.length+100 by rw[HML.out]; omega);clear hsl;have ep:=HPC.out ch pq HPP.out;unfold jP at ep;rw[Gp] at ep;replace ep:=ah ep hbel;go_wp2_with fail
     go_roundw
     case rel=>exact⟨pq,f',M,EN,EN,rfl,by rw[HE.out]; exact HWS.out,by have:=HML.out; omega,HO.out,hbel⟩
     case measure=>simp[intOf]; omega
    by_cases hk:n.kind=2/\n.aC=pl
    case neg =>
     have HE:=Ac (show M=L++gW pl n ch n.next.length by rw[HM.out,fG hk,fG hk]);replace HML:=Ac (show M.length=L.length by rw[HM.out,fG hk,Hz]);by_cases hk2:n.kind=2
     case neg =>
      have t1:(n.kind==2)=false:=by simpa using hk2
      clear hk hk2 hsl;have ep:=HPC.out ch pq HPP.out;unfold jP at ep;rw[Gp] at ep;replace ep:=ah ep hbel;go_wp2_with fail
      go_roundw
      case rel=>exact⟨pq,f',M,EN,EN,rfl,by rw[HE.out]; exact HWS.out,by have:=HML.out; omega,HO.out,hbel⟩
      case measure=>simp[intOf]; omega
     have t1:(n.kind==2)=true:=by simp[hk2]
     have t2:(n.aC==pl)=false:=by simp;exact λe=>hk ⟨hk2,e⟩
     clear hk hk2 hsl;have ep:=HPC.out ch pq HPP.out;unfold jP at ep;rw[Gp] at ep;replace ep:=ah ep hbel;go_wp2_with fail
     go_roundw
     case rel=>exact⟨pq,f',M,EN,EN,rfl,by rw[HE.out]; exact HWS.out,by have:=HML.out; omega,HO.out,hbel⟩
     case measure=>simp[intOf]; omega
    have t1:(n.kind==2)=true:=by simp[hk.1]
    have t2:(n.aC==pl)=true:=by simp[hk.2]
    have HK:=Ac hk;clear hk;obtain⟨x,hx⟩:=FC hjt;obtain⟨b3,o3,rfl,_,hb3,acR⟩:=aej H3.out EN;have ec:=ah (acR j x hx) (hB1.trans (hbel.mono hB1.size));clear acR hsl;by_cases hxc:x=(ch:Int)
    case neg =>
     have t3:(x==(ch:Int))=false:=by simpa using hxc
     have HS1:=Ac (aa9 (pl:=pl) hx hxc);clear hxc hx;go_wp2_with fail
     go_roundw
     case rel=>exact⟨j+1,M,EN,by go_num,by rw[HM.out,HS1.out],HO.out,rn,hbel⟩
     case measure=>simp[intOf]; omega
    have t3:(x==(ch:Int))=true:=by simp[hxc]
    have HS1:=Ac (acg HK.out (show n.next[j]? = some (ch:Int) by rw[hx,hxc]));clear hxc hx;go_wp2_with (at_builtin; refine iH (K:=aag) (F:=λ_=>True) rfl _ _ 139 141 16 _ Tryz.underlying139 Tryz.infoPair rfl aA rfl w1.heap.size (FV _) u8 M rfl (n.info,(j:Int)) _ rfl EN rfl HO.out trivial hbel ?_; intro g' cap w' hown' aZ hlt' hsm'; have HO':=Ac hown'; have HRN:=Ac (rn.of_block (hsm'.2 nb (HO.out.apart rn aA) rn.lt)); clear hown')
    go_roundw
    case rel=>exact⟨j+1,_,EN,by go_num,by rw[HM.out,HS1.out,GY],HO'.out,HRN.out,aZ⟩
    case measure=>simp[intOf]; omega
theorem Tryz.infoViewK:(Tryz.prog.info? 184).map (λi=>(i.zero,i.size,i.bytes))=some (some (.agg #[F6 F5 0,F6 F5 0,FQ none 0 0,F6 F5 0]),agI.n,48):=ak
theorem Tryz.infoInfK:(Tryz.prog.info? 37).map (λi=>(i.zero,i.size,i.bytes))=some (some (.agg #[F6 F5 0,F6 F5 0]),al6.n,16):=ak
def Up (W:FW) (v v':F7):Prop:=∀ b,v'.ownBlock=some b->v.ownBlock=some b\/W.heap.size<=b
theorem Up.refl (W:FW) (v:F7):Up W v v:=λ_ h=>.inl h
theorem abp {W:FW} {mb db:Nat} {vv vn vi vv' vn' vi':F7} (h1:Up W vv vv') (h2:Up W vn vn') (h3:Up W vi vi') (hi:i < W.heap.size) (h:Mut mb db vv' vn' vi' i):Mut mb db vv vn vi i:=by
 rcases h with h | h | h | h | h
 ·exact .inl h
 ·exact .inr (.inl h)
 ·exact .inr (.inr (.inl ((h1 i h).resolve_right EN)))
 ·exact .inr (.inr (.inr (.inl ((h2 i h).resolve_right EN))))
 ·exact .inr (.inr (.inr (.inr ((h3 i h).resolve_right EN))))
theorem amb {W wn:FW} {v:F7} (h:v.ownBlock=some g\/wn.heap.size<=g) (hs:W.heap.size<=wn.heap.size):Up W v (FQ (some ⟨g,0,none⟩) n cap):=λb hb=>by
 have e:some g=some b:=hb;cases e
 exact h.imp id λh=>by omega
def More (C:MC) (M:ML) (Fd:FI) (vv vn vi:F7) (Ln:List NV) (s:MS) (W w':FW):Prop:=∃ vv' vi' Lv',Up W vv vv'/\Up W vi vi'/\MAt C M Fd vv' vn vi' Lv' Ln s w'/\Wrote (Mut M.mb M.db vv vn vi) W w'
theorem aaQ {f:View->Bool} {Ln:List VV} {q:VV} (h:∀ j p,j < k->Ln[j]? = some p->f p.v=false) (hq:Ln[k]? = some q) (hf:f q.v=false):∀ j p,j < k+1->Ln[j]? = some p->f p.v=false:=λj p hj hp=>by
 by_cases e:j=k
 ·subst e; rw[hq] at hp; cases hp; exact hf
 ·exact h j p EN hp
theorem akz {C:MC} {level:Int} {seen:List Int} {s:MS} {Lv:List VV} (hv:Lv.map VV.v=s.views) {q:VV} (hq:Lv[k]? = some q) (hs:fD aC level seen q.v=true) (hno:∀ j p,j < k->Lv[j]? = some p->fD aC level seen p.v=false):kM C aC level seen s=(q.v.info,s):=by
 have e:s.views.find? (fD aC level seen)=some q.v:=by
  rw[<-hv];clear hv;induction Lv generalizing k with
  | nil=>cases hq
  | cons p L ih =>
   cases k with
   | zero=>simp at hq; subst hq; simp[List.find?_cons,hs]
   | succ k =>
    rw[Hr,List.find?_cons,hno 0 p EN rfl];exact ih (k:=k) (by simpa using hq) λj x hj hx=>hno (j+1) x EN (by simpa using hx)
 unfold kM;rw[e]
theorem akA {C:MC} {level:Int} {seen:List Int} {s:MS} {Lv:List VV} (hv:Lv.map VV.v=s.views) (hno:∀ j p,j < Lv.length->Lv[j]? = some p->fD aC level seen p.v=false) :
  kM C aC level seen s=((s.Fh.length:Int),{ (({ s with views:=s.views ++ [⟨aC,level,seen,s.Fh.length⟩] }:MS).draw C 3).2 with Fh:=s.Fh ++ [⟨aC,1+dY C.L s.at' 3⟩] }):=by
 have e:s.views.find? (fD aC level seen)=none:=by
  rw[<-hv,List.find?_eq_none];intro v hv';obtain⟨q,hq,rfl⟩:=List.mem_map.1 hv';obtain⟨j,hj,e⟩:=List.mem_iff_getElem.1 hq;rw[hno j q hj (by rw[<-e]; exact GX hj)];simp
 unfold kM;rw[e];rfl
theorem akB {C:MC} {M:ML} {vv vn vi:F7} {Lv:List VV} {Ln:List NV} {s:MS} {W:FW} (h:MAt C M Fd vv vn vi Lv Ln s W) (aC level:Int) (sv:F7) (seen:List Int) (hs:Aj W Fd sv seen) (hsl:seen.length < 1000000) (hvs:∀ v∈s.views,v.seen.length < 1000000) (hil:s.Fh.length<=900000) (hvl:s.views.length<=900000) :
  Calls FY 89 #[.pointer (some ⟨M.mb,0,none⟩),F6 F5 aC,F6 F5 level,sv] W λe w'=>e = .returned (F6 F5 (kM C aC level seen s).1)/\More C M Fd vv vn vi Ln (kM C aC level seen s).2 W w':=by
 have HM:=Ac h;have HS:=Ac hs;have HVS:=Ac hvs;clear h hs hvs;obtain⟨Av,cv,rfl,hcv,hgv⟩:=HM.out.views.form;have HLV:=Ac (show Lv.length=s.views.length by rw[<-HM.out.qK,FX]);have hlb:Lv.length<=900000:=by rw[HLV.out];exact hvl
 obtain⟨As,cs,hsv,_⟩:=id HS.out;subst hsv;go_in;go_wp2
 go_loopw [9] (λiv wr=>∃ k:Nat,k<=Lv.length/\iv = F6 F5 (k:Int)/\Hid (Below W.heap.size W wr)/\Hid (∀ j q,j < k->Lv[j]? = some q->fD aC level seen q.v=false)) (λiv _=>Lv.length - (intOf iv).toNat)
 case atStart=>exact⟨0,GR _,rfl,Ac (F9 _ _),Ac λj q hj=>absurd hj (Nat.not_lt_zero _)⟩
 case round =>
  obtain⟨k,hk,rfl,HB,hno⟩:=hrel;have HMW:=Ac (HM.out.below HB.out);have m2:=HMW.out.box.cell (i:=2) rfl;by_cases hkt:k < Lv.length
  ·have t0:decide ((k:Int) < (Lv.length:Int))=true:=Mc EN;obtain⟨gv,rfl⟩:=hgv EN;obtain⟨q,hq⟩:=FC hkt;have hfull:Aj wr Fd q.vs q.v.seen/\∀ j u,(agI.cells q)[j]? = some u->wr.cell? ⟨gv,k*4+j,none⟩=some u:=by
    rcases HMW.out.views.at with⟨h,_⟩ | ⟨g,cap,h,_,_,_,hf,hx⟩
    ·simp at h
    ·simp only[Value.slice.injEq,Hu,Addr.mk.injEq,and_true,true_and] at h;obtain⟨rfl,_⟩:=h;exact⟨hf q (FT hq),λj u hu=>by have:=hx k q hq j u hu; rw[Iz] at this; exact this⟩
   have hql:q.v.seen.length < 1000000:=HVS.out q.v (by rw[<-HM.out.qK]; exact List.mem_map.2 ⟨q,FT hq,rfl⟩);have HQ:=Ac hq;clear hq;obtain⟨⟨qp,ql,qs,qi⟩,qv⟩:=q;obtain⟨hqi,hqc⟩:=hfull;obtain⟨Aq,cq,hqv,_⟩:=id hqi;dsimp only at hqv hqi hql;subst hqv;have c0:wr.cell? ⟨gv,k*4,none⟩=some (F6 F5 qp):=hqc 0 _ rfl;have c1:wr.cell? ⟨gv,k*4+1,none⟩=some (F6 F5 ql):=hqc 1 _ rfl;have c2:wr.cell? ⟨gv,k*4+2,none⟩=some (FQ Aq qs.length cq):=hqc 2 _ rfl;have c3:wr.cell? ⟨gv,k*4+3,none⟩=some (F6 F5 qi):=hqc 3 _ rfl;have HI:=Ac hqi;clear hqi hqc;have HK:=Ac (show fD aC level seen ⟨qp,ql,qs,qi⟩=(decide (qp=aC)&&decide (ql=level)&&decide (qs=seen)) from rfl);go_upto_region 5 with(fail)
   obtain⟨W1,hW1,rx,hB1,hz1⟩:=aJ wr 184 #[F6 F5 qp,F6 F5 ql,FQ Aq qs.length cq,F6 F5 qi];rw[<-hW1];have HB1:=Ac (HB.out.trans (hB1.mono HB.out.size));have HI1:=Ac (HI.out.on (FZ hB1 Fd));have HS1:=Ac ((HS.out.on (FZ HB.out Fd)).on (FZ hB1 Fd));obtain⟨xb,hxb⟩:=FH wr.heap.size;rw[<-hxb] at rx ⊢;refine Zd ?_;intro x0 x1 x2;have x3:=rx.cell (i:=3) rfl;clear hW1 hB1 hz1 hxb rx c0 c1 c2 c3 m2 HI HB HMW;by_cases h3:qp=aC
   case neg =>
    have t3:(qp==aC)=false:=by simpa using h3
    have HU:=Ac (show fD aC level seen ⟨qp,ql,qs,qi⟩=false by rw[HK.out]; simp[h3]);clear h3;go_wp2_with fail
    go_roundw
    case rel=>exact⟨k+1,EN,by go_num,HB1,Ac (aaQ hno.out HQ.out HU.out)⟩
    case measure=>simp[intOf]; omega
   by_cases h4:ql=level
   case neg =>
    have t3:(qp==aC)=true:=by simpa using h3
    have t4:(ql==level)=false:=by simpa using h4
    have HU:=Ac (show fD aC level seen ⟨qp,ql,qs,qi⟩=false by rw[HK.out]; simp[h4]);clear h3 h4;go_wp2_with fail
    go_roundw
    case rel=>exact⟨k+1,EN,by go_num,HB1,Ac (aaQ hno.out HQ.out HU.out)⟩
    case measure=>simp[intOf]; omega
   have t3:(qp==aC)=true:=by simpa using h3
   have t4:(ql==level)=true:=by simpa using h4
   by_cases h5:qs=seen
   case neg =>
    have t5:decide (qs=seen)=false:=L9 h5;have HU:=Ac (show fD aC level seen ⟨qp,ql,qs,qi⟩=false by rw[HK.out]; simp[h5]);clear h3 h4 h5;go_wp2_with (go_at_call 132; (with_reducible refine(zF _ Fd _ _ qs seen HI1.out HS1.out hql hsl).mono ?_); rintro e w' ⟨rfl,m,rfl⟩)
    go_roundw
    case rel=>exact⟨k+1,EN,by go_num,Ac (aI HB1.out _),Ac (aaQ hno.out HQ.out HU.out)⟩
    case measure=>simp[intOf]; omega
   have t5:decide (qs=seen)=true:=Mc h5;have HU:=Ac (show fD aC level seen ⟨qp,ql,qs,qi⟩=true by rw[HK.out]; simp[h3,h4,h5]);have HF:=Ac (akz (C:=C) HM.out.qK HQ.out HU.out hno.out);clear h3 h4 h5;go_wp2_with (go_at_call 132; (with_reducible refine(zF _ Fd _ _ qs seen HI1.out HS1.out hql hsl).mono ?_); rintro e w' ⟨rfl,m,rfl⟩)
   go_ret;exact⟨by rw[HF.out]; rfl,by rw[HF.out]; exact⟨_,_,Lv,λ_ h=>.inl h,λ_ h=>.inl h,HM.out.below (aI HB1.out _),Iq (aI HB1.out _) _⟩⟩
  ·have hke:Lv.length=k:=EN;have t0:decide ((k:Int) < (Lv.length:Int))=false:=L9 EN;have HN:=Ac (akA (C:=C) HM.out.qK (by rw[hke]; exact hno.out));obtain⟨Ai,ci,rfl,hci,_⟩:=HM.out.Fh.form;have m9:=HMW.out.box.cell (i:=9) rfl;have HSW:=Ac (HS.out.on (FZ HB.out Fd));have HW:=Ac (Iq HB.out (Mut M.mb M.db (FQ Av Lv.length cv) vn (FQ Ai s.Fh.length ci)));have k6:=HB.out.size;have hbase:M.base<=W.heap.size:=Nat.le_of_lt (JD HM.out.fK.1 HM.out.box.lt);have hdv:=jc C.L s.at' (n:=3) aA;obtain⟨dv,aol⟩:=FH (dY C.L s.at' 3);have HDV:=Ac aol;rw[<-aol] at hdv HN;have hwd:IntKind.i64.wrap (1+dv)=1+dv:=GH _ EN;have hwl:IntKind.i64.wrap ((s.Fh.length:Int)+1 - 1)=(s.Fh.length:Int):=by rw[LM];exact GH _ EN
   have hwk:IntKind.i64.wrap (s.Fh.length:Int)=(s.Fh.length:Int):=GH _ EN;clear aol HB hgv hke;go_wp2_with fail
   refine aW (λw'=>w'.cell? ⟨M.mb,2,none⟩=some (FQ Av Lv.length cv)/\w'.cell? ⟨M.mb,9,none⟩=some (FQ Ai s.Fh.length ci)) 17 3 ak rfl ak ?_;have hHeld:(λw':FW=>w'.cell? ⟨M.mb,2,none⟩=some (FQ Av Lv.length cv)/\w'.cell? ⟨M.mb,9,none⟩=some (FQ Ai s.Fh.length ci)) wr.drew:=⟨m2,m9⟩;refine zac ?_;intro hb;replace m2:=ah m2 hb;replace m9:=ah m9 hb;replace HMW:=Ac (HMW.out.below hb);replace HSW:=Ac (HSW.out.on (FZ hb Fd));refine zbC ?_;clear HW k6 hb;intro HW k6;generalize wr.drew=wn at *;refine tkm [0,1,2,3,4,5,6,7,8,9,10,11,12,13,14] ?_;refine tk2 15 ak rfl λK hK=>?_
   go_simp;refine hK.out _ _ ⟨dX m2 _,dX m9 _⟩ (λhHeld=>?_);clear hK K;refine Zb ?_;refine tk2 16 ak rfl λK hK=>?_
   refine nO (K:=agI) (F:=Fd) (W:=wn) rfl _ _ 76 184 48 _ Tryz.underlying76 Tryz.infoViewK rfl aA rfl M.base (Gf hbase k6) (FQ Av Lv.length cv) Lv rfl ⟨⟨aC,level,seen,s.Fh.length⟩,FQ As seen.length cs⟩ _ rfl EN rfl HMW.out.views (HSW.out.keep (λb hb _=>⟨hb,(HMW.out.fdn hb).2.2.1⟩) (Gh _ _)) ?_;intro g' cap wq hown' hwq hat' hlt';obtain⟨W2,hW2,hm2,hw2⟩:=HMW.out.aij hown' hwq hat' hlt';have aaR:(Value.slice Av Lv.length cv).ownBlock≠some M.mb:=λe=>(HMW.out.dQ _ e).1 rfl
   replace m2:=aY m2 hwq aaR;replace m9:=aY m9 hwq aaR;have f2:=(HMW.out.box.wrote hwq aaR).frozen 2;have HU:=Ac (amb (n:=Lv.length+1) (cap:=cap) hat' k6);replace HW:=Ac (HW.out.trans hw2);replace k6:W.heap.size<=W2.heap.size:=Gf k6 hw2.size;have HM2:=Ac hm2;have HY:=Ac hW2;clear hm2 hW2 hw2 hown' hwq hat' hlt' hHeld HMW HSW aaR;refine hK.out _ _ ⟨m2,m9⟩ (λhHeld=>?_);refine zdM ?_;clear hK K hHeld;go_wp2
   refine zaf ?_;go_wp2
   refine zaf ?_;go_wp2
   rw[<-HY.out];unfold Bj;refine ZR ?_;have n0:=HM2.out.box.cell (i:=0) rfl;have n9:=HM2.out.box.cell (i:=9) rfl;clear HY m2 m9 f2;go_wp2_with fail
   refine aW (λw'=>w'.cell? ⟨M.mb,0,none⟩=some (.pointer (some ⟨M.db,0,none⟩))/\w'.cell? ⟨M.mb,9,none⟩=some (FQ Ai s.Fh.length ci)) 16 4 ak rfl ak ?_;have hHeld:(λw':FW=>w'.cell? ⟨M.mb,0,none⟩=some (.pointer (some ⟨M.db,0,none⟩))/\w'.cell? ⟨M.mb,9,none⟩=some (FQ Ai s.Fh.length ci)) W2.drew:=⟨n0,n9⟩;refine Zv ?_;have hb:Below W2.heap.size W2 W2.drew:=aI (F9 _ W2) 1;replace n0:=ah n0 hb;replace n9:=ah n9 hb;replace HM2:=Ac (HM2.out.below hb);refine zbC ?_;clear HW k6 hb;intro HW k6;generalize W2.drew=wn at *;refine tkm [0,1,2,3,4,5,6,7,8,9,10] ?_;refine tk2 11 ak rfl λK hK=>?_
   go_simp;refine(agJ HM2.out 3 aA aA).mono ?_;rintro e wm ⟨rfl,hm3,hw3⟩;replace n0:=aY n0 hw3 HM2.out.fK.2.2;replace n9:=aY n9 hw3 HM2.out.fK.2.2;replace HW:=Ac (HW.out.step hw3 λi _ e=>.inr (.inl e));replace k6:=Gf k6 hw3.size;have HM3:=Ac hm3;have ais:(MS.draw C { s with views:=s.views ++ [⟨aC,level,seen,(s.Fh.length:Int)⟩] } 3).1=dv:=HDV.out.symm;rw[ais];clear hw3 hm3 hHeld HM2 ais;refine hK.out _ _ ⟨n0,n9⟩ (λhHeld=>?_);clear hK K;refine Zb ?_;refine tkm [12,13] ?_;refine tk2 14 ak rfl λK hK=>?_
   go_simp;refine hK.out _ _ ⟨dX n0 _,dX n9 _⟩ (λhHeld=>?_);clear hK K;refine Zb ?_;refine tk2 15 ak rfl λK hK=>?_
   refine nO (K:=al6) (F:=Fd) (W:=wm) rfl _ _ 25 37 16 _ Tryz.underlying25 Tryz.infoInfK rfl aA rfl M.base (Gf hbase k6) (FQ Ai s.Fh.length ci) s.Fh rfl ⟨aC,1+dv⟩ _ rfl EN rfl HM3.out.Fh trivial ?_;intro g2 cap2 wq2 hown' hwq hat' hlt';obtain⟨W4,hW4,hm4,hw4⟩:=HM3.out.ail hown' hwq hat' hlt';have aaR:(Value.slice Ai s.Fh.length ci).ownBlock≠some M.mb:=λe=>(HM3.out.gK _ e).1 rfl
   replace n0:=aY n0 hwq aaR;replace n9:=aY n9 hwq aaR;have f9:=(HM3.out.box.wrote hwq aaR).frozen 9;have HU2:=Ac (amb (n:=s.Fh.length+1) (cap:=cap2) hat' k6);replace HW:=Ac (HW.out.step hw4 λi hi e=>abp HU.out (Up.refl W _) (Up.refl W _) hi e);replace k6:W.heap.size<=W4.heap.size:=Gf k6 hw4.size;have o9:W4.cell? ⟨M.mb,9,none⟩=some (FQ (some ⟨g2,0,none⟩) (s.Fh.length+1) cap2):=hm4.box.cell (i:=9) rfl;have HM4:=Ac hm4;have HY:=Ac (show W4=wq2.setCell ⟨M.mb,9,none⟩ (FQ (some ⟨g2,0,none⟩) (s.Fh.length+1) cap2) from hW4);clear hm4 hW4 hw4 hown' hwq hat' hlt' hHeld HM3 aaR;refine hK.out _ _ ⟨n0,n9⟩ (λhHeld=>?_);refine zdM ?_;clear hK K hHeld;go_wp2
   refine zaf ?_;go_wp2
   refine zaf ?_;go_wp2
   refine zaf ?_;go_wp2
   rw[<-HY.out];unfold Bj;refine ZR ?_;clear HY n0 n9 f9;go_wp2_with fail
   go_ret;exact⟨by rw[HN.out]; rfl,by rw[HN.out]; exact⟨_,_,_,HU.out,HU2.out,HM4.out,HW.out⟩⟩
def BP (M:ML) (Fd:FI) (vv vn vi:F7) (W:FW) (b:Nat):Prop:=b < W.heap.size/\¬ M.F b/\¬ Fd b/\¬ Mut M.mb M.db vv vn vi b/\M.vl.ownBlock≠some b
section
variable {C:MC} {M:ML} {Fd Fe:FI} {vv vn vi vv' vn' vi':F7} {Lv:List VV} {Ln:List NV} {s:MS} {W W':FW}
theorem MAt.priv (h:MAt C M Fd vv vn vi Lv Ln s W) (hw:Wrote K W W') (hK:∀ b,K b->b < W.heap.size->BP M Fd vv vn vi W b):MAt C M Fd vv vn vi Lv Ln s W' :=
 h.on (hw.same λb hb hk=>by
  obtain⟨_,h1,h2,h3,h4⟩:=hK b hk (h.ain hb);rcases hb with hb | hb | hb | hb
  ·exact h1 hb
  ·exact h2 hb
  ·exact h3 hb
  ·exact h4 hb)
theorem MAt.abS (h:MAt C M Fd vv vn vi Lv Ln s W) (h1:W.heap.size<=b) (h2:b < W'.heap.size):BP M Fd vv vn vi W' b :=
 ⟨h2,λe=>by have:=h.ain (.inl e); omega,λe=>by have:=h.ain (.inr (.inl e)); omega,λe=>by have:=h.aeh e; omega,λe=>by have:=(h.lev.row.lt b e).2; omega⟩
theorem BP.wider (h:BP M Fd vv vn vi W b) (hs:W.heap.size<=W'.heap.size):BP M Fd vv vn vi W' b:=⟨by have:=h.1; omega,h.2⟩
theorem BP.next (h:BP M Fd vv vn vi W b) (hs:W.heap.size<=W'.heap.size) (hF:∀ b,Fe b->Fd b\/W.heap.size<=b) (h1:Up W vv vv') (h2:Up W vn vn') (h3:Up W vi vi'):BP M Fe vv' vn' vi' W' b :=
 ⟨by have:=h.1; omega,h.2.1,λe=>(hF b e).elim h.2.2.1 λe=>by have:=h.1; omega,λe=>h.2.2.2.1 (abp h1 h2 h3 h.1 e),h.2.2.2.2⟩
theorem Up.trans (h:Up W vv vv') {vv'':F7} (k:Up W' vv' vv'') (hs:W.heap.size<=W'.heap.size):Up W vv vv'':=λb hb=>(k b hb).elim (λe=>h b e) λe=>.inr EN
end
def aek:Knd (F7×List Int) where
 n:=1
 cells q:=[q.1]
 fine w F q:=Aj w F q.1 q.2
 len _:=rfl
 pos:=aA
 one h u hu:=by
  obtain⟨A,c,hv,_⟩:=h;rw[List.mem_singleton.1 hu,hv];rfl
 keep h hFG hs:=h.keep hFG hs
theorem Tryz.infoListK:(Tryz.prog.info? 22).map (λi=>(i.zero,i.size,i.bytes))=some (some (FQ none 0 0),aek.n,24):=ak
theorem OwnSl.lists {w:FW} {base:Nat} {v:F7} {L:List (F7×List Int)} (h:OwnSl aek w base et F v L) (hF:∀ b,F b->b < w.heap.size->G b) (hG:∀ b,v.ownBlock=some b->G b):Bg w G v (L.map Prod.snd):=by
 rcases h.at with⟨rfl,rfl⟩ | ⟨g,cap,rfl,hb,hg,hcap,hf,hx⟩
 ·exact YN
 ·refine⟨_,cap,by rw[FX],by rw[FX]; exact hcap,λ_=>⟨g,0,rfl,hG g rfl,hg,λk x hk=>?_⟩⟩;rw[Gi] at hk;obtain⟨q,hq,rfl⟩:=Option.map_eq_some_iff.1 hk;exact⟨q.1,hx k q hq 0 q.1 rfl,(hf q (FT hq)).keep hF (Gh _ _)⟩
theorem qM {w:FW} {ops:Array Oper} {rest:List Oper} {o:Oper} {a:Act} {Q:Exit->Act->FW->Prop} (hgd:o.guard=none) (s x:Operand) (ho:o.op = .call { callee:=.builtin .append,args:=#[s,x],argTypes:=#[22,22] })
  (v:F7) (l:List Int) (hs:a.eval s = FQ (some ⟨w.heap.size,0,none⟩) 0 0) (hx:a.eval x=v) (hv:Aj w F v l) (hm:l.length<=1000000)
  (h:∀ g cap w',OwnSl rE w' w.heap.size 3 (λ_=>False) (FQ (some ⟨g,0,none⟩) l.length cap) l->Below w.heap.size w w'->w.heap.size < w'.heap.size->wpList FY ops Q rest (a.put o.dst (FQ (some ⟨g,0,none⟩) l.length cap)) w') :
  wpList FY ops Q (o :: rest) a (w.alloc (.cells #[] 3)):=by
 obtain⟨i0,hi,hz0,hz1,hz2⟩:=info_parts Tryz.infoInt;have hb0:Below w.heap.size w (w.alloc (.cells #[] 3)):=(F9 _ _).alloc (FV _) _;have hsz:(w.alloc (.cells #[] 3)).heap.size=w.heap.size+1:=aF;have own0:(w.alloc (.cells #[] 3)).ownsRow w.heap.size 3 1 (FQ (some ⟨w.heap.size,0,none⟩) 0 0) 0 []:=⟨rfl,.inr ⟨_,0,#[],rfl,FV _,heap_alloc_new _ _,FV _,by unfold maxLen; omega,rfl,rfl⟩⟩;have hv':=hv.on (FZ hb0 F);obtain⟨A,c,rfl,hc,hr⟩:=hv';have hm':l.flatMap rE.cells=l.map (Value.int .i64):=by
  clear hv hm h hr hx hc;induction l with
  | nil=>rfl
  | cons a l ih=>rw[Kt,Hr,ih]; rfl
 by_cases h0:0 < l.length
 ·obtain⟨b,off,rfl,_,_,hcell⟩:=hr h0;refine wpList_append_lies (w.alloc (.cells #[] 3)) hgd s x 22 ho w.heap.size 3 i0 _ 1 8 Ic hi hz0 hz1 hz2 rfl aA _ 0 [] hs own0 ⟨b,off,none⟩ l.length c (l.map (Value.int .i64)) hx aF (λj u hj=>?_) (by simp[Value.oneCell']) h0 (by unfold maxLen; omega) EN EN _ rfl ?_
  ·rw[Gi] at hj;obtain⟨y,hy,rfl⟩:=Option.map_eq_some_iff.1 hj;have:=hcell j y hy;unfold jP at this;exact zdC
  ·intro g cap w' h1 h2 h3 h4;rw[Iz] at h1 ⊢;have h5:=h2.size;refine h g cap w' ⟨?_,λ_ _=>trivial⟩ ⟨h2.os.trans hb0.os,h2.tape.trans hb0.tape,h2.output.trans hb0.output,EN,λk hk=>?_⟩ EN
   ·rw[hm'];exact h1
   ·exact(h2.block k EN (λe=>by have e':some k=some w.heap.size:=e; cases e'; omega)).trans (hb0.block k hk)
 ·have hl:l = []:=List.eq_nil_of_length_eq_zero EN;subst hl;refine wpList_plain hgd λK hK=>?_
  have hsrc:Src FY i0.size 22 (FQ A 0 c) 0 [] (w.alloc (.cells #[] 3)):=by
   cases A with
   | none=>exact Src.ofNil _ Ic c
   | some ad=>exact Src.ofSlice _ Ic ad 0 c [] aF aF aF
  have hrun:=run_append_room_src (P:=FY) (w.alloc (.cells #[] 3)) 22 22 o.type 3 i0 Ic hi w.heap.size 0 0 0 (FQ A 0 c) 0 [] hsrc EN aF aF;unfold Oper.wp execOp;simp only[ho,resolve,invoke,builtin,Sem.run_bind,Sem.run_pure,Result.andThen_ok,List.map_toArray,Hr,Jp,hs];rw[show a.eval x = FQ A 0 c from hx,hrun];exact hK _ _ (h w.heap.size 0 (w.alloc (.cells #[] 3)) ⟨own0,λ_ _=>trivial⟩ hb0 EN)
def Built (C:MC) (M:ML) (Fd:FI) (vv vn vi:F7) (s':MS) (W w':FW):Prop:=∃ (Fe:FI) (vv' vn' vi':F7) (Lv':List VV) (Ln':List NV),(∀ b,Fd b->Fe b)/\(∀ b,Fe b->Fd b\/W.heap.size<=b)/\Up W vv vv'/\Up W vn vn'/\Up W vi vi' /\
 MAt C M Fe vv' vn' vi' Lv' Ln' s' w'/\Wrote (Mut M.mb M.db vv vn vi) W w'
structure KAt (C:MC) (M:ML) (Fe:FI) (vv vn vi:F7) (Lv:List VV) (Ln:List NV) (s:MS) (hd:Nd) (p:Place) (base yb xb:Nat) (un uw:F7) (nx ws:List Int) (W:FW):Prop where
 m:MAt C M Fe vv vn vi Lv Ln s W
 ry:Row W yb 127 [F6 F5 hd.kind,F6 F5 hd.aC,F6 F5 hd.info,un,uw,FQ none 0 0]
 rx:Row W xb 81 [F6 F5 p.aC,F6 F5 p.many,F6 F5 p.seen]
 hn:OwnSl rE W base 3 (λ_=>False) un nx
 hw:OwnSl rE W base 3 (λ_=>False) uw ws
 py:BP M Fe vv vn vi W yb
 px:BP M Fe vv vn vi W xb
 pn:∀ b,un.ownBlock=some b->BP M Fe vv vn vi W b
 pw:∀ b,uw.ownBlock=some b->BP M Fe vv vn vi W b/\un.ownBlock≠some b
 lt:yb < base/\xb < base/\yb≠xb
section
variable {C:MC} {M:ML} {Fe:FI} {vv vn vi:F7} {Lv:List VV} {Ln:List NV} {s s':MS} {hd:Nd} {p:Place} {base yb xb:Nat} {un uw:F7} {nx ws:List Int} {W W':FW}
theorem KAt.below (h:KAt C M Fe vv vn vi Lv Ln s hd p base yb xb un uw nx ws W) (hb:Below W.heap.size W W'):KAt C M Fe vv vn vi Lv Ln s hd p base yb xb un uw nx ws W' :=
 ⟨h.m.below hb,h.ry.below hb h.ry.lt,h.rx.below hb h.rx.lt,h.hn.below hb,h.hw.below hb,h.py.wider hb.size,h.px.wider hb.size,λb e=>(h.pn b e).wider hb.size,λb e=>⟨(h.pw b e).1.wider hb.size,(h.pw b e).2⟩,h.lt⟩
theorem KAt.wrote (h:KAt C M Fe vv vn vi Lv Ln s hd p base yb xb un uw nx ws W) (hm:MAt C M Fe vv vn vi Lv Ln s' W') (hw:Wrote K W W') (hK:∀ b,K b->Mut M.mb M.db vv vn vi b):KAt C M Fe vv vn vi Lv Ln s' hd p base yb xb un uw nx ws W' :=
 ⟨hm,h.ry.wrote hw λe=>h.py.2.2.2.1 (hK _ e),h.rx.wrote hw λe=>h.px.2.2.2.1 (hK _ e),h.hn.wrote hw λb hb e=>(h.pn b (hb.resolve_left id)).2.2.2.1 (hK _ e),h.hw.wrote hw λb hb e=>(h.pw b (hb.resolve_left id)).1.2.2.2.1 (hK _ e),h.py.wider hw.size,h.px.wider hw.size,λb e=>(h.pn b e).wider hw.size,λb e=>⟨(h.pw b e).1.wider hw.size,(h.pw b e).2⟩,h.lt⟩
theorem KAt.fresh (h:KAt C M Fe vv vn vi Lv Ln s hd p base yb xb un uw nx ws W) (hb:Below W.heap.size W W'):KAt C M (λb=>Fe b\/(W.heap.size<=b/\b < W'.heap.size)) vv vn vi Lv Ln s hd p base yb xb un uw nx ws W':=by
 have hx:=h.below hb;have hP:∀ b,BP M Fe vv vn vi W b->BP M (λb=>Fe b\/(W.heap.size<=b/\b < W'.heap.size)) vv vn vi W' b:=λb k=>⟨(k.wider hb.size).1,k.2.1,λe=>e.elim k.2.2.1 λe=>by have:=k.1; omega,k.2.2.2⟩
 exact⟨hx.m.fresh (λb e=>h.m.aeh e) (by have:=h.m.fK.1; have:=h.m.box.lt; omega),hx.ry,hx.rx,hx.hn,hx.hw,hP _ h.py,hP _ h.px,λb e=>hP b (h.pn b e),λb e=>⟨hP b (h.pw b e).1,(h.pw b e).2⟩,h.lt⟩
theorem KAt.built (h:KAt C M Fe vv vn vi Lv Ln s hd p base yb xb un uw nx ws W) (hb:Built C M Fe vv vn vi s' W W'):∃ (Fe':FI) (vv' vn' vi':F7) (Lv':List VV) (Ln':List NV),(∀ b,Fe b->Fe' b)/\(∀ b,Fe' b->Fe b\/W.heap.size<=b)/\Up W vv vv'/\Up W vn vn'/\Up W vi vi' /\
  KAt C M Fe' vv' vn' vi' Lv' Ln' s' hd p base yb xb un uw nx ws W'/\Wrote (Mut M.mb M.db vv vn vi) W W':=by
 obtain⟨Fe',vv',vn',vi',Lv',Ln',h1,h2,h3,h4,h5,h6,h7⟩:=hb;have hP:∀ b,BP M Fe vv vn vi W b->BP M Fe' vv' vn' vi' W' b:=λb k=>k.next h7.size h2 h3 h4 h5
 exact⟨Fe',vv',vn',vi',Lv',Ln',h1,h2,h3,h4,h5,⟨h6,h.ry.wrote h7 h.py.2.2.2.1,h.rx.wrote h7 h.px.2.2.2.1,h.hn.wrote h7 λb hb=>(h.pn b (hb.resolve_left id)).2.2.2.1,h.hw.wrote h7 λb hb=>(h.pw b (hb.resolve_left id)).1.2.2.2.1,hP _ h.py,hP _ h.px,λb e=>hP b (h.pn b e),λb e=>⟨hP b (h.pw b e).1,(h.pw b e).2⟩,h.lt⟩,h7⟩
theorem KAt.aoN (h:KAt C M Fe vv vn vi Lv Ln s hd p base yb xb un uw nx ws W) {W1:FW} (hown:OwnSl rE W1 base 3 (λ_=>False) (FQ (some ⟨g,0,none⟩) (nx.length+1) cap) (nx ++ [z])) (hwq:Wrote (λb=>un.ownBlock=some b) W W1) (hat:un.ownBlock=some g\/W.heap.size<=g) :
  ∃ W2,W2=W1.setCell ⟨yb,3,none⟩ (FQ (some ⟨g,0,none⟩) (nx.length+1) cap)/\KAt C M Fe vv vn vi Lv Ln s hd p base yb xb (FQ (some ⟨g,0,none⟩) (nx.length+1) cap) uw (nx ++ [z]) ws W2/\Wrote (λb=>base<=b\/b=yb) W W2:=by
 have hbs:∀ b,un.ownBlock=some b->base<=b:=λb e=>(h.hn.row.lt b e).1
 have hgl:=hown.row.lt g rfl;have hl:=h.lt;have hs:=hwq.size;have hwz:Wrote (λb=>b=yb) W1 (W1.setCell ⟨yb,3,none⟩ (FQ (some ⟨g,0,none⟩) (nx.length+1) cap)):=Iu (K:=λb=>b=yb) (p:=⟨yb,3,none⟩) (H6 _ _) (.inl rfl) _;have hsz:(W1.setCell ⟨yb,3,none⟩ (FQ (some ⟨g,0,none⟩) (nx.length+1) cap)).heap.size=W1.heap.size:=aF;have hw2:Wrote (λb=>un.ownBlock=some b\/b=yb) W (W1.setCell ⟨yb,3,none⟩ (FQ (some ⟨g,0,none⟩) (nx.length+1) cap)):=⟨hwz.os.trans hwq.os,hwz.tape.trans hwq.tape,hwz.output.trans hwq.output,EN,λi hi hn=>(hwz.block i EN (λe=>hn (.inr e))).trans (hwq.block i hi (λe=>hn (.inl e)))⟩;have own:∀ b,(Value.slice (some ⟨g,0,none⟩) (nx.length+1) cap).ownBlock=some b->b=g:=λb hb=>by
  exact zcM
 have hP:∀ b,BP M Fe vv vn vi W b->BP M Fe vv vn vi (W1.setCell ⟨yb,3,none⟩ (FQ (some ⟨g,0,none⟩) (nx.length+1) cap)) b:=λb k=>k.wider EN
 have hPg:BP M Fe vv vn vi (W1.setCell ⟨yb,3,none⟩ (FQ (some ⟨g,0,none⟩) (nx.length+1) cap)) g:=hat.elim (λe=>hP g (h.pn g e)) λe=>h.m.abS e EN
 refine⟨_,rfl,⟨h.m.priv hw2 λb hb _=>hb.elim (λe=>h.pn b e) λe=>e▸h.py,(h.ry.wrote hwq λe=>by have:=hbs _ e; omega).set 3 _,h.rx.wrote hw2 λe=>e.elim (λe=>by have:=hbs _ e; omega) λe=>hl.2.2 e.symm,?_,?_,hP _ h.py,hP _ h.px,?_,?_,h.lt⟩,⟨hw2.os,hw2.tape,hw2.output,hw2.size,λi hi hn=>hw2.block i hi λe=>hn (e.imp (λe=>hbs i e) id)⟩⟩
 ·exact hown.wrote hwz λb hb e=>by have:=own b (hb.resolve_left id);omega
 ·exact h.hw.wrote hw2 λb hb e=>e.elim (λe=>(h.pw b (hb.resolve_left id)).2 e) λe=>by have:=(h.hw.row.lt b (hb.resolve_left id)).1;omega
 ·intro b hb;rw[own b hb];exact hPg
 ·intro b hb;refine⟨hP b (h.pw b hb).1,λe=>?_⟩;have e2:=own b e;subst e2;exact hat.elim (λk=>(h.pw b hb).2 k) λk=>by have:=(h.pw b hb).1.1;omega
theorem KAt.aoO (h:KAt C M Fe vv vn vi Lv Ln s hd p base yb xb un uw nx ws W) {W1:FW} (hown:OwnSl rE W1 base 3 (λ_=>False) (FQ (some ⟨g,0,none⟩) (ws.length+1) cap) (ws ++ [z])) (hwq:Wrote (λb=>uw.ownBlock=some b) W W1) (hat:uw.ownBlock=some g\/W.heap.size<=g) :
  ∃ W2,W2=W1.setCell ⟨yb,4,none⟩ (FQ (some ⟨g,0,none⟩) (ws.length+1) cap)/\KAt C M Fe vv vn vi Lv Ln s hd p base yb xb un (FQ (some ⟨g,0,none⟩) (ws.length+1) cap) nx (ws ++ [z]) W2/\Wrote (λb=>base<=b\/b=yb) W W2:=by
 have hbs:∀ b,uw.ownBlock=some b->base<=b:=λb e=>(h.hw.row.lt b e).1
 have hgl:=hown.row.lt g rfl;have hl:=h.lt;have hs:=hwq.size;have hwz:Wrote (λb=>b=yb) W1 (W1.setCell ⟨yb,4,none⟩ (FQ (some ⟨g,0,none⟩) (ws.length+1) cap)):=Iu (K:=λb=>b=yb) (p:=⟨yb,4,none⟩) (H6 _ _) (.inl rfl) _;have hsz:(W1.setCell ⟨yb,4,none⟩ (FQ (some ⟨g,0,none⟩) (ws.length+1) cap)).heap.size=W1.heap.size:=aF;have hw2:Wrote (λb=>uw.ownBlock=some b\/b=yb) W (W1.setCell ⟨yb,4,none⟩ (FQ (some ⟨g,0,none⟩) (ws.length+1) cap)):=⟨hwz.os.trans hwq.os,hwz.tape.trans hwq.tape,hwz.output.trans hwq.output,EN,λi hi hn=>(hwz.block i EN (λe=>hn (.inr e))).trans (hwq.block i hi (λe=>hn (.inl e)))⟩;have own:∀ b,(Value.slice (some ⟨g,0,none⟩) (ws.length+1) cap).ownBlock=some b->b=g:=λb hb=>by
  exact zcM
 have hP:∀ b,BP M Fe vv vn vi W b->BP M Fe vv vn vi (W1.setCell ⟨yb,4,none⟩ (FQ (some ⟨g,0,none⟩) (ws.length+1) cap)) b:=λb k=>k.wider EN
 have hPg:BP M Fe vv vn vi (W1.setCell ⟨yb,4,none⟩ (FQ (some ⟨g,0,none⟩) (ws.length+1) cap)) g:=hat.elim (λe=>hP g ((h.pw g e).1)) λe=>h.m.abS e EN
 refine⟨_,rfl,⟨h.m.priv hw2 λb hb _=>hb.elim (λe=>(h.pw b e).1) λe=>e▸h.py,(h.ry.wrote hwq λe=>by have:=hbs _ e; omega).set 4 _,h.rx.wrote hw2 λe=>e.elim (λe=>by have:=hbs _ e; omega) λe=>hl.2.2 e.symm,?_,?_,hP _ h.py,hP _ h.px,?_,?_,h.lt⟩,⟨hw2.os,hw2.tape,hw2.output,hw2.size,λi hi hn=>hw2.block i hi λe=>hn (e.imp (λe=>hbs i e) id)⟩⟩
 ·exact h.hn.wrote hw2 λb hb e=>e.elim (λe=>(h.pw b e).2 (hb.resolve_left id)) λe=>by have:=(h.hn.row.lt b (hb.resolve_left id)).1;omega
 ·exact hown.wrote hwz λb hb e=>by have:=own b (hb.resolve_left id);omega
 ·intro b hb;exact hP b (h.pn b hb)
 ·intro b hb;rw[own b hb];exact⟨hPg,λe=>hat.elim (λk=>(h.pw g k).2 e) λk=>by have:=(h.pn g e).1; omega⟩
end
theorem yY {C:MC} {rec:List (List Int)->MS->Nat×MS} {p:Place} {s:MS} {w1:List Int} {s1:MS} (h:(if p.aC < 0 then ((dZ C rec p seen k s).weights ++ [1+((dZ C rec p seen k s).s.draw C 3).1],((dZ C rec p seen k s).s.draw C 3).2) else ((dZ C rec p seen k s).weights,(dZ C rec p seen k s).s))=(w1,s1)) :
  dZ C rec p seen (k+1) s=⟨w1,(dZ C rec p seen k s).next ++ [((rec (iK p k seen) s1).1:Int)],(rec (iK p k seen) s1).2⟩:=by
 show(⟨(if p.aC < 0 then ((dZ C rec p seen k s).weights ++ [1+((dZ C rec p seen k s).s.draw C 3).1],((dZ C rec p seen k s).s.draw C 3).2) else ((dZ C rec p seen k s).weights,(dZ C rec p seen k s).s)).1,_,_⟩:KS)=_;rw[h]
theorem ael {C:MC} {rec:List (List Int)->MS->Nat×MS} {p:Place} {seen:List (List Int)} {s:MS}:∀ k,(dZ C rec p seen k s).weights.length<=k/\(dZ C rec p seen k s).next.length=k
 | 0=>⟨FV _,rfl⟩
 | k+1=>by
  obtain⟨h1,h2⟩:=ael (C:=C) (rec:=rec) (p:=p) (seen:=seen) (s:=s) k;by_cases hp:p.aC < 0
  ·rw[yY (L8 hp)]; simp; omega
  ·rw[yY (L6 hp)]; simp; omega
theorem Below.wr {B:Nat} {a w w':FW} (h:Below B a w) (hw:Wrote K w w') (hB:B<=w.heap.size) (hK:∀ b,K b->B<=b):Below B a w' :=
 ⟨hw.os.trans h.os,hw.tape.trans h.tape,hw.output.trans h.output,Gf h.size hw.size,λi hi=>(hw.block i (Nat.lt_of_lt_of_le hi hB) (λe=>by have:=hK i e; omega)).trans (h.block i hi)⟩
theorem amc {S:Int} (h0:0<=S) (h1:S<=15) (hj:j<=4):bits BinOp.and IntKind.i64 (S / 2 ^ j) 1=if (S.toNat >>> j) % 2=1 then 1 else 0:=by
 obtain⟨n,rfl⟩:=Int.eq_ofNat_of_zero_le h0;have h:∀ n:Fin 16,∀ j:Fin 5,bits BinOp.and IntKind.i64 (((n:Nat):Int) / 2 ^ (j:Nat)) 1=if (((n:Nat):Int).toNat >>> (j:Nat)) % 2=1 then 1 else 0:=by decide +kernel
 exact h ⟨n,EN⟩ ⟨j,EN⟩
theorem akC {p:Place} (h:seen[j]? = some l):(iK p k seen)[j]? = some (l ++ [if (j:Int)=p.aC\/(p.seen.toNat >>> j) % 2=1 then (k:Int) else -1]):=by
 unfold iK;rw[List.getElem?_mapIdx,h];rfl
theorem node6 {w:FW} {a0 a1 a2 a3 a4 a5:F7} (h:Row w b t [a0,a1,a2,a3,a4,a5]) (v0 v1 v2 v3 v4 v5:F7):∃ W,W=((((((w.setCell ⟨b,0,none⟩ v0).setCell ⟨b,1,none⟩ v1).setCell ⟨b,2,none⟩ v2).setCell ⟨b,3,none⟩ v3).setCell ⟨b,4,none⟩ v4).setCell ⟨b,5,none⟩ v5) /\
  Row W b t [v0,v1,v2,v3,v4,v5]/\Wrote (λk=>k=b) w W:=by
 refine⟨_,rfl,?_,?_⟩
 ·exact(((((h.set 0 v0).set 1 v1).set 2 v2).set 3 v3).set 4 v4).set 5 v5
 ·have h0:Wrote (λk=>k=b) w w:=H6 _ _;exact(((((h0.setCell (p:=⟨b,0,none⟩) (.inl rfl) v0).setCell (p:=⟨b,1,none⟩) (.inl rfl) v1).setCell (p:=⟨b,2,none⟩) (.inl rfl) v2).setCell (p:=⟨b,3,none⟩) (.inl rfl) v3).setCell (p:=⟨b,4,none⟩) (.inl rfl) v4).setCell (p:=⟨b,5,none⟩) (.inl rfl) v5
theorem Tryz.infoNodeK:(Tryz.prog.info? 127).map (λi=>(i.zero,i.size,i.bytes))=some (some (.agg #[F6 F5 0,F6 F5 0,F6 F5 0,FQ none 0 0,FQ none 0 0,FQ none 0 0]),aaf.n,96):=ak
theorem aah {w:FW}:Aj w F (FQ none 0 0) []:=⟨none,0,rfl,FV _,λh=>absurd h aF⟩
def MS.begun (s:MS):MS:={ s with pending:=s.pending - 1,Fg:=s.Fg ++ [kN] }
theorem akD {C:MC} {s:MS} (h:level=C.levels.length):bW C (f+1) level seen s=(s.Fg.length,pY C s.Fg.length s.begun):=by
 unfold bW;simp only[h,if_true];rfl
theorem ait {C:MC} {s:MS} (h:level≠C.levels.length) (h8:(s.begun.draw C 8).1=1):bW C (f+1) level seen s=(s.Fg.length,pY C s.Fg.length (s.begun.draw C 8).2):=by
 unfold bW;simp only[h,if_false];exact L8 h8
theorem akE {C:MC} {s:MS} {p:Place} {o:Int×Int×MS} (h:level≠C.levels.length) (h8:(s.begun.draw C 8).1≠1) (hp:C.levels[level]? = some p) (ho:o=nN C p (level:Int) seen (s.begun.draw C 8).2) (hb:C.most < (s.Fg.length:Int)+1+o.2.2.pending+o.2.1) :
  bW C (f+1) level seen s=(s.Fg.length,pY C s.Fg.length (lQ o.1 p.aC o.2.2)):=by
 have e:C.levels.getD level default=p:=by rw[FU,hp];rfl
 subst ho;unfold bW;simp only[h,if_false,e];refine(L6 h8).trans ?_;exact L8 hb
theorem akF {C:MC} {s:MS} {p:Place} {o:Int×Int×MS} (h:level≠C.levels.length) (h8:(s.begun.draw C 8).1≠1) (hp:C.levels[level]? = some p) (ho:o=nN C p (level:Int) seen (s.begun.draw C 8).2) (hb:¬ C.most < (s.Fg.length:Int)+1+o.2.2.pending+o.2.1) :
  bW C (f+1) level seen s=(s.Fg.length,{ (dZ C (bW C f (level+1)) p seen o.2.1.toNat { o.2.2 with pending:=o.2.2.pending+o.2.1 }).s with Fg:=(dZ C (bW C f (level+1)) p seen o.2.1.toNat { o.2.2 with pending:=o.2.2.pending+o.2.1 }).s.Fg.set s.Fg.length (jL p o.1 (dZ C (bW C f (level+1)) p seen o.2.1.toNat { o.2.2 with pending:=o.2.2.pending+o.2.1 }).weights (dZ C (bW C f (level+1)) p seen o.2.1.toNat { o.2.2 with pending:=o.2.2.pending+o.2.1 }).next) }):=by
 have e:C.levels.getD level default=p:=by rw[FU,hp];rfl
 subst ho;unfold bW;simp only[h,if_false,e];refine(L6 h8).trans ?_;exact L6 hb
def Opened (C:MC) (M:ML) (Fd:FI) (vv vn vn2 vi:F7) (Ln:List NV) (s:MS) (xb:Nat) (p:Place) (W w':FW):Prop:=∃ (vv' vi':F7) (Lv':List VV),Up W vv vv'/\Up W vi vi'/\MAt C M Fd vv' vn2 vi' Lv' Ln s w'/\Wrote (Mut M.mb M.db vv vn vi) W w'/\Row w' xb 81 [F6 F5 p.aC,F6 F5 p.many,F6 F5 p.seen]/\BP M Fd vv' vn2 vi' w' xb
def Ee (p:Prop):Prop:=p
theorem aom {p:Prop} (h:Ee p):p:=h
def Cb (C:MC) (M:ML) (f:Nat):Prop:=∀ (level:Nat),level+f=C.levels.length+1->level<=C.levels.length->∀ (Fd:FI) (vv vn vi:F7) (Lv:List VV) (Ln:List NV) (s:MS) (W:FW) (nv:F7) (seen:List (List Int)),
  MAt C M Fd vv vn vi Lv Ln s W->Bg W Fd nv seen->(∀ l∈seen,l.length=level)->seen.length=C.ay.toNat->JM C 0 s->1<=s.pending ->
  Calls FY 37 #[.pointer (some ⟨M.mb,0,none⟩),F6 F5 (level:Int),nv] W λe w'=>e = .returned (F6 F5 ((bW C f level seen s).1:Int))/\Built C M Fd vv vn vi (bW C f level seen s).2 W w'
theorem agQ {C:MC} (hC:BL C) (hm:C.most<=1000) (hp1:1<=C.ay) (hp4:C.ay<=4) {M:ML} (ih:Cb C M f):Cb C M (f+1):=by
  intro level hf hl Fd vv vn vi Lv Ln s W nv seen h hs hsl hsp hj hpe;have IH:=Ac (ih (level+1));clear ih;have HM:=Ac h;have HS:=Ac hs;have HJ:=Ac hj;have HSL:=Ac hsl;have HSP:=Ac hsp;have HC:=Ac hC;have HLN:=Ac (show Ln.length=s.Fg.length by rw[<-h.rD,FX]);have hnl:Ln.length<=1000:=by have:=HJ.out.np;have:=HJ.out.p0;have:=HLN.out;omega
  have hpb:s.pending<=1000:=by have:=HJ.out.np;omega
  clear h hs hsl hsp hj hC;obtain⟨An,cn,hvn,hcn,_⟩:=HM.out.Fg.form;have HV:=Ac hvn;obtain⟨As,cs,rfl,hcs,_⟩:=id HS.out;have hbase:M.base<=W.heap.size:=Nat.le_of_lt (JD HM.out.fK.1 HM.out.box.lt);have m4:=HM.out.box.cell (i:=4) rfl;have m8:W.cell? ⟨M.mb,8,none⟩=some (FQ An Ln.length cn):=hvn▸HM.out.box.cell (i:=8) rfl;have f4:=HM.out.box.frozen 4;clear hvn;have hwp:IntKind.i64.wrap (s.pending - 1)=s.pending - 1:=GH _ EN;obtain⟨W1,hW1⟩:=FH (W.setCell ⟨M.mb,4,none⟩ (F6 F5 (s.pending - 1)));have HM1:=Ac (show MAt C M Fd vv vn vi Lv Ln { s with pending:=s.pending - 1 } W1 from hW1▸HM.out.acQ (s.pending - 1));have HW:=Ac (show Wrote (Mut M.mb M.db vv vn vi) W W1 from hW1▸Iu (H6 _ _) (.inl (.inl rfl)) _);have HY:=Ac hW1;clear hW1;go_in
  go_upto_region 3 with(fail)
  rw[<-HY.out];have k6:=HW.out.size;clear m4 m8 f4 HY hwp;have m8:=HM1.out.box.cell (i:=8) rfl;have aaR:vn.ownBlock≠some M.mb:=λe=>(HM1.out.eX _ e).1 rfl
  go_wp2_with (at_builtin; refine aom ?_)
  unfold Ee;refine kY (K:=aaf) (F:=Fd) (w:=W1) (W:=W1) rfl _ _ 24 127 96 _ Tryz.underlying24 Tryz.infoNodeK rfl aA rfl M.base (Gf hbase k6) vn Ln rfl ⟨kN,FQ none 0 0,FQ none 0 0,FQ none 0 0⟩ _ rfl EN rfl HM1.out.Fg ⟨aah,aah,aah⟩ ?_;intro g' cap wq hown' hwq hat' hlt';have m8:=aY m8 hwq aaR;have f8:=(HM1.out.box.wrote hwq aaR).frozen 8;have HO:=Ac hown';have HQ:=Ac hwq;have HA:=Ac hat';have HL:=Ac hlt';clear hown' hwq hat' hlt';obtain⟨W2,hW2,hm2,hw2⟩:=HM1.out.aik HO.out HQ.out HA.out HL.out;have HM2:=Ac (show MAt C M Fd vv (FQ (some ⟨g',0,none⟩) (Ln.length+1) cap) vi Lv (Ln ++ [⟨kN,FQ none 0 0,FQ none 0 0,FQ none 0 0⟩]) s.begun W2 from hm2);have HU:=Ac (amb (n:=Ln.length+1) (cap:=cap) HA.out k6);have HW2:=Ac (HW.out.trans hw2);have HY:=Ac hW2;have k7:W.heap.size<=W2.heap.size:=HW2.out.size;clear hW2 hm2 hw2 HO HQ HA HL HM1 HW;go_upto_region 4 with(fail)
  rw[<-HY.out];clear HY m8 f8 aaR k6;have HJ1:=Ac (show JM C 1 s.begun from HJ.out.push hpe);obtain⟨Al,cl,hvl,hcl,hgl⟩:=HM.out.lev.form;have m1:W2.cell? ⟨M.mb,1,none⟩=some (FQ Al C.levels.length cl):=hvl▸HM2.out.box.cell (i:=1) rfl;have m0:=HM2.out.box.cell (i:=0) rfl;have HVL:=Ac hvl;clear hvl;by_cases hle:level=C.levels.length
  ·have HB:=Ac (akD (f:=f) (seen:=seen) (s:=s) hle);have t1:((level:Int)==(C.levels.length:Int))=true:=by rw[hle];simp
   clear hle hf hl;have hlt:Ln.length < (Ln ++ [(⟨kN,FQ none 0 0,FQ none 0 0,FQ none 0 0⟩:NV)]).length:=aF;go_wp2_with (go_at_call 88; (with_reducible refine(acT HM2.out Ln.length hlt hp1 hp4).mono ?_); rintro e w' ⟨rfl,q,hq,hm3,hw3⟩)
   go_ret;exact⟨by rw[HB.out,<-HLN.out]; rfl,by rw[HB.out,<-HLN.out]; exact⟨_,_,_,_,_,_,λb hb=>.inl hb,λb hb=>hb.imp id λh=>by omega,Up.refl _ _,HU.out,Up.refl _ _,hm3,HW2.out.step hw3 λi hi e=>abp (Up.refl W _) HU.out (Up.refl W _) hi e⟩⟩
  have t1:((level:Int)==(C.levels.length:Int))=false:=aG;have HLE:=Ac hle;have hlv:level < C.levels.length:=EN;obtain⟨dv,hdv⟩:=FH ((s.begun.draw C 8).1);have HDV:=Ac hdv;obtain⟨s2,hs2⟩:=FH ((s.begun.draw C 8).2);have HS2:=Ac hs2;have HJ2:=Ac (show JM C 1 s2 by rw[hs2]; exact HJ1.out.at _);have h2n:s2.Fg=s.Fg ++ [kN]:=by rw[hs2];rfl
  have H2N:=Ac h2n;clear hle hs2 h2n;by_cases h8:dv=1
  ·have HB:=Ac (ait (f:=f) (seen:=seen) HLE.out (HDV.out▸h8));have t2:(dv==1)=true:=by simpa using h8
   have hlt:Ln.length < (Ln ++ [(⟨kN,FQ none 0 0,FQ none 0 0,FQ none 0 0⟩:NV)]).length:=aF;clear h8 hdv;go_wp2_with (first | (go_at_call 36; (with_reducible refine(agJ HM2.out 8 aA aA).mono ?_); rintro e w' ⟨rfl,hm3,hw3⟩; rw[<-HDV.out]; have HM3:=Ac (HS2.out▸hm3); have HW3:=Ac (HW2.out.step hw3 λi _ e=>.inr (.inl e)); have k8:=Gf k7 hw3.size; clear hw3 hm3) | (go_at_call 88; (with_reducible refine(acT HM3.out Ln.length hlt hp1 hp4).mono ?_); rintro e w' ⟨rfl,q,hq,hm4,hw4⟩))
   go_ret;exact⟨by rw[HB.out,<-HLN.out]; rfl,by rw[HB.out,<-HLN.out,<-HS2.out]; exact⟨_,_,_,_,_,_,λb hb=>.inl hb,λb hb=>hb.imp id λh=>by omega,Up.refl _ _,HU.out,Up.refl _ _,hm4,HW3.out.step hw4 λi hi e=>abp (Up.refl W _) HU.out (Up.refl W _) hi e⟩⟩
  have t2:(dv==1)=false:=by simpa using h8
  have HN8:=Ac h8;clear hdv;go_upto_region 7 with(go_at_call 36; (with_reducible refine(agJ HM2.out 8 aA aA).mono ?_); rintro e w3 ⟨rfl,hm3,hw3⟩; rw[<-HDV.out]; have HM3:=Ac (HS2.out▸hm3); have HW3:=Ac (HW2.out.step hw3 λi _ e=>.inr (.inl e)); have k8:=Gf k7 hw3.size; clear hw3 hm3)
  clear m0 m1 t1 t2 h8 k7 HM2 HW2;obtain⟨p,hp⟩:=FC hlv;have HP:=Ac hp;have HPO:=Ac (HC.out.pl p (FT hp));clear hp;have hlc:∃ g,Al=some ⟨g,0,none⟩/\∀ j u,(acP.cells p)[j]? = some u->w3.cell? ⟨g,level*3+j,none⟩=some u:=by
   obtain⟨g,rfl⟩:=hgl EN;have hx:=HM3.out.lev.at;rw[HVL.out] at hx;rcases hx with⟨h,_⟩ | ⟨g',cap,h,_,_,_,_,hx⟩
   ·simp at h
   ·simp only[Value.slice.injEq,Hu,Addr.mk.injEq,and_true,true_and] at h;obtain⟨rfl,_⟩:=h;exact⟨g,rfl,λj u hu=>by have:=hx level p HP.out j u hu; rw[Iz] at this; exact this⟩
  obtain⟨gl,rfl,hlc⟩:=hlc;have m1:w3.cell? ⟨M.mb,1,none⟩=some (FQ (some ⟨gl,0,none⟩) C.levels.length cl):=HVL.out▸HM3.out.box.cell (i:=1) rfl;have c0:w3.cell? ⟨gl,level*3,none⟩=some (F6 F5 p.aC):=hlc 0 _ rfl;have c1:w3.cell? ⟨gl,level*3+1,none⟩=some (F6 F5 p.many):=hlc 1 _ rfl;have c2:w3.cell? ⟨gl,level*3+2,none⟩=some (F6 F5 p.seen):=hlc 2 _ rfl;clear hlc hgl;go_upto_region 8 with(fail)
  obtain⟨w4,hw4,rx,hB4,hz4⟩:=aJ w3 81 #[F6 F5 p.aC,F6 F5 p.many,F6 F5 p.seen];rw[<-hw4];obtain⟨xb,hxb⟩:=FH w3.heap.size;rw[<-hxb] at rx ⊢;have hxW:W.heap.size<=xb:=EN;have HM4:=Ac (HM3.out.below hB4);have HPX:=Ac (HM3.out.abS (W':=w4) (b:=xb) EN EN);have HW4:=Ac (HW3.out.trans (Iq hB4 _));have k9:W.heap.size<=w4.heap.size:=HW4.out.size;have HXM:=Ac (show(∀ b,M.F b\/Fd b\/Mut M.mb M.db vv (FQ (some ⟨g',0,none⟩) (Ln.length+1) cap) vi b\/M.vl.ownBlock=some b->b < xb) from λb hb=>by rw[hxb]; exact HM3.out.ain hb);clear hw4 hB4 hz4 hxb c0 c1 c2 m1 HM3 HW3 k8;have x0:=rx.cell (i:=0) rfl;have x1:=rx.cell (i:=1) rfl;obtain⟨o,ho⟩:=FH (nN C p (level:Int) seen s2);have HO:=Ac ho;clear ho;go_upto_if 71 with(fail)
  obtain⟨bb,hbb⟩:=FH (decide (0<=p.aC));rw[<-hbb];have HBB:=Ac hbb;clear hbb;go_cut [9,10] from 69 to 90 (λv9 v10 wx=>v9 = F6 F5 o.2.1/\v10 = F6 F5 o.1/\Opened C M Fd vv vn (FQ (some ⟨g',0,none⟩) (Ln.length+1) cap) vi (Ln ++ [⟨kN,FQ none 0 0,FQ none 0 0,FQ none 0 0⟩]) o.2.2 xb p W wx)
  case first =>
   by_cases hp0:p.aC < 0
   ·obtain rfl:bb=false:=by rw[HBB.out];exact L9 EN
    have HO2:=Ac (show o=(0,p.many,s2) by rw[HO.out]; exact L8 hp0);clear hp0;go_wp2_with fail
    go_meet
    exact⟨by rw[HO2.out],by rw[HO2.out],vv,vi,Lv,Up.refl _ _,Up.refl _ _,by rw[HO2.out]; exact HM4.out,HW4.out,rx,HPX.out⟩
   ·obtain rfl:bb=true:=by rw[HBB.out];exact Mc EN
    obtain⟨P,hP⟩:∃ P:Nat,p.aC=(P:Int):=⟨p.aC.toNat,EN⟩;have hPs:P < seen.length:=by have:=HPO.out.1;have:=HSP.out;omega
    obtain⟨sl,hsl⟩:=FC hPs;have Eu:=Ac (HSL.out sl (FT hsl));have hsr:=Bg.on HS.out (HW4.out.same λb hb=>(HM.out.foot b hb).2.2);obtain⟨_,_,hse,_,hsr⟩:=hsr;obtain⟨bs,os,hbs,hbf,hbl,amd⟩:=hsr EN;simp only[Value.slice.injEq,true_and] at hse;obtain⟨rfl,rfl⟩:=hse;obtain⟨vs,hcs2,hvs⟩:=amd P sl hsl;rw[Gp] at hcs2;have HVS:=Ac hvs;have HO2:=Ac (show o=((kM C (P:Int) (level:Int) sl s2).1,((kM C (P:Int) (level:Int) sl s2).2.Fh.getD (kM C (P:Int) (level:Int) sl s2).1.toNat default).actions,(kM C (P:Int) (level:Int) sl s2).2) by
     rw[HO.out];have e:seen.getD p.aC.toNat []=sl:=by rw[hP,Gu,FU,hsl];rfl
     unfold nN;rw[L6 hp0,e,hP])
    have HPP:=Ac hP;have HJF:=Ac (HJ2.out.find (P:Int) (level:Int) sl (by rw[Eu.out]; have:=HC.out.len; omega));rw[hP] at x0;subst hbs;clear hp0 hP hsl hsr amd hvs;obtain⟨Av,cv,rfl,_⟩:=id HVS.out;have hxb4:∀ b,Mut M.mb M.db vv (FQ (some ⟨g',0,none⟩) (Ln.length+1) cap) vi b->b≠xb:=λb hb e=>by have:=HXM.out b (.inr (.inr (.inl hb)));omega
    have hbs4:∀ b,Mut M.mb M.db vv (FQ (some ⟨g',0,none⟩) (Ln.length+1) cap) vi b->b≠bs:=λb hb e=>(HM4.out.foot bs hbf).2.2 (e▸hb)
    clear x1;go_upto_region 10 with(fail)
    refine wp_region_held_drew (S:=λw'=>w'.cell? ⟨xb,0,none⟩=some (F6 F5 (P:Int))/\w'.cell? ⟨bs,os+P,none⟩=some (FQ Av sl.length cv)) ak ⟨x0,hcs2⟩ (λhHeld=>?_);have hb:Below w4.heap.size w4 w4.drew:=aI (F9 _ w4) 1;replace x0:=ah x0 hb;replace hcs2:=ah hcs2 hb;replace HM4:=Ac (HM4.out.below hb);replace HVS:=Ac (HVS.out.on (FZ hb Fd));replace rx:=rx.below hb rx.lt;replace HW4:=Ac (HW4.out.trans (Iq hb _));replace k9:=Gf k9 hb.size;replace HPX:=Ac (HPX.out.wider hb.size);clear hb;generalize w4.drew=wn at *;refine tkm [0,1,2,3,4,5,6,7,8] ?_;refine tk2 9 ak rfl λK hK=>?_
    go_simp;refine(akB HM4.out (P:Int) (level:Int) (FQ Av sl.length cv) sl HVS.out (by rw[Eu.out]; have:=HC.out.len; omega) (λv hv=>by have:=HJ2.out.vs v hv; omega) (by have:=HJ2.out.il; have:=HJ2.out.np; have:=HJ2.out.p0; omega) (by have:=HJ2.out.vl; have:=HJ2.out.il; have:=HJ2.out.np; have:=HJ2.out.p0; omega)).mono ?_;rintro e w5 ⟨rfl,vv',vi',Lv',hu1,hu2,hm5,hw5⟩;replace x0:=aY x0 hw5 (λe=>hxb4 _ e rfl);replace hcs2:=aY hcs2 hw5 (λe=>hbs4 _ e rfl);replace rx:=rx.wrote hw5 (λe=>hxb4 _ e rfl);have HU1:=Ac (Up.trans (Up.refl W vv) hu1 k9);have HU2:=Ac (Up.trans (Up.refl W vi) hu2 k9);replace HPX:=Ac (HPX.out.next (Fe:=Fd) hw5.size (λb hb=>.inl hb) hu1 (Up.refl _ _) hu2);have HM5:=Ac hm5;have HW5:=Ac (HW4.out.step hw5 λi hi e=>abp (Up.refl W _) HU.out (Up.refl W _) hi e);obtain⟨F2,hF2⟩:=FH (kM C (P:Int) (level:Int) sl s2);rw[<-hF2] at HM5 HO2 HJF ⊢;obtain⟨k,hk⟩:∃ k:Nat,F2.1=(k:Int):=⟨F2.1.toNat,by have:=HJF.out.2.2.2.1; omega⟩;have hkl:k < F2.2.Fh.length:=by have:=HJF.out.2.2.2.2;omega
    rw[hk] at HO2 ⊢;obtain⟨inf,gU⟩:=FC hkl;have HO3:=Ac (show o=((k:Int),inf.actions,F2.2) by rw[HO2.out,Gu,FU,gU]; rfl);have HIN:=Ac gU;clear hHeld hu1 hu2 hm5 hw5 hF2 hk gU HJF HO2 HM4 HW4 HVS;refine hK.out _ _ ⟨x0,hcs2⟩ (λhHeld=>?_);clear hK K;refine Zb ?_;refine tkm [10] ?_;refine Yf ?_;clear hHeld;obtain⟨Ai,ci,hvi,hci,hgi⟩:=HM5.out.Fh.form;obtain⟨gi,rfl⟩:=hgi EN;have m9:w5.cell? ⟨M.mb,9,none⟩=some (FQ (some ⟨gi,0,none⟩) F2.2.Fh.length ci):=hvi▸HM5.out.box.cell (i:=9) rfl;have hc1:w5.cell? ⟨gi,k*2+1,none⟩=some (F6 F5 inf.actions):=by
     have hx:=HM5.out.Fh.at;rw[hvi] at hx;rcases hx with⟨h,_⟩ | ⟨g2,cap2,h,_,_,_,_,hx⟩
     ·simp at h
     ·simp only[Value.slice.injEq,Hu,Addr.mk.injEq,and_true,true_and] at h;obtain⟨rfl,_⟩:=h;have:=hx k inf HIN.out 1 _ rfl;rw[Iz] at this;exact this
    have HVI:=Ac hvi;clear hvi hgi x0 hcs2;go_wp2_with fail
    go_meet
    exact⟨by rw[HO3.out],by rw[HO3.out],vv',vi',Lv',HU1.out,HU2.out,by rw[HO3.out]; exact HM5.out,HW5.out,rx,HPX.out⟩
  case rest =>
   obtain⟨rfl,rfl,vv1,vi1,Lv1,hu1,hu2,hm5,hw5,rx,hpx⟩:=hcut;replace HPX:=Ac hpx;clear hpx;obtain⟨o1,o2,o3,o4,o5,o6⟩:=JM.open HJ2.out p (by have:=HPO.out; omega) (level:Int) seen (λl hl=>by rw[HSL.out l hl]; have:=HC.out.len; omega);rw[<-HO.out] at o1 o2 o3 o4 o5 o6;have h2p:s2.pending=s.pending - 1:=by rw[HS2.out];rfl
   rw[h2p] at o2;rw[H2N.out] at o3;have hbig:=λhb=>akE (f:=f) (o:=o) HLE.out (by rw[<-HDV.out]; exact HN8.out) HP.out (by rw[<-HS2.out]; exact HO.out) hb
   have hmid:=λhb=>akF (f:=f) (o:=o) HLE.out (by rw[<-HDV.out]; exact HN8.out) HP.out (by rw[<-HS2.out]; exact HO.out) hb
   clear HO HJ2 HDV HN8 HS2 H2N h2p HM4 HW4 x0 x1 m8 HJ1;obtain⟨info,many,s3⟩:=o;dsimp only at o1 o2 o3 o4 o5 o6 hbig hmid hm5 ⊢;obtain⟨mn,rfl⟩:∃ mn:Nat,many=(mn:Int):=⟨many.toNat,EN⟩;have hmn:1<=mn/\mn<=3:=EN;have HBIG:=Ac hbig;have HMID:=Ac hmid;have HJ3:=Ac o1;have HM6:=Ac hm5;have HW6:=Ac hw5;have HU1:=Ac hu1;have HU2:=Ac hu2;have k9':W.heap.size<=wc.heap.size:=HW6.out.size;have hs3:Ln.length+1=s3.Fg.length:=by rw[o3,HLN.out];simp
   have HS3:=Ac hs3;have HO3:=Ac o3;obtain⟨pe,aon⟩:=FH s3.pending;have m3:=HM6.out.box.cell (i:=3) rfl;have m4:=HM6.out.box.cell (i:=4) rfl;rw[<-aon] at m4 o2;have HPE:=Ac aon;have hpeb:0<=pe/\pe<=1000:=EN;have hq1:IntKind.i64.wrap ((Ln.length:Int)+1)=(Ln.length:Int)+1:=GH _ EN;have hq2:IntKind.i64.wrap ((Ln.length:Int)+1+pe)=(Ln.length:Int)+1+pe:=GH _ EN;have hq3:IntKind.i64.wrap ((Ln.length:Int)+1+pe+(mn:Int))=(Ln.length:Int)+1+pe+(mn:Int):=GH _ EN;have HO2:=Ac o2;clear hbig hmid o1 o2 o3 o5 o6 hm5 hw5 hu1 hu2 hs3 aon k9;go_upto_region 12 with(fail)
   go_quiet (fail)
   obtain⟨Wq,hWq⟩:=FH (wc.drewN nq);have hbq:Below wc.heap.size wc Wq:=hWq▸aI (F9 _ wc) nq;replace HM6:=Ac (HM6.out.below hbq);replace HW6:=Ac (HW6.out.trans (Iq hbq _));replace rx:=rx.below hbq rx.lt;replace k9':=Gf k9' hbq.size;replace HPX:=Ac (HPX.out.wider hbq.size);rw[<-hWq];clear hWq hbq m3 m4;obtain⟨bb2,aoo⟩:=FH (decide (C.most < (Ln.length:Int)+1+pe+(mn:Int)));rw[<-aoo];have EK:=Ac aoo;clear aoo;have aop:M.base<=Wq.heap.size:=Gf hbase k9';have hlt1:Ln.length < (Ln ++ [(⟨kN,FQ none 0 0,FQ none 0 0,FQ none 0 0⟩:NV)]).length:=aF;have x0:=rx.cell (i:=0) rfl;by_cases hb:C.most < (Ln.length:Int)+1+pe+(mn:Int)
   ·obtain rfl:bb2=true:=by rw[EK.out];exact Mc hb
    have HB:=Ac (HBIG.out (by rw[<-HPE.out,<-HLN.out]; exact hb));have hil:=HJ3.out.il;have hnp:=HJ3.out.np;have hp0:=HJ3.out.p0;have hvl:=HJ3.out.vl;have h3l:s3.Fh.length<=1000000:=EN;have hl2:(Ln ++ [(⟨kN,FQ none 0 0,FQ none 0 0,FQ none 0 0⟩:NV)]).length<=1000000:=aG;clear hb hil hnp hp0;have HVL2:=Ac hvl;clear hvl;go_wp2_with (first | (go_at_call 90; (with_reducible refine(akw HM6.out info p.aC o4 EN HVL2.out h3l hl2).mono ?_); rintro e w7 ⟨rfl,vv2,vi2,Lv2,he1,he2,hm7,hw7⟩; have HM7:=Ac hm7; have HE:=Ac (And.intro he1 he2); have k10:=Gf k9' hw7.size; have HW7:=Ac (HW6.out.step hw7 λi hi e=>abp HU1.out HU.out HU2.out hi e); clear hw7 hm7 he1 he2) | (go_at_call 88; (with_reducible refine(acT HM7.out Ln.length hlt1 hp1 hp4).mono ?_); rintro e w8 ⟨rfl,q,hq,hm8,hw8⟩))
    go_ret;have hu1:Up W vv vv2:=λb hb=>HU1.out b (by rw[<-HE.out.1]; exact hb)
    have hu2:Up W vi vi2:=λb hb=>HU2.out b (by rw[<-HE.out.2]; exact hb)
    exact⟨by rw[HB.out,<-HLN.out]; rfl,by rw[HB.out,<-HLN.out]; exact⟨_,_,_,_,_,_,λb hb=>.inl hb,λb hb=>hb.imp id λh=>by omega,hu1,HU.out,hu2,hm8,HW7.out.step hw8 λi hi e=>abp hu1 HU.out hu2 hi e⟩⟩
   obtain rfl:bb2=false:=by rw[EK.out];exact L9 hb
   have HB:=Ac (HMID.out (by rw[<-HPE.out,<-HLN.out]; exact hb));have m4:=HM6.out.box.cell (i:=4) rfl;have f4:=HM6.out.box.frozen 4;rw[<-HPE.out] at m4;have hq4:IntKind.i64.wrap (pe+(mn:Int))=pe+(mn:Int):=GH _ EN;obtain⟨s4,hs4⟩:∃ s4:MS,s4 = { s3 with pending:=s3.pending+(mn:Int) }:=⟨_,rfl⟩;rw[<-hs4] at HB;obtain⟨W7,hW7⟩:=FH (Wq.setCell ⟨M.mb,4,none⟩ (F6 F5 (pe+(mn:Int))));have HM7:=Ac (show MAt C M Fd vv1 (FQ (some ⟨g',0,none⟩) (Ln.length+1) cap) vi1 Lv1 (Ln ++ [⟨kN,FQ none 0 0,FQ none 0 0,FQ none 0 0⟩]) s4 W7 by rw[hW7,hs4,<-HPE.out]; exact HM6.out.acQ (pe+(mn:Int)));have hw7:Wrote (λb=>b=M.mb) Wq W7:=hW7▸Iu (K:=λb=>b=M.mb) (p:=⟨M.mb,4,none⟩) (H6 _ _) (.inl rfl) _;have hxmb:M.mb≠xb:=λe=>HPX.out.2.2.2.1 (.inl e.symm)
   have HW7:=Ac (HW6.out.step hw7 λi hi e=>.inl e);have HJ4:=Ac (show JM C 0 s4 by
    rw[hs4];refine⟨HJ3.out.vl,HJ3.out.vi,HJ3.out.il,?_,?_,HJ3.out.vs,HJ3.out.ac⟩
    ·show(s3.Fg.length:Int)+(s3.pending+(mn:Int))<=C.most;rw[<-HPE.out,<-HS3.out];omega
    ·show 0<=s3.pending+(mn:Int);rw[<-HPE.out]; omega)
   have HN4:=Ac (show Ln.length+1=s4.Fg.length by rw[hs4]; exact HS3.out);have HP4:=Ac (show s4.pending=pe+(mn:Int) by rw[hs4]; show s3.pending+(mn:Int)=_; rw[<-HPE.out]);have rx7:=rx.wrote hw7 (λe=>hxmb e.symm);replace HPX:=Ac (HPX.out.wider hw7.size);have k10:=Gf k9' hw7.size;have HY:=Ac hW7;clear hs4 hW7 HM6 HW6 rx k9' HJ3 hb x0 hw7;go_upto_region 17 with(fail)
   rw[<-HY.out];clear HY m4 f4;go_upto_region 18 with(fail)
   obtain⟨w8,hw8,ry,hB8,hz8⟩:=aJ W7 127 #[F6 F5 1,F6 F5 0,F6 F5 0,FQ none 0 0,FQ none 0 0,FQ none 0 0];rw[<-hw8];obtain⟨yb,hyb⟩:=FH W7.heap.size;rw[<-hyb] at ry ⊢;have HPY:=Ac (HM7.out.abS (W':=w8) (b:=yb) EN EN);replace HPX:=Ac (HPX.out.wider hB8.size);have hxy:yb≠xb:=by have:=rx7.lt;omega
   have hyW:W.heap.size<=yb:=EN;have HM8:=Ac (HM7.out.below hB8);have HW8:=Ac (HW7.out.trans (Iq hB8 _));have rx8:=rx7.below hB8 rx7.lt;have k11:W.heap.size<=w8.heap.size:=HW8.out.size;clear hw8 hyb hB8 hz8 rx7 HM7 HW7 k10;obtain⟨hd,hhd⟩:=FH (jL p info [] []);have HHD:=Ac hhd;clear hhd;have x0:=rx8.cell (i:=0) rfl;go_upto_if 126 with(fail)
   obtain⟨bb3,aoq⟩:=FH (decide (0<=p.aC));rw[<-aoq];have EL:=Ac aoq;clear aoq;go_cut [] from 124 to 130 (λwx=>Row wx yb 127 [F6 F5 hd.kind,F6 F5 hd.aC,F6 F5 hd.info,FQ none 0 0,FQ none 0 0,FQ none 0 0]/\Wrote (λb=>b=yb) w8 wx)
   case first =>
    by_cases hp0:p.aC < 0
    ·obtain rfl:bb3=false:=by rw[EL.out];exact L9 EN
     have HH:=Ac (show hd.kind=1/\hd.aC=0/\hd.info=0 by rw[HHD.out]; unfold jL; rw[L8 hp0]; exact⟨rfl,rfl,rfl⟩);clear hp0;go_wp2_with fail
     go_meet
     exact⟨by rw[HH.out.1,HH.out.2.1,HH.out.2.2]; exact ry,H6 _ _⟩
    ·obtain rfl:bb3=true:=by rw[EL.out];exact Mc EN
     have HH:=Ac (show hd.kind=2/\hd.aC=p.aC/\hd.info=info by rw[HHD.out]; unfold jL; rw[L6 hp0]; exact⟨rfl,rfl,rfl⟩);clear hp0;have y0:=ry.cell (i:=0) rfl;have f0:=ry.frozen 0;have y1:=ry.cell (i:=1) rfl;have f1:=ry.frozen 1;have y2:=ry.cell (i:=2) rfl;have f2:=ry.frozen 2;have y3:=ry.cell (i:=3) rfl;have f3:=ry.frozen 3;have y4:=ry.cell (i:=4) rfl;have f4:=ry.frozen 4;have y5:=ry.cell (i:=5) rfl;have f5:=ry.frozen 5;obtain⟨W9,hW9,ry9,hw9⟩:=node6 ry (F6 F5 2) (F6 F5 p.aC) (F6 F5 info) (FQ none 0 0) (FQ none 0 0) (FQ none 0 0);have HY:=Ac hW9;have HR9:=Ac ry9;have HW9:=Ac hw9;clear hW9 ry9 hw9;go_wp2_with fail
     rw[<-HY.out];go_meet
     exact⟨by rw[HH.out.1,HH.out.2.1,HH.out.2.2]; exact HR9.out,HW9.out⟩
   case rest =>
    obtain⟨ry9,hw9⟩:=hcut;have HK:=Ac (show KAt C M Fd vv1 (FQ (some ⟨g',0,none⟩) (Ln.length+1) cap) vi1 Lv1 (Ln ++ [⟨kN,FQ none 0 0,FQ none 0 0,FQ none 0 0⟩]) s4 hd p w8.heap.size yb xb (FQ none 0 0) (FQ none 0 0) [] [] wc from
     ⟨HM8.out.priv hw9 λb e _=>by subst e; exact HPY.out,ry9,rx8.wrote hw9 (λe=>hxy e.symm),OwnSl.nil _ _ _ _ _,OwnSl.nil _ _ _ _ _,HPY.out.wider hw9.size,HPX.out.wider hw9.size,λb e=>(by cases e),λb e=>(by cases e),⟨ry.lt,rx8.lt,hxy⟩⟩)
    have HW9:=Ac (HW8.out.step hw9 λi hi e=>by omega);obtain⟨w9,hw9e⟩:∃ w9:FW,w9=wc:=⟨_,rfl⟩;have k12:w8.heap.size<=wc.heap.size:=hw9.size;clear ry9 hw9 HM8 HW8 HPY HPX ry rx8 x0 HXM HBIG HS3 HO3 HPE hq1 hq2 hq3 hq4 HO2 aop hlt1 EK HBB EL hxmb HMID;obtain⟨KK,hKK⟩:∃ KK:Nat->KS,KK=λk=>dZ C (bW C f (level+1)) p seen k s4:=⟨_,rfl⟩
    have HKK:=Ac (λk=>congrFun hKK k);have HK0:=Ac (show KK 0=⟨[],[],s4⟩ by rw[hKK]; rfl);clear hKK;go_wp2
    go_loopw [12] (λiv wr=>∃ (k:Nat) (Fe:FI) (vv' vn' vi':F7) (Lv':List VV) (Ln':List NV) (un uw:F7),k<=mn/\iv = F6 F5 (k:Int)/\Hid ((∀ b,Fd b->Fe b)/\(∀ b,Fe b->Fd b\/W.heap.size<=b)/\Up W vv vv'/\Up W vn vn'/\Up W vi vi')/\Hid (KAt C M Fe vv' vn' vi' Lv' Ln' (KK k).s hd p w8.heap.size yb xb un uw (KK k).next (KK k).weights wr)/\Hid (Wrote (Mut M.mb M.db vv vn vi) W wr)/\w8.heap.size<=wr.heap.size) (λiv _=>mn - (intOf iv).toNat)
    case atStart=>exact⟨0,Fd,_,_,_,_,_,_,_,GR _,rfl,Ac ⟨λ_ h=>h,λ_ h=>.inl h,HU1.out,HU.out,HU2.out⟩,by rw[HK0.out]; exact HK,HW9,k12⟩
    case round =>
     clear HK HW9 hw9e k12 w9;obtain⟨k,Fe,vv',vn',vi',Lv',Ln',un,uw,hk,rfl,HF,HK,HW,k13⟩:=hrel;by_cases hkt:k < mn
     ·have t0:decide ((k:Int) < (mn:Int))=true:=Mc EN;obtain⟨hJk,hPk,_⟩:=afg (C:=C) (rec:=bW C f (level+1)) (p:=p) HSL.out (λsn t hsn ht hpt=>by
       obtain⟨a,b,c⟩:=abR HC.out f (level+1) sn t EN EN hsn ht hpt;exact⟨a,b,EN⟩) k s4 HJ4.out (by rw[HP4.out]; omega)
      rw[<-HKK.out k] at hJk hPk;rw[HP4.out] at hPk;obtain⟨w1,s1,hd1⟩:∃ w1 s1,(if p.aC < 0 then ((KK k).weights ++ [1+((KK k).s.draw C 3).1],((KK k).s.draw C 3).2) else ((KK k).weights,(KK k).s))=(w1,s1):=⟨_,_,rfl⟩;have HS1:=Ac (show KK (k+1)=⟨w1,(KK k).next ++ [((bW C f (level+1) (iK p k seen) s1).1:Int)],(bW C f (level+1) (iK p k seen) s1).2⟩ by
       rw[HKK.out k] at hd1 ⊢;rw[HKK.out (k+1)];exact yY hd1)
      obtain⟨Kk,hKk⟩:=FH (KK k);rw[<-hKk] at HK HS1 hd1 hJk hPk;have HKq:=Ac hKk;clear hKk;obtain⟨wk,nk,sk⟩:=Kk;dsimp only at HK HS1 hd1 hJk hPk;have hJ1:JM C 0 s1/\1<=s1.pending:=by
       by_cases hp0:p.aC < 0
       ·rw[L8 hp0] at hd1;injection hd1 with _ e
        rw[<-e];exact⟨hJk.at _,by show 1<=sk.pending; omega⟩
       ·rw[L6 hp0] at hd1;injection hd1 with _ e
        rw[<-e];exact⟨hJk,EN⟩
      have hlen:wk.length<=k/\nk.length=k:=by
       have:=ael (C:=C) (rec:=bW C f (level+1)) (p:=p) (seen:=seen) (s:=s4) k;rw[<-HKK.out k,<-HKq.out] at this;exact this
      have HLEN:=Ac hlen;clear hlen;have HJ1:=Ac hJ1;have HJk:=Ac hJk;have HD1:=Ac hd1;clear hJ1 hJk hPk hd1;have x0:=HK.out.rx.cell (i:=0) rfl;go_upto_if 138 with(fail)
      obtain⟨bb4,aor⟩:=FH (decide (p.aC < 0));rw[<-aor];have HBB4:=Ac aor;clear aor;go_cut [] from 139 to 149 (λwx=>∃ uw',KAt C M Fe vv' vn' vi' Lv' Ln' s1 hd p w8.heap.size yb xb un uw' nk w1 wx/\Wrote (Mut M.mb M.db vv vn vi) W wx/\w8.heap.size<=wx.heap.size)
      case first =>
       by_cases hp0:p.aC < 0
       ·obtain rfl:bb4=true:=by rw[HBB4.out];exact Mc hp0
        have hd1:=HD1.out;rw[L8 hp0] at hd1;injection hd1 with e1 e2
        have hdv:=jc C.L sk.at' (n:=3) aA;obtain⟨dv2,ais⟩:=FH ((sk.draw C 3).1);have hdb:0<=dv2/\dv2 < 3:=by rw[ais];exact hdv
        rw[<-ais] at e1;have HDV2:=Ac ais;have HE1:=Ac e1;have HE2:=Ac e2;have hwd:IntKind.i64.wrap (1+dv2)=1+dv2:=GH _ EN;have hwl:wk.length<=1000000:=by have:=HLEN.out;omega
        have m0:=HK.out.m.box.cell (i:=0) rfl;have y4:=HK.out.ry.cell (i:=4) rfl;clear hp0 e1 e2 hdv ais x0;go_wp2_with fail
        refine aW (λw'=>w'.cell? ⟨M.mb,0,none⟩=some (.pointer (some ⟨M.db,0,none⟩))/\w'.cell? ⟨yb,4,none⟩=some (uw)) 10 2 ak rfl ak ?_;have hHeld:(λw':FW=>w'.cell? ⟨M.mb,0,none⟩=some (.pointer (some ⟨M.db,0,none⟩))/\w'.cell? ⟨yb,4,none⟩=some (uw)) wr.drew:=⟨m0,y4⟩;refine zac ?_;intro hb;replace m0:=ah m0 hb;replace y4:=ah y4 hb;replace HK:=Ac (HK.out.below hb);replace HW:=Ac (HW.out.trans (Iq hb _));replace k13:=Gf k13 hb.size;clear hb;generalize wr.drew=wn at *;refine tkm [0,1,2,3,4,5] ?_;refine tk2 6 ak rfl λK hK=>?_
        go_simp;refine(agJ HK.out.m 3 aA aA).mono ?_;rintro e wm ⟨rfl,hm2,hw2⟩;rw[<-HDV2.out];replace m0:=aY m0 hw2 HK.out.m.fK.2.2;replace y4:=aY y4 hw2 (λe=>HK.out.py.2.2.2.1 (.inr (.inl e)));replace HW:=Ac (HW.out.step hw2 λi _ e=>.inr (.inl e));replace k13:=Gf k13 hw2.size;replace HK:=Ac (HK.out.wrote hm2 hw2 λb e=>.inr (.inl e));clear hw2 hm2 hHeld;refine hK.out _ _ ⟨m0,y4⟩ (λhHeld=>?_);clear hK K;refine Zb ?_;refine tkm [7] ?_;refine tk2 8 ak rfl λK hK=>?_
        go_simp;refine hK.out _ _ ⟨dX m0 _,dX y4 _⟩ (λhHeld=>?_);clear hK K;refine Zb ?_;refine tk2 9 ak rfl λK hK=>?_
        refine nO (K:=rE) (F:=λ_=>False) (W:=wm) rfl _ _ 22 3 8 _ Ic JQ rfl aA rfl w8.heap.size k13 uw wk rfl (1+dv2) _ rfl hwl rfl HK.out.hw trivial ?_;intro g2 cap2 wq2 hown' hwq hat' hlt';have hymb:uw.ownBlock≠some M.mb:=λe=>(HK.out.pw _ e).1.2.2.2.1 (.inl rfl)
        have aiu:uw.ownBlock≠some yb:=λe=>by have:=(HK.out.hw.row.lt _ e).1;have:=HK.out.lt.1;omega
        replace m0:=aY m0 hwq hymb;replace y4:=aY y4 hwq aiu;have ff:=(HK.out.ry.wrote hwq aiu).frozen 4;obtain⟨Wz,hWz,hkz,hwz⟩:=HK.out.aoO hown' hwq hat';replace HW:=Ac (HW.out.step hwz λi hi e=>by omega);replace k13:=Gf k13 hwz.size;have HKZ:=Ac hkz;have HY:=Ac hWz;clear hown' hwq hat' hlt' hHeld hkz hWz hwz HK hymb aiu;refine hK.out _ _ ⟨m0,y4⟩ (λhHeld=>?_);clear hK K;refine Zb ?_;refine Yf ?_;clear hHeld m0;refine zaf ?_;go_wp2
        refine zaf ?_;go_wp2
        rw[<-HY.out];unfold Bj;refine ZR ?_;go_wp2
        go_meet
        exact⟨_,by rw[<-HE1.out,<-HE2.out]; exact HKZ.out,HW.out,k13⟩
       ·obtain rfl:bb4=false:=by rw[HBB4.out];exact L9 hp0
        have hd1:=HD1.out;rw[L6 hp0] at hd1;injection hd1 with e1 e2
        subst e1 e2;clear hp0;go_wp2_with fail
        go_meet
        exact⟨uw,HK.out,HW.out,k13⟩
      case rest =>
       obtain⟨uw2,hk2,hw2,k14⟩:=hcut;have HK2:=Ac hk2;have HW2:=Ac hw2;have HSc:=Ac (Bg.on HS.out (hw2.same λb hb=>(HM.out.foot b hb).2.2));clear hk2 hw2 HK HW x0 k13;obtain⟨w10,rfl⟩:∃ w10:FW,w10=wc:=⟨_,rfl⟩;have HNL:=Ac (show(iK p k seen).length=seen.length by unfold iK; simp);have HP0:=Ac HPO.out;have hsl5:level<=5:=by have:=HC.out.len;omega
       have hsl4:seen.length<=4:=by rw[HSP.out];omega
       go_wp2
       go_loopw [13,14] (λu iv wq=>∃ (j:Nat) (LL:List (F7×List Int)),j<=seen.length/\iv = F6 F5 (j:Int)/\Hid (LL.length=j/\LL.map Prod.snd=(iK p k seen).take j)/\Hid (OwnSl aek wq w10.heap.size 22 (λb=>w10.heap.size<=b) u LL)/\Hid (Below w10.heap.size w10 wq)) (λ_ iv _=>seen.length - (intOf iv).toNat)
       case atStart=>exact⟨0,[],GR _,rfl,Ac ⟨rfl,rfl⟩,Ac (OwnSl.nil _ _ _ _ _),Ac (F9 _ _)⟩
       case round =>
        obtain⟨j,LL,hj,rfl,HLL,HO,HB2⟩:=hrel;by_cases hjt:j < seen.length
        ·skip
         have t1:decide ((j:Int) < (seen.length:Int))=true:=Mc EN;obtain⟨sl,hsl⟩:=FC hjt;have Eu:=Ac (HSL.out sl (FT hsl));have hsr:=Bg.on HSc.out (FZ HB2.out Fd);obtain⟨_,_,hse,_,hsr⟩:=hsr;obtain⟨bs,os,hbs,hbf,hbl,amd⟩:=hsr EN;simp only[Value.slice.injEq,true_and] at hse;obtain⟨rfl,rfl⟩:=hse;obtain⟨vs,hcs2,hvs⟩:=amd j sl hsl;rw[Gp] at hcs2;obtain⟨Av,cv,rfl,_⟩:=id hvs;have HVS:=Ac hvs;have HSJ:=Ac hsl;subst hbs;have x0:=(HK2.out.rx.below HB2.out HK2.out.rx.lt).cell (i:=0) rfl;have x2:=(HK2.out.rx.below HB2.out HK2.out.rx.lt).cell (i:=2) rfl;have aiv:sl.length<=1000000:=by rw[Eu.out];omega
         clear hsr amd hvs hsl;have hb10:=HB2.out.size;have aos:LL.length<=1000000:=by rw[HLL.out.1];have:=HSP.out;omega
         have EM:=Ac (akC (p:=p) (k:=k) HSJ.out);by_cases hjp:(j:Int)=p.aC
         ·have tj:((j:Int)==p.aC)=true:=by simp[hjp]
          have HX:=Ac (show(iK p k seen)[j]? = some (sl ++ [(k:Int)]) by rw[EM.out,L8 (.inl hjp)]);clear hjp;go_wp2_with (at_builtin; first | (refine qM (F:=Fd) rfl _ _ rfl (FQ Av sl.length cv) sl rfl rfl HVS.out aiv ?_; intro g2 cap2 wq2 hown2 qA aot; replace x0:=ah x0 qA; replace x2:=ah x2 qA; have HB3:=Ac qA; have HOW:=Ac hown2; have k20:=qA.size; clear hown2 qA) | ((refine kY (K:=rE) (F:=λ_=>False) (w:=wq2) (W:=wq2) rfl _ _ 22 3 8 _ Ic JQ rfl aA rfl wr.heap.size k20 (FQ (some ⟨g2,0,none⟩) sl.length cap2) sl rfl ((k:Int)) _ rfl aiv rfl HOW.out trivial ?_; intro g3 cap3 wq3 hown3 agR ame hlt3; have Dc:=Ac hown3; have HB4:=Ac (Below.wr HB3.out agR k20 λb e=>(HOW.out.row.lt b e).1); have HO4:=Ac (HO.out.below HB4.out); have k21:=Gf hb10 HB4.out.size; clear hown3 agR ame hlt3)) | ((refine kY (K:=aek) (F:=λb=>w10.heap.size<=b) (w:=wq3) (W:=wq3) rfl _ _ 83 22 24 _ Kw Tryz.infoListK rfl aA rfl w10.heap.size k21 u13 LL rfl (FQ (some ⟨g3,0,none⟩) (sl.length+1) cap3,sl ++ [(k:Int)]) _ rfl aos rfl HO4.out (Dc.out.ints λb e=>⟨by have:=(Dc.out.row.lt b e).1; omega,λe2=>by have:=(Dc.out.row.lt b e).1; have:=(HO.out.row.lt b e2).2; omega⟩) ?_; intro g4 cap4 wq4 hown4 agS amf hlt4; have HO5:=Ac hown4; have HB5:=Ac (Below.wr (HB2.out.trans (HB4.out.mono hb10)) agS k21 λb e=>(HO4.out.row.lt b e).1); clear hown4 agS amf hlt4)))
          go_roundw
          case rel=>exact⟨j+1,LL ++ [(FQ (some ⟨g3,0,none⟩) (sl.length+1) cap3,sl ++ [(k:Int)])],EN,by go_num,Ac ⟨by rw[Gn,HLL.out.1]; rfl,by rw[GL,HLL.out.2,FP HX.out]; rfl⟩,HO5,HB5⟩
          case measure=>simp[intOf]; omega
         ·have tj:((j:Int)==p.aC)=false:=by simp[hjp]
          have HJP:=Ac hjp;clear hjp;go_upto_if 173 with(at_builtin; refine qM (F:=Fd) rfl _ _ rfl (FQ Av sl.length cv) sl rfl rfl HVS.out aiv ?_; intro g2 cap2 wq2 hown2 qA aot; replace x0:=ah x0 qA; replace x2:=ah x2 qA; have HB3:=Ac qA; have HOW:=Ac hown2; have k20:=qA.size; clear hown2 qA)
          obtain⟨bv,hbv⟩:=FH (bits BinOp.and IntKind.i64 (p.seen / 2 ^ j) 1);rw[<-hbv];have hjp:=HJP.out;rw[amc HP0.out.2.2.2.2.1 HP0.out.2.2.2.2.2 EN] at hbv;by_cases hjb:(p.seen.toNat >>> j) % 2=1
          ·rw[L8 hjb] at hbv;subst hbv;have HX:=Ac (show(iK p k seen)[j]? = some (sl ++ [(k:Int)]) by rw[EM.out,L8 (.inr hjb)]);clear hjp hjb;go_wp2_with (at_builtin; first | (refine qM (F:=Fd) rfl _ _ rfl (FQ Av sl.length cv) sl rfl rfl HVS.out aiv ?_; intro g2 cap2 wq2 hown2 qA aot; replace x0:=ah x0 qA; replace x2:=ah x2 qA; have HB3:=Ac qA; have HOW:=Ac hown2; have k20:=qA.size; clear hown2 qA) | ((refine kY (K:=rE) (F:=λ_=>False) (w:=wq2) (W:=wq2) rfl _ _ 22 3 8 _ Ic JQ rfl aA rfl wr.heap.size k20 (FQ (some ⟨g2,0,none⟩) sl.length cap2) sl rfl ((k:Int)) _ rfl aiv rfl HOW.out trivial ?_; intro g3 cap3 wq3 hown3 agR ame hlt3; have Dc:=Ac hown3; have HB4:=Ac (Below.wr HB3.out agR k20 λb e=>(HOW.out.row.lt b e).1); have HO4:=Ac (HO.out.below HB4.out); have k21:=Gf hb10 HB4.out.size; clear hown3 agR ame hlt3)) | ((refine kY (K:=aek) (F:=λb=>w10.heap.size<=b) (w:=wq3) (W:=wq3) rfl _ _ 83 22 24 _ Kw Tryz.infoListK rfl aA rfl w10.heap.size k21 u13 LL rfl (FQ (some ⟨g3,0,none⟩) (sl.length+1) cap3,sl ++ [(k:Int)]) _ rfl aos rfl HO4.out (Dc.out.ints λb e=>⟨by have:=(Dc.out.row.lt b e).1; omega,λe2=>by have:=(Dc.out.row.lt b e).1; have:=(HO.out.row.lt b e2).2; omega⟩) ?_; intro g4 cap4 wq4 hown4 agS amf hlt4; have HO5:=Ac hown4; have HB5:=Ac (Below.wr (HB2.out.trans (HB4.out.mono hb10)) agS k21 λb e=>(HO4.out.row.lt b e).1); clear hown4 agS amf hlt4)))
           go_roundw
           case rel=>exact⟨j+1,LL ++ [(FQ (some ⟨g3,0,none⟩) (sl.length+1) cap3,sl ++ [(k:Int)])],EN,by go_num,Ac ⟨by rw[Gn,HLL.out.1]; rfl,by rw[GL,HLL.out.2,FP HX.out]; rfl⟩,HO5,HB5⟩
           case measure=>simp[intOf]; omega
          ·rw[L6 hjb] at hbv;subst hbv;have HX:=Ac (show(iK p k seen)[j]? = some (sl ++ [(-1)]) by rw[EM.out,L6 (by rintro(e | e); exact hjp e; exact hjb e)]);clear hjp hjb;go_wp2_with (at_builtin; first | (refine qM (F:=Fd) rfl _ _ rfl (FQ Av sl.length cv) sl rfl rfl HVS.out aiv ?_; intro g2 cap2 wq2 hown2 qA aot; replace x0:=ah x0 qA; replace x2:=ah x2 qA; have HB3:=Ac qA; have HOW:=Ac hown2; have k20:=qA.size; clear hown2 qA) | ((refine kY (K:=rE) (F:=λ_=>False) (w:=wq2) (W:=wq2) rfl _ _ 22 3 8 _ Ic JQ rfl aA rfl wr.heap.size k20 (FQ (some ⟨g2,0,none⟩) sl.length cap2) sl rfl ((-1)) _ rfl aiv rfl HOW.out trivial ?_; intro g3 cap3 wq3 hown3 agR ame hlt3; have Dc:=Ac hown3; have HB4:=Ac (Below.wr HB3.out agR k20 λb e=>(HOW.out.row.lt b e).1); have HO4:=Ac (HO.out.below HB4.out); have k21:=Gf hb10 HB4.out.size; clear hown3 agR ame hlt3)) | ((refine kY (K:=aek) (F:=λb=>w10.heap.size<=b) (w:=wq3) (W:=wq3) rfl _ _ 83 22 24 _ Kw Tryz.infoListK rfl aA rfl w10.heap.size k21 u13 LL rfl (FQ (some ⟨g3,0,none⟩) (sl.length+1) cap3,sl ++ [(-1)]) _ rfl aos rfl HO4.out (Dc.out.ints λb e=>⟨by have:=(Dc.out.row.lt b e).1; omega,λe2=>by have:=(Dc.out.row.lt b e).1; have:=(HO.out.row.lt b e2).2; omega⟩) ?_; intro g4 cap4 wq4 hown4 agS amf hlt4; have HO5:=Ac hown4; have HB5:=Ac (Below.wr (HB2.out.trans (HB4.out.mono hb10)) agS k21 λb e=>(HO4.out.row.lt b e).1); clear hown4 agS amf hlt4)))
           go_roundw
           case rel=>exact⟨j+1,LL ++ [(FQ (some ⟨g3,0,none⟩) (sl.length+1) cap3,sl ++ [(-1)])],EN,by go_num,Ac ⟨by rw[Gn,HLL.out.1]; rfl,by rw[GL,HLL.out.2,FP HX.out]; rfl⟩,HO5,HB5⟩
           case measure=>simp[intOf]; omega
        ·have hje:j=seen.length:=EN;subst hje;have t1:decide ((seen.length:Int) < (seen.length:Int))=false:=L9 EN;obtain⟨bm,hbm⟩:=FH (bW C f (level+1) (iK p k seen) s1);have HBM:=Ac hbm;rw[<-hbm] at HS1;clear hbm;have HNV:=Ac (show Bg wr (λb=>Fe b\/(w10.heap.size<=b/\b < wr.heap.size)) u13 (iK p k seen) by
          have h:=HO.out.lists (G:=λb=>Fe b\/(w10.heap.size<=b/\b < wr.heap.size)) (λb hb hl=>.inr ⟨hb,hl⟩) (λb e=>.inr (HO.out.row.lt b e));rw[HLL.out.2,Gl (by rw[HNL.out]; exact FV _)] at h;exact h)
         have HK3:=Ac (HK2.out.fresh HB2.out);have HW3:=Ac (HW2.out.trans (Iq HB2.out _));have k15:=Gf k14 HB2.out.size;obtain⟨F1,hF1⟩:∃ F1:FI,F1=λb=>Fe b\/(w10.heap.size<=b/\b < wr.heap.size):=⟨_,rfl⟩
         rw[<-hF1] at HK3 HNV;have HF1:=Ac (show(∀ b,Fd b->F1 b)/\(∀ b,F1 b->Fd b\/W.heap.size<=b) from⟨λb hb=>by rw[hF1]; exact .inl (HF.out.1 b hb),λb hb=>by rw[hF1] at hb; exact hb.elim (λe=>HF.out.2.1 b e) λe=>.inr EN⟩);have HNLL:=Ac (show(iK p k seen).length=C.ay.toNat by rw[HNL.out,HSP.out]);have y3:=HK3.out.ry.cell (i:=3) rfl;have hwl1:IntKind.i64.wrap ((level:Int)+1)=(level:Int)+1:=GH _ EN;have hnkl:nk.length<=1000000:=by have:=HLEN.out;omega
         obtain⟨Au,cu,hu13,_⟩:=id HNV.out;subst hu13;clear HO HB2 HK2 HW2 HSc hF1 k14;go_wp2_with fail
         refine aW (λw'=>w'.cell? ⟨yb,3,none⟩=some (un)) 9 2 ak rfl ak ?_;have hHeld:(λw':FW=>w'.cell? ⟨yb,3,none⟩=some (un)) wr.drew:=y3;refine zac ?_;intro hb;replace y3:=ah y3 hb;replace HK3:=Ac (HK3.out.below hb);replace HNV:=Ac (Bg.on HNV.out (FZ hb _));replace HW3:=Ac (HW3.out.trans (Iq hb _));replace k15:=Gf k15 hb.size;clear hb;generalize wr.drew=wn at *;refine tkm [0,1,2,3,4,5] ?_;refine tk2 6 ak rfl λK hK=>?_
         go_simp;refine(IH.out EN EN F1 vv' vn' vi' Lv' Ln' s1 wn _ (iK p k seen) HK3.out.m HNV.out (xJ HSL.out) HNLL.out HJ1.out.1 HJ1.out.2).mono ?_;rintro e wm ⟨rfl,hbt⟩;rw[<-HBM.out] at hbt ⊢;obtain⟨Fe2,vv2,vn2,vi2,Lv2,Ln2,f1,f2,f3,f4,f5,hk4,hw4⟩:=HK3.out.built hbt;replace y3:=aY y3 hw4 (HK3.out.py.2.2.2.1);have hWn:W.heap.size<=wn.heap.size:=EN;have HF2:=Ac (show(∀ b,Fd b->Fe2 b)/\(∀ b,Fe2 b->Fd b\/W.heap.size<=b)/\Up W vv vv2/\Up W vn vn2/\Up W vi vi2 from⟨λb hb=>f1 b (HF1.out.1 b hb),λb hb=>(f2 b hb).elim (λe=>HF1.out.2 b e) λe=>.inr EN,Up.trans HF.out.2.2.1 f3 hWn,Up.trans HF.out.2.2.2.1 f4 hWn,Up.trans HF.out.2.2.2.2 f5 hWn⟩);have HW4:=Ac (HW3.out.step hw4 λi hi e=>abp HF.out.2.2.1 HF.out.2.2.2.1 HF.out.2.2.2.2 hi e);replace k15:=Gf k15 hw4.size;have HK4:=Ac hk4;clear hbt f1 f2 f3 f4 f5 hk4 hw4 hHeld HK3 HW3 HNV hWn;refine hK.out _ _ y3 (λhHeld=>?_);clear hK K;refine Zb ?_;refine tk2 7 ak rfl λK hK=>?_
         go_simp;refine hK.out _ _ (dX y3 _) (λhHeld=>?_);clear hK K;refine Zb ?_;refine tk2 8 ak rfl λK hK=>?_
         refine nO (K:=rE) (F:=λ_=>False) (W:=wm) rfl _ _ 22 3 8 _ Ic JQ rfl aA rfl w8.heap.size k15 un nk rfl (bm.1:Int) _ rfl hnkl rfl HK4.out.hn trivial ?_;intro g2 cap2 wq2 hown' hwq hat' hlt';have aiu:un.ownBlock≠some yb:=λe=>by have:=(HK4.out.hn.row.lt _ e).1;have:=HK4.out.lt.1;omega
         replace y3:=aY y3 hwq aiu;have ff:=(HK4.out.ry.wrote hwq aiu).frozen 3;obtain⟨Wz,hWz,hkz,hwz⟩:=HK4.out.aoN hown' hwq hat';have HWZ:=Ac (HW4.out.step hwz λi hi e=>by omega);replace k15:=Gf k15 hwz.size;have HKZ:=Ac hkz;have HY:=Ac hWz;clear hown' hwq hat' hlt' hHeld hkz hWz hwz HK4 aiu HW4;refine hK.out _ _ y3 (λhHeld=>?_);refine zdM ?_;clear hK K hHeld;go_wp2
         refine zaf ?_;go_wp2
         rw[<-HY.out];clear HY ff y3;unfold Bj;refine zaB ?_;go_wp2
         go_roundw
         case rel=>exact⟨k+1,Fe2,vv2,vn2,vi2,Lv2,Ln2,FQ (some ⟨g2,0,none⟩) (nk.length+1) cap2,uw2,EN,by go_num,HF2,Ac (by rw[HS1.out]; exact HKZ.out),HWZ,k15⟩
         case measure=>simp[intOf]; omega
     ·have hke:k=mn:=EN;subst hke;have t0:decide ((k:Int) < (k:Int))=false:=L9 EN;obtain⟨_,_,hgr⟩:=afg (C:=C) (rec:=bW C f (level+1)) (p:=p) HSL.out (λsn t hsn ht hpt=>by
       obtain⟨a,b,c⟩:=abR HC.out f (level+1) sn t EN EN hsn ht hpt;exact⟨a,b,EN⟩) k s4 HJ4.out (by rw[HP4.out]; omega)
      rw[<-HKK.out k] at hgr;have HB2:=Ac (show bW C (f+1) level seen s=(s.Fg.length,{ (KK k).s with Fg:=(KK k).s.Fg.set s.Fg.length (jL p info (KK k).weights (KK k).next) }) by rw[HB.out,HKK.out k,Gu]);obtain⟨Kk,hKk⟩:=FH (KK k);rw[<-hKk] at HK HB2 hgr;clear hKk;obtain⟨wk,nk,sk⟩:=Kk;dsimp only at HK HB2 hgr;have adA:Ln.length < Ln'.length:=by
       have h1:Ln'.length=sk.Fg.length:=by rw[<-HK.out.m.rD,FX]
       have h2:=HN4.out;omega
      have hvn:∃ g cap,vn' = FQ (some ⟨g,0,none⟩) Ln'.length cap:=by
       rcases HK.out.m.Fg.at with⟨_,h⟩ | ⟨g,cap,h,_⟩
       ·rw[h] at adA;exact absurd adA aF
       ·exact⟨g,cap,h⟩
      obtain⟨gn,cn2,rfl⟩:=hvn;have hHD:jL p info wk nk=⟨hd.kind,hd.aC,hd.info,nk,wk,[]⟩:=by
       rw[HHD.out];unfold jL;split <;> rfl
      have HHN:=Ac hHD;have hbm:M.base<=w8.heap.size:=Gf hbase k11;clear hgr hHD HB HSL;obtain⟨Aun,cun,rfl,_,_⟩:=HK.out.hn.form;obtain⟨Auw,cuw,rfl,_,_⟩:=HK.out.hw.form;have m8:=HK.out.m.box.cell (i:=8) rfl;have y0:=HK.out.ry.cell (i:=0) rfl;have y1:=HK.out.ry.cell (i:=1) rfl;have y2:=HK.out.ry.cell (i:=2) rfl;have y3:=HK.out.ry.cell (i:=3) rfl;have y4:=HK.out.ry.cell (i:=4) rfl;have y5:=HK.out.ry.cell (i:=5) rfl;go_wp2_with fail
      refine aW (λw'=>w'.cell? ⟨M.mb,8,none⟩=some (FQ (some ⟨gn,0,none⟩) Ln'.length cn2)/\w'.cell? ⟨yb,0,none⟩=some (F6 F5 hd.kind)/\w'.cell? ⟨yb,1,none⟩=some (F6 F5 hd.aC)/\w'.cell? ⟨yb,2,none⟩=some (F6 F5 hd.info)/\w'.cell? ⟨yb,3,none⟩=some (FQ Aun nk.length cun)/\w'.cell? ⟨yb,4,none⟩=some (FQ Auw wk.length cuw)/\w'.cell? ⟨yb,5,none⟩=some (FQ none 0 0)) 7 2 ak rfl ak ?_;have hHeld:(λw':FW=>w'.cell? ⟨M.mb,8,none⟩=some (FQ (some ⟨gn,0,none⟩) Ln'.length cn2)/\w'.cell? ⟨yb,0,none⟩=some (F6 F5 hd.kind)/\w'.cell? ⟨yb,1,none⟩=some (F6 F5 hd.aC)/\w'.cell? ⟨yb,2,none⟩=some (F6 F5 hd.info)/\w'.cell? ⟨yb,3,none⟩=some (FQ Aun nk.length cun)/\w'.cell? ⟨yb,4,none⟩=some (FQ Auw wk.length cuw)/\w'.cell? ⟨yb,5,none⟩=some (FQ none 0 0)) wr.drew:=⟨m8,y0,y1,y2,y3,y4,y5⟩;simp only[List.take_succ_cons,List.take_zero];have hb:Below wr.heap.size wr wr.drew:=aI (F9 _ wr) 1;replace m8:=ah m8 hb;replace y0:=ah y0 hb;replace y1:=ah y1 hb;replace y2:=ah y2 hb;replace y3:=ah y3 hb;replace y4:=ah y4 hb;replace y5:=ah y5 hb;replace HK:=Ac (HK.out.below hb);replace HW:=Ac (HW.out.trans (Iq hb _)); replace k13:=Gf k13 hb.size;clear hb;generalize wr.drew=wn at *;refine tkm [0,1,2,3,4,5,6] ?_;refine wpAnyH_done ak ?_ _;clear hHeld;show wpList _ _ _ _ _ _;have f0:=HK.out.m.Fg.fz (Ln.length*6);have f1:=HK.out.m.Fg.fz (Ln.length*6+1);have f2:=HK.out.m.Fg.fz (Ln.length*6+2);have f3:=HK.out.m.Fg.fz (Ln.length*6+3);have f4:=HK.out.m.Fg.fz (Ln.length*6+4);have f5:=HK.out.m.Fg.fz (Ln.length*6+5);obtain⟨q0,z0⟩:∃ v,wn.cell? ⟨gn,Ln.length*6,none⟩=some v:=HK.out.m.Fg.dH adA 0 aA;obtain⟨q1,z1⟩:∃ v,wn.cell? ⟨gn,Ln.length*6+1,none⟩=some v:=HK.out.m.Fg.dH adA 1 aA;obtain⟨q2,z2⟩:∃ v,wn.cell? ⟨gn,Ln.length*6+2,none⟩=some v:=HK.out.m.Fg.dH adA 2 aA;obtain⟨q3,z3⟩:∃ v,wn.cell? ⟨gn,Ln.length*6+3,none⟩=some v:=HK.out.m.Fg.dH adA 3 aA;obtain⟨q4,z4⟩:∃ v,wn.cell? ⟨gn,Ln.length*6+4,none⟩=some v:=HK.out.m.Fg.dH adA 4 aA;obtain⟨q5,z5⟩:∃ v,wn.cell? ⟨gn,Ln.length*6+5,none⟩=some v:=HK.out.m.Fg.dH adA 5 aA;have HM2:=Ac (HK.out.m.widen (Fe:=λb=>Fe b\/(Value.slice Aun nk.length cun).ownBlock=some b\/(Value.slice Auw wk.length cuw).ownBlock=some b) (λb hb=>.inl hb) λb hb=>by
       rcases hb with hb | hb | hb
       ·exact HK.out.m.foot b hb
       ·have h1:=HK.out.pn b hb;have h2:=(HK.out.hn.row.lt b hb).1;exact⟨EN,h1.1,h1.2.2.2.1⟩
       ·have h1:=(HK.out.pw b hb).1; have h2:=(HK.out.hw.row.lt b hb).1; exact⟨EN,h1.1,h1.2.2.2.1⟩)
      obtain⟨W9,hW9,hm9,hw9⟩:=HM2.out.setNode rfl adA ⟨⟨hd.kind,hd.aC,hd.info,nk,wk,[]⟩,FQ Aun nk.length cun,FQ Auw wk.length cuw,FQ none 0 0⟩ ⟨HK.out.hn.ints λb e=>.inr (.inl e),HK.out.hw.ints λb e=>.inr (.inr e),aah⟩;have HF3:=Ac (show ∀ b,(Fe b\/(Value.slice Aun nk.length cun).ownBlock=some b\/(Value.slice Auw wk.length cuw).ownBlock=some b)->Fd b\/W.heap.size<=b from λb hb=>hb.elim (λe=>HF.out.2.1 b e) λe=>.inr (e.elim (λe=>by have:=(HK.out.hn.row.lt b e).1; omega) λe=>by have:=(HK.out.hw.row.lt b e).1; omega));have H9:=Ac hW9;have HM9:=Ac hm9;have HW9:=Ac (HW.out.step hw9 λi hi e=>(HF.out.2.2.2.1 i (by rw[e]; rfl)).elim (λe=>.inr (.inr (.inr (.inl e)))) λe=>by omega);clear hW9 hm9 hw9 HK HM2;go_wp2
      refine zaf ?_;go_wp2
      rw[<-H9.out];unfold Bj;refine ZR ?_;go_wp2
      go_ret;rw[HB2.out,HHN.out];exact⟨by rw[<-HLN.out]; rfl,by rw[<-HLN.out]; exact⟨_,_,_,_,_,_,λb hb=>.inl (HF.out.1 b hb),HF3.out,HF.out.2.2.1,HF.out.2.2.2.1,HF.out.2.2.2.2,HM9.out,HW9.out⟩⟩
theorem aiw {C:MC} (hC:BL C) (hm:C.most<=1000) (hp1:1<=C.ay) (hp4:C.ay<=4) {M:ML} (f:Nat):Cb C M f:=by
 induction f with
 | zero=>intro level hf hl; omega
 | succ f ih=>exact agQ hC hm hp1 hp4 ih
theorem Tryz.infoPlaceK:(Tryz.prog.info? 81).map (λi=>(i.zero,i.size,i.bytes))=some (some (.agg #[F6 F5 0,F6 F5 0,F6 F5 0]),acP.n,24):=ak
theorem OwnSl.Fh {w:FW} {base:Nat} {v:F7} {L:List Inf} (h:OwnSl al6 w base et F v L) (hG:∀ b,v.ownBlock=some b->G b):Bv w G v L:=by
 rcases h.at with⟨rfl,rfl⟩ | ⟨g,cap,rfl,hb,hg,hcap,hf,hx⟩
 ·exact YN
 ·exact⟨_,cap,rfl,hcap,λ_=>⟨g,0,rfl,hG g rfl,hg,λk x hk=>⟨hx k x hk 0 _ rfl,hx k x hk 1 _ rfl⟩⟩⟩
theorem anm {w:FW} (h:Row w b t (F8 n (FQ none 0 0))) (hF:F b):Bg w F (FQ (some ⟨b,0,none⟩) n n) (F8 n []):=by
 refine⟨_,n,by rw[Lm],aF,λ_=>⟨b,0,rfl,hF,h.lt,λk x hk=>?_⟩⟩;have hx:=FT hk;rw[KH hx];have hl:=FD hk;rw[Lm] at hl;refine⟨FQ none 0 0,?_,aah⟩;rw[Gp,Iz];exact h.cell (i:=k) (by simp[hl])
theorem OwnSl.base {K:Knd α} {w:FW} {b':Nat} {v:F7} {L:List α} (h:OwnSl K w b et F v L) (hb:b'<=b):OwnSl K w b' et F v L :=
 ⟨⟨h.row.1,h.row.2.imp id λ⟨g,cap,cur,e,hg,r⟩=>⟨g,cap,cur,e,Gf hb hg,r⟩⟩,h.fine⟩
theorem abq (L:List Int) (ay:Int) (a:Nat) (ha:a<=L.length):∀ k,(fU L ay k a).2<=L.length
 | 0=>ha
 | k+1=>wP (wP (wP (abq L ay a ha k)))
theorem aix (w:FW) (F:FI) (A:Option Addr) (c:Nat) (L:List Int) (hL:Aj w F (FQ A L.length c) L) (hl:L.length<=9223372036854775807) (ay most:Int) (zero:Bool) (hp1:1<=ay) (hp4:ay<=4) (hm1:1<=most) (hm2:most<=200) :
  Calls FY 7 #[FQ A L.length c,F6 F5 ay,F6 F5 most,Gj zero] w (Ret w λu w'=>AA w' (λb=>w.heap.size<=b) u (qc L ay most zero)):=by
 have HL:=Ac (hL.keep (G:=λb=>F b/\b < w.heap.size) (λb hb hl=>⟨hb,hl⟩) (Gh _ _));clear hL;obtain⟨P,rfl⟩:∃ P:Nat,ay=(P:Int):=⟨ay.toNat,EN⟩;go_in
 go_upto_region 2 with(fail)
 obtain⟨W,hW,rg,rd,rm,hB,hz⟩:=qx w 27 #[F6 F5 0,FQ none 0 0,FQ none 0 0] 34 #[FQ A L.length c,F6 F5 0] 78 #[.pointer (some ⟨w.heap.size+1,0,none⟩),FQ none 0 0,FQ none 0 0,F6 F5 most,F6 F5 1,Gj zero,Gj false,F6 F5 0,FQ none 0 0,FQ none 0 0];rw[<-hW];clear hW;obtain⟨gb,hgb⟩:=FH w.heap.size;obtain⟨db,hdb⟩:=FH (w.heap.size+1);obtain⟨mb,hmb⟩:=FH (w.heap.size+2);rw[<-hmb] at rm;rw[<-hdb] at rd rm;rw[<-hgb] at rg;have hlt3:gb < db/\db < mb/\mb < W.heap.size/\w.heap.size<=gb:=EN;have HB:=Ac hB;have HBEL:=Ac hB;have RG:=Ac rg;have RD:=Ac rd;have HL1:=Ac (HL.out.on (FZ hB _));have e1:w.heap.size+1=db:=hdb.symm;have e2:w.heap.size+1+1=mb:=EN;have e0:w.heap.size=gb:=hgb.symm;rw[e2,e1,e0];obtain⟨W1,hW1⟩:=FH (W.setCell ⟨mb,7,none⟩ (F6 F5 (P:Int)));have m7:=rm.cell (i:=7) rfl;have f7:=rm.frozen 7;have rm1:Row W1 mb 78 [.pointer (some ⟨db,0,none⟩),FQ none 0 0,FQ none 0 0,F6 F5 most,F6 F5 1,Gj zero,Gj false,(F6 F5 (P:Int)),FQ none 0 0,FQ none 0 0]:=by rw[hW1];exact rm.set 7 _
 have hw1:Wrote (λb=>b=mb) W W1:=hW1▸Iu (K:=λb=>b=mb) (p:=⟨mb,7,none⟩) (H6 _ _) (.inl rfl) _;have RM1:=Ac rm1;have RD1:=Ac (show Row W1 db 34 [FQ A L.length c,F6 F5 ((0:Nat):Int)] from RD.out.wrote hw1 (λe=>by omega));have RG1:=Ac (RG.out.wrote hw1 (λe=>by omega));have HL2:=Ac (HL1.out.on (hw1.same λb hb e=>by have:=hb.2; omega));have HWA:=Ac ((H6 (λb=>b=mb\/b=db) W).step hw1 λi _ e=>.inl e);have HLW:=HL1;have HY:=Ac hW1;have hsz1:W.heap.size<=W1.heap.size:=hw1.size;clear hW1 rm1 hw1 rm rg rd HB RG RD HL1 HL hB hz e0 e1 e2 hgb hdb hmb;have ano:¬ (F db/\db < w.heap.size):=λe=>by have:=e.2;omega
 have hd:=jc L 0 (n:=5) aA;obtain⟨n,hn⟩:∃ n:Nat,1+dY L 0 5=(n:Int):=⟨(1+dY L 0 5).toNat,EN⟩;have hnb:1<=n/\n<=5:=EN;obtain⟨d0,hd0⟩:=FH (dY L 0 5);rw[<-hd0] at hn hd;have hwn:IntKind.i64.wrap (1+d0)=1+d0:=GH _ EN;have HN:=Ac hn;have HD0:=Ac hd0;clear hn hd0;go_upto_region 3 with(fail)
 rw[<-HY.out];clear HY m7 f7;have m0:=RM1.out.cell (i:=0) rfl;go_upto_region 4 with(go_at_call 36; (with_reducible refine(next_any W1 _ db A c L 0 5 RD1.out HL2.out ano aA aA hl).mono ?_); rintro e w2 ⟨rfl,hr2,hw2⟩; rw[<-HD0.out]; have RD2:=Ac hr2; have RM2:=Ac (RM1.out.wrote hw2 (λe=>by omega)); have RG2:=Ac (RG1.out.wrote hw2 (λe=>by omega)); have HW2:=Ac (HWA.out.step hw2 λi _ e=>.inr e); have hsz2:=Gf hsz1 hw2.size; clear hr2 hw2)
 rw[HN.out];obtain⟨a1,ha1⟩:=FH (dR L 0);rw[<-ha1] at RD2;have HA1:=Ac ha1;clear ha1 m0 RD1 RM1 RG1 hwn;go_loopw [10] (λiv wr=>∃ (k:Nat) (lv:List Place) (at0:Nat) (vl:F7),k<=n/\iv = F6 F5 ((n:Int) - (k:Int))/\Hid (fU L (P:Int) k a1=(lv,at0))/\Hid (OwnSl acP wr W.heap.size 81 (λ_=>False) vl lv)/\Hid (Row wr mb 78 [.pointer (some ⟨db,0,none⟩),vl,FQ none 0 0,F6 F5 most,F6 F5 1,Gj zero,Gj false,(F6 F5 (P:Int)),FQ none 0 0,FQ none 0 0])/\Hid (Row wr db 34 [FQ A L.length c,F6 F5 (at0:Int)])/\Hid (Row wr gb 27 [F6 F5 0,FQ none 0 0,FQ none 0 0])/\Hid (Wrote (λb=>b=mb\/b=db) W wr)/\W.heap.size<=wr.heap.size) (λiv _=>(intOf iv).toNat)
 case atStart=>exact⟨0,[],a1,_,GR _,aF,Ac rfl,Ac (OwnSl.nil _ _ _ _ _),RM2,RD2,RG2,HW2,hsz2⟩
 case round =>
  clear RM2 RD2 RG2 HW2;obtain⟨k,lv,at0,vl,hk,rfl,HLV,HO,RM,RD,RG,HW,hsz⟩:=hrel;have HLr:=Ac (HLW.out.on (HW.out.same λb hb e=>by have:=hb.2; omega));by_cases hkt:k < n
  ·skip
   have t0:decide ((0:Int) < (n:Int) - (k:Int))=true:=Mc EN;obtain⟨d1,hd1⟩:=FH (dY L at0 ((P:Int)+1));obtain⟨d2,hd2⟩:=FH (dY L (dR L at0) 2);obtain⟨d3,hd3⟩:=FH (dY L (dR L (dR L at0)) 16);have b1:=jc L at0 (n:=(P:Int)+1) EN;have b2:=jc L (dR L at0) (n:=2) aA;have HLV2:=Ac (show fU L (P:Int) (k+1) a1=(lv ++ [⟨d1 - 1,2+d2,d3⟩],dR L (dR L (dR L at0))) by rw[fU,HLV.out,hd1,hd2,hd3]);rw[<-hd1] at b1;rw[<-hd2] at b2;have hw1:IntKind.i64.wrap (d1 - 1)=d1 - 1:=GH _ EN;have hw2:IntKind.i64.wrap (2+d2)=2+d2:=GH _ EN;have hw3:IntKind.i64.wrap ((P:Int)+1)=(P:Int)+1:=GH _ EN;have HD1:=Ac hd1;have HD2:=Ac hd2;have HD3:=Ac hd3;have hll:lv.length<=1000000:=by
    have:=(qg L (ay:=(P:Int)) EN k a1).1;rw[HLV.out] at this;have e:lv.length=k:=this;omega
   have m0:=RM.out.cell (i:=0) rfl;have m1:=RM.out.cell (i:=1) rfl;clear hd1 hd2 hd3 HLV;go_wp2_with fail
   refine aW (λw'=>w'.cell? ⟨mb,0,none⟩=some (.pointer (some ⟨db,0,none⟩))/\w'.cell? ⟨mb,1,none⟩=some (vl)) 27 3 ak rfl ak ?_;have hHeld:(λw':FW=>w'.cell? ⟨mb,0,none⟩=some (.pointer (some ⟨db,0,none⟩))/\w'.cell? ⟨mb,1,none⟩=some (vl)) wr.drew:=⟨m0,m1⟩;refine zac ?_;intro hb;replace m0:=ah m0 hb;replace m1:=ah m1 hb;replace HO:=Ac (HO.out.below hb);replace RM:=Ac (RM.out.below hb RM.out.lt);replace RD:=Ac (RD.out.below hb RD.out.lt);replace RG:=Ac (RG.out.below hb RG.out.lt);replace HLr:=Ac (HLr.out.on (FZ hb _));replace HW:=Ac (HW.out.trans (Iq hb _));replace hsz:=Gf hsz hb.size;clear hb;generalize wr.drew=wn at *;refine tkm [0,1,2,3,4,5,6,7,8,9,10,13,14,15,16,19,20,21,22] ?_;refine tk2 11 ak rfl λK hK=>?_
   go_simp;refine(next_any wn _ db A c L at0 ((P:Int)+1) RD.out HLr.out ano EN EN hl).mono ?_;rintro e wm11 ⟨rfl,hr2,hwx⟩;rw[<-HD1.out];refine ZM ?_;clear m0 m1 RM RG RD HO HLr HW hsz hr2 hwx hHeld hK K;intro m0 m1 RM RG RD HO HLr HW hsz hHeld;refine tkm [12] ?_;refine tk2 17 ak rfl λK hK=>?_
   go_simp;refine(next_any wm11 _ db A c L (dR L at0) 2 RD.out HLr.out ano EN EN hl).mono ?_;rintro e wm17 ⟨rfl,hr2,hwx⟩;rw[<-HD2.out];refine ZM ?_;clear m0 m1 RM RG RD HO HLr HW hsz hr2 hwx hHeld hK K;intro m0 m1 RM RG RD HO HLr HW hsz hHeld;refine tkm [18] ?_;refine tk2 23 ak rfl λK hK=>?_
   go_simp;refine(next_any wm17 _ db A c L (dR L (dR L at0)) 16 RD.out HLr.out ano EN EN hl).mono ?_;rintro e wm23 ⟨rfl,hr2,hwx⟩;rw[<-HD3.out];refine ZM ?_;clear m0 m1 RM RG RD HO HLr HW hsz hr2 hwx hHeld hK K;intro m0 m1 RM RG RD HO HLr HW hsz hHeld;refine tkm [24] ?_;refine tk2 25 ak rfl λK hK=>?_
   go_simp;refine hK.out _ _ ⟨dX m0 _,dX m1 _⟩ (λhHeld=>?_);clear hK K;refine Zb ?_;refine tk2 26 ak rfl λK hK=>?_
   refine nO (K:=acP) (F:=λ_=>False) (W:=wm23) rfl _ _ 75 81 24 _ Tryz.underlying75 Tryz.infoPlaceK rfl aA rfl W.heap.size hsz vl lv rfl ⟨d1 - 1,2+d2,d3⟩ _ rfl hll rfl HO.out trivial ?_;intro g2 cap2 wq2 hown' hwq hat' hlt';have own:=λb (e:vl.ownBlock=some b)=>(HO.out.row.lt b e).1
   have hvm:vl.ownBlock≠some mb:=λe=>by have:=own _ e;omega
   have hvd:vl.ownBlock≠some db:=λe=>by have:=own _ e;omega
   have hvg:vl.ownBlock≠some gb:=λe=>by have:=own _ e;omega
   replace m0:=aY m0 hwq hvm;replace m1:=aY m1 hwq hvm;have ff:=(RM.out.wrote hwq hvm).frozen 1;have hg2:=hown'.row.lt g2 rfl;obtain⟨Wz,hWz⟩:=FH (wq2.setCell ⟨mb,1,none⟩ (FQ (some ⟨g2,0,none⟩) (lv.length+1) cap2));have hwz:Wrote (λb=>b=mb) wq2 Wz:=hWz▸Iu (K:=λb=>b=mb) (p:=⟨mb,1,none⟩) (H6 _ _) (.inl rfl) _;have RM2:=Ac (show Row Wz mb 78 [.pointer (some ⟨db,0,none⟩),(FQ (some ⟨g2,0,none⟩) (lv.length+1) cap2),FQ none 0 0,F6 F5 most,F6 F5 1,Gj zero,Gj false,(F6 F5 (P:Int)),FQ none 0 0,FQ none 0 0] from hWz▸(RM.out.wrote hwq hvm).set 1 _);have RD2:=Ac ((RD.out.wrote hwq hvd).wrote hwz (λe=>by omega));have RG2:=Ac ((RG.out.wrote hwq hvg).wrote hwz (λe=>by omega));have HO2:=Ac (hown'.wrote hwz λb hb e=>by have e2:some g2=some b:=hb.resolve_left id; cases e2; omega);have HW2:=Ac ((HW.out.step hwq λi hi e=>by have:=own _ e; omega).step hwz λi _ e=>.inl e);have hsz2:=Gf (Gf hsz hwq.size) hwz.size;have HY:=Ac hWz;clear hown' hwq hat' hlt' hHeld own hvm hvd hvg hg2 hWz hwz HO RM RD RG HW;refine hK.out _ _ ⟨m0,m1⟩ (λhHeld=>?_);refine zdM ?_;clear hK K hHeld;go_wp2
   refine zaf ?_;go_wp2
   refine zaf ?_;go_wp2
   rw[<-HY.out];clear HY ff m0 m1;unfold Bj;refine zaB ?_;go_wp2
   go_roundw
   case rel=>exact⟨k+1,lv ++ [⟨d1 - 1,2+d2,d3⟩],dR L (dR L (dR L at0)),FQ (some ⟨g2,0,none⟩) (lv.length+1) cap2,EN,by go_num,HLV2,HO2,RM2,RD2,RG2,HW2,hsz2⟩
   case measure=>simp[intOf]; omega
  ·have hke:k=n:=EN;subst hke;obtain⟨hlen,hpl⟩:=qg L (ay:=(P:Int)) EN k a1;have agT:=abq L (P:Int) a1 (by rw[HA1.out]; exact wP (GR _)) k;rw[HLV.out] at hlen hpl agT;dsimp only at hlen hpl agT;have HC:=Ac (show BL ⟨L,lv,(P:Int),most,zero⟩ from⟨by show lv.length<=5; omega,hpl⟩);have HLEN:=Ac hlen; have HAT:=Ac agT;have HG:=Ac (show qc L (P:Int) most zero=⟨(P:Int),(bW ⟨L,lv,(P:Int),most,zero⟩ (k+1) 0 (F8 P []) ⟨at0,[],1,[],[]⟩).2.Fg,(bW ⟨L,lv,(P:Int),most,zero⟩ (k+1) 0 (F8 P []) ⟨at0,[],1,[],[]⟩).2.Fh⟩ by
    have e1:(1+dY L 0 5).toNat=k:=by rw[<-HD0.out,HN.out];exact Gu k
    have e2:fU L (P:Int) k (dR L 0)=(lv,at0):=by rw[<-HA1.out];exact HLV.out
    unfold qc;simp only[e1,e2,Gu])
   have HJ:=Ac (show JM ⟨L,lv,(P:Int),most,zero⟩ 0 ⟨at0,[],1,[],[]⟩ from⟨rfl,λi v h=>by simp at h,FV _,by show((0:Nat):Int)+1<=most; omega,by show(0:Int)<=1; decide,λv h=>(by cases h),λv h=>(by cases h)⟩);have hPb:1<=P/\P<=4:=EN;clear hlen hpl agT hd HLV HN HD0 HA1;have m0:=RM.out.cell (i:=0) rfl;obtain⟨lb,hlb⟩:=FH wr.heap.size;have hlb1:W.heap.size<=lb/\mb < lb/\db < lb/\gb < lb/\w.heap.size<=lb:=EN;have Fp:=Ac (λ(w4:FW) (hb4:Below wr.heap.size wr w4) (hz4:lb < w4.heap.size)=>show MAt ⟨L,lv,(P:Int),most,zero⟩ ⟨w.heap.size,mb,db,λb=>F b/\b < w.heap.size,A,c,vl⟩ (λb=>b=lb) (FQ none 0 0) (FQ none 0 0) (FQ none 0 0) [] [] ⟨at0,[],1,[],[]⟩ w4 from by
    have HO4:=Ac ((HO.out.below hb4).base (b':=w.heap.size) EN);have HOB:=Ac (show ∀ b,vl.ownBlock=some b->W.heap.size<=b/\b < lb from λb e=>by have:=HO.out.row.lt b e; omega);exact { box:=RM.out.below hb4 RM.out.lt,dr:=RD.out.below hb4 RD.out.lt,list:=HLr.out.on (FZ hb4 _),lev:=⟨HO4.out.row,λ_ _=>trivial⟩,views:=OwnSl.nil _ _ _ _ _,Fg:=OwnSl.nil _ _ _ _ _,Fh:=OwnSl.nil _ _ _ _ _,qK:=rfl,rD:=rfl,out:=λb hb=>hb.2,foot:=λb hb=>(by have hb:b=lb:=hb; exact⟨by show w.heap.size<=b; omega,EN,uX (by show b≠mb; omega) (by show b≠db; omega) (λe=>by cases e) (λe=>by cases e) (λe=>by cases e)⟩),fK:=⟨by show w.heap.size<=mb; omega,by show w.heap.size<=db; omega,by show mb≠db; omega⟩,kZ:=λb hb=>(by have:=HOB.out b hb; exact uX (by show b≠mb; omega) (by show b≠db; omega) (λe=>by cases e) (λe=>by cases e) (λe=>by cases e)),dQ:=λb hb=>(by cases hb),eX:=λb hb=>(by cases hb),gK:=λb hb=>(by cases hb),draws:=⟨HAT.out,hl⟩ })
   have HLB:=Ac hlb;have hbs:=aiw (M:=⟨w.heap.size,mb,db,λb=>F b/\b < w.heap.size,A,c,vl⟩) HC.out (by show most<=1000; omega) (by show(1:Int)<=(P:Int); omega) (by show(P:Int)<=4; omega) (k+1);unfold Cb at hbs;have HBS:=Ac (hbs 0 (by show 0+(k+1)=lv.length+1; rw[HLEN.out]; omega) (GR _));clear hlb hbs;have HR0:=Ac (show ∀ l∈F8 P ([]:List Int),l.length=0 from λl h=>by rw[KH h]; rfl);have HR1:=Ac (show(F8 P ([]:List Int)).length=((P:Int)).toNat by simp);have HR2:=Ac (show(1:Int)<=1 from Int.le_refl _);go_upto_region 8 with(first | (at_make; (refine gX _ rfl _ _ 83 rfl 22 (FQ none 0 0) 24 Kw Tryz.infoListK rfl P rfl rfl EN EN ?_; intro w4 hb4 hz4 hrow; have hlb4:lb < w4.heap.size:=(by rw[HLB.out]; omega); have HM4:=Ac (Fp.out w4 hb4 hlb4); have AZ:=Ac hrow; have HW4:=Ac (HW.out.trans (Iq hb4 _)); have RG4:=Ac (RG.out.below hb4 RG.out.lt); clear hrow hb4 hz4)) | (go_at_call 37; ((refine(HBS.out _ _ _ _ _ _ _ w4 _ (F8 P []) HM4.out (anm AZ.out HLB.out.symm) HR0.out HR1.out HJ.out HR2.out).mono ?_); rintro e w5 ⟨rfl,hb5⟩; have HB5:=Ac hb5; clear hb5)))
   obtain⟨Fe,vv',vn',vi',Lv',Ln',f1,f2,u1,u2,u3,hm5,hw5⟩:=HB5.out;have hg:=HG.out;generalize (bW _ _ _ _ _).2=bs at hm5 hg;have HGE:=Ac hg;have hr5:=RG4.out.wrote hw5 (uX (by show gb≠mb; omega) (by show gb≠db; omega) (λe=>by cases e) (λe=>by cases e) (λe=>by cases e));obtain⟨An,cn,hvn,hcn,_⟩:=hm5.Fg.form;obtain⟨Ai,ci,hvi,hci,_⟩:=hm5.Fh.form;subst hvn hvi;have HM5:=Ac hm5;have HR5:=Ac hr5;have HW5:=Ac hw5;have HU2:=Ac u2;have HU3:=Ac u3;have HF2:=Ac f2;have m7:w5.cell? ⟨mb,7,none⟩=some (F6 F5 (P:Int)):=hm5.box.cell (i:=7) rfl;have m8:w5.cell? ⟨mb,8,none⟩=some (FQ An Ln'.length cn):=hm5.box.cell (i:=8) rfl;have m9:w5.cell? ⟨mb,9,none⟩=some (FQ Ai bs.Fh.length ci):=hm5.box.cell (i:=9) rfl;have q0:=hr5.cell (i:=0) rfl;have q1:=hr5.cell (i:=1) rfl;have q2:=hr5.cell (i:=2) rfl;have y0:=hr5.frozen 0;have y1:=hr5.frozen 1;have y2:=hr5.frozen 2;clear hm5 hr5 hw5 u1 u2 u3 f1 f2 hg m0 HB5 HG;go_wp2_with fail
   obtain⟨Wz,hWz,hrz,hwz⟩:=set3 HR5.out (F6 F5 (P:Int)) (FQ An Ln'.length cn) (FQ Ai bs.Fh.length ci);rw[<-hWz];have HRZ:=Ac hrz;have HWZ:=Ac hwz;have t0:=hrz.cell (i:=0) rfl;have t1:=hrz.cell (i:=1) rfl;have t2:=hrz.cell (i:=2) rfl;clear hWz hrz hwz q0 q1 q2 y0 y1 y2 m7 m8 m9;refine bodyPost_ret (v:=.agg #[F6 F5 (P:Int),FQ An Ln'.length cn,FQ Ai bs.Fh.length ci]) (by simp[results,Tryz.results7,go_sem,t0,t1,t2]) rfl ?_;have hb1:Below w.heap.size w w4:=Below.wr HBEL.out HW4.out HBEL.out.size λb e=>by rcases e with e | e <;> omega
   have hb2:Below w.heap.size w w5:=Below.wr hb1 HW5.out hb1.size λb e=>by
    rcases e with e | e | e | e | e
    ·have:b=mb:=e;omega
    ·have:b=db:=e;omega
    ·cases e
    ·cases e
    ·cases e
   have hb3:Below w.heap.size w Wz:=Below.wr hb2 HWZ.out hb2.size λb e=>by omega
   refine⟨_,rfl,by first | exact hb3 | (rw[<-hgb0]; exact hb3),?_⟩;rw[HGE.out];have hn:∀ b,(Fe b\/(Value.slice An Ln'.length cn).ownBlock=some b)->¬ b=gb:=λb e h=>by
    rcases e with e | e
    ·rcases HF2.out b e with k | k
     ·have:b=lb:=k;omega
     ·have:=HW4.out.size;omega
    ·rcases HU2.out b e with k | k
     ·cases k
     ·have:=HW4.out.size;omega
   have hi:∀ b,(Fe b\/(Value.slice Ai bs.Fh.length ci).ownBlock=some b)->¬ b=gb:=λb e h=>by
    rcases e with e | e
    ·exact hn b (.inl e) h
    ·rcases HU3.out b e with k | k
     ·cases k
     ·have:=HW4.out.size;omega
   have hnz:=HM5.out.Fg.wrote HWZ.out hn;have hiz:=HM5.out.Fh.wrote HWZ.out hi;have hnm:=HM5.out.rD;refine⟨_,_,rfl,?_,?_⟩
   ·have h:=ah8 (F:=λb=>w.heap.size<=b) hnz.row (λb e=>by rcases HU2.out b e with k | k; cases k; have:=hb1.size; omega) (λq hq=>aaf.keep (q:=q) (hnz.fine q hq) (λb hb _=>(HM5.out.foot b hb.1).1) (Gh _ _));rw[hnm] at h;exact h
   ·exact hiz.Fh λb e=>by rcases HU3.out b e with k | k;cases k;have:=hb1.size;omega
end Go.Proofs.YtnmeejofpkhlkaaGreatDoor

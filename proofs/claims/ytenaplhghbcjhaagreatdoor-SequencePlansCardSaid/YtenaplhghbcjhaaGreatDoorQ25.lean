import Derived.Test.YtenaplhghbcjhaaGreatDoorQ23
import Derived.Test.YtenaplhghbcjhaaGreatDoorQ09
set_option linter.all false
set_option maxRecDepth 100000
set_option maxHeartbeats 0
namespace Go.Proofs.YtenaplhghbcjhaaGreatDoor
open Go.RowKit.Below renaming refl->GR
open Go renaming Value->GN
open Go.Value renaming slice->Gw
open List renaming length_append->G9,map_append->Hf,range->Ig,replicate->GX
open Nat renaming le_refl->Gy,zero_le->Hg
open Same renaming refl->GZ
open List renaming getElem_toArray → lq1, getElem_cons_zero → lq2, getElem_cons_succ → lq3, setIfInBounds_toArray → lq4, set_cons_zero → lq5, set_cons_succ → lq6
open Go.RowKit
theorem Tryz.infoNum1:(Tryz.prog.info? 74).map (λi=>(i.zero,i.size,i.bytes))=some (some (.agg #[.bool false,Gw none 0 0,Gw none 0 0]),ratK.n,56):=aj
theorem ao6 {w:World} {b:Nat} {t:TypeId} {z:GN} (h:Row w b t (GX 11 z)) (a0 a1 a2 a3 a4 a5 a6 a7 a8 a9 a10:GN):∃ W,W=(((((((((((w.setCell ⟨b,0,none⟩ a0).setCell ⟨b,1,none⟩ a1).setCell ⟨b,2,none⟩ a2).setCell ⟨b,3,none⟩ a3).setCell ⟨b,4,none⟩ a4).setCell ⟨b,5,none⟩ a5).setCell ⟨b,6,none⟩ a6).setCell ⟨b,7,none⟩ a7).setCell ⟨b,8,none⟩ a8).setCell ⟨b,9,none⟩ a9).setCell ⟨b,10,none⟩ a10) /\
  Row W b t [a0,a1,a2,a3,a4,a5,a6,a7,a8,a9,a10]/\Wrote (λk=>k=b) w W:=by
 refine⟨_,rfl,?_,?_⟩
 ·exact(((((((((((h.set 0 a0).set 1 a1).set 2 a2).set 3 a3).set 4 a4).set 5 a5).set 6 a6).set 7 a7).set 8 a8).set 9 a9).set 10 a10)
 ·have h0:Wrote (λk=>k=b) w w:=Wrote.refl _ _;exact(((((((((((h0.setCell (p:=⟨b,0,none⟩) (.inl rfl) a0).setCell (p:=⟨b,1,none⟩) (.inl rfl) a1).setCell (p:=⟨b,2,none⟩) (.inl rfl) a2).setCell (p:=⟨b,3,none⟩) (.inl rfl) a3).setCell (p:=⟨b,4,none⟩) (.inl rfl) a4).setCell (p:=⟨b,5,none⟩) (.inl rfl) a5).setCell (p:=⟨b,6,none⟩) (.inl rfl) a6).setCell (p:=⟨b,7,none⟩) (.inl rfl) a7).setCell (p:=⟨b,8,none⟩) (.inl rfl) a8).setCell (p:=⟨b,9,none⟩) (.inl rfl) a9).setCell (p:=⟨b,10,none⟩) (.inl rfl) a10)
theorem al4 {α:Type} {l:List α} (h:l.length=11):∃ a0 a1 a2 a3 a4 a5 a6 a7 a8 a9 a10,l = [a0,a1,a2,a3,a4,a5,a6,a7,a8,a9,a10]:=by
 match l,h with
 | [a0,a1,a2,a3,a4,a5,a6,a7,a8,a9,a10],_=>grind
def EN (w:World) (F:Gq) (v:GN):Prop:=∃ vs:List GN,v = .agg vs.toArray/\DoneRows w F vs ((Ig 11).map λn=>(og n).map ay)
theorem akt (w:World):Calls Tryz.prog 118 #[] w (Ret w λu w'=>EN w' (λb=>w.heap.size<=b) u):=by
 go_in
 go_upto_region 2 with(fail)
 generalize hW:World.alloc _ _=W;obtain⟨rx,ry,hB0,hz0⟩:=gW hW;clear hW;obtain⟨bo,hbo⟩:=Gp (w.heap.size+1);rw[<-hbo] at ry ⊢;have hbw:w.heap.size < bo:=FI;have hboW:bo < W.heap.size:=FI;have HX:=Ag (show Row W w.heap.size 167 (GX 11 (Gw none 0 0)) from rx);have HM:=Ag (MkO.begin (F:=λ_=>False) (show Row W bo 167 (GX 11 (Gw none 0 0)) from ry) hB0 FI hboW (Gy _));clear rx ry hB0 hz0 hbo;go_wp2
 go_loopw [3] (λi wr=>∃ (k:Nat) (vs:List GN),k<=11/\i = .int .i64 (k:Int)/\vs.length=k/\MkO (λ_=>False) w bo 167 11 W.heap.size vs ((Ig k).map λn=>(og n).map ay) wr/\Row wr w.heap.size 167 (GX 11 (Gw none 0 0))) (λi _=>11 - (intOf i).toNat)
 case atStart=>exact⟨0,[],Hg _,rfl,rfl,HM.o,HX.o⟩
 case round =>
  clear HX HM;obtain⟨k,vs,hk,rfl,hvl,hmk,hres⟩:=hrel;obtain⟨wa,rfl⟩:=Gp wr;have HM:=Ag hmk;have HVL:=Ag hvl;have Bo:=Ag hres;clear hmk hvl hres;by_cases hlt:k < 11
  ·replace HM:=Ag (HM.o.start (by rw[HVL.o]; exact hlt) 74);have hd11:decide ((k:Int) < 11)=true:=LK FI;go_wp2
   go_loopw [7] (λi wr=>∃ (j:Nat) (L:List RV) (u:GN),j<=k/\i = .int .i64 (j:Int)/\L.length=j/\L.map RV.r=(GX j (((1:Int):Rat) / ((k:Int):Rat))).map ay/\Mk (λ_=>False) w bo 167 74 11 W.heap.size wa.heap.size vs ((Ig k).map λn=>(og n).map ay) u u L wr/\Row wr w.heap.size 167 (GX 11 (Gw none 0 0))) (λi _=>k - (intOf i).toNat)
   case atStart=>exact⟨0,[],_,Hg _,rfl,rfl,rfl,HM.o,Bo.o⟩
   case round =>
    clear HM Bo hd11;obtain⟨j,L,u,hj,rfl,hLl,hLm,hmk,hres⟩:=hrel;obtain⟨wb,rfl⟩:=Gp wr;have HM:=Ag hmk;have HLL:=Ag hLl;have HLM:=Ag hLm;have Bo:=Ag hres;have HUB:=Ag (λb (e:u.ownBlock=some b)=>HM.o.own.row.lt b e);have hmid:=HM.o.mid;have hsz0:=HM.o.size;clear hmk hLl hLm hres;by_cases hjt:j < k
    ·have hcu:=HM.o.cell HVL.o;have hI:(k:Int) < 11:=FI;go_wp2_with fail
     refine aP (λw'=>w'.cell? ⟨bo,k,none⟩=some (u)) 9 1 aj rfl aj hcu λhHeld=>?_
     refine Zo ?_;refine zaT ?_;intro hb;obtain⟨wn,hwn⟩:=Gp wb.drew;rw[<-hwn] at hb hHeld ⊢;have hzn:=hb.size;replace HM:=Ag (HM.o.below hb);replace Bo:=Ag (Bo.o.below hb Bo.o.lt);replace hcu:=ah hcu hb;clear hb hwn;refine tkm [0,1,2,3,4] ?_;refine tk2 5 aj rfl λK hK=>?_
     go_simp;refine(aeu _ 1 (k:Int) FI FI FI FI FI).mono ?_;rintro e wn ⟨vq,rfl,hb,hu⟩;replace HM:=Ag (HM.o.below hb);replace Bo:=Ag (Bo.o.below hb Bo.o.lt);replace hcu:=ah hcu hb;obtain⟨A1,c1,B1,d1,rfl,bH⟩:=hu.opened;obtain⟨fr,hfr⟩:=Gp (((1:Int):Rat) / ((k:Int):Rat));rw[<-hfr] at bH ⊢;have HFR:=Ag hfr;have HFN:=Ag (RV.fine.keep (G:=λb=>wb.heap.size<=b) bH (λb hb _=>by omega) (GZ _ _));clear hu bH hfr;replace hzn:=Nat.le_trans hzn hb.size;clear hb hHeld;dsimp only;refine hK.out _ _ hcu (λhHeld=>?_);clear hK K;refine Zb ?_;refine tk2 6 aj rfl λK hK=>?_
     go_simp;refine hK.out _ _ (ah hcu ((GR _ _).alloc (Gy _) _)) (λhHeld=>?_);clear hK K;refine Zb ?_;refine tk2 7 aj rfl λK hK=>?_
     have hsz:=HM.o.size;refine mQ (K:=ratK) (F:=GoF (λ_=>False) w W.heap.size) rfl _ _ 61 74 56 _ Tryz.underlying61 Tryz.infoNum1 rfl au rfl wa.heap.size hsz u L rfl ⟨ay fr,Gw A1 (ay fr).num.length c1,Gw B1 (ay fr).den.length d1⟩ _ rfl (by have:=HLL.o; omega) rfl HM.o.own (RV.fine.keep HFN.o (λb hb _=>⟨.inr FI,λe=>by have:=HUB.o b e; omega⟩) (GZ _ _)) (GR _ _) ?_;intro gg cap w5 hown5 oh adX jr;have HM5:=Ag (HM.o.grow hown5 jr oh);have aix:=HM5.o.cell HVL.o;have aow:=HM5.o.frozen k;have HR5:=Ag (Bo.o.of_block (jr.2 _ (λe=>by have:=HUB.o _ e; omega) Bo.o.lt));clear hown5 oh adX jr hsz hzn HM hcu;refine hK.out _ _ aix (λhHeld=>?_);clear hK K;refine Zb ?_;refine tkm [8] ?_;refine Zp ?_;clear hHeld;go_wp2
     refine ZW ?_;go_wp2
     go_roundw
     case rel =>
      exact⟨j+1,L ++ [⟨ay fr,Gw A1 (ay fr).num.length c1,Gw B1 (ay fr).den.length d1⟩],_,FI,by go_num,by rw[G9,HLL.o]; rfl,by rw[Hf,HLM.o,List.replicate_succ',Hf,HFR.o]; rfl,HM5.o.put HVL.o,HR5.o.other (by show w.heap.size≠bo; omega) _⟩
     case measure=>exact zMs
    ·have hje:j=k:=FI;subst hje;go_wp2
     go_roundw
     case rel =>
      refine⟨j+1,vs ++ [u],FI,by go_num,by rw[G9,HVL.o]; rfl,?_,Bo.o⟩;have h2:=HM.o.next;rw[HLM.o] at h2;rw[List.range_succ,Hf];exact h2
     case measure=>exact zMs
  ·have hke:k=11:=FI;subst hke;have h2:=HM.o.row;rw[restN_full (by rw[HVL.o]; exact Gy _)] at h2;have HD2:=Ag (HM.o.done.keep (G:=λb=>w.heap.size < b) (λb hb _=>by
    have h5:=HM.o.hi;rcases hb with hb | hb
    ·exact hb.1.elim
    ·show w.heap.size < b; omega) (GZ _ _))
   have HB2:=Ag HM.o.bel;obtain⟨a0,a1,a2,a3,a4,a5,a6,a7,a8,a9,a10,rfl⟩:=al4 HVL.o;obtain⟨A0,C0,e0,-,-⟩:=HD2.o.2 0 a0 _ rfl rfl;obtain rfl:a0 = Gw A0 0 C0:=e0;obtain⟨A1,C1,e1,-,-⟩:=HD2.o.2 1 a1 _ rfl rfl;obtain rfl:a1 = Gw A1 1 C1:=e1;obtain⟨A2,C2,e2,-,-⟩:=HD2.o.2 2 a2 _ rfl rfl;obtain rfl:a2 = Gw A2 2 C2:=e2;obtain⟨A3,C3,e3,-,-⟩:=HD2.o.2 3 a3 _ rfl rfl;obtain rfl:a3 = Gw A3 3 C3:=e3;obtain⟨A4,C4,e4,-,-⟩:=HD2.o.2 4 a4 _ rfl rfl;obtain rfl:a4 = Gw A4 4 C4:=e4;obtain⟨A5,C5,e5,-,-⟩:=HD2.o.2 5 a5 _ rfl rfl;obtain rfl:a5 = Gw A5 5 C5:=e5;obtain⟨A6,C6,e6,-,-⟩:=HD2.o.2 6 a6 _ rfl rfl;obtain rfl:a6 = Gw A6 6 C6:=e6;obtain⟨A7,C7,e7,-,-⟩:=HD2.o.2 7 a7 _ rfl rfl;obtain rfl:a7 = Gw A7 7 C7:=e7;obtain⟨A8,C8,e8,-,-⟩:=HD2.o.2 8 a8 _ rfl rfl;obtain rfl:a8 = Gw A8 8 C8:=e8;obtain⟨A9,C9,e9,-,-⟩:=HD2.o.2 9 a9 _ rfl rfl;obtain rfl:a9 = Gw A9 9 C9:=e9;obtain⟨A10,C10,e10,-,-⟩:=HD2.o.2 10 a10 _ rfl rfl;obtain rfl:a10 = Gw A10 10 C10:=e10;have HH2:=Ag h2;have c0:=h2.cell (i:=0) rfl;have d0:=Bo.o.cell (i:=0) rfl;have f0:=Bo.o.frozen 0;have c1:=h2.cell (i:=1) rfl;have d1:=Bo.o.cell (i:=1) rfl;have f1:=Bo.o.frozen 1;have c2:=h2.cell (i:=2) rfl;have d2:=Bo.o.cell (i:=2) rfl;have f2:=Bo.o.frozen 2;have c3:=h2.cell (i:=3) rfl;have d3:=Bo.o.cell (i:=3) rfl;have f3:=Bo.o.frozen 3;have c4:=h2.cell (i:=4) rfl;have d4:=Bo.o.cell (i:=4) rfl;have f4:=Bo.o.frozen 4;have c5:=h2.cell (i:=5) rfl;have d5:=Bo.o.cell (i:=5) rfl;have f5:=Bo.o.frozen 5;have c6:=h2.cell (i:=6) rfl;have d6:=Bo.o.cell (i:=6) rfl;have f6:=Bo.o.frozen 6;have c7:=h2.cell (i:=7) rfl;have d7:=Bo.o.cell (i:=7) rfl;have f7:=Bo.o.frozen 7;have c8:=h2.cell (i:=8) rfl;have d8:=Bo.o.cell (i:=8) rfl;have f8:=Bo.o.frozen 8;have c9:=h2.cell (i:=9) rfl;have d9:=Bo.o.cell (i:=9) rfl;have f9:=Bo.o.frozen 9;have c10:=h2.cell (i:=10) rfl;have d10:=Bo.o.cell (i:=10) rfl;have f10:=Bo.o.frozen 10;obtain⟨W9,hW9,hr9,hw9⟩:=ao6 Bo.o (Gw A0 0 C0) (Gw A1 1 C1) (Gw A2 2 C2) (Gw A3 3 C3) (Gw A4 4 C4) (Gw A5 5 C5) (Gw A6 6 C6) (Gw A7 7 C7) (Gw A8 8 C8) (Gw A9 9 C9) (Gw A10 10 C10);clear HM h2;go_wp2
   rw[<-hW9];have z0:=hr9.cell (i:=0) rfl;have z1:=hr9.cell (i:=1) rfl;have z2:=hr9.cell (i:=2) rfl;have z3:=hr9.cell (i:=3) rfl;have z4:=hr9.cell (i:=4) rfl;have z5:=hr9.cell (i:=5) rfl;have z6:=hr9.cell (i:=6) rfl;have z7:=hr9.cell (i:=7) rfl;have z8:=hr9.cell (i:=8) rfl;have z9:=hr9.cell (i:=9) rfl;have z10:=hr9.cell (i:=10) rfl;have HF:=Ag (show EN W9 (λb=>w.heap.size<=b) (.agg #[Gw A0 0 C0,Gw A1 1 C1,Gw A2 2 C2,Gw A3 3 C3,Gw A4 4 C4,Gw A5 5 C5,Gw A6 6 C6,Gw A7 7 C7,Gw A8 8 C8,Gw A9 9 C9,Gw A10 10 C10]) from⟨[Gw A0 0 C0,Gw A1 1 C1,Gw A2 2 C2,Gw A3 3 C3,Gw A4 4 C4,Gw A5 5 C5,Gw A6 6 C6,Gw A7 7 C7,Gw A8 8 C8,Gw A9 9 C9,Gw A10 10 C10],rfl,HD2.o.keep (λb hb _=>by omega) (hw9.same λb hb=>by omega)⟩);have HB9:=Ag (Wrote.below HB2.o hw9 (λb hb=>by omega) HB2.o.size);clear HD2 hw9 HB2 HH2 hW9;refine bodyPost_ret (v:=.agg #[Gw A0 0 C0,Gw A1 1 C1,Gw A2 2 C2,Gw A3 3 C3,Gw A4 4 C4,Gw A5 5 C5,Gw A6 6 C6,Gw A7 7 C7,Gw A8 8 C8,Gw A9 9 C9,Gw A10 10 C10]) (by simp[results,Tryz.results118,go_sem,z0,z1,z2,z3,z4,z5,z6,z7,z8,z9,z10]) rfl ?_;exact⟨_,rfl,HB9.o,HF.o⟩

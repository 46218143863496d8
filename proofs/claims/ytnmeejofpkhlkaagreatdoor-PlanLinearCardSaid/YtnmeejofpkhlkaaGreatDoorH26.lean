/- plan.even: the uniform rows, one for each number of actions. -/
import Derived.Test.YtnmeejofpkhlkaaGreatDoorH23
import Derived.Test.YtnmeejofpkhlkaaGreatDoorH09
set_option linter.all false
set_option maxRecDepth 100000
set_option maxHeartbeats 12800000
namespace Go.Proofs.YtnmeejofpkhlkaaGreatDoor
open Lib renaming hid → Ag
open List renaming getElem_toArray → lq1, getElem_cons_zero → lq2, getElem_cons_succ → lq3, setIfInBounds_toArray → lq4, set_cons_zero → lq5, set_cons_succ → lq6
open Go.RowKit
theorem Tryz.infoNum1:(Tryz.prog.info? 114).map (fun i=>(i.zero,i.size,i.bytes))=some (some (.agg #[.bool false,.slice none 0 0,.slice none 0 0]),ratK.n,56):=ah
theorem alY {w:World} {b:Nat} {t:TypeId} {z:Value} (h:Row w b t (List.replicate 11 z)) (a0 a1 a2 a3 a4 a5 a6 a7 a8 a9 a10:Value):∃ W,W=(((((((((((w.setCell ⟨b,0,none⟩ a0).setCell ⟨b,1,none⟩ a1).setCell ⟨b,2,none⟩ a2).setCell ⟨b,3,none⟩ a3).setCell ⟨b,4,none⟩ a4).setCell ⟨b,5,none⟩ a5).setCell ⟨b,6,none⟩ a6).setCell ⟨b,7,none⟩ a7).setCell ⟨b,8,none⟩ a8).setCell ⟨b,9,none⟩ a9).setCell ⟨b,10,none⟩ a10) ∧
  Row W b t [a0,a1,a2,a3,a4,a5,a6,a7,a8,a9,a10]∧Wrote (fun k=>k=b) w W:=by
 refine⟨_,rfl,?_,?_⟩
 ·exact(((((((((((h.set 0 a0).set 1 a1).set 2 a2).set 3 a3).set 4 a4).set 5 a5).set 6 a6).set 7 a7).set 8 a8).set 9 a9).set 10 a10)
 ·have h0:Wrote (fun k=>k=b) w w:=Wrote.refl _ _;exact(((((((((((h0.setCell (p:=⟨b,0,none⟩) (.inl rfl) a0).setCell (p:=⟨b,1,none⟩) (.inl rfl) a1).setCell (p:=⟨b,2,none⟩) (.inl rfl) a2).setCell (p:=⟨b,3,none⟩) (.inl rfl) a3).setCell (p:=⟨b,4,none⟩) (.inl rfl) a4).setCell (p:=⟨b,5,none⟩) (.inl rfl) a5).setCell (p:=⟨b,6,none⟩) (.inl rfl) a6).setCell (p:=⟨b,7,none⟩) (.inl rfl) a7).setCell (p:=⟨b,8,none⟩) (.inl rfl) a8).setCell (p:=⟨b,9,none⟩) (.inl rfl) a9).setCell (p:=⟨b,10,none⟩) (.inl rfl) a10)
theorem agb {α:Type} {l:List α} (h:l.length=11):∃ a0 a1 a2 a3 a4 a5 a6 a7 a8 a9 a10,l = [a0,a1,a2,a3,a4,a5,a6,a7,a8,a9,a10]:=by
 match l,h with
 | [a0,a1,a2,a3,a4,a5,a6,a7,a8,a9,a10],_=>exact⟨a0,a1,a2,a3,a4,a5,a6,a7,a8,a9,a10,rfl⟩
def D9 (w:World) (F:Foot) (v:Value):Prop:=∃ vs:List Value,v = .agg vs.toArray∧DoneRows w F vs ((List.range 11).map fun n=>(iR n).map au)
theorem acp (w:World):Calls Tryz.prog 123 #[] w (Ret w fun u w'=>D9 w' (fun b=>w.heap.size≤b) u):=by
 go_in
 go_upto_region 2 with(fail)
 obtain⟨W,hW,rx,ry,hB0,hz0⟩:=alloc2 w 171 #[.slice none 0 0,.slice none 0 0,.slice none 0 0,.slice none 0 0,.slice none 0 0,.slice none 0 0,.slice none 0 0,.slice none 0 0,.slice none 0 0,.slice none 0 0,.slice none 0 0] 171 #[.slice none 0 0,.slice none 0 0,.slice none 0 0,.slice none 0 0,.slice none 0 0,.slice none 0 0,.slice none 0 0,.slice none 0 0,.slice none 0 0,.slice none 0 0,.slice none 0 0];rw[← hW];clear hW;obtain⟨bo,hbo⟩:=named (w.heap.size+1);rw[← hbo] at ry ⊢;have hbw:w.heap.size < bo:=byOmega;have hboW:bo < W.heap.size:=byOmega;have HX:=Ag (show Row W w.heap.size 171 (List.replicate 11 (.slice none 0 0)) from rx);have HM:=Ag (MkO.begin (F:=fun _=>False) (show Row W bo 171 (List.replicate 11 (.slice none 0 0)) from ry) hB0 byOmega hboW (Nat.le_refl _));clear rx ry hB0 hz0 hbo;go_wp2
 go_loopw [3] (fun i wr=>∃ (k:Nat) (vs:List Value),k≤11∧i = .int .i64 (k:Int)∧vs.length=k∧MkO (fun _=>False) w bo 171 11 W.heap.size vs ((List.range k).map fun n=>(iR n).map au) wr∧Row wr w.heap.size 171 (List.replicate 11 (.slice none 0 0))) (fun i _=>11 - (intOf i).toNat)
 case atStart=>exact⟨0,[],Nat.zero_le _,rfl,rfl,HM.out,HX.out⟩
 case round =>
  clear HX HM;obtain⟨k,vs,hk,rfl,hvl,hmk,hres⟩:=hrel;obtain⟨wa,rfl⟩:=named wr;have HM:=Ag hmk;have HVL:=Ag hvl;have AU:=Ag hres;clear hmk hvl hres;by_cases hlt:k < 11
  ·replace HM:=Ag (HM.out.start (by rw[HVL.out]; exact hlt) 114);have hd11:decide ((k:Int) < 11)=true:=decide_eq_true byOmega;go_wp2
   go_loopw [7] (fun i wr=>∃ (j:Nat) (L:List RV) (u:Value),j≤k∧i = .int .i64 (j:Int)∧L.length=j∧L.map RV.r=(List.replicate j (((1:Int):Rat) / ((k:Int):Rat))).map au∧Mk (fun _=>False) w bo 171 114 11 W.heap.size wa.heap.size vs ((List.range k).map fun n=>(iR n).map au) u u L wr∧Row wr w.heap.size 171 (List.replicate 11 (.slice none 0 0))) (fun i _=>k - (intOf i).toNat)
   case atStart=>exact⟨0,[],_,Nat.zero_le _,rfl,rfl,rfl,HM.out,AU.out⟩
   case round =>
    clear HM AU hd11;obtain⟨j,L,u,hj,rfl,hLl,hLm,hmk,hres⟩:=hrel;obtain⟨wb,rfl⟩:=named wr;have HM:=Ag hmk;have HLL:=Ag hLl;have HLM:=Ag hLm;have AU:=Ag hres;refine zcp ?_;intro HUB;have hmid:=HM.out.mid;have hsz0:=HM.out.size;clear hmk hLl hLm hres;by_cases hjt:j < k
    ·have hcu:=HM.out.cell HVL.out;have hI:(k:Int) < 11:=byOmega;go_wp2_with fail
     refine aW (fun w'=>w'.cell? ⟨bo,k,none⟩=some (u)) 9 1 ah rfl ah ?_;have hHeld:(fun w':World=>w'.cell? ⟨bo,k,none⟩=some (u)) wb.drew:=hcu;refine Zy ?_;refine zcF ?_;intro hb;obtain⟨wn,hwn⟩:=named wb.drew;rw[← hwn] at hb hHeld ⊢;have hzn:=hb.size;replace HM:=Ag (HM.out.below hb);replace AU:=Ag (AU.out.below hb AU.out.lt);replace hcu:=ak hcu hb;clear hb hwn;refine tkm [0,1,2,3,4] ?_;refine tk2 5 ah rfl fun K hK=>?_
     go_simp;refine(ahH _ 1 (k:Int) byOmega byOmega byOmega byOmega byOmega).mono ?_;rintro e wn ⟨vq,rfl,hb,hu⟩;replace HM:=Ag (HM.out.below hb);replace AU:=Ag (AU.out.below hb AU.out.lt);replace hcu:=ak hcu hb;obtain⟨A1,c1,B1,d1,rfl,jm⟩:=hu.opened;obtain⟨fr,hfr⟩:=named (((1:Int):Rat) / ((k:Int):Rat));rw[← hfr] at jm ⊢;have HFR:=Ag hfr;have HFN:=Ag (RV.fine.keep (G:=fun b=>wb.heap.size≤b) jm (fun b hb _=>by omega) (Same.refl _ _));clear hu jm hfr;replace hzn:=Nat.le_trans hzn hb.size;clear hb hHeld;dsimp only;refine hK.out _ _ hcu (fun hHeld=>?_);clear hK K;refine Zb ?_;refine tk2 6 ah rfl fun K hK=>?_
     go_simp;refine hK.out _ _ (ak hcu ((Below.refl _ _).alloc (Nat.le_refl _) _)) (fun hHeld=>?_);clear hK K;refine Zb ?_;refine tk2 7 ah rfl fun K hK=>?_
     have hsz:=HM.out.size;refine kY (K:=ratK) (F:=GoF (fun _=>False) w W.heap.size) rfl _ _ 96 114 56 _ Tryz.underlying96 Tryz.infoNum1 rfl ay rfl wa.heap.size hsz u L rfl ⟨au fr,.slice A1 (au fr).num.length c1,.slice B1 (au fr).den.length d1⟩ _ rfl (by have:=HLL.out; omega) rfl HM.out.own (RV.fine.keep HFN.out (fun b hb _=>⟨.inr byOmega,fun e=>by have:=HUB.out b e; omega⟩) (Same.refl _ _)) (Below.refl _ _) ?_;intro gg cap w5 hown5 lY zX iP;have HM5:=Ag (HM.out.grow hown5 iP lY);have aa1:=HM5.out.cell HVL.out;have ajl:=HM5.out.frozen k;have HR5:=Ag (AU.out.of_block (iP.2 _ (fun e=>by have:=HUB.out _ e; omega) AU.out.lt));clear hown5 lY zX iP hsz hzn HM hcu;refine hK.out _ _ aa1 (fun hHeld=>?_);clear hK K;refine Zb ?_;refine tkm [8] ?_;refine ZF ?_;clear hHeld;go_wp2
     refine Y4 ?_;go_wp2
     go_roundw
     case rel =>
      exact⟨j+1,L ++ [⟨au fr,.slice A1 (au fr).num.length c1,.slice B1 (au fr).den.length d1⟩],_,byOmega,by go_num,by rw[List.length_append,HLL.out]; rfl,by rw[List.map_append,HLM.out,List.replicate_succ',List.map_append,HFR.out]; rfl,HM5.out.put HVL.out,HR5.out.other (by show w.heap.size≠bo; omega) _⟩
     case measure=>simp[intOf]; omega
    ·have hje:j=k:=byOmega;subst hje;go_wp2
     go_roundw
     case rel =>
      refine⟨j+1,vs ++ [u],byOmega,by go_num,by rw[List.length_append,HVL.out]; rfl,?_,AU.out⟩;have h2:=HM.out.next;rw[HLM.out] at h2;rw[List.range_succ,List.map_append];exact h2
     case measure=>simp[intOf]; omega
  ·have hke:k=11:=byOmega;subst hke;have h2:=HM.out.row;rw[restN_full (by rw[HVL.out]; exact Nat.le_refl _)] at h2;have HD2:=Ag (HM.out.done.keep (G:=fun b=>w.heap.size < b) (fun b hb _=>by
    have h5:=HM.out.hi;rcases hb with hb | hb
    ·exact hb.1.elim
    ·show w.heap.size < b; omega) (Same.refl _ _))
   have HB2:=Ag HM.out.bel;obtain⟨a0,a1,a2,a3,a4,a5,a6,a7,a8,a9,a10,rfl⟩:=agb HVL.out;obtain⟨A0,C0,e0,-,-⟩:=HD2.out.2 0 a0 _ rfl rfl;obtain rfl:a0 = .slice A0 0 C0:=e0;obtain⟨A1,C1,e1,-,-⟩:=HD2.out.2 1 a1 _ rfl rfl;obtain rfl:a1 = .slice A1 1 C1:=e1;obtain⟨A2,C2,e2,-,-⟩:=HD2.out.2 2 a2 _ rfl rfl;obtain rfl:a2 = .slice A2 2 C2:=e2;obtain⟨A3,C3,e3,-,-⟩:=HD2.out.2 3 a3 _ rfl rfl;obtain rfl:a3 = .slice A3 3 C3:=e3;obtain⟨A4,C4,e4,-,-⟩:=HD2.out.2 4 a4 _ rfl rfl;obtain rfl:a4 = .slice A4 4 C4:=e4;obtain⟨A5,C5,e5,-,-⟩:=HD2.out.2 5 a5 _ rfl rfl;obtain rfl:a5 = .slice A5 5 C5:=e5;obtain⟨A6,C6,e6,-,-⟩:=HD2.out.2 6 a6 _ rfl rfl;obtain rfl:a6 = .slice A6 6 C6:=e6;obtain⟨A7,C7,e7,-,-⟩:=HD2.out.2 7 a7 _ rfl rfl;obtain rfl:a7 = .slice A7 7 C7:=e7;obtain⟨A8,C8,e8,-,-⟩:=HD2.out.2 8 a8 _ rfl rfl;obtain rfl:a8 = .slice A8 8 C8:=e8;obtain⟨A9,C9,e9,-,-⟩:=HD2.out.2 9 a9 _ rfl rfl;obtain rfl:a9 = .slice A9 9 C9:=e9;obtain⟨A10,C10,e10,-,-⟩:=HD2.out.2 10 a10 _ rfl rfl;obtain rfl:a10 = .slice A10 10 C10:=e10;have HH2:=Ag h2;have c0:=h2.cell (i:=0) rfl;have d0:=AU.out.cell (i:=0) rfl;have f0:=AU.out.frozen 0;have c1:=h2.cell (i:=1) rfl;have d1:=AU.out.cell (i:=1) rfl;have f1:=AU.out.frozen 1;have c2:=h2.cell (i:=2) rfl;have d2:=AU.out.cell (i:=2) rfl;have f2:=AU.out.frozen 2;have c3:=h2.cell (i:=3) rfl;have d3:=AU.out.cell (i:=3) rfl;have f3:=AU.out.frozen 3;have c4:=h2.cell (i:=4) rfl;have d4:=AU.out.cell (i:=4) rfl;have f4:=AU.out.frozen 4;have c5:=h2.cell (i:=5) rfl;have d5:=AU.out.cell (i:=5) rfl;have f5:=AU.out.frozen 5;have c6:=h2.cell (i:=6) rfl;have d6:=AU.out.cell (i:=6) rfl;have f6:=AU.out.frozen 6;have c7:=h2.cell (i:=7) rfl;have d7:=AU.out.cell (i:=7) rfl;have f7:=AU.out.frozen 7;have c8:=h2.cell (i:=8) rfl;have d8:=AU.out.cell (i:=8) rfl;have f8:=AU.out.frozen 8;have c9:=h2.cell (i:=9) rfl;have d9:=AU.out.cell (i:=9) rfl;have f9:=AU.out.frozen 9;have c10:=h2.cell (i:=10) rfl;have d10:=AU.out.cell (i:=10) rfl;have f10:=AU.out.frozen 10;obtain⟨W9,hW9,hr9,hw9⟩:=alY AU.out (.slice A0 0 C0) (.slice A1 1 C1) (.slice A2 2 C2) (.slice A3 3 C3) (.slice A4 4 C4) (.slice A5 5 C5) (.slice A6 6 C6) (.slice A7 7 C7) (.slice A8 8 C8) (.slice A9 9 C9) (.slice A10 10 C10);clear HM h2;go_wp2
   rw[← hW9];have z0:=hr9.cell (i:=0) rfl;have z1:=hr9.cell (i:=1) rfl;have z2:=hr9.cell (i:=2) rfl;have z3:=hr9.cell (i:=3) rfl;have z4:=hr9.cell (i:=4) rfl;have z5:=hr9.cell (i:=5) rfl;have z6:=hr9.cell (i:=6) rfl;have z7:=hr9.cell (i:=7) rfl;have z8:=hr9.cell (i:=8) rfl;have z9:=hr9.cell (i:=9) rfl;have z10:=hr9.cell (i:=10) rfl;have HF:=Ag (show D9 W9 (fun b=>w.heap.size≤b) (.agg #[.slice A0 0 C0,.slice A1 1 C1,.slice A2 2 C2,.slice A3 3 C3,.slice A4 4 C4,.slice A5 5 C5,.slice A6 6 C6,.slice A7 7 C7,.slice A8 8 C8,.slice A9 9 C9,.slice A10 10 C10]) from⟨[.slice A0 0 C0,.slice A1 1 C1,.slice A2 2 C2,.slice A3 3 C3,.slice A4 4 C4,.slice A5 5 C5,.slice A6 6 C6,.slice A7 7 C7,.slice A8 8 C8,.slice A9 9 C9,.slice A10 10 C10],rfl,HD2.out.keep (fun b hb _=>by omega) (hw9.same fun b hb=>by omega)⟩);have HB9:=Ag (Wrote.below HB2.out hw9 (fun b hb=>by omega) HB2.out.size);clear HD2 hw9 HB2 HH2 hW9;refine bodyPost_ret (v:=.agg #[.slice A0 0 C0,.slice A1 1 C1,.slice A2 2 C2,.slice A3 3 C3,.slice A4 4 C4,.slice A5 5 C5,.slice A6 6 C6,.slice A7 7 C7,.slice A8 8 C8,.slice A9 9 C9,.slice A10 10 C10]) (by simp[results,Tryz.results123,go_sem,z0,z1,z2,z3,z4,z5,z6,z7,z8,z9,z10]) rfl ?_;exact⟨_,rfl,HB9.out,HF.out⟩
end Go.Proofs.YtnmeejofpkhlkaaGreatDoor

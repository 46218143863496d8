/- plan.even: the uniform rows, one for each number of actions. -/
import Derived.Test.YthmklhapjegfdaaGreatDoorP36
import Derived.Test.YthmklhapjegfdaaGreatDoorP21
set_option linter.all false
set_option maxRecDepth 100000
set_option maxHeartbeats 12800000
namespace Go.Proofs.YthmklhapjegfdaaGreatDoor
open Lib renaming hid → Ae
open List renaming getElem_toArray → lq1, getElem_cons_zero → lq2, getElem_cons_succ → lq3, setIfInBounds_toArray → lq4, set_cons_zero → lq5, set_cons_succ → lq6
open Go.RowKit
theorem Tryz.infoNum1:(Tryz.prog.info? 118).map (fun i=>(i.zero,i.size,i.bytes))=some (some (.agg #[.bool false,.slice none 0 0,.slice none 0 0]),uI.n,56):=aj
theorem aiV {w:World} {b:Nat} {t:TypeId} {z:Value} (h:Row w b t (List.replicate 11 z)) (a0 a1 a2 a3 a4 a5 a6 a7 a8 a9 a10:Value):∃ W,W=(((((((((((w.setCell ⟨b,0,none⟩ a0).setCell ⟨b,1,none⟩ a1).setCell ⟨b,2,none⟩ a2).setCell ⟨b,3,none⟩ a3).setCell ⟨b,4,none⟩ a4).setCell ⟨b,5,none⟩ a5).setCell ⟨b,6,none⟩ a6).setCell ⟨b,7,none⟩ a7).setCell ⟨b,8,none⟩ a8).setCell ⟨b,9,none⟩ a9).setCell ⟨b,10,none⟩ a10) ∧
  Row W b t [a0,a1,a2,a3,a4,a5,a6,a7,a8,a9,a10]∧Wrote (fun k=>k=b) w W:=by
 refine⟨_,rfl,?_,?_⟩
 ·exact(((((((((((h.set 0 a0).set 1 a1).set 2 a2).set 3 a3).set 4 a4).set 5 a5).set 6 a6).set 7 a7).set 8 a8).set 9 a9).set 10 a10)
 ·have h0:Wrote (fun k=>k=b) w w:=Wrote.refl _ _;exact(((((((((((h0.setCell (p:=⟨b,0,none⟩) (.inl rfl) a0).setCell (p:=⟨b,1,none⟩) (.inl rfl) a1).setCell (p:=⟨b,2,none⟩) (.inl rfl) a2).setCell (p:=⟨b,3,none⟩) (.inl rfl) a3).setCell (p:=⟨b,4,none⟩) (.inl rfl) a4).setCell (p:=⟨b,5,none⟩) (.inl rfl) a5).setCell (p:=⟨b,6,none⟩) (.inl rfl) a6).setCell (p:=⟨b,7,none⟩) (.inl rfl) a7).setCell (p:=⟨b,8,none⟩) (.inl rfl) a8).setCell (p:=⟨b,9,none⟩) (.inl rfl) a9).setCell (p:=⟨b,10,none⟩) (.inl rfl) a10)
theorem ahn {α:Type} {l:List α} (h:l.length=11):∃ a0 a1 a2 a3 a4 a5 a6 a7 a8 a9 a10,l = [a0,a1,a2,a3,a4,a5,a6,a7,a8,a9,a10]:=by
 match l,h with
 | [a0,a1,a2,a3,a4,a5,a6,a7,a8,a9,a10],_=>exact⟨a0,a1,a2,a3,a4,a5,a6,a7,a8,a9,a10,rfl⟩
def DL (w:World) (F:Ah) (v:Value):Prop:=∃ vs:List Value,v = .agg vs.toArray∧AQ w F vs ((List.range 11).map fun n=>(lI n).map ak)
theorem afX (w:World):Calls Tryz.prog 71 #[] w (Ret w fun u w'=>DL w' (fun b=>w.heap.size≤b) u):=by
 go_in
 go_upto_region 2 with(fail)
 obtain⟨W,hW,rx,ry,hB0,hz0⟩:=alloc2 w 111 #[.slice none 0 0,.slice none 0 0,.slice none 0 0,.slice none 0 0,.slice none 0 0,.slice none 0 0,.slice none 0 0,.slice none 0 0,.slice none 0 0,.slice none 0 0,.slice none 0 0] 111 #[.slice none 0 0,.slice none 0 0,.slice none 0 0,.slice none 0 0,.slice none 0 0,.slice none 0 0,.slice none 0 0,.slice none 0 0,.slice none 0 0,.slice none 0 0,.slice none 0 0];rw[← hW];clear hW;obtain⟨bo,hbo⟩:=named (w.heap.size+1);rw[← hbo] at ry ⊢;have hbw:w.heap.size < bo:=byOmega;have hboW:bo < W.heap.size:=byOmega;have HX:=Ae (show Row W w.heap.size 111 (List.replicate 11 (.slice none 0 0)) from rx);have HM:=Ae (MkO.begin (F:=fun _=>False) (show Row W bo 111 (List.replicate 11 (.slice none 0 0)) from ry) hB0 byOmega hboW (Nat.le_refl _));clear rx ry hB0 hz0 hbo;go_wp2
 go_loopw [3] (fun i wr=>∃ (k:Nat) (vs:List Value),k≤11∧i = .int .i64 (k:Int)∧vs.length=k∧MkO (fun _=>False) w bo 111 11 W.heap.size vs ((List.range k).map fun n=>(lI n).map ak) wr∧Row wr w.heap.size 111 (List.replicate 11 (.slice none 0 0))) (fun i _=>11 - (intOf i).toNat)
 case atStart=>exact⟨0,[],Nat.zero_le _,rfl,rfl,HM.out,HX.out⟩
 case round =>
  clear HX HM;obtain⟨k,vs,hk,rfl,hvl,hmk,hres⟩:=hrel;obtain⟨wa,rfl⟩:=named wr;have HM:=Ae hmk; have HVL:=Ae hvl; have Ba:=Ae hres;clear hmk hvl hres;by_cases hlt:k < 11
  ·replace HM:=Ae (HM.out.start (by rw[HVL.out]; exact hlt) 118);have hd11:decide ((k:Int) < 11)=true:=decide_eq_true byOmega;go_wp2
   go_loopw [7] (fun i wr=>∃ (j:Nat) (L:List RV) (u:Value),j≤k∧i = .int .i64 (j:Int)∧L.length=j∧L.map RV.r=(List.replicate j (((1:Int):Rat) / ((k:Int):Rat))).map ak∧Mk (fun _=>False) w bo 111 118 11 W.heap.size wa.heap.size vs ((List.range k).map fun n=>(lI n).map ak) u u L wr∧Row wr w.heap.size 111 (List.replicate 11 (.slice none 0 0))) (fun i _=>k - (intOf i).toNat)
   case atStart=>exact⟨0,[],_,Nat.zero_le _,rfl,rfl,rfl,HM.out,Ba.out⟩
   case round =>
    clear HM Ba hd11;obtain⟨j,L,u,hj,rfl,hLl,hLm,hmk,hres⟩:=hrel;obtain⟨wb,rfl⟩:=named wr;have HM:=Ae hmk; have HLL:=Ae hLl; have HLM:=Ae hLm; have Ba:=Ae hres;have HUB:=Ae (fun b (e:u.ownBlock=some b)=>HM.out.own.row.lt b e);have hmid:=HM.out.mid; have hsz0:=HM.out.size;clear hmk hLl hLm hres;by_cases hjt:j < k
    ·have hcu:=HM.out.cell HVL.out;have hI:(k:Int) < 11:=byOmega;go_wp2_with fail
     refine bW (fun w'=>w'.cell? ⟨bo,k,none⟩=some (u)) 9 1 aj rfl aj ?_;have hHeld:(fun w':World=>w'.cell? ⟨bo,k,none⟩=some (u)) wb.drew:=hcu;simp only[List.take_succ_cons,List.take_zero];have hb:Below wb.heap.size wb wb.drew:=aH (Below.refl _ wb) 1;obtain⟨wn,hwn⟩:=named wb.drew;rw[← hwn] at hb hHeld ⊢;have hzn:=hb.size;replace HM:=Ae (HM.out.below hb);replace Ba:=Ae (Ba.out.below hb Ba.out.lt);replace hcu:=ah hcu hb;clear hb hwn;refine tk0 [0,1,2,3,4] ?_;iterate 5 (refine tk (v:=?_) rfl aj aj aj (fun _ _ _ h=>h) (Or.inl ⟨by rfl,?_⟩) hHeld ?_;rotate_left;(focus intro wx hSx;(try dsimp only at hSx);go_split_ands;go_simp;try with_reducible rfl);try simp only[Act.put,lq1,lq2,lq3,lq4,lq5,lq6])
     refine tk1 ?_;refine tk2 5 aj rfl fun K hK=>?_
     go_simp;refine(afy _ 1 (k:Int) byOmega byOmega byOmega byOmega byOmega).mono ?_;rintro e wn ⟨vq,rfl,hb,hu⟩;replace HM:=Ae (HM.out.below hb);replace Ba:=Ae (Ba.out.below hb Ba.out.lt);replace hcu:=ah hcu hb;obtain⟨A1,c1,B1,d1,rfl,iq⟩:=hu.opened;obtain⟨fr,hfr⟩:=named (((1:Int):Rat) / ((k:Int):Rat));rw[← hfr] at iq ⊢;have HFR:=Ae hfr;have HFN:=Ae (RV.fine.keep (G:=fun b=>wb.heap.size≤b) iq (fun b hb _=>by omega) (Same.refl _ _));clear hu iq hfr;replace hzn:=Nat.le_trans hzn hb.size;clear hb hHeld;dsimp only;refine hK.out _ _ hcu (fun hHeld=>?_);clear hK K;try simp only[Act.put,lq1,lq2,lq3,lq4,lq5,lq6]
     refine tk2 6 aj rfl fun K hK=>?_
     go_simp;refine hK.out _ _ (ah hcu ((Below.refl _ _).alloc (Nat.le_refl _) _)) (fun hHeld=>?_);clear hK K;try simp only[Act.put,lq1,lq2,lq3,lq4,lq5,lq6]
     refine tk2 7 aj rfl fun K hK=>?_
     have hsz:=HM.out.size;refine nO (K:=uI) (F:=GoF (fun _=>False) w W.heap.size) rfl _ _ 110 118 56 _ Tryz.underlying110 Tryz.infoNum1 rfl aB rfl wa.heap.size hsz u L rfl ⟨ak fr,.slice A1 (ak fr).num.length c1,.slice B1 (ak fr).den.length d1⟩ _ rfl (by have:=HLL.out; omega) rfl HM.out.own (RV.fine.keep HFN.out (fun b hb _=>⟨.inr byOmega,fun e=>by have:=HUB.out b e; omega⟩) (Same.refl _ _)) (Below.refl _ _) ?_;intro gg cap w5 hown5 qy afW lX;have HM5:=Ae (HM.out.grow hown5 lX qy);have aeu:=HM5.out.cell HVL.out;have aiG:=HM5.out.frozen k;have HR5:=Ae (Ba.out.of_block (lX.2 _ (fun e=>by have:=HUB.out _ e; omega) Ba.out.lt));clear hown5 qy afW lX hsz hzn HM hcu;refine hK.out _ _ aeu (fun hHeld=>?_);clear hK K;try simp only[Act.put,lq1,lq2,lq3,lq4,lq5,lq6]
     refine tk0 [8] ?_;(refine tk (v:=?_) rfl aj aj aj (fun _ _ _ h=>h) (Or.inl ⟨by rfl,?_⟩) hHeld ?_;rotate_left;(focus intro wx hSx;(try dsimp only at hSx);go_split_ands;go_simp;try with_reducible rfl);try simp only[Act.put,lq1,lq2,lq3,lq4,lq5,lq6])
     refine tk1 ?_;refine wpAnyH_done aj ?_ _;clear hHeld;show wpList _ _ _ _ _ _;go_wp2
     unfold Bv;show Exit.inBlock _ _ .normal _ _;go_wp2
     go_roundw
     case rel =>
      exact⟨j+1,L ++ [⟨ak fr,.slice A1 (ak fr).num.length c1,.slice B1 (ak fr).den.length d1⟩],_,byOmega,by go_num,by rw[List.length_append,HLL.out]; rfl,by rw[List.map_append,HLM.out,List.replicate_succ',List.map_append,HFR.out]; rfl,HM5.out.put HVL.out,HR5.out.other (by show w.heap.size≠bo; omega) _⟩
     case measure=>simp[intOf]; omega
    ·have hje:j=k:=byOmega;subst hje;go_wp2
     go_roundw
     case rel =>
      refine⟨j+1,vs ++ [u],byOmega,by go_num,by rw[List.length_append,HVL.out]; rfl,?_,Ba.out⟩;have h2:=HM.out.next;rw[HLM.out] at h2;rw[List.range_succ,List.map_append];exact h2
     case measure=>simp[intOf]; omega
  ·have hke:k=11:=byOmega;subst hke;have h2:=HM.out.row;rw[uJ (by rw[HVL.out]; exact Nat.le_refl _)] at h2;have HD2:=Ae (HM.out.done.keep (G:=fun b=>w.heap.size < b) (fun b hb _=>by
    have h5:=HM.out.hi;rcases hb with hb | hb
    ·exact hb.1.elim
    ·show w.heap.size < b; omega) (Same.refl _ _))
   have HB2:=Ae HM.out.bel;obtain⟨a0,a1,a2,a3,a4,a5,a6,a7,a8,a9,a10,rfl⟩:=ahn HVL.out;obtain⟨A0,C0,e0,-,-⟩:=HD2.out.2 0 a0 _ rfl rfl;obtain rfl:a0 = .slice A0 0 C0:=e0;obtain⟨A1,C1,e1,-,-⟩:=HD2.out.2 1 a1 _ rfl rfl;obtain rfl:a1 = .slice A1 1 C1:=e1;obtain⟨A2,C2,e2,-,-⟩:=HD2.out.2 2 a2 _ rfl rfl;obtain rfl:a2 = .slice A2 2 C2:=e2;obtain⟨A3,C3,e3,-,-⟩:=HD2.out.2 3 a3 _ rfl rfl;obtain rfl:a3 = .slice A3 3 C3:=e3;obtain⟨A4,C4,e4,-,-⟩:=HD2.out.2 4 a4 _ rfl rfl;obtain rfl:a4 = .slice A4 4 C4:=e4;obtain⟨A5,C5,e5,-,-⟩:=HD2.out.2 5 a5 _ rfl rfl;obtain rfl:a5 = .slice A5 5 C5:=e5;obtain⟨A6,C6,e6,-,-⟩:=HD2.out.2 6 a6 _ rfl rfl;obtain rfl:a6 = .slice A6 6 C6:=e6;obtain⟨A7,C7,e7,-,-⟩:=HD2.out.2 7 a7 _ rfl rfl;obtain rfl:a7 = .slice A7 7 C7:=e7;obtain⟨A8,C8,e8,-,-⟩:=HD2.out.2 8 a8 _ rfl rfl;obtain rfl:a8 = .slice A8 8 C8:=e8;obtain⟨A9,C9,e9,-,-⟩:=HD2.out.2 9 a9 _ rfl rfl;obtain rfl:a9 = .slice A9 9 C9:=e9;obtain⟨A10,C10,e10,-,-⟩:=HD2.out.2 10 a10 _ rfl rfl;obtain rfl:a10 = .slice A10 10 C10:=e10;have HH2:=Ae h2;have c0:=h2.cell (i:=0) rfl; have d0:=Ba.out.cell (i:=0) rfl; have f0:=Ba.out.frozen 0;have c1:=h2.cell (i:=1) rfl; have d1:=Ba.out.cell (i:=1) rfl; have f1:=Ba.out.frozen 1;have c2:=h2.cell (i:=2) rfl; have d2:=Ba.out.cell (i:=2) rfl; have f2:=Ba.out.frozen 2;have c3:=h2.cell (i:=3) rfl; have d3:=Ba.out.cell (i:=3) rfl; have f3:=Ba.out.frozen 3;have c4:=h2.cell (i:=4) rfl; have d4:=Ba.out.cell (i:=4) rfl; have f4:=Ba.out.frozen 4;have c5:=h2.cell (i:=5) rfl; have d5:=Ba.out.cell (i:=5) rfl; have f5:=Ba.out.frozen 5;have c6:=h2.cell (i:=6) rfl; have d6:=Ba.out.cell (i:=6) rfl; have f6:=Ba.out.frozen 6;have c7:=h2.cell (i:=7) rfl; have d7:=Ba.out.cell (i:=7) rfl; have f7:=Ba.out.frozen 7;have c8:=h2.cell (i:=8) rfl; have d8:=Ba.out.cell (i:=8) rfl; have f8:=Ba.out.frozen 8;have c9:=h2.cell (i:=9) rfl; have d9:=Ba.out.cell (i:=9) rfl; have f9:=Ba.out.frozen 9;have c10:=h2.cell (i:=10) rfl; have d10:=Ba.out.cell (i:=10) rfl; have f10:=Ba.out.frozen 10;obtain⟨W9,hW9,hr9,hw9⟩:=aiV Ba.out (.slice A0 0 C0) (.slice A1 1 C1) (.slice A2 2 C2) (.slice A3 3 C3) (.slice A4 4 C4) (.slice A5 5 C5) (.slice A6 6 C6) (.slice A7 7 C7) (.slice A8 8 C8) (.slice A9 9 C9) (.slice A10 10 C10);clear HM h2;go_wp2
   rw[← hW9];have z0:=hr9.cell (i:=0) rfl;have z1:=hr9.cell (i:=1) rfl;have z2:=hr9.cell (i:=2) rfl;have z3:=hr9.cell (i:=3) rfl;have z4:=hr9.cell (i:=4) rfl;have z5:=hr9.cell (i:=5) rfl;have z6:=hr9.cell (i:=6) rfl;have z7:=hr9.cell (i:=7) rfl;have z8:=hr9.cell (i:=8) rfl;have z9:=hr9.cell (i:=9) rfl;have z10:=hr9.cell (i:=10) rfl;have HF:=Ae (show DL W9 (fun b=>w.heap.size≤b) (.agg #[.slice A0 0 C0,.slice A1 1 C1,.slice A2 2 C2,.slice A3 3 C3,.slice A4 4 C4,.slice A5 5 C5,.slice A6 6 C6,.slice A7 7 C7,.slice A8 8 C8,.slice A9 9 C9,.slice A10 10 C10]) from⟨[.slice A0 0 C0,.slice A1 1 C1,.slice A2 2 C2,.slice A3 3 C3,.slice A4 4 C4,.slice A5 5 C5,.slice A6 6 C6,.slice A7 7 C7,.slice A8 8 C8,.slice A9 9 C9,.slice A10 10 C10],rfl,HD2.out.keep (fun b hb _=>by omega) (hw9.same fun b hb=>by omega)⟩);have HB9:=Ae (Wrote.below HB2.out hw9 (fun b hb=>by omega) HB2.out.size);clear HD2 hw9 HB2 HH2 hW9;refine bodyPost_ret (v:=.agg #[.slice A0 0 C0,.slice A1 1 C1,.slice A2 2 C2,.slice A3 3 C3,.slice A4 4 C4,.slice A5 5 C5,.slice A6 6 C6,.slice A7 7 C7,.slice A8 8 C8,.slice A9 9 C9,.slice A10 10 C10]) (by simp[results,Tryz.results71,go_sem,z0,z1,z2,z3,z4,z5,z6,z7,z8,z9,z10]) rfl ?_;exact⟨_,rfl,HB9.out,HF.out⟩
def Fact.ints (F:Ah) (l:List Int):Fact:=⟨fun v w=>AA w F v l,fun _ _ _ h hb=>h.on (Below.same' hb F)⟩
theorem ac6 (w:World) (F:Ah) (u:Value) (g:Gm) (hg:AP w F u g) (hsm:Small g) :
  Calls Tryz.prog 20 #[u] w (Ret w fun v w'=>AP w' (fun b=>w.heap.size≤b) v g):=by
 obtain⟨vn,vi,rfl,⟨A,c,rfl,hc,hN⟩,⟨Ai,ci,rfl,hci,hI⟩⟩:=hg;have HN:=Ae hN; clear hN;have HI:=Ae (show AU w F (.slice Ai g.infos.length ci) g.infos from⟨_,_,rfl,hci,hI⟩); clear hI;have hn:=hsm.nodes;have hni:=hsm.infos;have HS:=Ae hsm; clear hsm;go_in
 go_upto_region 1 with fail
 obtain⟨w1,hw1,hbx,hrs,hB⟩:∃ W,W=(w.alloc (.cells #[.int .i64 g.aA,.slice A g.nodes.length c,.slice Ai g.infos.length ci] 25)).alloc (.cells #[.int .i64 0,.slice none 0 0,.slice none 0 0] 25)∧Row W w.heap.size 25 [.int .i64 g.aA,.slice A g.nodes.length c,.slice Ai g.infos.length ci]∧Row W (w.heap.size+1) 25 [.int .i64 0,.slice none 0 0,.slice none 0 0]∧Below w.heap.size w W:=by
  refine⟨_,rfl,(Row.new w _ _).alloc _,?_,aV _ _ _ 0⟩;have:=Row.new (w.alloc (.cells #[.int .i64 g.aA,.slice A g.nodes.length c,.slice Ai g.infos.length ci] 25)) 25 #[.int .i64 0,.slice none 0 0,.slice none 0 0];simpa using this
 rw[← hw1];clear hw1;go_cut [3] from 6 to 12 (fun v3 wx=>∃ bo Ai' ci',v3 = .pointer (some ⟨bo,0,none⟩)∧Row wx bo 25 [.int .i64 g.aA,.slice none 0 0,.slice Ai' g.infos.length ci']∧AU wx (fun b=>w.heap.size+1 < b∧b≠bo∧b < wx.heap.size) (.slice Ai' g.infos.length ci') g.infos∧Row wx w.heap.size 25 [.int .i64 g.aA,.slice A g.nodes.length c,.slice Ai g.infos.length ci]∧Row wx (w.heap.size+1) 25 [.int .i64 0,.slice none 0 0,.slice none 0 0]∧Below w.heap.size w wx∧w.heap.size+1 < bo)
 case first =>
  refine bW (fun w'=>w'.cell? ⟨w.heap.size,0,none⟩=some (.int .i64 g.aA)∧w'.cell? ⟨w.heap.size,2,none⟩=some (.slice Ai g.infos.length ci)) 8 1 aj rfl aj ?_;have hHeld:(fun w':World=>w'.cell? ⟨w.heap.size,0,none⟩=some (.int .i64 g.aA)∧w'.cell? ⟨w.heap.size,2,none⟩=some (.slice Ai g.infos.length ci)) w1.drew:=⟨hbx.cell rfl,hbx.cell rfl⟩;simp only[List.take_succ_cons,List.take_zero];refine tk0 [0,1,3,4] ?_;iterate 4 (refine tk (v:=?_) rfl aj aj aj (fun _ _ _ h=>h) (Or.inl ⟨by rfl,?_⟩) hHeld ?_;rotate_left;(focus intro wx hSx;(try dsimp only at hSx);go_split_ands;go_simp;try with_reducible rfl);try simp only[Act.put,lq1,lq2,lq3,lq4,lq5,lq6])
  refine tk1 ?_;obtain⟨w0,hw0⟩:=named w1.drew;have hbx0:Row w0 _ _ _:=hw0▸hbx.drew;have afY:Row w0 _ _ _:=hw0▸hrs.drew;have hB0:Below w.heap.size w w0:=hw0▸hB.drew;rw[← hw0] at hHeld ⊢;clear hw0 hbx hrs hB;refine wpAnyH_ready (rs:=[2,7]) (by decide +kernel) ay ?_;refine(AllReadyH.cons (o:=_) rfl (fun K hK=>?_) (AllReadyH.cons (o:=_) rfl (fun K hK=>?_) AllReadyH.nil))
  ·go_simp;obtain⟨w1,hw,aa4,hb,hz⟩:=bH w0 59 #[];rw[← hw];clear hw hz;have g2:=afY.lt;have sz1:=hb.size;have fO:=hbx0.below hb hbx0.lt;have xE:=afY.below hb afY.lt;have hB1:=hB0.trans (hb.mono hB0.size);clear hb;refine hK.out _ _ ⟨fO.cell rfl,fO.cell rfl⟩ (fun hHeld=>?_);clear hK K;try simp only[Act.put,lq1,lq2,lq3,lq4,lq5,lq6]
   refine wpAnyH_ready (rs:=[5,7]) (by decide +kernel) ay ?_;refine(AllReadyH.cons (o:=_) rfl (fun K hK=>?_) (AllReadyH.cons (o:=_) rfl (fun K hK=>?_) AllReadyH.nil))
   ·refine ifT rfl ?_;refine mP _ _ rfl _ _ g.infos (by rfl) (by rfl) (HI.out.on (Below.same' hB1 F)) byOmega ?_;intro A5 c5 w2 hb aiW;have g5:=xE.lt;have l2_5:=aa4.lt;have rE:=aa4.below hb aa4.lt;have sz2:=hb.size;have hbx2:=fO.below hb fO.lt;have zT:=xE.below hb xE.lt;have hB2:=hB1.trans (hb.mono hB1.size);clear hb;refine hK.out _ _ ⟨hbx2.cell rfl,hbx2.cell rfl⟩ (fun hHeld=>?_);clear hK K;try simp only[Act.put,lq1,lq2,lq3,lq4,lq5,lq6]
    refine tk0 [6] ?_;(refine tk (v:=?_) rfl aj aj aj (fun _ _ _ h=>h) (Or.inl ⟨by rfl,?_⟩) hHeld ?_;rotate_left;(focus intro wx hSx;(try dsimp only at hSx);go_split_ands;go_simp;try with_reducible rfl);try simp only[Act.put,lq1,lq2,lq3,lq4,lq5,lq6])
    refine tk1 ?_;refine wpAnyH_ready (rs:=[7]) (by decide +kernel) ay ?_;refine(AllReadyH.cons (o:=_) rfl (fun K hK=>?_) AllReadyH.nil)
    ·go_simp;obtain⟨w3,hw,jf,hb,hz⟩:=bH w2 25 #[.int .i64 0,.slice none 0 0,.slice none 0 0];rw[← hw];clear hw hz;have g7:=zT.lt;have l2_7:=rE.lt;have aij:=rE.below hb rE.lt;have ac7:=aiW.on (Below.same' hb _);have sz3:=hb.size;have nC:=hbx2.below hb hbx2.lt;have aho:=zT.below hb zT.lt;have hB3:=hB2.trans (hb.mono hB2.size);clear hb;refine hK.out _ _ ⟨nC.cell rfl,nC.cell rfl⟩ (fun hHeld=>?_);clear hK K;try simp only[Act.put,lq1,lq2,lq3,lq4,lq5,lq6]
     have r0:=jf.cell (i:=0) rfl;have f0:=jf.frozen 0;have r1:=jf.cell (i:=1) rfl;have f1:=jf.frozen 1;have r2:=jf.cell (i:=2) rfl;have f2:=jf.frozen 2;refine wpAnyH_done aj ?_ _;clear hHeld;show wpList _ _ _ _ _ _;go_wp2_with fail
     obtain⟨W,hW,hrw,hww⟩:=afK jf (.int .i64 g.aA) (.slice none 0 0) (.slice A5 g.infos.length c5);rw[← hW];clear hW;clear r0 f0;clear r1 f1;clear r2 f2;have szw:=hww.size;show Exit.then _ _ .normal _ _;go_wp2_with fail
     go_meet
     refine⟨w2.heap.size,A5,c5,rfl,hrw,?_,nC.wrote hww byOmega,aho.wrote hww byOmega,Wrote.below hB3 hww (fun k hk=>by omega) hB3.size,byOmega⟩;exact ac7.keep (fun b hb _=>by omega) (hww.same (fun b hb=>by omega))
   ·go_simp;obtain⟨w2,hw,zU,hb,hz⟩:=bH w1 25 #[.int .i64 0,.slice none 0 0,.slice none 0 0];rw[← hw];clear hw hz;have g7:=xE.lt;have l2_7:=aa4.lt;have rE:=aa4.below hb aa4.lt;have sz2:=hb.size;have hbx2:=fO.below hb fO.lt;have zT:=xE.below hb xE.lt;have hB2:=hB1.trans (hb.mono hB1.size);clear hb;refine hK.out _ _ ⟨hbx2.cell rfl,hbx2.cell rfl⟩ (fun hHeld=>?_);clear hK K;try simp only[Act.put,lq1,lq2,lq3,lq4,lq5,lq6]
    refine wpAnyH_ready (rs:=[5]) (by decide +kernel) ay ?_;refine(AllReadyH.cons (o:=_) rfl (fun K hK=>?_) AllReadyH.nil)
    ·refine ifT rfl ?_;refine mP _ _ rfl _ _ g.infos (by rfl) (by rfl) (HI.out.on (Below.same' hB2 F)) byOmega ?_;intro A5 c5 w3 hb ac7;have g5:=zT.lt;have l2_5:=rE.lt;have aij:=rE.below hb rE.lt;have l7_5:=zU.lt;have jf:=zU.below hb zU.lt;have sz3:=hb.size;have nC:=hbx2.below hb hbx2.lt;have aho:=zT.below hb zT.lt;have hB3:=hB2.trans (hb.mono hB2.size);clear hb;refine hK.out _ _ ⟨nC.cell rfl,nC.cell rfl⟩ (fun hHeld=>?_);clear hK K;try simp only[Act.put,lq1,lq2,lq3,lq4,lq5,lq6]
     refine tk0 [6] ?_;(refine tk (v:=?_) rfl aj aj aj (fun _ _ _ h=>h) (Or.inl ⟨by rfl,?_⟩) hHeld ?_;rotate_left;(focus intro wx hSx;(try dsimp only at hSx);go_split_ands;go_simp;try with_reducible rfl);try simp only[Act.put,lq1,lq2,lq3,lq4,lq5,lq6])
     refine tk1 ?_;have r0:=jf.cell (i:=0) rfl;have f0:=jf.frozen 0;have r1:=jf.cell (i:=1) rfl;have f1:=jf.frozen 1;have r2:=jf.cell (i:=2) rfl;have f2:=jf.frozen 2;refine wpAnyH_done aj ?_ _;clear hHeld;show wpList _ _ _ _ _ _;go_wp2_with fail
     obtain⟨W,hW,hrw,hww⟩:=afK jf (.int .i64 g.aA) (.slice none 0 0) (.slice A5 g.infos.length c5);rw[← hW];clear hW;clear r0 f0;clear r1 f1;clear r2 f2;have szw:=hww.size;show Exit.then _ _ .normal _ _;go_wp2_with fail
     go_meet
     refine⟨w1.heap.size,A5,c5,rfl,hrw,?_,nC.wrote hww byOmega,aho.wrote hww byOmega,Wrote.below hB3 hww (fun k hk=>by omega) hB3.size,byOmega⟩;exact ac7.keep (fun b hb _=>by omega) (hww.same (fun b hb=>by omega))
  ·go_simp;obtain⟨w1,hw,ahp,hb,hz⟩:=bH w0 25 #[.int .i64 0,.slice none 0 0,.slice none 0 0];rw[← hw];clear hw hz;have g7:=afY.lt;have sz1:=hb.size;have fO:=hbx0.below hb hbx0.lt;have xE:=afY.below hb afY.lt;have hB1:=hB0.trans (hb.mono hB0.size);clear hb;refine hK.out _ _ ⟨fO.cell rfl,fO.cell rfl⟩ (fun hHeld=>?_);clear hK K;try simp only[Act.put,lq1,lq2,lq3,lq4,lq5,lq6]
   refine wpAnyH_ready (rs:=[2]) (by decide +kernel) ay ?_;refine(AllReadyH.cons (o:=_) rfl (fun K hK=>?_) AllReadyH.nil)
   ·go_simp;obtain⟨w2,hw,rE,hb,hz⟩:=bH w1 59 #[];rw[← hw];clear hw hz;have g2:=xE.lt;have l7_2:=ahp.lt;have zU:=ahp.below hb ahp.lt;have sz2:=hb.size;have hbx2:=fO.below hb fO.lt;have zT:=xE.below hb xE.lt;have hB2:=hB1.trans (hb.mono hB1.size);clear hb;refine hK.out _ _ ⟨hbx2.cell rfl,hbx2.cell rfl⟩ (fun hHeld=>?_);clear hK K;try simp only[Act.put,lq1,lq2,lq3,lq4,lq5,lq6]
    refine wpAnyH_ready (rs:=[5]) (by decide +kernel) ay ?_;refine(AllReadyH.cons (o:=_) rfl (fun K hK=>?_) AllReadyH.nil)
    ·refine ifT rfl ?_;refine mP _ _ rfl _ _ g.infos (by rfl) (by rfl) (HI.out.on (Below.same' hB2 F)) byOmega ?_;intro A5 c5 w3 hb ac7;have g5:=zT.lt;have l7_5:=zU.lt;have jf:=zU.below hb zU.lt;have l2_5:=rE.lt;have aij:=rE.below hb rE.lt;have sz3:=hb.size;have nC:=hbx2.below hb hbx2.lt;have aho:=zT.below hb zT.lt;have hB3:=hB2.trans (hb.mono hB2.size);clear hb;refine hK.out _ _ ⟨nC.cell rfl,nC.cell rfl⟩ (fun hHeld=>?_);clear hK K;try simp only[Act.put,lq1,lq2,lq3,lq4,lq5,lq6]
     refine tk0 [6] ?_;(refine tk (v:=?_) rfl aj aj aj (fun _ _ _ h=>h) (Or.inl ⟨by rfl,?_⟩) hHeld ?_;rotate_left;(focus intro wx hSx;(try dsimp only at hSx);go_split_ands;go_simp;try with_reducible rfl);try simp only[Act.put,lq1,lq2,lq3,lq4,lq5,lq6])
     refine tk1 ?_;have r0:=jf.cell (i:=0) rfl;have f0:=jf.frozen 0;have r1:=jf.cell (i:=1) rfl;have f1:=jf.frozen 1;have r2:=jf.cell (i:=2) rfl;have f2:=jf.frozen 2;refine wpAnyH_done aj ?_ _;clear hHeld;show wpList _ _ _ _ _ _;go_wp2_with fail
     obtain⟨W,hW,hrw,hww⟩:=afK jf (.int .i64 g.aA) (.slice none 0 0) (.slice A5 g.infos.length c5);rw[← hW];clear hW;clear r0 f0;clear r1 f1;clear r2 f2;have szw:=hww.size;show Exit.then _ _ .normal _ _;go_wp2_with fail
     go_meet
     refine⟨w0.heap.size,A5,c5,rfl,hrw,?_,nC.wrote hww byOmega,aho.wrote hww byOmega,Wrote.below hB3 hww (fun k hk=>by omega) hB3.size,byOmega⟩;exact ac7.keep (fun b hb _=>by omega) (hww.same (fun b hb=>by omega))
 case rest =>
  obtain⟨bo,Ai',ci',rfl,hbo,hio,y9,hrs',hB',gbo⟩:=hcut;clear hbx hrs hB;obtain⟨wz,rfl⟩:∃ wz:World,wz=wc:=⟨_,rfl⟩;have hbol:=hbo.lt;go_wp2
  go_loopw [4,5] (fun i _ wr=>∃ (k:Nat) (L:List NV) (vo:Value) (G:Ah),k≤g.nodes.length∧i = .int .i64 k∧L.map NV.n=g.nodes.take k∧wr.ownsRow wz.heap.size 61 6 vo L.length (L.flatMap NV.cells)∧(∀ q∈L,q.fine wr G)∧(∀ b,G b→wz.heap.size≤b∧vo.ownBlock≠some b∧b < wr.heap.size)∧Row wr bo 25 [.int .i64 g.aA,vo,.slice Ai' g.infos.length ci']∧AU wr (fun b=>w.heap.size+1 < b∧b≠bo∧b < wz.heap.size) (.slice Ai' g.infos.length ci') g.infos∧Row wr w.heap.size 25 [.int .i64 g.aA,.slice A g.nodes.length c,.slice Ai g.infos.length ci]∧Row wr (w.heap.size+1) 25 [.int .i64 0,.slice none 0 0,.slice none 0 0]∧Below w.heap.size w wr∧wz.heap.size≤wr.heap.size) (fun i _ _=>g.nodes.length - (intOf i).toNat)
  case atStart=>exact⟨0,[],.slice none 0 0,fun _=>False,byOmega,rfl,rfl,World.ownsRow_nil _ _ _ _,fun q hq=>(by cases hq),fun b hb=>hb.elim,hbo,hio,y9,hrs',hB',Nat.le_refl _⟩
  case round =>
   clear hbo hio y9 hrs' hB';obtain⟨k,L,vo,G,hk,rfl,hLn,hown,iq,hG,hbo,hio,hbx,hrs,hB,hz⟩:=hrel;have HO:=Ae hown; clear hown;have HL:=Ae hLn; clear hLn;have HFN:=Ae iq; clear iq;have HG:=Ae hG; clear hG;have HIO:=Ae hio; clear hio;have x1:=hbx.cell (i:=1) rfl;have hbxl:=hbx.lt;have hbol2:=hbo.lt;by_cases hlt:k < g.nodes.length
   ·obtain⟨b,o,rfl,_,hb,hcell⟩:=HN.out byOmega;obtain⟨n,hn'⟩:=aC hlt;obtain⟨e0,e1,e2,⟨v3,e3,i3⟩,⟨v4,e4,i4⟩,⟨v5,e5,i5⟩⟩:=hcell k n hn';have hm:=List.mem_of_getElem? hn';have s3:=HS.out.next n hm;have s4:=HS.out.weights n hm;have s5:=HS.out.pay n hm;have H3:=Ae i3; have H4:=Ae i4; have H5:=Ae i5;obtain⟨A3,c3,rfl,hc3,_⟩:=i3;obtain⟨A4,c4,rfl,hc4,_⟩:=i4;obtain⟨A5,c5,rfl,hc5,_⟩:=i5;rw[← aN hB _ _ hb] at e0 e1 e2 e3 e4 e5;have HX:=Ae hn'; clear hn' hcell hm;go_upto_region 6 with fail
    obtain⟨w1,hw1,hnx,hb1,hz1⟩:=bH wr 61 #[.int .i64 n.kind,.int .i64 n.aI,.int .i64 n.info,.slice A3 n.next.length c3,.slice A4 n.weights.length c4,.slice A5 n.pay.length c5];rw[← hw1];have HO1:=Ae (show w1.ownsRow wz.heap.size 61 6 vo L.length (L.flatMap NV.cells) by rw[hw1]; exact HO.out.alloc _);have HB1:=Ae (hB.trans (hb1.mono hB.size));have hz1':wr.heap.size < w1.heap.size:=hnx.lt;clear hw1 hz1;go_cut [] from 13 to 45 (fun wx=>∃ A3' c3' A4' c4' A5' c5',Row wx wr.heap.size 61 [.int .i64 n.kind,.int .i64 n.aI,.int .i64 n.info,.slice A3' n.next.length c3',.slice A4' n.weights.length c4',.slice A5' n.pay.length c5']∧AA wx (fun b=>wr.heap.size < b∧b < wx.heap.size) (.slice A3' n.next.length c3') n.next∧AA wx (fun b=>wr.heap.size < b∧b < wx.heap.size) (.slice A4' n.weights.length c4') n.weights∧AA wx (fun b=>wr.heap.size < b∧b < wx.heap.size) (.slice A5' n.pay.length c5') n.pay∧Wrote (fun k=>k=wr.heap.size) w1 wx)
    case first =>
     refine bW (fun w'=>w'.cell? ⟨wr.heap.size,3,none⟩=some (.slice A3 n.next.length c3)∧w'.cell? ⟨wr.heap.size,4,none⟩=some (.slice A4 n.weights.length c4)∧w'.cell? ⟨wr.heap.size,5,none⟩=some (.slice A5 n.pay.length c5)) 13 5 aj rfl aj ?_;have hHeld:(fun w':World=>w'.cell? ⟨wr.heap.size,3,none⟩=some (.slice A3 n.next.length c3)∧w'.cell? ⟨wr.heap.size,4,none⟩=some (.slice A4 n.weights.length c4)∧w'.cell? ⟨wr.heap.size,5,none⟩=some (.slice A5 n.pay.length c5)) w1.drew:=⟨hnx.cell rfl,hnx.cell rfl,hnx.cell rfl⟩;simp only[List.take_succ_cons,List.take_zero];refine tk0 [1,2,5,6,9,10] ?_;iterate 6 (refine tk (v:=?_) rfl aj aj aj (fun _ _ _ h=>h) (Or.inl ⟨by rfl,?_⟩) hHeld ?_;rotate_left;(focus intro wx hSx;(try dsimp only at hSx);go_split_ands;go_simp;try with_reducible rfl);try simp only[Act.put,lq1,lq2,lq3,lq4,lq5,lq6])
     refine tk1 ?_;have aiH:=hnx;obtain⟨w0,hw0⟩:=named w1.drew;have agv:Row w0 _ _ _:=hw0▸hnx.drew;have hV0:Below w1.heap.size w1 w0:=hw0▸(Below.refl w1.heap.size w1).drew;rw[← hw0] at hHeld ⊢;clear hw0 hnx hb1 e0 e1 e2 e3 e4 e5 x1 hbo hbx hrs hB;obtain⟨wb,rfl⟩:∃ wb:World,wb=w1:=⟨_,rfl⟩;refine iE (js:=[0,3,4,7,8,11,12]) ((Hold.cell (wr.heap.size) 3 (.slice A3 n.next.length c3)).and ((Hold.cell (wr.heap.size) 4 (.slice A4 n.weights.length c4)).and ((Hold.cell (wr.heap.size) 5 (.slice A5 n.pay.length c5)).and ((Hold.of (Fact.ints F n.next) (.slice A3 n.next.length c3)).and ((Hold.of (Fact.ints F n.weights) (.slice A4 n.weights.length c4)).and ((Hold.of (Fact.ints F n.pay) (.slice A5 n.pay.length c5)).and (Hold.below wb.heap.size wb))))))) [(0,Fact.empty),(3,Fact.ints (fun b=>wb.heap.size≤b) n.next),(4,Fact.empty),(7,Fact.ints (fun b=>wb.heap.size≤b) n.weights),(8,Fact.empty),(11,Fact.ints (fun b=>wb.heap.size≤b) n.pay),(12,Fact.eq (.pointer (some ⟨wr.heap.size,3,none⟩)))] aj ⟨hHeld.1,hHeld.2.1,hHeld.2.2,((H3.out.on (Below.same' HB1.out F)).on (Below.same' hV0 F)),((H4.out.on (Below.same' HB1.out F)).on (Below.same' hV0 F)),((H5.out.on (Below.same' HB1.out F)).on (Below.same' hV0 F)),⟨hV0.size,hV0⟩⟩ (fun _ h=>⟨h.1,h.2.1,h.2.2.1⟩) ?_;refine Flow.cons (o:=_) rfl (fun wk hS hf K hK=>?_) (fun v0=>?_)
     ·go_simp;exact hK.out _ _ ((Below.refl _ _).alloc (Nat.le_refl _) _) ⟨_,rfl⟩
     try simp only[Act.put,lq1,lq2,lq3,lq4,lq5,lq6]
     refine Flow.cons (o:=_) rfl (fun wk hS hf K hK=>?_) (fun v3=>?_)
     ·have f0:=aS (f:=Fact.empty) (hf (0,v0) ay aj) rfl;obtain⟨b0,rfl⟩:=f0;refine ad3 rfl ?_;refine oH (F:=F) _ _ rfl _ _ n.next rfl rfl hS.2.2.2.1 byOmega ?_;intro A' cap w' hb hi;exact hK.out _ _ hb (hi.keep (fun b h _=>Nat.le_trans hS.2.2.2.2.2.2.1 h.1) (Same.refl _ _))
     try simp only[Act.put,lq1,lq2,lq3,lq4,lq5,lq6]
     refine Flow.cons (o:=_) rfl (fun wk hS hf K hK=>?_) (fun v4=>?_)
     ·go_simp;exact hK.out _ _ ((Below.refl _ _).alloc (Nat.le_refl _) _) ⟨_,rfl⟩
     try simp only[Act.put,lq1,lq2,lq3,lq4,lq5,lq6]
     refine Flow.cons (o:=_) rfl (fun wk hS hf K hK=>?_) (fun v7=>?_)
     ·have f4:=aS (f:=Fact.empty) (hf (4,v4) ay aj) rfl;obtain⟨b4,rfl⟩:=f4;refine ad3 rfl ?_;refine oH (F:=F) _ _ rfl _ _ n.weights rfl rfl hS.2.2.2.2.1 byOmega ?_;intro A' cap w' hb hi;exact hK.out _ _ hb (hi.keep (fun b h _=>Nat.le_trans hS.2.2.2.2.2.2.1 h.1) (Same.refl _ _))
     try simp only[Act.put,lq1,lq2,lq3,lq4,lq5,lq6]
     refine Flow.cons (o:=_) rfl (fun wk hS hf K hK=>?_) (fun v8=>?_)
     ·go_simp;exact hK.out _ _ ((Below.refl _ _).alloc (Nat.le_refl _) _) ⟨_,rfl⟩
     try simp only[Act.put,lq1,lq2,lq3,lq4,lq5,lq6]
     refine Flow.cons (o:=_) rfl (fun wk hS hf K hK=>?_) (fun v11=>?_)
     ·have f8:=aS (f:=Fact.empty) (hf (8,v8) ay aj) rfl;obtain⟨b8,rfl⟩:=f8;refine ad3 rfl ?_;refine oH (F:=F) _ _ rfl _ _ n.pay rfl rfl hS.2.2.2.2.2.1 byOmega ?_;intro A' cap w' hb hi;exact hK.out _ _ hb (hi.keep (fun b h _=>Nat.le_trans hS.2.2.2.2.2.2.1 h.1) (Same.refl _ _))
     try simp only[Act.put,lq1,lq2,lq3,lq4,lq5,lq6]
     refine Flow.cons (o:=_) rfl (fun wk hS hf K hK=>?_) (fun v12=>?_)
     ·go_simp;exact hK.out _ _ (Below.refl _ _) rfl
     try simp only[Act.put,lq1,lq2,lq3,lq4,lq5,lq6]
     refine Flow.nil (fun wE hS hf=>?_);have f3:=aS (f:=Fact.ints (fun b=>wb.heap.size≤b) n.next) (hf (3,v3) ay) rfl;have f7:=aS (f:=Fact.ints (fun b=>wb.heap.size≤b) n.weights) (hf (7,v7) ay) rfl;have f11:=aS (f:=Fact.ints (fun b=>wb.heap.size≤b) n.pay) (hf (11,v11) ay) rfl;have f12:=aS (f:=Fact.eq (.pointer (some ⟨wr.heap.size,3,none⟩))) (hf (12,v12) ay) rfl;have hVE:=hS.2.2.2.2.2.2.2;have aev:=aiH.of_block (hVE.block _ aiH.lt);have g3:=f3; have g7:=f7; have g11:=f11;obtain⟨B3,d3,hv3,_,_⟩:=g3; obtain⟨B7,d7,hv7,_,_⟩:=g7; obtain⟨B11,d11,hv11,_,_⟩:=g11;have hv12:v12 = .pointer (some ⟨wr.heap.size,3,none⟩):=f12;subst hv3 hv7 hv11 hv12;have G3:=Ae f3; have G7:=Ae f7; have G11:=Ae f11; have HVE:=Ae hVE; have hzE:=hVE.size;clear f3 f7 f11 f12 hf hS hVE hV0 hHeld aiH agv;have r3:=aev.cell (i:=3) rfl; have f3:=aev.frozen 3;have r4:=aev.cell (i:=4) rfl; have f4:=aev.frozen 4;have r5:=aev.cell (i:=5) rfl; have f5:=aev.frozen 5;show wpList _ _ _ _ _ _;go_wp2_with fail
     show wpList _ _ _ _ _ _;go_wp2_with fail
     show wpList _ _ _ _ _ _;go_wp2_with fail
     show wpList _ _ _ _ _ _;go_wp2_with fail
     show wpList _ _ _ _ _ _;go_wp2_with fail
     obtain⟨W,hW,hrw,hww⟩:=aiE aev (.slice B3 n.next.length d3) (.slice B7 n.weights.length d7) (.slice B11 n.pay.length d11);rw[← hW];clear hW r3 f3 r4 f4 r5 f5;have szw:=hww.size;show Exit.then _ _ .normal _ _;go_wp2_with fail
     go_meet
     refine⟨B3,d3,B7,d7,B11,d11,hrw,?_,?_,?_,(Below.wrote HVE.out _).trans hww⟩
     ·exact AA.keep G3.out (fun b hb _=>by omega) (hww.same (fun b hb=>by omega))
     ·exact AA.keep G7.out (fun b hb _=>by omega) (hww.same (fun b hb=>by omega))
     ·exact AA.keep G11.out (fun b hb _=>by omega) (hww.same (fun b hb=>by omega))
    case rest =>
     obtain⟨A3',c3',A4',c4',A5',c5',aew,j3,j4,j5,hww⟩:=hcut;obtain⟨wy,rfl⟩:∃ wy:World,wy=wc:=⟨_,rfl⟩;have ah2:=(hbo.below hb1 hbo.lt).wrote hww byOmega;have fO:=(hbx.below hb1 hbx.lt).wrote hww byOmega;have xE:=(hrs.below hb1 hrs.lt).wrote hww (by have:=hrs.lt; omega);have hBy:Below w.heap.size w wy:=Wrote.below HB1.out hww (fun k hk=>by have:=hB.size; omega) HB1.out.size;have hyz:=hww.size;have HOY:=Ae (show wy.ownsRow wz.heap.size 61 6 vo L.length (L.flatMap NV.cells) from⟨HO1.out.1,HO1.out.2.imp id (fun ⟨gg,cap,cur,h1,h2,h3,h4⟩=>⟨gg,cap,cur,h1,h2,by
      have hgl:gg < wr.heap.size:=(HO.out.lt gg (by rw[h1]; rfl)).2;rw[hww.block gg byOmega byOmega]; exact h3,h4⟩)⟩)
     have hvo:∀ b,vo.ownBlock=some b→wz.heap.size≤b∧b < wr.heap.size:=fun b hb=>HO.out.lt b hb
     have HVO:=Ae hvo; clear hvo;have HJ:=Ae (And.intro j3 (And.intro j4 j5)); clear j3 j4 j5;have HWW:=Ae hww; have HBB:=Ae hb1;have y1:=ah2.cell (i:=1) rfl;have q0:=aew.cell (i:=0) rfl;have q1:=aew.cell (i:=1) rfl;have q2:=aew.cell (i:=2) rfl;have q3:=aew.cell (i:=3) rfl;have q4:=aew.cell (i:=4) rfl;have q5:=aew.cell (i:=5) rfl;have hnl:=aew.lt;have hbol3:=ah2.lt;clear hnx hb1 hww e0 e1 e2 e3 e4 e5 x1 hbo hbx hrs hB;go_wp2_with (at_builtin; refine abI rfl _ _ rfl wz.heap.size vo L rfl (HOY.out.alloc _) wy.heap.size ⟨n,.slice A3' n.next.length c3',.slice A4' n.weights.length c4',.slice A5' n.pay.length c5'⟩ rfl (heap_alloc_new _ _) ⟨rfl,rfl,rfl⟩ (by have h1:=congrArg List.length HL.out; simp at h1; omega) au ?_; intro gg cap w3 hown3 hgrow hat hlt3; have aiI:=(ah2.alloc (.cells #[.int .i64 n.kind,.int .i64 n.aI,.int .i64 n.info,.slice A3' n.next.length c3',.slice A4' n.weights.length c4',.slice A5' n.pay.length c5'] 61)).of_block (hgrow.block bo au (fun e=>by have:=(HVO.out bo e.symm).1; omega)); have r1:=aiI.cell (i:=1) rfl; have f1:=aiI.frozen 1; have HO3:=Ae hown3; have HGR:=Ae hgrow; have HAT:=Ae hat; clear hown3 hgrow hat)
     go_roundw
     case rel =>
      have hgr:=HGR.out;have hsz:=hgr.size;simp only[World.size_alloc] at hsz;have hgb:∀ b,b < wy.heap.size→vo.ownBlock≠some b→w3.heap[b]? = wy.heap[b]?:=fun b hb hne=>by
       rw[hgr.block b au (fun e=>hne e.symm)]; exact Below.heap_alloc _ _ _ hb
      have hkeep:∀ (H:Ah),(∀ b,H b→b≠bo∧vo.ownBlock≠some b)→∀ (u:Value),Same (fun b=>H b∧b < wy.heap.size) wy (w3.setCell ⟨bo,1,none⟩ u):=fun H hH u =>
       ⟨au,fun b hb hl=>by rw[Below.heap_setCell _ _ _ _ (hH b hb.1).1]; exact hgb b hl (hH b hb.1).2⟩
      have hry:∀ (H:Ah),(∀ b,H b→b≠wr.heap.size)→Same H wr wy:=fun H hH =>
       (Below.same' HBB.out H).trans (HWW.out.same (fun b hb=>hH b hb))
      obtain⟨j3,j4,j5⟩:=HJ.out;have hbz:bo < wz.heap.size:=hbol;refine⟨k+1,L ++ [⟨n,.slice A3' n.next.length c3',.slice A4' n.weights.length c4',.slice A5' n.pay.length c5'⟩],.slice (some ⟨gg,0,none⟩) (L.length+1) cap,fun b=>(G b∨wr.heap.size < b)∧b < wy.heap.size,byOmega,by go_num,?_,?_,?_,?_,aiI.set 1 _,?_,?_,?_,?_,au⟩
      ·rw[List.map_append,HL.out,take_snoc HX.out]; rfl
      ·exact⟨HO3.out.1,HO3.out.2.imp id (fun ⟨g',cap',cur,h1,h2,h3,h4⟩=>⟨g',cap',cur,h1,h2,by rw[Below.heap_setCell _ _ _ _ (show g'≠bo by omega)]; exact h3,h4⟩)⟩
      ·intro q hq;rcases List.mem_append.1 hq with hq | hq
       ·have h1:=(HFN.out q hq).keep (G:=fun b=>G b∧b < wr.heap.size) (fun b hb hl=>⟨hb,hl⟩) (Same.refl _ _);have h2:=h1.keep (G:=fun b=>(G b∧b < wr.heap.size)∧b < wy.heap.size) (fun b hb _=>⟨hb,byOmega⟩) (hry _ (fun b hb=>by omega));exact h2.keep (fun b hb _=>⟨.inl hb.1.1,hb.2⟩) (hkeep (fun b=>G b∧b < wr.heap.size) (fun b hb=>⟨by have:=(HG.out b hb.1).1; omega,(HG.out b hb.1).2.1⟩) _)
       ·simp only[List.mem_cons,List.not_mem_nil,or_false] at hq;subst hq;have hs:=hkeep (fun b=>wr.heap.size < b) (fun b hb=>⟨byOmega,fun e=>by have:=(HVO.out b e).2; omega⟩) (.slice (some ⟨gg,0,none⟩) (L.length+1) cap);exact⟨j3.keep (fun b hb _=>⟨.inr hb.1,hb.2⟩) hs,j4.keep (fun b hb _=>⟨.inr hb.1,hb.2⟩) hs,j5.keep (fun b hb _=>⟨.inr hb.1,hb.2⟩) hs⟩
      ·intro b hb;have hgx:gg≠b:=by
        rintro rfl;rcases HAT.out with h | h
        ·rcases hb.1 with h1 | h1
         ·exact(HG.out gg h1).2.1 h
         ·have:=(HVO.out gg h).2; omega
        ·simp at h; omega
       refine⟨?_,fun e=>hgx (by simpa [Value.ownBlock] using e),au⟩;rcases hb.1 with h1 | h1
       ·exact(HG.out b h1).1
       ·omega
      ·have h1:=HIO.out.keep (G:=fun b=>(w.heap.size+1 < b∧b≠bo∧b < wz.heap.size)∧b < wy.heap.size) (fun b hb _=>⟨hb,byOmega⟩) (hry _ (fun b hb=>by omega));exact h1.keep (fun b hb _=>hb.1) (hkeep (fun b=>w.heap.size+1 < b∧b≠bo∧b < wz.heap.size) (fun b hb=>⟨hb.2.1,fun e=>by have:=(HVO.out b e).1; omega⟩) _)
      ·exact(fO.of_block (hgb _ fO.lt (fun e=>by have:=(HVO.out _ e).1; omega))).other au _
      ·exact(xE.of_block (hgb _ xE.lt (fun e=>by have:=(HVO.out _ e).1; omega))).other au _
      ·exact((hBy.alloc hBy.size _).grown hgr (by have:=hBy.size; simp; omega) (fun k hk=>by have:=(HVO.out k hk).1; omega)).setCell au _
     case measure=>simp[intOf] <;> omega
   ·have hke:k=g.nodes.length:=byOmega;have HKE:=Ae hke; clear hke;have y0:=hbo.cell (i:=0) rfl;have r0:=hrs.cell (i:=0) rfl;have f0:=hrs.frozen 0;have y1:=hbo.cell (i:=1) rfl;have r1:=hrs.cell (i:=1) rfl;have f1:=hrs.frozen 1;have y2:=hbo.cell (i:=2) rfl;have r2:=hrs.cell (i:=2) rfl;have f2:=hrs.frozen 2;obtain⟨Ao,lo,co,rfl⟩:∃ Ao lo co,vo = .slice Ao lo co:=by
     rcases HO.out.2 with⟨h,_⟩ | ⟨gg,cap,cur,h,_⟩
     ·exact⟨_,_,_,h⟩
     ·exact⟨_,_,_,h⟩
    go_wp2
    obtain⟨W,hW,hrw,hww⟩:=afK hrs (.int .i64 g.aA) (.slice Ao lo co) (.slice Ai' g.infos.length ci');rw[← hW];clear hW;clear y0 r0 f0;have r0:=hrw.cell (i:=0) rfl;clear y1 r1 f1;have r1:=hrw.cell (i:=1) rfl;clear y2 r2 f2;have r2:=hrw.cell (i:=2) rfl;refine bodyPost_ret (v:=.agg #[.int .i64 g.aA,.slice Ao lo co,.slice Ai' g.infos.length ci']) (by simp[results,Tryz.results20,go_sem,r0,r1,r2]) rfl ?_;have hwz:=hww.size;refine⟨_,rfl,Wrote.below hB hww (fun k hk=>by omega) hB.size,_,_,rfl,?_,?_⟩
    ·have h1:=aeg HO.out (F:=fun b=>wz.heap.size≤b) (fun b hb=>(HO.out.lt b hb).1) (fun q hq=>(HFN.out q hq).keep (fun b hb _=>(HG.out b hb).1) (Same.refl _ _));rw[HL.out,HKE.out,List.take_length] at h1;exact h1.keep (fun b hb _=>by omega) (hww.same (fun b hb=>by omega))
    ·exact HIO.out.keep (fun b hb _=>by omega) (hww.same (fun b hb=>by omega))
end Go.Proofs.YthmklhapjegfdaaGreatDoor

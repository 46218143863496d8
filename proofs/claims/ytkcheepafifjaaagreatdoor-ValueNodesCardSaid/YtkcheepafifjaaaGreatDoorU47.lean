/- parlourkit.OwnGame: a copy of a game in new memory. -/
import Derived.Test.YtkcheepafifjaaaGreatDoorU46
import Derived.Test.YtkcheepafifjaaaGreatDoorU43
set_option linter.all false
set_option maxRecDepth 100000
set_option maxHeartbeats 12800000
namespace Go.Proofs.YtkcheepafifjaaaGreatDoor
open Lib renaming hid → Ac
open List renaming getElem_toArray → lq1, getElem_cons_zero → lq2, getElem_cons_succ → lq3, setIfInBounds_toArray → lq4, set_cons_zero → lq5, set_cons_succ → lq6
open Go.RowKit
def Fact.ints (F:Ag) (l:List Int):Fact:=⟨fun v w=>Aw w F v l,fun _ _ _ h hb=>h.on (Below.same' hb F)⟩
theorem ac2 (w:World) (F:Ag) (u:Value) (g:Gm) (hg:AA w F u g) (hsm:Small g) :
  Calls Tryz.prog 18 #[u] w (Ret w fun v w'=>AA w' (fun b=>w.heap.size≤b) v g):=by
 obtain⟨vn,vi,rfl,⟨A,c,rfl,hc,hN⟩,⟨Ai,ci,rfl,hci,hI⟩⟩:=hg;have HN:=Ac hN; clear hN;have HI:=Ac (show AQ w F (.slice Ai g.infos.length ci) g.infos from⟨_,_,rfl,hci,hI⟩); clear hI;have hn:=hsm.nodes;have hni:=hsm.infos;have HS:=Ac hsm; clear hsm;go_enter Tryz.func18,Tryz.ntmps18;go_upto_region 1 with fail
 obtain⟨w1,hw1,hbx,hrs,hB⟩:∃ W,W=(w.alloc (.cells #[.int .i64 g.ak,.slice A g.nodes.length c,.slice Ai g.infos.length ci] 25)).alloc (.cells #[.int .i64 0,.slice none 0 0,.slice none 0 0] 25)∧Row W w.heap.size 25 [.int .i64 g.ak,.slice A g.nodes.length c,.slice Ai g.infos.length ci]∧Row W (w.heap.size+1) 25 [.int .i64 0,.slice none 0 0,.slice none 0 0]∧Below w.heap.size w W:=by
  refine⟨_,rfl,(Row.new w _ _).alloc _,?_,aP _ _ _ 0⟩;have:=Row.new (w.alloc (.cells #[.int .i64 g.ak,.slice A g.nodes.length c,.slice Ai g.infos.length ci] 25)) 25 #[.int .i64 0,.slice none 0 0,.slice none 0 0];simpa using this
 rw[← hw1];clear hw1;go_cut [3] from 6 to 12 (fun v3 wx=>∃ bo Ai' ci',v3 = .pointer (some ⟨bo,0,none⟩)∧Row wx bo 25 [.int .i64 g.ak,.slice none 0 0,.slice Ai' g.infos.length ci']∧AQ wx (fun b=>w.heap.size+1 < b∧b≠bo∧b < wx.heap.size) (.slice Ai' g.infos.length ci') g.infos∧Row wx w.heap.size 25 [.int .i64 g.ak,.slice A g.nodes.length c,.slice Ai g.infos.length ci]∧Row wx (w.heap.size+1) 25 [.int .i64 0,.slice none 0 0,.slice none 0 0]∧Below w.heap.size w wx∧w.heap.size+1 < bo)
 case first =>
  refine bC (fun w'=>w'.cell? ⟨w.heap.size,0,none⟩=some (.int .i64 g.ak)∧w'.cell? ⟨w.heap.size,2,none⟩=some (.slice Ai g.infos.length ci)) 8 1 (by kernel_rfl) rfl (by kernel_rfl) ?_;have hHeld:(fun w':World=>w'.cell? ⟨w.heap.size,0,none⟩=some (.int .i64 g.ak)∧w'.cell? ⟨w.heap.size,2,none⟩=some (.slice Ai g.infos.length ci)) w1.drew:=⟨hbx.cell rfl,hbx.cell rfl⟩;simp only[List.take_succ_cons,List.take_zero];refine tk0 [0,1,3,4] ?_;iterate 4 (refine tk (v:=?_) rfl (by kernel_rfl) (by kernel_rfl) (by kernel_rfl) (fun _ _ _ h=>h) (Or.inl ⟨by rfl,?_⟩) hHeld ?_;rotate_left;(focus intro wx hSx;(try dsimp only at hSx);go_split_ands;go_simp;try with_reducible rfl);try simp only[Act.put,lq1,lq2,lq3,lq4,lq5,lq6])
  refine tk1 ?_;obtain⟨w0,hw0⟩:∃ W,W=w1.drew:=⟨_,rfl⟩;have hbx0:Row w0 _ _ _:=hw0▸hbx.drew;have afT:Row w0 _ _ _:=hw0▸hrs.drew;have hB0:Below w.heap.size w w0:=hw0▸hB.drew;rw[← hw0] at hHeld ⊢;clear hw0 hbx hrs hB;refine wpAnyH_ready (rs:=[2,7]) (by decide +kernel) (by simp) ?_;refine(AllReadyH.cons (o:=_) rfl (fun K hK=>?_) (AllReadyH.cons (o:=_) rfl (fun K hK=>?_) AllReadyH.nil))
  ·go_simp;obtain⟨w1,hw,sU,hb,hz⟩:=bZ w0 73 #[];rw[← hw];clear hw hz;have g2:=afT.lt;have sz1:=hb.size;have dw:=hbx0.below hb hbx0.lt;have wI:=afT.below hb afT.lt;have hB1:=hB0.trans (hb.mono hB0.size);clear hb;refine hK.out _ _ ⟨dw.cell rfl,dw.cell rfl⟩ (fun hHeld=>?_);clear hK K;try simp only[Act.put,lq1,lq2,lq3,lq4,lq5,lq6]
   refine wpAnyH_ready (rs:=[5,7]) (by decide +kernel) (by simp) ?_;refine(AllReadyH.cons (o:=_) rfl (fun K hK=>?_) (AllReadyH.cons (o:=_) rfl (fun K hK=>?_) AllReadyH.nil))
   ·refine ifT rfl ?_;refine mP _ _ rfl _ _ g.infos (by rfl) (by rfl) (HI.out.on (Below.same' hB1 F)) (by omega) ?_;intro A5 c5 w2 hb ai4;have g5:=wI.lt;have l2_5:=sU.lt;have lJ:=sU.below hb sU.lt;have sz2:=hb.size;have hbx2:=dw.below hb dw.lt;have zJ:=wI.below hb wI.lt;have hB2:=hB1.trans (hb.mono hB1.size);clear hb;refine hK.out _ _ ⟨hbx2.cell rfl,hbx2.cell rfl⟩ (fun hHeld=>?_);clear hK K;try simp only[Act.put,lq1,lq2,lq3,lq4,lq5,lq6]
    refine tk0 [6] ?_;(refine tk (v:=?_) rfl (by kernel_rfl) (by kernel_rfl) (by kernel_rfl) (fun _ _ _ h=>h) (Or.inl ⟨by rfl,?_⟩) hHeld ?_;rotate_left;(focus intro wx hSx;(try dsimp only at hSx);go_split_ands;go_simp;try with_reducible rfl);try simp only[Act.put,lq1,lq2,lq3,lq4,lq5,lq6])
    refine tk1 ?_;refine wpAnyH_ready (rs:=[7]) (by decide +kernel) (by simp) ?_;refine(AllReadyH.cons (o:=_) rfl (fun K hK=>?_) AllReadyH.nil)
    ·go_simp;obtain⟨w3,hw,jq,hb,hz⟩:=bZ w2 25 #[.int .i64 0,.slice none 0 0,.slice none 0 0];rw[← hw];clear hw hz;have g7:=zJ.lt;have l2_7:=lJ.lt;have ah0:=lJ.below hb lJ.lt;have ac3:=ai4.on (Below.same' hb _);have sz3:=hb.size;have dL:=hbx2.below hb hbx2.lt;have ag6:=zJ.below hb zJ.lt;have hB3:=hB2.trans (hb.mono hB2.size);clear hb;refine hK.out _ _ ⟨dL.cell rfl,dL.cell rfl⟩ (fun hHeld=>?_);clear hK K;try simp only[Act.put,lq1,lq2,lq3,lq4,lq5,lq6]
     have r0:=jq.cell (i:=0) rfl;have f0:=jq.frozen 0;have r1:=jq.cell (i:=1) rfl;have f1:=jq.frozen 1;have r2:=jq.cell (i:=2) rfl;have f2:=jq.frozen 2;refine wpAnyH_done (by kernel_rfl) ?_ _;clear hHeld;show wpList _ _ _ _ _ _;go_wp2_with fail
     obtain⟨W,hW,hrw,hww⟩:=ahO jq (.int .i64 g.ak) (.slice none 0 0) (.slice A5 g.infos.length c5);rw[← hW];clear hW;clear r0 f0;clear r1 f1;clear r2 f2;have szw:=hww.size;show Exit.then _ _ .normal _ _;go_wp2_with fail
     go_meet
     refine⟨w2.heap.size,A5,c5,rfl,hrw,?_,dL.wrote hww (by omega),ag6.wrote hww (by omega),Wrote.below hB3 hww (fun k hk=>by omega) hB3.size,by omega⟩;exact ac3.keep (fun b hb _=>by omega) (hww.same (fun b hb=>by omega))
   ·go_simp;obtain⟨w2,hw,zK,hb,hz⟩:=bZ w1 25 #[.int .i64 0,.slice none 0 0,.slice none 0 0];rw[← hw];clear hw hz;have g7:=wI.lt;have l2_7:=sU.lt;have lJ:=sU.below hb sU.lt;have sz2:=hb.size;have hbx2:=dw.below hb dw.lt;have zJ:=wI.below hb wI.lt;have hB2:=hB1.trans (hb.mono hB1.size);clear hb;refine hK.out _ _ ⟨hbx2.cell rfl,hbx2.cell rfl⟩ (fun hHeld=>?_);clear hK K;try simp only[Act.put,lq1,lq2,lq3,lq4,lq5,lq6]
    refine wpAnyH_ready (rs:=[5]) (by decide +kernel) (by simp) ?_;refine(AllReadyH.cons (o:=_) rfl (fun K hK=>?_) AllReadyH.nil)
    ·refine ifT rfl ?_;refine mP _ _ rfl _ _ g.infos (by rfl) (by rfl) (HI.out.on (Below.same' hB2 F)) (by omega) ?_;intro A5 c5 w3 hb ac3;have g5:=zJ.lt;have l2_5:=lJ.lt;have ah0:=lJ.below hb lJ.lt;have l7_5:=zK.lt;have jq:=zK.below hb zK.lt;have sz3:=hb.size;have dL:=hbx2.below hb hbx2.lt;have ag6:=zJ.below hb zJ.lt;have hB3:=hB2.trans (hb.mono hB2.size);clear hb;refine hK.out _ _ ⟨dL.cell rfl,dL.cell rfl⟩ (fun hHeld=>?_);clear hK K;try simp only[Act.put,lq1,lq2,lq3,lq4,lq5,lq6]
     refine tk0 [6] ?_;(refine tk (v:=?_) rfl (by kernel_rfl) (by kernel_rfl) (by kernel_rfl) (fun _ _ _ h=>h) (Or.inl ⟨by rfl,?_⟩) hHeld ?_;rotate_left;(focus intro wx hSx;(try dsimp only at hSx);go_split_ands;go_simp;try with_reducible rfl);try simp only[Act.put,lq1,lq2,lq3,lq4,lq5,lq6])
     refine tk1 ?_;have r0:=jq.cell (i:=0) rfl;have f0:=jq.frozen 0;have r1:=jq.cell (i:=1) rfl;have f1:=jq.frozen 1;have r2:=jq.cell (i:=2) rfl;have f2:=jq.frozen 2;refine wpAnyH_done (by kernel_rfl) ?_ _;clear hHeld;show wpList _ _ _ _ _ _;go_wp2_with fail
     obtain⟨W,hW,hrw,hww⟩:=ahO jq (.int .i64 g.ak) (.slice none 0 0) (.slice A5 g.infos.length c5);rw[← hW];clear hW;clear r0 f0;clear r1 f1;clear r2 f2;have szw:=hww.size;show Exit.then _ _ .normal _ _;go_wp2_with fail
     go_meet
     refine⟨w1.heap.size,A5,c5,rfl,hrw,?_,dL.wrote hww (by omega),ag6.wrote hww (by omega),Wrote.below hB3 hww (fun k hk=>by omega) hB3.size,by omega⟩;exact ac3.keep (fun b hb _=>by omega) (hww.same (fun b hb=>by omega))
  ·go_simp;obtain⟨w1,hw,ag7,hb,hz⟩:=bZ w0 25 #[.int .i64 0,.slice none 0 0,.slice none 0 0];rw[← hw];clear hw hz;have g7:=afT.lt;have sz1:=hb.size;have dw:=hbx0.below hb hbx0.lt;have wI:=afT.below hb afT.lt;have hB1:=hB0.trans (hb.mono hB0.size);clear hb;refine hK.out _ _ ⟨dw.cell rfl,dw.cell rfl⟩ (fun hHeld=>?_);clear hK K;try simp only[Act.put,lq1,lq2,lq3,lq4,lq5,lq6]
   refine wpAnyH_ready (rs:=[2]) (by decide +kernel) (by simp) ?_;refine(AllReadyH.cons (o:=_) rfl (fun K hK=>?_) AllReadyH.nil)
   ·go_simp;obtain⟨w2,hw,lJ,hb,hz⟩:=bZ w1 73 #[];rw[← hw];clear hw hz;have g2:=wI.lt;have l7_2:=ag7.lt;have zK:=ag7.below hb ag7.lt;have sz2:=hb.size;have hbx2:=dw.below hb dw.lt;have zJ:=wI.below hb wI.lt;have hB2:=hB1.trans (hb.mono hB1.size);clear hb;refine hK.out _ _ ⟨hbx2.cell rfl,hbx2.cell rfl⟩ (fun hHeld=>?_);clear hK K;try simp only[Act.put,lq1,lq2,lq3,lq4,lq5,lq6]
    refine wpAnyH_ready (rs:=[5]) (by decide +kernel) (by simp) ?_;refine(AllReadyH.cons (o:=_) rfl (fun K hK=>?_) AllReadyH.nil)
    ·refine ifT rfl ?_;refine mP _ _ rfl _ _ g.infos (by rfl) (by rfl) (HI.out.on (Below.same' hB2 F)) (by omega) ?_;intro A5 c5 w3 hb ac3;have g5:=zJ.lt;have l7_5:=zK.lt;have jq:=zK.below hb zK.lt;have l2_5:=lJ.lt;have ah0:=lJ.below hb lJ.lt;have sz3:=hb.size;have dL:=hbx2.below hb hbx2.lt;have ag6:=zJ.below hb zJ.lt;have hB3:=hB2.trans (hb.mono hB2.size);clear hb;refine hK.out _ _ ⟨dL.cell rfl,dL.cell rfl⟩ (fun hHeld=>?_);clear hK K;try simp only[Act.put,lq1,lq2,lq3,lq4,lq5,lq6]
     refine tk0 [6] ?_;(refine tk (v:=?_) rfl (by kernel_rfl) (by kernel_rfl) (by kernel_rfl) (fun _ _ _ h=>h) (Or.inl ⟨by rfl,?_⟩) hHeld ?_;rotate_left;(focus intro wx hSx;(try dsimp only at hSx);go_split_ands;go_simp;try with_reducible rfl);try simp only[Act.put,lq1,lq2,lq3,lq4,lq5,lq6])
     refine tk1 ?_;have r0:=jq.cell (i:=0) rfl;have f0:=jq.frozen 0;have r1:=jq.cell (i:=1) rfl;have f1:=jq.frozen 1;have r2:=jq.cell (i:=2) rfl;have f2:=jq.frozen 2;refine wpAnyH_done (by kernel_rfl) ?_ _;clear hHeld;show wpList _ _ _ _ _ _;go_wp2_with fail
     obtain⟨W,hW,hrw,hww⟩:=ahO jq (.int .i64 g.ak) (.slice none 0 0) (.slice A5 g.infos.length c5);rw[← hW];clear hW;clear r0 f0;clear r1 f1;clear r2 f2;have szw:=hww.size;show Exit.then _ _ .normal _ _;go_wp2_with fail
     go_meet
     refine⟨w0.heap.size,A5,c5,rfl,hrw,?_,dL.wrote hww (by omega),ag6.wrote hww (by omega),Wrote.below hB3 hww (fun k hk=>by omega) hB3.size,by omega⟩;exact ac3.keep (fun b hb _=>by omega) (hww.same (fun b hb=>by omega))
 case rest =>
  obtain⟨bo,Ai',ci',rfl,hbo,hio,yB,hrs',hB',gbo⟩:=hcut;clear hbx hrs hB;obtain⟨wz,rfl⟩:∃ wz:World,wz=wc:=⟨_,rfl⟩;have hbol:=hbo.lt;go_wp2
  go_loopw [4,5] (fun i _ wr=>∃ (k:Nat) (L:List NV) (vo:Value) (G:Ag),k≤g.nodes.length∧i = .int .i64 k∧L.map NV.n=g.nodes.take k∧wr.ownsRow wz.heap.size 67 6 vo L.length (L.flatMap NV.cells)∧(∀ q∈L,q.fine wr G)∧(∀ b,G b→wz.heap.size≤b∧vo.ownBlock≠some b∧b < wr.heap.size)∧Row wr bo 25 [.int .i64 g.ak,vo,.slice Ai' g.infos.length ci']∧AQ wr (fun b=>w.heap.size+1 < b∧b≠bo∧b < wz.heap.size) (.slice Ai' g.infos.length ci') g.infos∧Row wr w.heap.size 25 [.int .i64 g.ak,.slice A g.nodes.length c,.slice Ai g.infos.length ci]∧Row wr (w.heap.size+1) 25 [.int .i64 0,.slice none 0 0,.slice none 0 0]∧Below w.heap.size w wr∧wz.heap.size≤wr.heap.size) (fun i _ _=>g.nodes.length - (intOf i).toNat)
  case atStart=>exact⟨0,[],.slice none 0 0,fun _=>False,by omega,rfl,rfl,World.ownsRow_nil _ _ _ _,fun q hq=>(by cases hq),fun b hb=>hb.elim,hbo,hio,yB,hrs',hB',Nat.le_refl _⟩
  case round =>
   clear hbo hio yB hrs' hB';obtain⟨k,L,vo,G,hk,rfl,hLn,hown,bV,hG,hbo,hio,hbx,hrs,hB,hz⟩:=hrel;have HO:=Ac hown; clear hown;have HL:=Ac hLn; clear hLn;have HFN:=Ac bV; clear bV;have HG:=Ac hG; clear hG;have HIO:=Ac hio; clear hio;have x1:=hbx.cell (i:=1) rfl;have hbxl:=hbx.lt;have hbol2:=hbo.lt;by_cases hlt:k < g.nodes.length
   ·obtain⟨b,o,rfl,_,hb,hcell⟩:=HN.out (by omega);obtain⟨n,hn'⟩:=ay hlt;obtain⟨e0,e1,e2,⟨v3,e3,i3⟩,⟨v4,e4,i4⟩,⟨v5,e5,i5⟩⟩:=hcell k n hn';have hm:=List.mem_of_getElem? hn';have s3:=HS.out.next n hm;have s4:=HS.out.weights n hm;have s5:=HS.out.pay n hm;have H3:=Ac i3; have H4:=Ac i4; have H5:=Ac i5;obtain⟨A3,c3,rfl,hc3,_⟩:=i3;obtain⟨A4,c4,rfl,hc4,_⟩:=i4;obtain⟨A5,c5,rfl,hc5,_⟩:=i5;rw[← aI hB _ _ hb] at e0 e1 e2 e3 e4 e5;have HX:=Ac hn'; clear hn' hcell hm;go_upto_region 6 with fail
    obtain⟨w1,hw1,hnx,hb1,hz1⟩:=bZ wr 67 #[.int .i64 n.kind,.int .i64 n.aH,.int .i64 n.info,.slice A3 n.next.length c3,.slice A4 n.weights.length c4,.slice A5 n.pay.length c5];rw[← hw1];have HO1:=Ac (show w1.ownsRow wz.heap.size 67 6 vo L.length (L.flatMap NV.cells) by rw[hw1]; exact HO.out.alloc _);have HB1:=Ac (hB.trans (hb1.mono hB.size));have hz1':wr.heap.size < w1.heap.size:=hnx.lt;clear hw1 hz1;go_cut [] from 13 to 45 (fun wx=>∃ A3' c3' A4' c4' A5' c5',Row wx wr.heap.size 67 [.int .i64 n.kind,.int .i64 n.aH,.int .i64 n.info,.slice A3' n.next.length c3',.slice A4' n.weights.length c4',.slice A5' n.pay.length c5']∧Aw wx (fun b=>wr.heap.size < b∧b < wx.heap.size) (.slice A3' n.next.length c3') n.next∧Aw wx (fun b=>wr.heap.size < b∧b < wx.heap.size) (.slice A4' n.weights.length c4') n.weights∧Aw wx (fun b=>wr.heap.size < b∧b < wx.heap.size) (.slice A5' n.pay.length c5') n.pay∧Wrote (fun k=>k=wr.heap.size) w1 wx)
    case first =>
     refine bC (fun w'=>w'.cell? ⟨wr.heap.size,3,none⟩=some (.slice A3 n.next.length c3)∧w'.cell? ⟨wr.heap.size,4,none⟩=some (.slice A4 n.weights.length c4)∧w'.cell? ⟨wr.heap.size,5,none⟩=some (.slice A5 n.pay.length c5)) 13 5 (by kernel_rfl) rfl (by kernel_rfl) ?_;have hHeld:(fun w':World=>w'.cell? ⟨wr.heap.size,3,none⟩=some (.slice A3 n.next.length c3)∧w'.cell? ⟨wr.heap.size,4,none⟩=some (.slice A4 n.weights.length c4)∧w'.cell? ⟨wr.heap.size,5,none⟩=some (.slice A5 n.pay.length c5)) w1.drew:=⟨hnx.cell rfl,hnx.cell rfl,hnx.cell rfl⟩;simp only[List.take_succ_cons,List.take_zero];refine tk0 [1,2,5,6,9,10] ?_;iterate 6 (refine tk (v:=?_) rfl (by kernel_rfl) (by kernel_rfl) (by kernel_rfl) (fun _ _ _ h=>h) (Or.inl ⟨by rfl,?_⟩) hHeld ?_;rotate_left;(focus intro wx hSx;(try dsimp only at hSx);go_split_ands;go_simp;try with_reducible rfl);try simp only[Act.put,lq1,lq2,lq3,lq4,lq5,lq6])
     refine tk1 ?_;have aiK:=hnx;obtain⟨w0,hw0⟩:∃ W,W=w1.drew:=⟨_,rfl⟩;have aga:Row w0 _ _ _:=hw0▸hnx.drew;have hV0:Below w1.heap.size w1 w0:=hw0▸(Below.refl w1.heap.size w1).drew;rw[← hw0] at hHeld ⊢;clear hw0 hnx hb1 e0 e1 e2 e3 e4 e5 x1 hbo hbx hrs hB;obtain⟨wb,rfl⟩:∃ wb:World,wb=w1:=⟨_,rfl⟩;refine kG (js:=[0,3,4,7,8,11,12]) ((Hold.cell (wr.heap.size) 3 (.slice A3 n.next.length c3)).and ((Hold.cell (wr.heap.size) 4 (.slice A4 n.weights.length c4)).and ((Hold.cell (wr.heap.size) 5 (.slice A5 n.pay.length c5)).and ((Hold.of (Fact.ints F n.next) (.slice A3 n.next.length c3)).and ((Hold.of (Fact.ints F n.weights) (.slice A4 n.weights.length c4)).and ((Hold.of (Fact.ints F n.pay) (.slice A5 n.pay.length c5)).and (Hold.below wb.heap.size wb))))))) [(0,Fact.empty),(3,Fact.ints (fun b=>wb.heap.size≤b) n.next),(4,Fact.empty),(7,Fact.ints (fun b=>wb.heap.size≤b) n.weights),(8,Fact.empty),(11,Fact.ints (fun b=>wb.heap.size≤b) n.pay),(12,Fact.eq (.pointer (some ⟨wr.heap.size,3,none⟩)))] (by kernel_rfl) ⟨hHeld.1,hHeld.2.1,hHeld.2.2,((H3.out.on (Below.same' HB1.out F)).on (Below.same' hV0 F)),((H4.out.on (Below.same' HB1.out F)).on (Below.same' hV0 F)),((H5.out.on (Below.same' HB1.out F)).on (Below.same' hV0 F)),⟨hV0.size,hV0⟩⟩ (fun _ h=>⟨h.1,h.2.1,h.2.2.1⟩) ?_;refine Flow.cons (o:=_) rfl (fun wk hS hf K hK=>?_) (fun v0=>?_)
     ·go_simp;exact hK.out _ _ ((Below.refl _ _).alloc (Nat.le_refl _) _) ⟨_,rfl⟩
     try simp only[Act.put,lq1,lq2,lq3,lq4,lq5,lq6]
     refine Flow.cons (o:=_) rfl (fun wk hS hf K hK=>?_) (fun v3=>?_)
     ·have f0:=cO (f:=Fact.empty) (hf (0,v0) (by simp) (by kernel_rfl)) rfl;obtain⟨b0,rfl⟩:=f0;refine adt rfl ?_;refine oq (F:=F) _ _ rfl _ _ n.next rfl rfl hS.2.2.2.1 (by omega) ?_;intro A' cap w' hb hi;exact hK.out _ _ hb (hi.keep (fun b h _=>Nat.le_trans hS.2.2.2.2.2.2.1 h.1) (Same.refl _ _))
     try simp only[Act.put,lq1,lq2,lq3,lq4,lq5,lq6]
     refine Flow.cons (o:=_) rfl (fun wk hS hf K hK=>?_) (fun v4=>?_)
     ·go_simp;exact hK.out _ _ ((Below.refl _ _).alloc (Nat.le_refl _) _) ⟨_,rfl⟩
     try simp only[Act.put,lq1,lq2,lq3,lq4,lq5,lq6]
     refine Flow.cons (o:=_) rfl (fun wk hS hf K hK=>?_) (fun v7=>?_)
     ·have f4:=cO (f:=Fact.empty) (hf (4,v4) (by simp) (by kernel_rfl)) rfl;obtain⟨b4,rfl⟩:=f4;refine adt rfl ?_;refine oq (F:=F) _ _ rfl _ _ n.weights rfl rfl hS.2.2.2.2.1 (by omega) ?_;intro A' cap w' hb hi;exact hK.out _ _ hb (hi.keep (fun b h _=>Nat.le_trans hS.2.2.2.2.2.2.1 h.1) (Same.refl _ _))
     try simp only[Act.put,lq1,lq2,lq3,lq4,lq5,lq6]
     refine Flow.cons (o:=_) rfl (fun wk hS hf K hK=>?_) (fun v8=>?_)
     ·go_simp;exact hK.out _ _ ((Below.refl _ _).alloc (Nat.le_refl _) _) ⟨_,rfl⟩
     try simp only[Act.put,lq1,lq2,lq3,lq4,lq5,lq6]
     refine Flow.cons (o:=_) rfl (fun wk hS hf K hK=>?_) (fun v11=>?_)
     ·have f8:=cO (f:=Fact.empty) (hf (8,v8) (by simp) (by kernel_rfl)) rfl;obtain⟨b8,rfl⟩:=f8;refine adt rfl ?_;refine oq (F:=F) _ _ rfl _ _ n.pay rfl rfl hS.2.2.2.2.2.1 (by omega) ?_;intro A' cap w' hb hi;exact hK.out _ _ hb (hi.keep (fun b h _=>Nat.le_trans hS.2.2.2.2.2.2.1 h.1) (Same.refl _ _))
     try simp only[Act.put,lq1,lq2,lq3,lq4,lq5,lq6]
     refine Flow.cons (o:=_) rfl (fun wk hS hf K hK=>?_) (fun v12=>?_)
     ·go_simp;exact hK.out _ _ (Below.refl _ _) rfl
     try simp only[Act.put,lq1,lq2,lq3,lq4,lq5,lq6]
     refine Flow.nil (fun wE hS hf=>?_);have f3:=cO (f:=Fact.ints (fun b=>wb.heap.size≤b) n.next) (hf (3,v3) (by simp)) rfl;have f7:=cO (f:=Fact.ints (fun b=>wb.heap.size≤b) n.weights) (hf (7,v7) (by simp)) rfl;have f11:=cO (f:=Fact.ints (fun b=>wb.heap.size≤b) n.pay) (hf (11,v11) (by simp)) rfl;have f12:=cO (f:=Fact.eq (.pointer (some ⟨wr.heap.size,3,none⟩))) (hf (12,v12) (by simp)) rfl;have hVE:=hS.2.2.2.2.2.2.2;have aej:=aiK.of_block (hVE.block _ aiK.lt);have g3:=f3; have g7:=f7; have g11:=f11;obtain⟨B3,d3,hv3,_,_⟩:=g3; obtain⟨B7,d7,hv7,_,_⟩:=g7; obtain⟨B11,d11,hv11,_,_⟩:=g11;have hv12:v12 = .pointer (some ⟨wr.heap.size,3,none⟩):=f12;subst hv3 hv7 hv11 hv12;have G3:=Ac f3; have G7:=Ac f7; have G11:=Ac f11; have HVE:=Ac hVE; have hzE:=hVE.size;clear f3 f7 f11 f12 hf hS hVE hV0 hHeld aiK aga;have r3:=aej.cell (i:=3) rfl; have f3:=aej.frozen 3;have r4:=aej.cell (i:=4) rfl; have f4:=aej.frozen 4;have r5:=aej.cell (i:=5) rfl; have f5:=aej.frozen 5;show wpList _ _ _ _ _ _;go_wp2_with fail
     show wpList _ _ _ _ _ _;go_wp2_with fail
     show wpList _ _ _ _ _ _;go_wp2_with fail
     show wpList _ _ _ _ _ _;go_wp2_with fail
     show wpList _ _ _ _ _ _;go_wp2_with fail
     obtain⟨W,hW,hrw,hww⟩:=aiJ aej (.slice B3 n.next.length d3) (.slice B7 n.weights.length d7) (.slice B11 n.pay.length d11);rw[← hW];clear hW r3 f3 r4 f4 r5 f5;have szw:=hww.size;show Exit.then _ _ .normal _ _;go_wp2_with fail
     go_meet
     refine⟨B3,d3,B7,d7,B11,d11,hrw,?_,?_,?_,(Below.wrote HVE.out _).trans hww⟩
     ·exact Aw.keep G3.out (fun b hb _=>by omega) (hww.same (fun b hb=>by omega))
     ·exact Aw.keep G7.out (fun b hb _=>by omega) (hww.same (fun b hb=>by omega))
     ·exact Aw.keep G11.out (fun b hb _=>by omega) (hww.same (fun b hb=>by omega))
    case rest =>
     obtain⟨A3',c3',A4',c4',A5',c5',aek,j3,j4,j5,hww⟩:=hcut;obtain⟨wy,rfl⟩:∃ wy:World,wy=wc:=⟨_,rfl⟩;have ae5:=(hbo.below hb1 hbo.lt).wrote hww (by omega);have dw:=(hbx.below hb1 hbx.lt).wrote hww (by omega);have wI:=(hrs.below hb1 hrs.lt).wrote hww (by have:=hrs.lt; omega);have hBy:Below w.heap.size w wy:=Wrote.below HB1.out hww (fun k hk=>by have:=hB.size; omega) HB1.out.size;have hyz:=hww.size;have HOY:=Ac (show wy.ownsRow wz.heap.size 67 6 vo L.length (L.flatMap NV.cells) from⟨HO1.out.1,HO1.out.2.imp id (fun ⟨gg,cap,cur,h1,h2,h3,h4⟩=>⟨gg,cap,cur,h1,h2,by
      have hgl:gg < wr.heap.size:=(HO.out.lt gg (by rw[h1]; rfl)).2;rw[hww.block gg (by omega) (by omega)]; exact h3,h4⟩)⟩)
     have hvo:∀ b,vo.ownBlock=some b→wz.heap.size≤b∧b < wr.heap.size:=fun b hb=>HO.out.lt b hb
     have HVO:=Ac hvo; clear hvo;have HJ:=Ac (And.intro j3 (And.intro j4 j5)); clear j3 j4 j5;have HWW:=Ac hww; have HBB:=Ac hb1;have y1:=ae5.cell (i:=1) rfl;have q0:=aek.cell (i:=0) rfl;have q1:=aek.cell (i:=1) rfl;have q2:=aek.cell (i:=2) rfl;have q3:=aek.cell (i:=3) rfl;have q4:=aek.cell (i:=4) rfl;have q5:=aek.cell (i:=5) rfl;have hnl:=aek.lt;have hbol3:=ae5.lt;clear hnx hb1 hww e0 e1 e2 e3 e4 e5 x1 hbo hbx hrs hB;go_wp2_with (at_builtin; refine abE rfl _ _ rfl wz.heap.size vo L rfl (HOY.out.alloc _) wy.heap.size ⟨n,.slice A3' n.next.length c3',.slice A4' n.weights.length c4',.slice A5' n.pay.length c5'⟩ rfl (heap_alloc_new _ _) ⟨rfl,rfl,rfl⟩ (by have h1:=congrArg List.length HL.out; simp at h1; omega) (by simp; omega) ?_; intro gg cap w3 hown3 hgrow hat hlt3; have ae6:=(ae5.alloc (.cells #[.int .i64 n.kind,.int .i64 n.aH,.int .i64 n.info,.slice A3' n.next.length c3',.slice A4' n.weights.length c4',.slice A5' n.pay.length c5'] 67)).of_block (hgrow.block bo (by simp; omega) (fun e=>by have:=(HVO.out bo e.symm).1; omega)); have r1:=ae6.cell (i:=1) rfl; have f1:=ae6.frozen 1; have HO3:=Ac hown3; have HGR:=Ac hgrow; have HAT:=Ac hat; clear hown3 hgrow hat)
     go_roundw
     case rel =>
      have hgr:=HGR.out;have hsz:=hgr.size;simp only[World.size_alloc] at hsz;have hgb:∀ b,b < wy.heap.size→vo.ownBlock≠some b→w3.heap[b]? = wy.heap[b]?:=fun b hb hne=>by
       rw[hgr.block b (by simp; omega) (fun e=>hne e.symm)]; exact Below.heap_alloc _ _ _ hb
      have hkeep:∀ (H:Ag),(∀ b,H b→b≠bo∧vo.ownBlock≠some b)→∀ (u:Value),Same (fun b=>H b∧b < wy.heap.size) wy (w3.setCell ⟨bo,1,none⟩ u):=fun H hH u =>
       ⟨by simp; omega,fun b hb hl=>by rw[Below.heap_setCell _ _ _ _ (hH b hb.1).1]; exact hgb b hl (hH b hb.1).2⟩
      have hry:∀ (H:Ag),(∀ b,H b→b≠wr.heap.size)→Same H wr wy:=fun H hH =>
       (Below.same' HBB.out H).trans (HWW.out.same (fun b hb=>hH b hb))
      obtain⟨j3,j4,j5⟩:=HJ.out;have hbz:bo < wz.heap.size:=hbol;refine⟨k+1,L ++ [⟨n,.slice A3' n.next.length c3',.slice A4' n.weights.length c4',.slice A5' n.pay.length c5'⟩],.slice (some ⟨gg,0,none⟩) (L.length+1) cap,fun b=>(G b∨wr.heap.size < b)∧b < wy.heap.size,by omega,by go_num,?_,?_,?_,?_,ae6.set 1 _,?_,?_,?_,?_,by simp; omega⟩
      ·rw[List.map_append,HL.out,take_snoc HX.out]; rfl
      ·exact⟨HO3.out.1,HO3.out.2.imp id (fun ⟨g',cap',cur,h1,h2,h3,h4⟩=>⟨g',cap',cur,h1,h2,by rw[Below.heap_setCell _ _ _ _ (show g'≠bo by omega)]; exact h3,h4⟩)⟩
      ·intro q hq;rcases List.mem_append.1 hq with hq | hq
       ·have h1:=(HFN.out q hq).keep (G:=fun b=>G b∧b < wr.heap.size) (fun b hb hl=>⟨hb,hl⟩) (Same.refl _ _);have h2:=h1.keep (G:=fun b=>(G b∧b < wr.heap.size)∧b < wy.heap.size) (fun b hb _=>⟨hb,by omega⟩) (hry _ (fun b hb=>by omega));exact h2.keep (fun b hb _=>⟨.inl hb.1.1,hb.2⟩) (hkeep (fun b=>G b∧b < wr.heap.size) (fun b hb=>⟨by have:=(HG.out b hb.1).1; omega,(HG.out b hb.1).2.1⟩) _)
       ·simp only[List.mem_cons,List.not_mem_nil,or_false] at hq;subst hq;have hs:=hkeep (fun b=>wr.heap.size < b) (fun b hb=>⟨by omega,fun e=>by have:=(HVO.out b e).2; omega⟩) (.slice (some ⟨gg,0,none⟩) (L.length+1) cap);exact⟨j3.keep (fun b hb _=>⟨.inr hb.1,hb.2⟩) hs,j4.keep (fun b hb _=>⟨.inr hb.1,hb.2⟩) hs,j5.keep (fun b hb _=>⟨.inr hb.1,hb.2⟩) hs⟩
      ·intro b hb;have hgx:gg≠b:=by
        rintro rfl;rcases HAT.out with h | h
        ·rcases hb.1 with h1 | h1
         ·exact(HG.out gg h1).2.1 h
         ·have:=(HVO.out gg h).2; omega
        ·simp at h; omega
       refine⟨?_,fun e=>hgx (by simpa [Value.ownBlock] using e),by simp; omega⟩;rcases hb.1 with h1 | h1
       ·exact(HG.out b h1).1
       ·omega
      ·have h1:=HIO.out.keep (G:=fun b=>(w.heap.size+1 < b∧b≠bo∧b < wz.heap.size)∧b < wy.heap.size) (fun b hb _=>⟨hb,by omega⟩) (hry _ (fun b hb=>by omega));exact h1.keep (fun b hb _=>hb.1) (hkeep (fun b=>w.heap.size+1 < b∧b≠bo∧b < wz.heap.size) (fun b hb=>⟨hb.2.1,fun e=>by have:=(HVO.out b e).1; omega⟩) _)
      ·exact(dw.of_block (hgb _ dw.lt (fun e=>by have:=(HVO.out _ e).1; omega))).other (by simp; omega) _
      ·exact(wI.of_block (hgb _ wI.lt (fun e=>by have:=(HVO.out _ e).1; omega))).other (by simp; omega) _
      ·exact((hBy.alloc hBy.size _).grown hgr (by have:=hBy.size; simp; omega) (fun k hk=>by have:=(HVO.out k hk).1; omega)).setCell (by simp; omega) _
     case measure=>simp[intOf] <;> omega
   ·have hke:k=g.nodes.length:=by omega
    have HKE:=Ac hke; clear hke;have y0:=hbo.cell (i:=0) rfl;have r0:=hrs.cell (i:=0) rfl;have f0:=hrs.frozen 0;have y1:=hbo.cell (i:=1) rfl;have r1:=hrs.cell (i:=1) rfl;have f1:=hrs.frozen 1;have y2:=hbo.cell (i:=2) rfl;have r2:=hrs.cell (i:=2) rfl;have f2:=hrs.frozen 2;obtain⟨Ao,lo,co,rfl⟩:∃ Ao lo co,vo = .slice Ao lo co:=by
     rcases HO.out.2 with⟨h,_⟩ | ⟨gg,cap,cur,h,_⟩
     ·exact⟨_,_,_,h⟩
     ·exact⟨_,_,_,h⟩
    go_wp2
    obtain⟨W,hW,hrw,hww⟩:=ahO hrs (.int .i64 g.ak) (.slice Ao lo co) (.slice Ai' g.infos.length ci');rw[← hW];clear hW;clear y0 r0 f0;have r0:=hrw.cell (i:=0) rfl;clear y1 r1 f1;have r1:=hrw.cell (i:=1) rfl;clear y2 r2 f2;have r2:=hrw.cell (i:=2) rfl;refine bodyPost_ret (v:=.agg #[.int .i64 g.ak,.slice Ao lo co,.slice Ai' g.infos.length ci']) (by simp[results,Tryz.results18,go_sem,r0,r1,r2]) rfl ?_;have hwz:=hww.size;refine⟨_,rfl,Wrote.below hB hww (fun k hk=>by omega) hB.size,_,_,rfl,?_,?_⟩
    ·have h1:=aei HO.out (F:=fun b=>wz.heap.size≤b) (fun b hb=>(HO.out.lt b hb).1) (fun q hq=>(HFN.out q hq).keep (fun b hb _=>(HG.out b hb).1) (Same.refl _ _));rw[HL.out,HKE.out,List.take_length] at h1;exact h1.keep (fun b hb _=>by omega) (hww.same (fun b hb=>by omega))
    ·exact HIO.out.keep (fun b hb _=>by omega) (hww.same (fun b hb=>by omega))
end Go.Proofs.YtkcheepafifjaaaGreatDoor

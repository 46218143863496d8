/- recall.walked and recall.Form -/
import Derived.Test.YtkcheepafifjaaaGreatDoorU31
import Derived.Deep.CutRange
set_option linter.all false
set_option maxRecDepth 100000
set_option maxHeartbeats 12800000
namespace Go.Proofs.YtkcheepafifjaaaGreatDoor
open Lib renaming hid → Ac
open List renaming getElem_toArray → lq1, getElem_cons_zero → lq2, getElem_cons_succ → lq3, setIfInBounds_toArray → lq4, set_cons_zero → lq5, set_cons_succ → lq6
open Go.RowKit
def walkT (g:Gm):Int×Tri:=bU g.nodes (g.nodes.length+1) 0 (-1) 0 ⟨List.replicate g.nodes.length 0,List.replicate g.nodes.length 0,List.replicate g.nodes.length 0⟩
def oK (g:Gm):Int :=
 if iL g then 2 else if cZ g.ak g.infos.length g.nodes≠0 then cZ g.ak g.infos.length g.nodes
 else if (walkT g).1≠g.nodes.length then 9 else if 40 < maxL (walkT g).2.d then 5 else gU g
def Dl (g:Gm) (B:Nat) (v:Value) (w':World):Prop:=∃ vp,v = .tuple #[vp,.int .i64 (oK g)] ∧
 (oK g=0→∃ p bp bd bl A c Ai ci,vp = .pointer (some ⟨p,0,none⟩)∧Bq w' p bp bd bl g.ak A g.nodes.length c Ai g.infos.length ci (walkT g).2∧B≤p∧B≤bp∧B≤bd∧B≤bl)
theorem ifT {c:Bool} {p q:Prop} (h:c=true) (hp:p):if c=true then p else q:=by rw[if_pos h]; exact hp
theorem bg {P:Program} (w:World) {o:Oper} {a:Act} {K:Act→World→Prop} {Q:Exit→Act→World→Prop} (l c:Operand) (t:TypeId) (hop:o.op=Op.makeSlice t l c)
  (e:TypeId) (z:Value) (bytes:Nat) (ht:P.underlying t=some (.slice e)) (hinfo:(P.info? e).map (fun i=>(i.zero,i.size,i.bytes))=some (some z,1,bytes)) (hz1:z.cells = #[z])
  (n:Nat) (hl:a.eval l = .int .i64 (n:Int)) (hc:a.eval c = .int .i64 (n:Int)) (hn:n≤1000000) (hb:bytes≤1000)
  (hK:∀ w1,Below w.heap.size w w1→w1.heap.size=w.heap.size+1→Row w1 w.heap.size e (List.replicate n z)→K (a.put o.dst (.slice (some ⟨w.heap.size,0,none⟩) n n)) w1) :
  Oper.wp P o a w K Q:=by
 have hbytes:bytes*n≤281474976710656:=by
  have:bytes*n≤1000*1000000:=Nat.mul_le_mul hb hn;omega
 have hrun:=run_make_row' (P:=P) t e z bytes ht hinfo hz1 .i64 .i64 n hbytes (by omega) w;unfold Oper.wp;simp[execOp,hop,hl,hc,hrun,Result.andThen];have hbel:Below w.heap.size w (w.alloc (.cells (madeCells #[z] n) e)):=(Below.refl _ _).alloc (Nat.le_refl _) _;exact hK _ hbel (by simp) (Row.made w z n e)
theorem adR (w:World) (F:Ag) (u:Value) (g:Gm) (hg:AA w F u g) (hsm:Small g) :
  Calls Tryz.prog 137 #[u] w (Ret w (Dl g w.heap.size)):=by
 have HG:=Ac hg;obtain⟨vn,vi,rfl,⟨A,c,rfl,hc,hN⟩,⟨Ai,ci,rfl,hci,hI⟩⟩:=hg;have HN:=Ac hN; have HI:=Ac hI; clear hN hI;have hn:=hsm.nodes;have hni:=hsm.infos;have HS:=Ac hsm; clear hsm;by_cases q0:g.ak < 1
 ·have HF:=Ac (show oK g=2 by unfold oK; rw[if_pos (by unfold iL; omega)]);go_enter Tryz.func137,Tryz.ntmps137;go_wp2
  go_ret2;exact⟨_,rfl,(Below.refl _ _).alloc (Nat.le_refl _) _,.pointer none,by rw[HF.out]; rfl,by rw[HF.out]; intro h; simp at h⟩
 have d0:decide (g.ak < 1)=false:=decide_eq_false (by omega);by_cases q1:4 < g.ak
 ·have HF:=Ac (show oK g=2 by unfold oK; rw[if_pos (by unfold iL; omega)]);go_enter Tryz.func137,Tryz.ntmps137;go_wp2
  go_ret2;exact⟨_,rfl,(Below.refl _ _).alloc (Nat.le_refl _) _,.pointer none,by rw[HF.out]; rfl,by rw[HF.out]; intro h; simp at h⟩
 have d1:decide ((4:Int) < g.ak)=false:=decide_eq_false (by omega);by_cases q2:g.nodes.length < 1
 ·have HF:=Ac (show oK g=2 by unfold oK; rw[if_pos (by unfold iL; omega)]);go_enter Tryz.func137,Tryz.ntmps137;go_wp2
  go_ret2;exact⟨_,rfl,(Below.refl _ _).alloc (Nat.le_refl _) _,.pointer none,by rw[HF.out]; rfl,by rw[HF.out]; intro h; simp at h⟩
 have d2:decide ((g.nodes.length:Int) < 1)=false:=decide_eq_false (by omega);have d3:decide ((2000:Int) < (g.nodes.length:Int))=false:=decide_eq_false (by omega);have d4:decide ((200:Int) < (g.infos.length:Int))=false:=decide_eq_false (by omega);have HE:=Ac (show oK g=if cZ g.ak g.infos.length g.nodes≠0 then cZ g.ak g.infos.length g.nodes
   else if (walkT g).1≠g.nodes.length then 9 else if 40 < maxL (walkT g).2.d then 5 else gU g by unfold oK; rw[if_neg (by unfold iL; omega)])
 obtain⟨b,o,rfl,hbF,hb,hcell⟩:=HN.out (by omega);have HC:=Ac hcell; clear hcell;go_enter Tryz.func137,Tryz.ntmps137;go_wp2_with fail
 go_loopw [42] (fun i wr=>∃ k:Nat,k≤g.nodes.length∧i = .int .i64 k∧Row wr w.heap.size 25 [.int .i64 g.ak,.slice (some ⟨b,o,none⟩) g.nodes.length c,.slice Ai g.infos.length ci]∧Row wr (w.heap.size+1) 203 [.int .i64 g.ak,.slice (some ⟨b,o,none⟩) g.nodes.length c,.slice Ai g.infos.length ci,.slice none 0 0,.slice none 0 0,.slice none 0 0]∧Below w.heap.size w wr∧cZ g.ak g.infos.length g.nodes=cZ g.ak g.infos.length (g.nodes.drop k)) (fun i _=>g.nodes.length - (intOf i).toNat)
 case atStart =>
  refine⟨0,by omega,rfl,(Row.new w _ _).alloc _,?_,?_,rfl⟩
  ·have:=Row.new (w.alloc (.cells #[.int .i64 g.ak,.slice (some ⟨b,o,none⟩) g.nodes.length c,.slice Ai g.infos.length ci] 25)) 203 #[.int .i64 g.ak,.slice (some ⟨b,o,none⟩) g.nodes.length c,.slice Ai g.infos.length ci,.slice none 0 0,.slice none 0 0,.slice none 0 0];simpa using this
  ·exact aP _ _ _ 0
 case round =>
  obtain⟨k,hk,rfl,hbx,hwk,hbel,hval⟩:=hrel;have HV:=Ac hval; clear hval;by_cases hlt:k < g.nodes.length
  ·obtain⟨x,hx⟩:=ay hlt;obtain⟨e0,e1,e2,⟨v3,e3,i3⟩,⟨v4,e4,i4⟩,⟨v5,e5,i5⟩⟩:=HC.out k x hx;obtain⟨A3,c3,rfl,hc3,h3⟩:=i3;obtain⟨A4,c4,rfl,hc4,h4⟩:=i4;obtain⟨A5,c5,rfl,hc5,h5⟩:=i5;have V:=Ac (show AX w F _ x from⟨_,_,_,rfl,⟨A3,c3,rfl,hc3,h3⟩,⟨A4,c4,rfl,hc4,h4⟩,⟨A5,c5,rfl,hc5,h5⟩⟩);clear h3 h4 h5;have M:=List.mem_of_getElem? hx;have HL:=Ac (show x.next.length < 1000000∧x.weights.length < 1000000∧x.pay.length < 1000000 from⟨by have:=HS.out.next x M; omega,by have:=HS.out.weights x M; omega,by have:=HS.out.pay x M; omega⟩);clear M;have HV2:=Ac (HV.out.trans (sK hx)); clear hx;have hold:=aI hbel;have hwl:=hwk.lt;go_wp2_with fail
   obtain⟨W,hW,_,hWb,hWz⟩:=bZ wr 67 #[.int .i64 x.kind,.int .i64 x.aH,.int .i64 x.info,.slice A3 x.next.length c3,.slice A4 x.weights.length c4,.slice A5 x.pay.length c5];rw[← hW];clear hW;have dw:=hbx.below hWb hbx.lt;have jZ:=hwk.below hWb hwk.lt;have oD:=hbel.trans (hWb.mono hbel.size);clear hbx hwk hbel hold;refine(afs _ F (w.heap.size+1) _ g.ak g.infos.length x ⟨jZ.cell rfl,_,_,jZ.cell rfl⟩ (V.out.on (Below.same' oD F)) HL.out (by omega) (by omega) jZ.lt).mono ?_;rintro e w1 ⟨_,rfl,hb1,rfl⟩;have hbx2:=dw.below hb1 dw.lt;have gV:=jZ.below hb1 jZ.lt;have iP:=oD.trans (hb1.mono oD.size);clear dw jZ oD hb1 hWb hWz;dsimp only;generalize aN g.ak g.infos.length x=er at *;by_cases he:er=0
   ·subst he;go_wp2
    go_roundw
    case rel=>exact⟨k+1,by omega,by go_num,hbx2,gV,iP,by rw[HV2.out]; simp⟩
    case measure=>simp[intOf]; omega
   ·have hd:(er != 0)=true:=by simp[he]
    have HF:=Ac (show oK g=er by rw[HE.out,HV2.out]; simp[he]);have HNZ:=Ac he;clear he;go_wp2
    go_ret2;exact⟨_,rfl,iP,.pointer none,by rw[HF.out]; rfl,by rw[HF.out]; intro h; exact absurd h HNZ.out⟩
  ·have HE2:=Ac (show oK g=if (walkT g).1≠g.nodes.length then 9 else if 40 < maxL (walkT g).2.d then 5 else gU g by
    rw[HE.out,HV.out,List.drop_eq_nil_of_le (by omega)]; simp[cZ])
   have HIN:=Ac (nC (g:=g) (by rw[HV.out,List.drop_eq_nil_of_le (by omega)]; rfl));have hbl:=hbx.lt;have hwl:=hwk.lt;go_upto_region 11 with fail
   go_cut [] from 53 to 73 (fun wx=>∃ bp bd bl,Bq wx (w.heap.size+1) bp bd bl g.ak (some ⟨b,o,none⟩) g.nodes.length c Ai g.infos.length ci ⟨List.replicate g.nodes.length 0,List.replicate g.nodes.length 0,List.replicate g.nodes.length 0⟩∧Row wx w.heap.size 25 [.int .i64 g.ak,.slice (some ⟨b,o,none⟩) g.nodes.length c,.slice Ai g.infos.length ci]∧Below w.heap.size w wx∧w.heap.size+1 < bp∧w.heap.size+1 < bd∧w.heap.size+1 < bl∧bp≠bd∧bp≠bl∧bd≠bl)
   case first =>
    refine wp_region_held_drew (S:=fun w'=>w'.cell? ⟨w.heap.size,1,none⟩=some (.slice (some ⟨b,o,none⟩) g.nodes.length c)) (by kernel_rfl) (hbx.cell rfl) (fun hHeld=>?_);refine tk0 [0,1,2,3,4,5,7,8,9,11,12,13] ?_;iterate 12 (refine tk (v:=?_) rfl (by kernel_rfl) (by kernel_rfl) (by kernel_rfl) (fun _ _ _ h=>h) (Or.inl ⟨by rfl,?_⟩) hHeld ?_;rotate_left;(focus intro wx hSx;(try dsimp only at hSx);go_split_ands;go_simp;try with_reducible rfl);try simp only[Act.put,lq1,lq2,lq3,lq4,lq5,lq6])
    refine tk1 ?_;obtain⟨w0,hw0⟩:∃ W,W=wr.drew:=⟨_,rfl⟩;have hbx0:Row w0 _ _ _:=hw0▸hbx.drew;have hwk0:Row w0 _ _ _:=hw0▸hwk.drew;have hB0:Below w.heap.size w w0:=hw0▸hbel.drew;rw[← hw0] at hHeld ⊢;clear hw0 hbx hwk hbel hwl hbl;refine wpAnyH_ready (rs:=[6,10,14]) (by decide +kernel) (by simp) ?_;refine(AllReadyH.cons (o:=_) rfl (fun K hK=>?_) (AllReadyH.cons (o:=_) rfl (fun K hK=>?_) (AllReadyH.cons (o:=_) rfl (fun K hK=>?_) AllReadyH.nil)))
    ·refine ifT rfl ?_;refine bg _ _ _ 57 rfl 3 (.int .i64 0) 8 Tryz.underlying57 Tryz.infoInt rfl g.nodes.length rfl rfl (by omega) (by omega) ?_;intro w1 hb hz y8;have g6:w.heap.size+1 < w0.heap.size:=hwk0.lt;have dw:=hbx0.below hb hbx0.lt;have jZ:=hwk0.below hb hwk0.lt;have hB1:Below w.heap.size w w1:=hB0.trans (hb.mono hB0.size);clear hb hz;refine hK.out _ _ (dw.cell rfl) (fun hHeld=>?_);clear hK K;try simp only[Act.put,lq1,lq2,lq3,lq4,lq5,lq6]
     refine tk0 [15,16] ?_;iterate 2 (refine tk (v:=?_) rfl (by kernel_rfl) (by kernel_rfl) (by kernel_rfl) (fun _ _ _ h=>h) (Or.inl ⟨by rfl,?_⟩) hHeld ?_;rotate_left;(focus intro wx hSx;(try dsimp only at hSx);go_split_ands;go_simp;try with_reducible rfl);try simp only[Act.put,lq1,lq2,lq3,lq4,lq5,lq6])
     refine tk1 ?_;refine wpAnyH_ready (rs:=[10,14,17]) (by decide +kernel) (by simp) ?_;refine(AllReadyH.cons (o:=_) rfl (fun K hK=>?_) (AllReadyH.cons (o:=_) rfl (fun K hK=>?_) (AllReadyH.cons (o:=_) rfl (fun K hK=>?_) AllReadyH.nil)))
     ·refine ifT rfl ?_;refine bg _ _ _ 57 rfl 3 (.int .i64 0) 8 Tryz.underlying57 Tryz.infoInt rfl g.nodes.length rfl rfl (by omega) (by omega) ?_;intro w2 hb hz jl;have g10:w.heap.size+1 < w1.heap.size:=jZ.lt;have aaL:=y8.lt;have iI:=y8.below hb y8.lt;have hbx2:=dw.below hb dw.lt;have gV:=jZ.below hb jZ.lt;have hB2:Below w.heap.size w w2:=hB1.trans (hb.mono hB1.size);clear hb hz;refine hK.out _ _ (hbx2.cell rfl) (fun hHeld=>?_);clear hK K;try simp only[Act.put,lq1,lq2,lq3,lq4,lq5,lq6]
      refine wpAnyH_ready (rs:=[14,17]) (by decide +kernel) (by simp) ?_;refine(AllReadyH.cons (o:=_) rfl (fun K hK=>?_) (AllReadyH.cons (o:=_) rfl (fun K hK=>?_) AllReadyH.nil))
      ·refine ifT rfl ?_;refine bg _ _ _ 57 rfl 3 (.int .i64 0) 8 Tryz.underlying57 Tryz.infoInt rfl g.nodes.length rfl rfl (by omega) (by omega) ?_;intro w3 hb hz gy;have g14:w.heap.size+1 < w2.heap.size:=gV.lt;have uX:=iI.lt;have eP:=iI.below hb iI.lt;have qO:=jl.lt;have fF:=jl.below hb jl.lt;have dL:=hbx2.below hb hbx2.lt;have eY:=gV.below hb gV.lt;have hB3:Below w.heap.size w w3:=hB2.trans (hb.mono hB2.size);clear hb hz;refine hK.out _ _ (dL.cell rfl) (fun hHeld=>?_);clear hK K;try simp only[Act.put,lq1,lq2,lq3,lq4,lq5,lq6]
       refine wpAnyH_ready (rs:=[17]) (by decide +kernel) (by simp) ?_;refine(AllReadyH.cons (o:=_) rfl (fun K hK=>?_) AllReadyH.nil)
       ·have yy:=eY.cell (i:=3) rfl;have ff:=eY.frozen 3;go_simp;obtain⟨w4,hw⟩:∃ W,W=w3.setCell ⟨w.heap.size+1,3,none⟩ (.slice (some ⟨w0.heap.size,0,none⟩) g.nodes.length g.nodes.length):=⟨_,rfl⟩;rw[← hw];have fK:=sto hw dL (by simp);have dV:=ste hw eY;have fG:=sto hw eP (by simp; omega);have dJ:=sto hw fF (by simp; omega);have gB:=sto hw gy (by simp; omega);have hB4:=stb hw hB3 (by simp);clear hw yy ff;refine hK.out _ _ (fK.cell rfl) (fun hHeld=>?_);clear hK K;try simp only[Act.put,lq1,lq2,lq3,lq4,lq5,lq6]
        refine tk0 [18,19] ?_;iterate 2 (refine tk (v:=?_) rfl (by kernel_rfl) (by kernel_rfl) (by kernel_rfl) (fun _ _ _ h=>h) (Or.inl ⟨by rfl,?_⟩) hHeld ?_;rotate_left;(focus intro wx hSx;(try dsimp only at hSx);go_split_ands;go_simp;try with_reducible rfl);try simp only[Act.put,lq1,lq2,lq3,lq4,lq5,lq6])
        refine tk1 ?_;refine wpAnyH_ready (rs:=[20]) (by decide +kernel) (by simp) ?_;refine(AllReadyH.cons (o:=_) rfl (fun K hK=>?_) AllReadyH.nil)
        ·have yy:=dV.cell (i:=4) rfl;have ff:=dV.frozen 4;go_simp;obtain⟨w5,hw⟩:∃ W,W=w4.setCell ⟨w.heap.size+1,4,none⟩ (.slice (some ⟨w1.heap.size,0,none⟩) g.nodes.length g.nodes.length):=⟨_,rfl⟩;rw[← hw];have gW:=sto hw fK (by simp);have dW:=ste hw dV;have gX:=sto hw fG (by simp; omega);have dX:=sto hw dJ (by simp; omega);have dY:=sto hw gB (by simp; omega);have hB5:=stb hw hB4 (by simp);clear hw yy ff;refine hK.out _ _ (gW.cell rfl) (fun hHeld=>?_);clear hK K;try simp only[Act.put,lq1,lq2,lq3,lq4,lq5,lq6]
         refine tk0 [21,22] ?_;iterate 2 (refine tk (v:=?_) rfl (by kernel_rfl) (by kernel_rfl) (by kernel_rfl) (fun _ _ _ h=>h) (Or.inl ⟨by rfl,?_⟩) hHeld ?_;rotate_left;(focus intro wx hSx;(try dsimp only at hSx);go_split_ands;go_simp;try with_reducible rfl);try simp only[Act.put,lq1,lq2,lq3,lq4,lq5,lq6])
         refine tk1 ?_;refine wpAnyH_ready (rs:=[23]) (by decide +kernel) (by simp) ?_;refine(AllReadyH.cons (o:=_) rfl (fun K hK=>?_) AllReadyH.nil)
         ·have yy:=dW.cell (i:=5) rfl;have ff:=dW.frozen 5;go_simp;obtain⟨w6,hw⟩:∃ W,W=w5.setCell ⟨w.heap.size+1,5,none⟩ (.slice (some ⟨w2.heap.size,0,none⟩) g.nodes.length g.nodes.length):=⟨_,rfl⟩;rw[← hw];have gY:=sto hw gW (by simp);have kL:=ste hw dW;have gZ:=sto hw gX (by simp; omega);have dZ:=sto hw dX (by simp; omega);have eF:=sto hw dY (by simp; omega);have hB6:=stb hw hB5 (by simp);clear hw yy ff;refine hK.out _ _ (gY.cell rfl) (fun hHeld=>?_);clear hK K;try simp only[Act.put,lq1,lq2,lq3,lq4,lq5,lq6]
          refine wpAnyH_done (by kernel_rfl) ?_ _;clear hHeld;go_wp2_with fail
          go_meet
          exact⟨w0.heap.size,w1.heap.size,w2.heap.size,⟨kL,by simpa [aY] using gZ,by simpa [aY] using dZ,by simpa [aY] using eF⟩,gY,hB6,g6,g10,g14,by omega,by omega,by omega⟩
      ·have yy:=gV.cell (i:=3) rfl;have ff:=gV.frozen 3;go_simp;obtain⟨w3,hw⟩:∃ W,W=w2.setCell ⟨w.heap.size+1,3,none⟩ (.slice (some ⟨w0.heap.size,0,none⟩) g.nodes.length g.nodes.length):=⟨_,rfl⟩;rw[← hw];have dL:=sto hw hbx2 (by simp);have eY:=ste hw gV;have eP:=sto hw iI (by simp; omega);have fF:=sto hw jl (by simp; omega);have hB3:=stb hw hB2 (by simp);clear hw yy ff;refine hK.out _ _ (dL.cell rfl) (fun hHeld=>?_);clear hK K;try simp only[Act.put,lq1,lq2,lq3,lq4,lq5,lq6]
       refine tk0 [18,19] ?_;iterate 2 (refine tk (v:=?_) rfl (by kernel_rfl) (by kernel_rfl) (by kernel_rfl) (fun _ _ _ h=>h) (Or.inl ⟨by rfl,?_⟩) hHeld ?_;rotate_left;(focus intro wx hSx;(try dsimp only at hSx);go_split_ands;go_simp;try with_reducible rfl);try simp only[Act.put,lq1,lq2,lq3,lq4,lq5,lq6])
       refine tk1 ?_;refine wpAnyH_ready (rs:=[14,20]) (by decide +kernel) (by simp) ?_;refine(AllReadyH.cons (o:=_) rfl (fun K hK=>?_) (AllReadyH.cons (o:=_) rfl (fun K hK=>?_) AllReadyH.nil))
       ·refine ifT rfl ?_;refine bg _ _ _ 57 rfl 3 (.int .i64 0) 8 Tryz.underlying57 Tryz.infoInt rfl g.nodes.length rfl rfl (by omega) (by omega) ?_;intro w4 hb hz gB;have g14:w.heap.size+1 < w3.heap.size:=eY.lt;have uX:=eP.lt;have fG:=eP.below hb eP.lt;have qO:=fF.lt;have dJ:=fF.below hb fF.lt;have fK:=dL.below hb dL.lt;have dV:=eY.below hb eY.lt;have hB4:Below w.heap.size w w4:=hB3.trans (hb.mono hB3.size);clear hb hz;refine hK.out _ _ (fK.cell rfl) (fun hHeld=>?_);clear hK K;try simp only[Act.put,lq1,lq2,lq3,lq4,lq5,lq6]
        refine wpAnyH_ready (rs:=[20]) (by decide +kernel) (by simp) ?_;refine(AllReadyH.cons (o:=_) rfl (fun K hK=>?_) AllReadyH.nil)
        ·have yy:=dV.cell (i:=4) rfl;have ff:=dV.frozen 4;go_simp;obtain⟨w5,hw⟩:∃ W,W=w4.setCell ⟨w.heap.size+1,4,none⟩ (.slice (some ⟨w1.heap.size,0,none⟩) g.nodes.length g.nodes.length):=⟨_,rfl⟩;rw[← hw];have gW:=sto hw fK (by simp);have dW:=ste hw dV;have gX:=sto hw fG (by simp; omega);have dX:=sto hw dJ (by simp; omega);have dY:=sto hw gB (by simp; omega);have hB5:=stb hw hB4 (by simp);clear hw yy ff;refine hK.out _ _ (gW.cell rfl) (fun hHeld=>?_);clear hK K;try simp only[Act.put,lq1,lq2,lq3,lq4,lq5,lq6]
         refine tk0 [21,22] ?_;iterate 2 (refine tk (v:=?_) rfl (by kernel_rfl) (by kernel_rfl) (by kernel_rfl) (fun _ _ _ h=>h) (Or.inl ⟨by rfl,?_⟩) hHeld ?_;rotate_left;(focus intro wx hSx;(try dsimp only at hSx);go_split_ands;go_simp;try with_reducible rfl);try simp only[Act.put,lq1,lq2,lq3,lq4,lq5,lq6])
         refine tk1 ?_;refine wpAnyH_ready (rs:=[23]) (by decide +kernel) (by simp) ?_;refine(AllReadyH.cons (o:=_) rfl (fun K hK=>?_) AllReadyH.nil)
         ·have yy:=dW.cell (i:=5) rfl;have ff:=dW.frozen 5;go_simp;obtain⟨w6,hw⟩:∃ W,W=w5.setCell ⟨w.heap.size+1,5,none⟩ (.slice (some ⟨w3.heap.size,0,none⟩) g.nodes.length g.nodes.length):=⟨_,rfl⟩;rw[← hw];have gY:=sto hw gW (by simp);have kL:=ste hw dW;have gZ:=sto hw gX (by simp; omega);have dZ:=sto hw dX (by simp; omega);have eF:=sto hw dY (by simp; omega);have hB6:=stb hw hB5 (by simp);clear hw yy ff;refine hK.out _ _ (gY.cell rfl) (fun hHeld=>?_);clear hK K;try simp only[Act.put,lq1,lq2,lq3,lq4,lq5,lq6]
          refine wpAnyH_done (by kernel_rfl) ?_ _;clear hHeld;go_wp2_with fail
          go_meet
          exact⟨w0.heap.size,w1.heap.size,w3.heap.size,⟨kL,by simpa [aY] using gZ,by simpa [aY] using dZ,by simpa [aY] using eF⟩,gY,hB6,g6,g10,g14,by omega,by omega,by omega⟩
       ·have yy:=eY.cell (i:=4) rfl;have ff:=eY.frozen 4;go_simp;obtain⟨w4,hw⟩:∃ W,W=w3.setCell ⟨w.heap.size+1,4,none⟩ (.slice (some ⟨w1.heap.size,0,none⟩) g.nodes.length g.nodes.length):=⟨_,rfl⟩;rw[← hw];have fK:=sto hw dL (by simp);have dV:=ste hw eY;have fG:=sto hw eP (by simp; omega);have dJ:=sto hw fF (by simp; omega);have hB4:=stb hw hB3 (by simp);clear hw yy ff;refine hK.out _ _ (fK.cell rfl) (fun hHeld=>?_);clear hK K;try simp only[Act.put,lq1,lq2,lq3,lq4,lq5,lq6]
        refine wpAnyH_ready (rs:=[14]) (by decide +kernel) (by simp) ?_;refine(AllReadyH.cons (o:=_) rfl (fun K hK=>?_) AllReadyH.nil)
        ·refine ifT rfl ?_;refine bg _ _ _ 57 rfl 3 (.int .i64 0) 8 Tryz.underlying57 Tryz.infoInt rfl g.nodes.length rfl rfl (by omega) (by omega) ?_;intro w5 hb hz dY;have g14:w.heap.size+1 < w4.heap.size:=dV.lt;have uX:=fG.lt;have gX:=fG.below hb fG.lt;have qO:=dJ.lt;have dX:=dJ.below hb dJ.lt;have gW:=fK.below hb fK.lt;have dW:=dV.below hb dV.lt;have hB5:Below w.heap.size w w5:=hB4.trans (hb.mono hB4.size);clear hb hz;refine hK.out _ _ (gW.cell rfl) (fun hHeld=>?_);clear hK K;try simp only[Act.put,lq1,lq2,lq3,lq4,lq5,lq6]
         refine tk0 [21,22] ?_;iterate 2 (refine tk (v:=?_) rfl (by kernel_rfl) (by kernel_rfl) (by kernel_rfl) (fun _ _ _ h=>h) (Or.inl ⟨by rfl,?_⟩) hHeld ?_;rotate_left;(focus intro wx hSx;(try dsimp only at hSx);go_split_ands;go_simp;try with_reducible rfl);try simp only[Act.put,lq1,lq2,lq3,lq4,lq5,lq6])
         refine tk1 ?_;refine wpAnyH_ready (rs:=[23]) (by decide +kernel) (by simp) ?_;refine(AllReadyH.cons (o:=_) rfl (fun K hK=>?_) AllReadyH.nil)
         ·have yy:=dW.cell (i:=5) rfl;have ff:=dW.frozen 5;go_simp;obtain⟨w6,hw⟩:∃ W,W=w5.setCell ⟨w.heap.size+1,5,none⟩ (.slice (some ⟨w4.heap.size,0,none⟩) g.nodes.length g.nodes.length):=⟨_,rfl⟩;rw[← hw];have gY:=sto hw gW (by simp);have kL:=ste hw dW;have gZ:=sto hw gX (by simp; omega);have dZ:=sto hw dX (by simp; omega);have eF:=sto hw dY (by simp; omega);have hB6:=stb hw hB5 (by simp);clear hw yy ff;refine hK.out _ _ (gY.cell rfl) (fun hHeld=>?_);clear hK K;try simp only[Act.put,lq1,lq2,lq3,lq4,lq5,lq6]
          refine wpAnyH_done (by kernel_rfl) ?_ _;clear hHeld;go_wp2_with fail
          go_meet
          exact⟨w0.heap.size,w1.heap.size,w4.heap.size,⟨kL,by simpa [aY] using gZ,by simpa [aY] using dZ,by simpa [aY] using eF⟩,gY,hB6,g6,g10,g14,by omega,by omega,by omega⟩
     ·refine ifT rfl ?_;refine bg _ _ _ 57 rfl 3 (.int .i64 0) 8 Tryz.underlying57 Tryz.infoInt rfl g.nodes.length rfl rfl (by omega) (by omega) ?_;intro w2 hb hz jm;have g14:w.heap.size+1 < w1.heap.size:=jZ.lt;have uX:=y8.lt;have iI:=y8.below hb y8.lt;have hbx2:=dw.below hb dw.lt;have gV:=jZ.below hb jZ.lt;have hB2:Below w.heap.size w w2:=hB1.trans (hb.mono hB1.size);clear hb hz;refine hK.out _ _ (hbx2.cell rfl) (fun hHeld=>?_);clear hK K;try simp only[Act.put,lq1,lq2,lq3,lq4,lq5,lq6]
      refine wpAnyH_ready (rs:=[10,17]) (by decide +kernel) (by simp) ?_;refine(AllReadyH.cons (o:=_) rfl (fun K hK=>?_) (AllReadyH.cons (o:=_) rfl (fun K hK=>?_) AllReadyH.nil))
      ·refine ifT rfl ?_;refine bg _ _ _ 57 rfl 3 (.int .i64 0) 8 Tryz.underlying57 Tryz.infoInt rfl g.nodes.length rfl rfl (by omega) (by omega) ?_;intro w3 hb hz fF;have g10:w.heap.size+1 < w2.heap.size:=gV.lt;have aaL:=iI.lt;have eP:=iI.below hb iI.lt;have y9:=jm.lt;have gy:=jm.below hb jm.lt;have dL:=hbx2.below hb hbx2.lt;have eY:=gV.below hb gV.lt;have hB3:Below w.heap.size w w3:=hB2.trans (hb.mono hB2.size);clear hb hz;refine hK.out _ _ (dL.cell rfl) (fun hHeld=>?_);clear hK K;try simp only[Act.put,lq1,lq2,lq3,lq4,lq5,lq6]
       refine wpAnyH_ready (rs:=[17]) (by decide +kernel) (by simp) ?_;refine(AllReadyH.cons (o:=_) rfl (fun K hK=>?_) AllReadyH.nil)
       ·have yy:=eY.cell (i:=3) rfl;have ff:=eY.frozen 3;go_simp;obtain⟨w4,hw⟩:∃ W,W=w3.setCell ⟨w.heap.size+1,3,none⟩ (.slice (some ⟨w0.heap.size,0,none⟩) g.nodes.length g.nodes.length):=⟨_,rfl⟩;rw[← hw];have fK:=sto hw dL (by simp);have dV:=ste hw eY;have fG:=sto hw eP (by simp; omega);have dJ:=sto hw fF (by simp; omega);have gB:=sto hw gy (by simp; omega);have hB4:=stb hw hB3 (by simp);clear hw yy ff;refine hK.out _ _ (fK.cell rfl) (fun hHeld=>?_);clear hK K;try simp only[Act.put,lq1,lq2,lq3,lq4,lq5,lq6]
        refine tk0 [18,19] ?_;iterate 2 (refine tk (v:=?_) rfl (by kernel_rfl) (by kernel_rfl) (by kernel_rfl) (fun _ _ _ h=>h) (Or.inl ⟨by rfl,?_⟩) hHeld ?_;rotate_left;(focus intro wx hSx;(try dsimp only at hSx);go_split_ands;go_simp;try with_reducible rfl);try simp only[Act.put,lq1,lq2,lq3,lq4,lq5,lq6])
        refine tk1 ?_;refine wpAnyH_ready (rs:=[20]) (by decide +kernel) (by simp) ?_;refine(AllReadyH.cons (o:=_) rfl (fun K hK=>?_) AllReadyH.nil)
        ·have yy:=dV.cell (i:=4) rfl;have ff:=dV.frozen 4;go_simp;obtain⟨w5,hw⟩:∃ W,W=w4.setCell ⟨w.heap.size+1,4,none⟩ (.slice (some ⟨w2.heap.size,0,none⟩) g.nodes.length g.nodes.length):=⟨_,rfl⟩;rw[← hw];have gW:=sto hw fK (by simp);have dW:=ste hw dV;have gX:=sto hw fG (by simp; omega);have dX:=sto hw dJ (by simp; omega);have dY:=sto hw gB (by simp; omega);have hB5:=stb hw hB4 (by simp);clear hw yy ff;refine hK.out _ _ (gW.cell rfl) (fun hHeld=>?_);clear hK K;try simp only[Act.put,lq1,lq2,lq3,lq4,lq5,lq6]
         refine tk0 [21,22] ?_;iterate 2 (refine tk (v:=?_) rfl (by kernel_rfl) (by kernel_rfl) (by kernel_rfl) (fun _ _ _ h=>h) (Or.inl ⟨by rfl,?_⟩) hHeld ?_;rotate_left;(focus intro wx hSx;(try dsimp only at hSx);go_split_ands;go_simp;try with_reducible rfl);try simp only[Act.put,lq1,lq2,lq3,lq4,lq5,lq6])
         refine tk1 ?_;refine wpAnyH_ready (rs:=[23]) (by decide +kernel) (by simp) ?_;refine(AllReadyH.cons (o:=_) rfl (fun K hK=>?_) AllReadyH.nil)
         ·have yy:=dW.cell (i:=5) rfl;have ff:=dW.frozen 5;go_simp;obtain⟨w6,hw⟩:∃ W,W=w5.setCell ⟨w.heap.size+1,5,none⟩ (.slice (some ⟨w1.heap.size,0,none⟩) g.nodes.length g.nodes.length):=⟨_,rfl⟩;rw[← hw];have gY:=sto hw gW (by simp);have kL:=ste hw dW;have gZ:=sto hw gX (by simp; omega);have dZ:=sto hw dX (by simp; omega);have eF:=sto hw dY (by simp; omega);have hB6:=stb hw hB5 (by simp);clear hw yy ff;refine hK.out _ _ (gY.cell rfl) (fun hHeld=>?_);clear hK K;try simp only[Act.put,lq1,lq2,lq3,lq4,lq5,lq6]
          refine wpAnyH_done (by kernel_rfl) ?_ _;clear hHeld;go_wp2_with fail
          go_meet
          exact⟨w0.heap.size,w2.heap.size,w1.heap.size,⟨kL,by simpa [aY] using gZ,by simpa [aY] using dZ,by simpa [aY] using eF⟩,gY,hB6,g6,g10,g14,by omega,by omega,by omega⟩
      ·have yy:=gV.cell (i:=3) rfl;have ff:=gV.frozen 3;go_simp;obtain⟨w3,hw⟩:∃ W,W=w2.setCell ⟨w.heap.size+1,3,none⟩ (.slice (some ⟨w0.heap.size,0,none⟩) g.nodes.length g.nodes.length):=⟨_,rfl⟩;rw[← hw];have dL:=sto hw hbx2 (by simp);have eY:=ste hw gV;have eP:=sto hw iI (by simp; omega);have gy:=sto hw jm (by simp; omega);have hB3:=stb hw hB2 (by simp);clear hw yy ff;refine hK.out _ _ (dL.cell rfl) (fun hHeld=>?_);clear hK K;try simp only[Act.put,lq1,lq2,lq3,lq4,lq5,lq6]
       refine wpAnyH_ready (rs:=[10]) (by decide +kernel) (by simp) ?_;refine(AllReadyH.cons (o:=_) rfl (fun K hK=>?_) AllReadyH.nil)
       ·refine ifT rfl ?_;refine bg _ _ _ 57 rfl 3 (.int .i64 0) 8 Tryz.underlying57 Tryz.infoInt rfl g.nodes.length rfl rfl (by omega) (by omega) ?_;intro w4 hb hz dJ;have g10:w.heap.size+1 < w3.heap.size:=eY.lt;have aaL:=eP.lt;have fG:=eP.below hb eP.lt;have y9:=gy.lt;have gB:=gy.below hb gy.lt;have fK:=dL.below hb dL.lt;have dV:=eY.below hb eY.lt;have hB4:Below w.heap.size w w4:=hB3.trans (hb.mono hB3.size);clear hb hz;refine hK.out _ _ (fK.cell rfl) (fun hHeld=>?_);clear hK K;try simp only[Act.put,lq1,lq2,lq3,lq4,lq5,lq6]
        refine tk0 [18,19] ?_;iterate 2 (refine tk (v:=?_) rfl (by kernel_rfl) (by kernel_rfl) (by kernel_rfl) (fun _ _ _ h=>h) (Or.inl ⟨by rfl,?_⟩) hHeld ?_;rotate_left;(focus intro wx hSx;(try dsimp only at hSx);go_split_ands;go_simp;try with_reducible rfl);try simp only[Act.put,lq1,lq2,lq3,lq4,lq5,lq6])
        refine tk1 ?_;refine wpAnyH_ready (rs:=[20]) (by decide +kernel) (by simp) ?_;refine(AllReadyH.cons (o:=_) rfl (fun K hK=>?_) AllReadyH.nil)
        ·have yy:=dV.cell (i:=4) rfl;have ff:=dV.frozen 4;go_simp;obtain⟨w5,hw⟩:∃ W,W=w4.setCell ⟨w.heap.size+1,4,none⟩ (.slice (some ⟨w3.heap.size,0,none⟩) g.nodes.length g.nodes.length):=⟨_,rfl⟩;rw[← hw];have gW:=sto hw fK (by simp);have dW:=ste hw dV;have gX:=sto hw fG (by simp; omega);have dX:=sto hw dJ (by simp; omega);have dY:=sto hw gB (by simp; omega);have hB5:=stb hw hB4 (by simp);clear hw yy ff;refine hK.out _ _ (gW.cell rfl) (fun hHeld=>?_);clear hK K;try simp only[Act.put,lq1,lq2,lq3,lq4,lq5,lq6]
         refine tk0 [21,22] ?_;iterate 2 (refine tk (v:=?_) rfl (by kernel_rfl) (by kernel_rfl) (by kernel_rfl) (fun _ _ _ h=>h) (Or.inl ⟨by rfl,?_⟩) hHeld ?_;rotate_left;(focus intro wx hSx;(try dsimp only at hSx);go_split_ands;go_simp;try with_reducible rfl);try simp only[Act.put,lq1,lq2,lq3,lq4,lq5,lq6])
         refine tk1 ?_;refine wpAnyH_ready (rs:=[23]) (by decide +kernel) (by simp) ?_;refine(AllReadyH.cons (o:=_) rfl (fun K hK=>?_) AllReadyH.nil)
         ·have yy:=dW.cell (i:=5) rfl;have ff:=dW.frozen 5;go_simp;obtain⟨w6,hw⟩:∃ W,W=w5.setCell ⟨w.heap.size+1,5,none⟩ (.slice (some ⟨w1.heap.size,0,none⟩) g.nodes.length g.nodes.length):=⟨_,rfl⟩;rw[← hw];have gY:=sto hw gW (by simp);have kL:=ste hw dW;have gZ:=sto hw gX (by simp; omega);have dZ:=sto hw dX (by simp; omega);have eF:=sto hw dY (by simp; omega);have hB6:=stb hw hB5 (by simp);clear hw yy ff;refine hK.out _ _ (gY.cell rfl) (fun hHeld=>?_);clear hK K;try simp only[Act.put,lq1,lq2,lq3,lq4,lq5,lq6]
          refine wpAnyH_done (by kernel_rfl) ?_ _;clear hHeld;go_wp2_with fail
          go_meet
          exact⟨w0.heap.size,w3.heap.size,w1.heap.size,⟨kL,by simpa [aY] using gZ,by simpa [aY] using dZ,by simpa [aY] using eF⟩,gY,hB6,g6,g10,g14,by omega,by omega,by omega⟩
     ·have yy:=jZ.cell (i:=3) rfl;have ff:=jZ.frozen 3;go_simp;obtain⟨w2,hw⟩:∃ W,W=w1.setCell ⟨w.heap.size+1,3,none⟩ (.slice (some ⟨w0.heap.size,0,none⟩) g.nodes.length g.nodes.length):=⟨_,rfl⟩;rw[← hw];have hbx2:=sto hw dw (by simp);have gV:=ste hw jZ;have iI:=sto hw y8 (by simp; omega);have hB2:=stb hw hB1 (by simp);clear hw yy ff;refine hK.out _ _ (hbx2.cell rfl) (fun hHeld=>?_);clear hK K;try simp only[Act.put,lq1,lq2,lq3,lq4,lq5,lq6]
      refine wpAnyH_ready (rs:=[10,14]) (by decide +kernel) (by simp) ?_;refine(AllReadyH.cons (o:=_) rfl (fun K hK=>?_) (AllReadyH.cons (o:=_) rfl (fun K hK=>?_) AllReadyH.nil))
      ·refine ifT rfl ?_;refine bg _ _ _ 57 rfl 3 (.int .i64 0) 8 Tryz.underlying57 Tryz.infoInt rfl g.nodes.length rfl rfl (by omega) (by omega) ?_;intro w3 hb hz fF;have g10:w.heap.size+1 < w2.heap.size:=gV.lt;have aaL:=iI.lt;have eP:=iI.below hb iI.lt;have dL:=hbx2.below hb hbx2.lt;have eY:=gV.below hb gV.lt;have hB3:Below w.heap.size w w3:=hB2.trans (hb.mono hB2.size);clear hb hz;refine hK.out _ _ (dL.cell rfl) (fun hHeld=>?_);clear hK K;try simp only[Act.put,lq1,lq2,lq3,lq4,lq5,lq6]
       refine tk0 [18,19] ?_;iterate 2 (refine tk (v:=?_) rfl (by kernel_rfl) (by kernel_rfl) (by kernel_rfl) (fun _ _ _ h=>h) (Or.inl ⟨by rfl,?_⟩) hHeld ?_;rotate_left;(focus intro wx hSx;(try dsimp only at hSx);go_split_ands;go_simp;try with_reducible rfl);try simp only[Act.put,lq1,lq2,lq3,lq4,lq5,lq6])
       refine tk1 ?_;refine wpAnyH_ready (rs:=[14,20]) (by decide +kernel) (by simp) ?_;refine(AllReadyH.cons (o:=_) rfl (fun K hK=>?_) (AllReadyH.cons (o:=_) rfl (fun K hK=>?_) AllReadyH.nil))
       ·refine ifT rfl ?_;refine bg _ _ _ 57 rfl 3 (.int .i64 0) 8 Tryz.underlying57 Tryz.infoInt rfl g.nodes.length rfl rfl (by omega) (by omega) ?_;intro w4 hb hz gB;have g14:w.heap.size+1 < w3.heap.size:=eY.lt;have uX:=eP.lt;have fG:=eP.below hb eP.lt;have qO:=fF.lt;have dJ:=fF.below hb fF.lt;have fK:=dL.below hb dL.lt;have dV:=eY.below hb eY.lt;have hB4:Below w.heap.size w w4:=hB3.trans (hb.mono hB3.size);clear hb hz;refine hK.out _ _ (fK.cell rfl) (fun hHeld=>?_);clear hK K;try simp only[Act.put,lq1,lq2,lq3,lq4,lq5,lq6]
        refine wpAnyH_ready (rs:=[20]) (by decide +kernel) (by simp) ?_;refine(AllReadyH.cons (o:=_) rfl (fun K hK=>?_) AllReadyH.nil)
        ·have yy:=dV.cell (i:=4) rfl;have ff:=dV.frozen 4;go_simp;obtain⟨w5,hw⟩:∃ W,W=w4.setCell ⟨w.heap.size+1,4,none⟩ (.slice (some ⟨w2.heap.size,0,none⟩) g.nodes.length g.nodes.length):=⟨_,rfl⟩;rw[← hw];have gW:=sto hw fK (by simp);have dW:=ste hw dV;have gX:=sto hw fG (by simp; omega);have dX:=sto hw dJ (by simp; omega);have dY:=sto hw gB (by simp; omega);have hB5:=stb hw hB4 (by simp);clear hw yy ff;refine hK.out _ _ (gW.cell rfl) (fun hHeld=>?_);clear hK K;try simp only[Act.put,lq1,lq2,lq3,lq4,lq5,lq6]
         refine tk0 [21,22] ?_;iterate 2 (refine tk (v:=?_) rfl (by kernel_rfl) (by kernel_rfl) (by kernel_rfl) (fun _ _ _ h=>h) (Or.inl ⟨by rfl,?_⟩) hHeld ?_;rotate_left;(focus intro wx hSx;(try dsimp only at hSx);go_split_ands;go_simp;try with_reducible rfl);try simp only[Act.put,lq1,lq2,lq3,lq4,lq5,lq6])
         refine tk1 ?_;refine wpAnyH_ready (rs:=[23]) (by decide +kernel) (by simp) ?_;refine(AllReadyH.cons (o:=_) rfl (fun K hK=>?_) AllReadyH.nil)
         ·have yy:=dW.cell (i:=5) rfl;have ff:=dW.frozen 5;go_simp;obtain⟨w6,hw⟩:∃ W,W=w5.setCell ⟨w.heap.size+1,5,none⟩ (.slice (some ⟨w3.heap.size,0,none⟩) g.nodes.length g.nodes.length):=⟨_,rfl⟩;rw[← hw];have gY:=sto hw gW (by simp);have kL:=ste hw dW;have gZ:=sto hw gX (by simp; omega);have dZ:=sto hw dX (by simp; omega);have eF:=sto hw dY (by simp; omega);have hB6:=stb hw hB5 (by simp);clear hw yy ff;refine hK.out _ _ (gY.cell rfl) (fun hHeld=>?_);clear hK K;try simp only[Act.put,lq1,lq2,lq3,lq4,lq5,lq6]
          refine wpAnyH_done (by kernel_rfl) ?_ _;clear hHeld;go_wp2_with fail
          go_meet
          exact⟨w0.heap.size,w2.heap.size,w3.heap.size,⟨kL,by simpa [aY] using gZ,by simpa [aY] using dZ,by simpa [aY] using eF⟩,gY,hB6,g6,g10,g14,by omega,by omega,by omega⟩
       ·have yy:=eY.cell (i:=4) rfl;have ff:=eY.frozen 4;go_simp;obtain⟨w4,hw⟩:∃ W,W=w3.setCell ⟨w.heap.size+1,4,none⟩ (.slice (some ⟨w2.heap.size,0,none⟩) g.nodes.length g.nodes.length):=⟨_,rfl⟩;rw[← hw];have fK:=sto hw dL (by simp);have dV:=ste hw eY;have fG:=sto hw eP (by simp; omega);have dJ:=sto hw fF (by simp; omega);have hB4:=stb hw hB3 (by simp);clear hw yy ff;refine hK.out _ _ (fK.cell rfl) (fun hHeld=>?_);clear hK K;try simp only[Act.put,lq1,lq2,lq3,lq4,lq5,lq6]
        refine wpAnyH_ready (rs:=[14]) (by decide +kernel) (by simp) ?_;refine(AllReadyH.cons (o:=_) rfl (fun K hK=>?_) AllReadyH.nil)
        ·refine ifT rfl ?_;refine bg _ _ _ 57 rfl 3 (.int .i64 0) 8 Tryz.underlying57 Tryz.infoInt rfl g.nodes.length rfl rfl (by omega) (by omega) ?_;intro w5 hb hz dY;have g14:w.heap.size+1 < w4.heap.size:=dV.lt;have uX:=fG.lt;have gX:=fG.below hb fG.lt;have qO:=dJ.lt;have dX:=dJ.below hb dJ.lt;have gW:=fK.below hb fK.lt;have dW:=dV.below hb dV.lt;have hB5:Below w.heap.size w w5:=hB4.trans (hb.mono hB4.size);clear hb hz;refine hK.out _ _ (gW.cell rfl) (fun hHeld=>?_);clear hK K;try simp only[Act.put,lq1,lq2,lq3,lq4,lq5,lq6]
         refine tk0 [21,22] ?_;iterate 2 (refine tk (v:=?_) rfl (by kernel_rfl) (by kernel_rfl) (by kernel_rfl) (fun _ _ _ h=>h) (Or.inl ⟨by rfl,?_⟩) hHeld ?_;rotate_left;(focus intro wx hSx;(try dsimp only at hSx);go_split_ands;go_simp;try with_reducible rfl);try simp only[Act.put,lq1,lq2,lq3,lq4,lq5,lq6])
         refine tk1 ?_;refine wpAnyH_ready (rs:=[23]) (by decide +kernel) (by simp) ?_;refine(AllReadyH.cons (o:=_) rfl (fun K hK=>?_) AllReadyH.nil)
         ·have yy:=dW.cell (i:=5) rfl;have ff:=dW.frozen 5;go_simp;obtain⟨w6,hw⟩:∃ W,W=w5.setCell ⟨w.heap.size+1,5,none⟩ (.slice (some ⟨w4.heap.size,0,none⟩) g.nodes.length g.nodes.length):=⟨_,rfl⟩;rw[← hw];have gY:=sto hw gW (by simp);have kL:=ste hw dW;have gZ:=sto hw gX (by simp; omega);have dZ:=sto hw dX (by simp; omega);have eF:=sto hw dY (by simp; omega);have hB6:=stb hw hB5 (by simp);clear hw yy ff;refine hK.out _ _ (gY.cell rfl) (fun hHeld=>?_);clear hK K;try simp only[Act.put,lq1,lq2,lq3,lq4,lq5,lq6]
          refine wpAnyH_done (by kernel_rfl) ?_ _;clear hHeld;go_wp2_with fail
          go_meet
          exact⟨w0.heap.size,w2.heap.size,w4.heap.size,⟨kL,by simpa [aY] using gZ,by simpa [aY] using dZ,by simpa [aY] using eF⟩,gY,hB6,g6,g10,g14,by omega,by omega,by omega⟩
      ·refine ifT rfl ?_;refine bg _ _ _ 57 rfl 3 (.int .i64 0) 8 Tryz.underlying57 Tryz.infoInt rfl g.nodes.length rfl rfl (by omega) (by omega) ?_;intro w3 hb hz gy;have g14:w.heap.size+1 < w2.heap.size:=gV.lt;have uX:=iI.lt;have eP:=iI.below hb iI.lt;have dL:=hbx2.below hb hbx2.lt;have eY:=gV.below hb gV.lt;have hB3:Below w.heap.size w w3:=hB2.trans (hb.mono hB2.size);clear hb hz;refine hK.out _ _ (dL.cell rfl) (fun hHeld=>?_);clear hK K;try simp only[Act.put,lq1,lq2,lq3,lq4,lq5,lq6]
       refine wpAnyH_ready (rs:=[10]) (by decide +kernel) (by simp) ?_;refine(AllReadyH.cons (o:=_) rfl (fun K hK=>?_) AllReadyH.nil)
       ·refine ifT rfl ?_;refine bg _ _ _ 57 rfl 3 (.int .i64 0) 8 Tryz.underlying57 Tryz.infoInt rfl g.nodes.length rfl rfl (by omega) (by omega) ?_;intro w4 hb hz dJ;have g10:w.heap.size+1 < w3.heap.size:=eY.lt;have aaL:=eP.lt;have fG:=eP.below hb eP.lt;have y9:=gy.lt;have gB:=gy.below hb gy.lt;have fK:=dL.below hb dL.lt;have dV:=eY.below hb eY.lt;have hB4:Below w.heap.size w w4:=hB3.trans (hb.mono hB3.size);clear hb hz;refine hK.out _ _ (fK.cell rfl) (fun hHeld=>?_);clear hK K;try simp only[Act.put,lq1,lq2,lq3,lq4,lq5,lq6]
        refine tk0 [18,19] ?_;iterate 2 (refine tk (v:=?_) rfl (by kernel_rfl) (by kernel_rfl) (by kernel_rfl) (fun _ _ _ h=>h) (Or.inl ⟨by rfl,?_⟩) hHeld ?_;rotate_left;(focus intro wx hSx;(try dsimp only at hSx);go_split_ands;go_simp;try with_reducible rfl);try simp only[Act.put,lq1,lq2,lq3,lq4,lq5,lq6])
        refine tk1 ?_;refine wpAnyH_ready (rs:=[20]) (by decide +kernel) (by simp) ?_;refine(AllReadyH.cons (o:=_) rfl (fun K hK=>?_) AllReadyH.nil)
        ·have yy:=dV.cell (i:=4) rfl;have ff:=dV.frozen 4;go_simp;obtain⟨w5,hw⟩:∃ W,W=w4.setCell ⟨w.heap.size+1,4,none⟩ (.slice (some ⟨w3.heap.size,0,none⟩) g.nodes.length g.nodes.length):=⟨_,rfl⟩;rw[← hw];have gW:=sto hw fK (by simp);have dW:=ste hw dV;have gX:=sto hw fG (by simp; omega);have dX:=sto hw dJ (by simp; omega);have dY:=sto hw gB (by simp; omega);have hB5:=stb hw hB4 (by simp);clear hw yy ff;refine hK.out _ _ (gW.cell rfl) (fun hHeld=>?_);clear hK K;try simp only[Act.put,lq1,lq2,lq3,lq4,lq5,lq6]
         refine tk0 [21,22] ?_;iterate 2 (refine tk (v:=?_) rfl (by kernel_rfl) (by kernel_rfl) (by kernel_rfl) (fun _ _ _ h=>h) (Or.inl ⟨by rfl,?_⟩) hHeld ?_;rotate_left;(focus intro wx hSx;(try dsimp only at hSx);go_split_ands;go_simp;try with_reducible rfl);try simp only[Act.put,lq1,lq2,lq3,lq4,lq5,lq6])
         refine tk1 ?_;refine wpAnyH_ready (rs:=[23]) (by decide +kernel) (by simp) ?_;refine(AllReadyH.cons (o:=_) rfl (fun K hK=>?_) AllReadyH.nil)
         ·have yy:=dW.cell (i:=5) rfl;have ff:=dW.frozen 5;go_simp;obtain⟨w6,hw⟩:∃ W,W=w5.setCell ⟨w.heap.size+1,5,none⟩ (.slice (some ⟨w2.heap.size,0,none⟩) g.nodes.length g.nodes.length):=⟨_,rfl⟩;rw[← hw];have gY:=sto hw gW (by simp);have kL:=ste hw dW;have gZ:=sto hw gX (by simp; omega);have dZ:=sto hw dX (by simp; omega);have eF:=sto hw dY (by simp; omega);have hB6:=stb hw hB5 (by simp);clear hw yy ff;refine hK.out _ _ (gY.cell rfl) (fun hHeld=>?_);clear hK K;try simp only[Act.put,lq1,lq2,lq3,lq4,lq5,lq6]
          refine wpAnyH_done (by kernel_rfl) ?_ _;clear hHeld;go_wp2_with fail
          go_meet
          exact⟨w0.heap.size,w3.heap.size,w2.heap.size,⟨kL,by simpa [aY] using gZ,by simpa [aY] using dZ,by simpa [aY] using eF⟩,gY,hB6,g6,g10,g14,by omega,by omega,by omega⟩
    ·refine ifT rfl ?_;refine bg _ _ _ 57 rfl 3 (.int .i64 0) 8 Tryz.underlying57 Tryz.infoInt rfl g.nodes.length rfl rfl (by omega) (by omega) ?_;intro w1 hb hz wF;have g10:w.heap.size+1 < w0.heap.size:=hwk0.lt;have dw:=hbx0.below hb hbx0.lt;have jZ:=hwk0.below hb hwk0.lt;have hB1:Below w.heap.size w w1:=hB0.trans (hb.mono hB0.size);clear hb hz;refine hK.out _ _ (dw.cell rfl) (fun hHeld=>?_);clear hK K;try simp only[Act.put,lq1,lq2,lq3,lq4,lq5,lq6]
     refine wpAnyH_ready (rs:=[6,14]) (by decide +kernel) (by simp) ?_;refine(AllReadyH.cons (o:=_) rfl (fun K hK=>?_) (AllReadyH.cons (o:=_) rfl (fun K hK=>?_) AllReadyH.nil))
     ·refine ifT rfl ?_;refine bg _ _ _ 57 rfl 3 (.int .i64 0) 8 Tryz.underlying57 Tryz.infoInt rfl g.nodes.length rfl rfl (by omega) (by omega) ?_;intro w2 hb hz iI;have g6:w.heap.size+1 < w1.heap.size:=jZ.lt;have ahX:=wF.lt;have jl:=wF.below hb wF.lt;have hbx2:=dw.below hb dw.lt;have gV:=jZ.below hb jZ.lt;have hB2:Below w.heap.size w w2:=hB1.trans (hb.mono hB1.size);clear hb hz;refine hK.out _ _ (hbx2.cell rfl) (fun hHeld=>?_);clear hK K;try simp only[Act.put,lq1,lq2,lq3,lq4,lq5,lq6]
      refine tk0 [15,16] ?_;iterate 2 (refine tk (v:=?_) rfl (by kernel_rfl) (by kernel_rfl) (by kernel_rfl) (fun _ _ _ h=>h) (Or.inl ⟨by rfl,?_⟩) hHeld ?_;rotate_left;(focus intro wx hSx;(try dsimp only at hSx);go_split_ands;go_simp;try with_reducible rfl);try simp only[Act.put,lq1,lq2,lq3,lq4,lq5,lq6])
      refine tk1 ?_;refine wpAnyH_ready (rs:=[14,17]) (by decide +kernel) (by simp) ?_;refine(AllReadyH.cons (o:=_) rfl (fun K hK=>?_) (AllReadyH.cons (o:=_) rfl (fun K hK=>?_) AllReadyH.nil))
      ·refine ifT rfl ?_;refine bg _ _ _ 57 rfl 3 (.int .i64 0) 8 Tryz.underlying57 Tryz.infoInt rfl g.nodes.length rfl rfl (by omega) (by omega) ?_;intro w3 hb hz gy;have g14:w.heap.size+1 < w2.heap.size:=gV.lt;have uX:=iI.lt;have eP:=iI.below hb iI.lt;have qO:=jl.lt;have fF:=jl.below hb jl.lt;have dL:=hbx2.below hb hbx2.lt;have eY:=gV.below hb gV.lt;have hB3:Below w.heap.size w w3:=hB2.trans (hb.mono hB2.size);clear hb hz;refine hK.out _ _ (dL.cell rfl) (fun hHeld=>?_);clear hK K;try simp only[Act.put,lq1,lq2,lq3,lq4,lq5,lq6]
       refine wpAnyH_ready (rs:=[17]) (by decide +kernel) (by simp) ?_;refine(AllReadyH.cons (o:=_) rfl (fun K hK=>?_) AllReadyH.nil)
       ·have yy:=eY.cell (i:=3) rfl;have ff:=eY.frozen 3;go_simp;obtain⟨w4,hw⟩:∃ W,W=w3.setCell ⟨w.heap.size+1,3,none⟩ (.slice (some ⟨w1.heap.size,0,none⟩) g.nodes.length g.nodes.length):=⟨_,rfl⟩;rw[← hw];have fK:=sto hw dL (by simp);have dV:=ste hw eY;have fG:=sto hw eP (by simp; omega);have dJ:=sto hw fF (by simp; omega);have gB:=sto hw gy (by simp; omega);have hB4:=stb hw hB3 (by simp);clear hw yy ff;refine hK.out _ _ (fK.cell rfl) (fun hHeld=>?_);clear hK K;try simp only[Act.put,lq1,lq2,lq3,lq4,lq5,lq6]
        refine tk0 [18,19] ?_;iterate 2 (refine tk (v:=?_) rfl (by kernel_rfl) (by kernel_rfl) (by kernel_rfl) (fun _ _ _ h=>h) (Or.inl ⟨by rfl,?_⟩) hHeld ?_;rotate_left;(focus intro wx hSx;(try dsimp only at hSx);go_split_ands;go_simp;try with_reducible rfl);try simp only[Act.put,lq1,lq2,lq3,lq4,lq5,lq6])
        refine tk1 ?_;refine wpAnyH_ready (rs:=[20]) (by decide +kernel) (by simp) ?_;refine(AllReadyH.cons (o:=_) rfl (fun K hK=>?_) AllReadyH.nil)
        ·have yy:=dV.cell (i:=4) rfl;have ff:=dV.frozen 4;go_simp;obtain⟨w5,hw⟩:∃ W,W=w4.setCell ⟨w.heap.size+1,4,none⟩ (.slice (some ⟨w0.heap.size,0,none⟩) g.nodes.length g.nodes.length):=⟨_,rfl⟩;rw[← hw];have gW:=sto hw fK (by simp);have dW:=ste hw dV;have gX:=sto hw fG (by simp; omega);have dX:=sto hw dJ (by simp; omega);have dY:=sto hw gB (by simp; omega);have hB5:=stb hw hB4 (by simp);clear hw yy ff;refine hK.out _ _ (gW.cell rfl) (fun hHeld=>?_);clear hK K;try simp only[Act.put,lq1,lq2,lq3,lq4,lq5,lq6]
         refine tk0 [21,22] ?_;iterate 2 (refine tk (v:=?_) rfl (by kernel_rfl) (by kernel_rfl) (by kernel_rfl) (fun _ _ _ h=>h) (Or.inl ⟨by rfl,?_⟩) hHeld ?_;rotate_left;(focus intro wx hSx;(try dsimp only at hSx);go_split_ands;go_simp;try with_reducible rfl);try simp only[Act.put,lq1,lq2,lq3,lq4,lq5,lq6])
         refine tk1 ?_;refine wpAnyH_ready (rs:=[23]) (by decide +kernel) (by simp) ?_;refine(AllReadyH.cons (o:=_) rfl (fun K hK=>?_) AllReadyH.nil)
         ·have yy:=dW.cell (i:=5) rfl;have ff:=dW.frozen 5;go_simp;obtain⟨w6,hw⟩:∃ W,W=w5.setCell ⟨w.heap.size+1,5,none⟩ (.slice (some ⟨w2.heap.size,0,none⟩) g.nodes.length g.nodes.length):=⟨_,rfl⟩;rw[← hw];have gY:=sto hw gW (by simp);have kL:=ste hw dW;have gZ:=sto hw gX (by simp; omega);have dZ:=sto hw dX (by simp; omega);have eF:=sto hw dY (by simp; omega);have hB6:=stb hw hB5 (by simp);clear hw yy ff;refine hK.out _ _ (gY.cell rfl) (fun hHeld=>?_);clear hK K;try simp only[Act.put,lq1,lq2,lq3,lq4,lq5,lq6]
          refine wpAnyH_done (by kernel_rfl) ?_ _;clear hHeld;go_wp2_with fail
          go_meet
          exact⟨w1.heap.size,w0.heap.size,w2.heap.size,⟨kL,by simpa [aY] using gZ,by simpa [aY] using dZ,by simpa [aY] using eF⟩,gY,hB6,g6,g10,g14,by omega,by omega,by omega⟩
      ·have yy:=gV.cell (i:=3) rfl;have ff:=gV.frozen 3;go_simp;obtain⟨w3,hw⟩:∃ W,W=w2.setCell ⟨w.heap.size+1,3,none⟩ (.slice (some ⟨w1.heap.size,0,none⟩) g.nodes.length g.nodes.length):=⟨_,rfl⟩;rw[← hw];have dL:=sto hw hbx2 (by simp);have eY:=ste hw gV;have eP:=sto hw iI (by simp; omega);have fF:=sto hw jl (by simp; omega);have hB3:=stb hw hB2 (by simp);clear hw yy ff;refine hK.out _ _ (dL.cell rfl) (fun hHeld=>?_);clear hK K;try simp only[Act.put,lq1,lq2,lq3,lq4,lq5,lq6]
       refine tk0 [18,19] ?_;iterate 2 (refine tk (v:=?_) rfl (by kernel_rfl) (by kernel_rfl) (by kernel_rfl) (fun _ _ _ h=>h) (Or.inl ⟨by rfl,?_⟩) hHeld ?_;rotate_left;(focus intro wx hSx;(try dsimp only at hSx);go_split_ands;go_simp;try with_reducible rfl);try simp only[Act.put,lq1,lq2,lq3,lq4,lq5,lq6])
       refine tk1 ?_;refine wpAnyH_ready (rs:=[14,20]) (by decide +kernel) (by simp) ?_;refine(AllReadyH.cons (o:=_) rfl (fun K hK=>?_) (AllReadyH.cons (o:=_) rfl (fun K hK=>?_) AllReadyH.nil))
       ·refine ifT rfl ?_;refine bg _ _ _ 57 rfl 3 (.int .i64 0) 8 Tryz.underlying57 Tryz.infoInt rfl g.nodes.length rfl rfl (by omega) (by omega) ?_;intro w4 hb hz gB;have g14:w.heap.size+1 < w3.heap.size:=eY.lt;have uX:=eP.lt;have fG:=eP.below hb eP.lt;have qO:=fF.lt;have dJ:=fF.below hb fF.lt;have fK:=dL.below hb dL.lt;have dV:=eY.below hb eY.lt;have hB4:Below w.heap.size w w4:=hB3.trans (hb.mono hB3.size);clear hb hz;refine hK.out _ _ (fK.cell rfl) (fun hHeld=>?_);clear hK K;try simp only[Act.put,lq1,lq2,lq3,lq4,lq5,lq6]
        refine wpAnyH_ready (rs:=[20]) (by decide +kernel) (by simp) ?_;refine(AllReadyH.cons (o:=_) rfl (fun K hK=>?_) AllReadyH.nil)
        ·have yy:=dV.cell (i:=4) rfl;have ff:=dV.frozen 4;go_simp;obtain⟨w5,hw⟩:∃ W,W=w4.setCell ⟨w.heap.size+1,4,none⟩ (.slice (some ⟨w0.heap.size,0,none⟩) g.nodes.length g.nodes.length):=⟨_,rfl⟩;rw[← hw];have gW:=sto hw fK (by simp);have dW:=ste hw dV;have gX:=sto hw fG (by simp; omega);have dX:=sto hw dJ (by simp; omega);have dY:=sto hw gB (by simp; omega);have hB5:=stb hw hB4 (by simp);clear hw yy ff;refine hK.out _ _ (gW.cell rfl) (fun hHeld=>?_);clear hK K;try simp only[Act.put,lq1,lq2,lq3,lq4,lq5,lq6]
         refine tk0 [21,22] ?_;iterate 2 (refine tk (v:=?_) rfl (by kernel_rfl) (by kernel_rfl) (by kernel_rfl) (fun _ _ _ h=>h) (Or.inl ⟨by rfl,?_⟩) hHeld ?_;rotate_left;(focus intro wx hSx;(try dsimp only at hSx);go_split_ands;go_simp;try with_reducible rfl);try simp only[Act.put,lq1,lq2,lq3,lq4,lq5,lq6])
         refine tk1 ?_;refine wpAnyH_ready (rs:=[23]) (by decide +kernel) (by simp) ?_;refine(AllReadyH.cons (o:=_) rfl (fun K hK=>?_) AllReadyH.nil)
         ·have yy:=dW.cell (i:=5) rfl;have ff:=dW.frozen 5;go_simp;obtain⟨w6,hw⟩:∃ W,W=w5.setCell ⟨w.heap.size+1,5,none⟩ (.slice (some ⟨w3.heap.size,0,none⟩) g.nodes.length g.nodes.length):=⟨_,rfl⟩;rw[← hw];have gY:=sto hw gW (by simp);have kL:=ste hw dW;have gZ:=sto hw gX (by simp; omega);have dZ:=sto hw dX (by simp; omega);have eF:=sto hw dY (by simp; omega);have hB6:=stb hw hB5 (by simp);clear hw yy ff;refine hK.out _ _ (gY.cell rfl) (fun hHeld=>?_);clear hK K;try simp only[Act.put,lq1,lq2,lq3,lq4,lq5,lq6]
          refine wpAnyH_done (by kernel_rfl) ?_ _;clear hHeld;go_wp2_with fail
          go_meet
          exact⟨w1.heap.size,w0.heap.size,w3.heap.size,⟨kL,by simpa [aY] using gZ,by simpa [aY] using dZ,by simpa [aY] using eF⟩,gY,hB6,g6,g10,g14,by omega,by omega,by omega⟩
       ·have yy:=eY.cell (i:=4) rfl;have ff:=eY.frozen 4;go_simp;obtain⟨w4,hw⟩:∃ W,W=w3.setCell ⟨w.heap.size+1,4,none⟩ (.slice (some ⟨w0.heap.size,0,none⟩) g.nodes.length g.nodes.length):=⟨_,rfl⟩;rw[← hw];have fK:=sto hw dL (by simp);have dV:=ste hw eY;have fG:=sto hw eP (by simp; omega);have dJ:=sto hw fF (by simp; omega);have hB4:=stb hw hB3 (by simp);clear hw yy ff;refine hK.out _ _ (fK.cell rfl) (fun hHeld=>?_);clear hK K;try simp only[Act.put,lq1,lq2,lq3,lq4,lq5,lq6]
        refine wpAnyH_ready (rs:=[14]) (by decide +kernel) (by simp) ?_;refine(AllReadyH.cons (o:=_) rfl (fun K hK=>?_) AllReadyH.nil)
        ·refine ifT rfl ?_;refine bg _ _ _ 57 rfl 3 (.int .i64 0) 8 Tryz.underlying57 Tryz.infoInt rfl g.nodes.length rfl rfl (by omega) (by omega) ?_;intro w5 hb hz dY;have g14:w.heap.size+1 < w4.heap.size:=dV.lt;have uX:=fG.lt;have gX:=fG.below hb fG.lt;have qO:=dJ.lt;have dX:=dJ.below hb dJ.lt;have gW:=fK.below hb fK.lt;have dW:=dV.below hb dV.lt;have hB5:Below w.heap.size w w5:=hB4.trans (hb.mono hB4.size);clear hb hz;refine hK.out _ _ (gW.cell rfl) (fun hHeld=>?_);clear hK K;try simp only[Act.put,lq1,lq2,lq3,lq4,lq5,lq6]
         refine tk0 [21,22] ?_;iterate 2 (refine tk (v:=?_) rfl (by kernel_rfl) (by kernel_rfl) (by kernel_rfl) (fun _ _ _ h=>h) (Or.inl ⟨by rfl,?_⟩) hHeld ?_;rotate_left;(focus intro wx hSx;(try dsimp only at hSx);go_split_ands;go_simp;try with_reducible rfl);try simp only[Act.put,lq1,lq2,lq3,lq4,lq5,lq6])
         refine tk1 ?_;refine wpAnyH_ready (rs:=[23]) (by decide +kernel) (by simp) ?_;refine(AllReadyH.cons (o:=_) rfl (fun K hK=>?_) AllReadyH.nil)
         ·have yy:=dW.cell (i:=5) rfl;have ff:=dW.frozen 5;go_simp;obtain⟨w6,hw⟩:∃ W,W=w5.setCell ⟨w.heap.size+1,5,none⟩ (.slice (some ⟨w4.heap.size,0,none⟩) g.nodes.length g.nodes.length):=⟨_,rfl⟩;rw[← hw];have gY:=sto hw gW (by simp);have kL:=ste hw dW;have gZ:=sto hw gX (by simp; omega);have dZ:=sto hw dX (by simp; omega);have eF:=sto hw dY (by simp; omega);have hB6:=stb hw hB5 (by simp);clear hw yy ff;refine hK.out _ _ (gY.cell rfl) (fun hHeld=>?_);clear hK K;try simp only[Act.put,lq1,lq2,lq3,lq4,lq5,lq6]
          refine wpAnyH_done (by kernel_rfl) ?_ _;clear hHeld;go_wp2_with fail
          go_meet
          exact⟨w1.heap.size,w0.heap.size,w4.heap.size,⟨kL,by simpa [aY] using gZ,by simpa [aY] using dZ,by simpa [aY] using eF⟩,gY,hB6,g6,g10,g14,by omega,by omega,by omega⟩
     ·refine ifT rfl ?_;refine bg _ _ _ 57 rfl 3 (.int .i64 0) 8 Tryz.underlying57 Tryz.infoInt rfl g.nodes.length rfl rfl (by omega) (by omega) ?_;intro w2 hb hz jm;have g14:w.heap.size+1 < w1.heap.size:=jZ.lt;have qO:=wF.lt;have jl:=wF.below hb wF.lt;have hbx2:=dw.below hb dw.lt;have gV:=jZ.below hb jZ.lt;have hB2:Below w.heap.size w w2:=hB1.trans (hb.mono hB1.size);clear hb hz;refine hK.out _ _ (hbx2.cell rfl) (fun hHeld=>?_);clear hK K;try simp only[Act.put,lq1,lq2,lq3,lq4,lq5,lq6]
      refine wpAnyH_ready (rs:=[6]) (by decide +kernel) (by simp) ?_;refine(AllReadyH.cons (o:=_) rfl (fun K hK=>?_) AllReadyH.nil)
      ·refine ifT rfl ?_;refine bg _ _ _ 57 rfl 3 (.int .i64 0) 8 Tryz.underlying57 Tryz.infoInt rfl g.nodes.length rfl rfl (by omega) (by omega) ?_;intro w3 hb hz eP;have g6:w.heap.size+1 < w2.heap.size:=gV.lt;have ahX:=jl.lt;have fF:=jl.below hb jl.lt;have ahY:=jm.lt;have gy:=jm.below hb jm.lt;have dL:=hbx2.below hb hbx2.lt;have eY:=gV.below hb gV.lt;have hB3:Below w.heap.size w w3:=hB2.trans (hb.mono hB2.size);clear hb hz;refine hK.out _ _ (dL.cell rfl) (fun hHeld=>?_);clear hK K;try simp only[Act.put,lq1,lq2,lq3,lq4,lq5,lq6]
       refine tk0 [15,16] ?_;iterate 2 (refine tk (v:=?_) rfl (by kernel_rfl) (by kernel_rfl) (by kernel_rfl) (fun _ _ _ h=>h) (Or.inl ⟨by rfl,?_⟩) hHeld ?_;rotate_left;(focus intro wx hSx;(try dsimp only at hSx);go_split_ands;go_simp;try with_reducible rfl);try simp only[Act.put,lq1,lq2,lq3,lq4,lq5,lq6])
       refine tk1 ?_;refine wpAnyH_ready (rs:=[17]) (by decide +kernel) (by simp) ?_;refine(AllReadyH.cons (o:=_) rfl (fun K hK=>?_) AllReadyH.nil)
       ·have yy:=eY.cell (i:=3) rfl;have ff:=eY.frozen 3;go_simp;obtain⟨w4,hw⟩:∃ W,W=w3.setCell ⟨w.heap.size+1,3,none⟩ (.slice (some ⟨w2.heap.size,0,none⟩) g.nodes.length g.nodes.length):=⟨_,rfl⟩;rw[← hw];have fK:=sto hw dL (by simp);have dV:=ste hw eY;have fG:=sto hw eP (by simp; omega);have dJ:=sto hw fF (by simp; omega);have gB:=sto hw gy (by simp; omega);have hB4:=stb hw hB3 (by simp);clear hw yy ff;refine hK.out _ _ (fK.cell rfl) (fun hHeld=>?_);clear hK K;try simp only[Act.put,lq1,lq2,lq3,lq4,lq5,lq6]
        refine tk0 [18,19] ?_;iterate 2 (refine tk (v:=?_) rfl (by kernel_rfl) (by kernel_rfl) (by kernel_rfl) (fun _ _ _ h=>h) (Or.inl ⟨by rfl,?_⟩) hHeld ?_;rotate_left;(focus intro wx hSx;(try dsimp only at hSx);go_split_ands;go_simp;try with_reducible rfl);try simp only[Act.put,lq1,lq2,lq3,lq4,lq5,lq6])
        refine tk1 ?_;refine wpAnyH_ready (rs:=[20]) (by decide +kernel) (by simp) ?_;refine(AllReadyH.cons (o:=_) rfl (fun K hK=>?_) AllReadyH.nil)
        ·have yy:=dV.cell (i:=4) rfl;have ff:=dV.frozen 4;go_simp;obtain⟨w5,hw⟩:∃ W,W=w4.setCell ⟨w.heap.size+1,4,none⟩ (.slice (some ⟨w0.heap.size,0,none⟩) g.nodes.length g.nodes.length):=⟨_,rfl⟩;rw[← hw];have gW:=sto hw fK (by simp);have dW:=ste hw dV;have gX:=sto hw fG (by simp; omega);have dX:=sto hw dJ (by simp; omega);have dY:=sto hw gB (by simp; omega);have hB5:=stb hw hB4 (by simp);clear hw yy ff;refine hK.out _ _ (gW.cell rfl) (fun hHeld=>?_);clear hK K;try simp only[Act.put,lq1,lq2,lq3,lq4,lq5,lq6]
         refine tk0 [21,22] ?_;iterate 2 (refine tk (v:=?_) rfl (by kernel_rfl) (by kernel_rfl) (by kernel_rfl) (fun _ _ _ h=>h) (Or.inl ⟨by rfl,?_⟩) hHeld ?_;rotate_left;(focus intro wx hSx;(try dsimp only at hSx);go_split_ands;go_simp;try with_reducible rfl);try simp only[Act.put,lq1,lq2,lq3,lq4,lq5,lq6])
         refine tk1 ?_;refine wpAnyH_ready (rs:=[23]) (by decide +kernel) (by simp) ?_;refine(AllReadyH.cons (o:=_) rfl (fun K hK=>?_) AllReadyH.nil)
         ·have yy:=dW.cell (i:=5) rfl;have ff:=dW.frozen 5;go_simp;obtain⟨w6,hw⟩:∃ W,W=w5.setCell ⟨w.heap.size+1,5,none⟩ (.slice (some ⟨w1.heap.size,0,none⟩) g.nodes.length g.nodes.length):=⟨_,rfl⟩;rw[← hw];have gY:=sto hw gW (by simp);have kL:=ste hw dW;have gZ:=sto hw gX (by simp; omega);have dZ:=sto hw dX (by simp; omega);have eF:=sto hw dY (by simp; omega);have hB6:=stb hw hB5 (by simp);clear hw yy ff;refine hK.out _ _ (gY.cell rfl) (fun hHeld=>?_);clear hK K;try simp only[Act.put,lq1,lq2,lq3,lq4,lq5,lq6]
          refine wpAnyH_done (by kernel_rfl) ?_ _;clear hHeld;go_wp2_with fail
          go_meet
          exact⟨w2.heap.size,w0.heap.size,w1.heap.size,⟨kL,by simpa [aY] using gZ,by simpa [aY] using dZ,by simpa [aY] using eF⟩,gY,hB6,g6,g10,g14,by omega,by omega,by omega⟩
    ·refine ifT rfl ?_;refine bg _ _ _ 57 rfl 3 (.int .i64 0) 8 Tryz.underlying57 Tryz.infoInt rfl g.nodes.length rfl rfl (by omega) (by omega) ?_;intro w1 hb hz wG;have g14:w.heap.size+1 < w0.heap.size:=hwk0.lt;have dw:=hbx0.below hb hbx0.lt;have jZ:=hwk0.below hb hwk0.lt;have hB1:Below w.heap.size w w1:=hB0.trans (hb.mono hB0.size);clear hb hz;refine hK.out _ _ (dw.cell rfl) (fun hHeld=>?_);clear hK K;try simp only[Act.put,lq1,lq2,lq3,lq4,lq5,lq6]
     refine wpAnyH_ready (rs:=[6,10]) (by decide +kernel) (by simp) ?_;refine(AllReadyH.cons (o:=_) rfl (fun K hK=>?_) (AllReadyH.cons (o:=_) rfl (fun K hK=>?_) AllReadyH.nil))
     ·refine ifT rfl ?_;refine bg _ _ _ 57 rfl 3 (.int .i64 0) 8 Tryz.underlying57 Tryz.infoInt rfl g.nodes.length rfl rfl (by omega) (by omega) ?_;intro w2 hb hz iI;have g6:w.heap.size+1 < w1.heap.size:=jZ.lt;have ahY:=wG.lt;have jm:=wG.below hb wG.lt;have hbx2:=dw.below hb dw.lt;have gV:=jZ.below hb jZ.lt;have hB2:Below w.heap.size w w2:=hB1.trans (hb.mono hB1.size);clear hb hz;refine hK.out _ _ (hbx2.cell rfl) (fun hHeld=>?_);clear hK K;try simp only[Act.put,lq1,lq2,lq3,lq4,lq5,lq6]
      refine tk0 [15,16] ?_;iterate 2 (refine tk (v:=?_) rfl (by kernel_rfl) (by kernel_rfl) (by kernel_rfl) (fun _ _ _ h=>h) (Or.inl ⟨by rfl,?_⟩) hHeld ?_;rotate_left;(focus intro wx hSx;(try dsimp only at hSx);go_split_ands;go_simp;try with_reducible rfl);try simp only[Act.put,lq1,lq2,lq3,lq4,lq5,lq6])
      refine tk1 ?_;refine wpAnyH_ready (rs:=[10,17]) (by decide +kernel) (by simp) ?_;refine(AllReadyH.cons (o:=_) rfl (fun K hK=>?_) (AllReadyH.cons (o:=_) rfl (fun K hK=>?_) AllReadyH.nil))
      ·refine ifT rfl ?_;refine bg _ _ _ 57 rfl 3 (.int .i64 0) 8 Tryz.underlying57 Tryz.infoInt rfl g.nodes.length rfl rfl (by omega) (by omega) ?_;intro w3 hb hz fF;have g10:w.heap.size+1 < w2.heap.size:=gV.lt;have aaL:=iI.lt;have eP:=iI.below hb iI.lt;have y9:=jm.lt;have gy:=jm.below hb jm.lt;have dL:=hbx2.below hb hbx2.lt;have eY:=gV.below hb gV.lt;have hB3:Below w.heap.size w w3:=hB2.trans (hb.mono hB2.size);clear hb hz;refine hK.out _ _ (dL.cell rfl) (fun hHeld=>?_);clear hK K;try simp only[Act.put,lq1,lq2,lq3,lq4,lq5,lq6]
       refine wpAnyH_ready (rs:=[17]) (by decide +kernel) (by simp) ?_;refine(AllReadyH.cons (o:=_) rfl (fun K hK=>?_) AllReadyH.nil)
       ·have yy:=eY.cell (i:=3) rfl;have ff:=eY.frozen 3;go_simp;obtain⟨w4,hw⟩:∃ W,W=w3.setCell ⟨w.heap.size+1,3,none⟩ (.slice (some ⟨w1.heap.size,0,none⟩) g.nodes.length g.nodes.length):=⟨_,rfl⟩;rw[← hw];have fK:=sto hw dL (by simp);have dV:=ste hw eY;have fG:=sto hw eP (by simp; omega);have dJ:=sto hw fF (by simp; omega);have gB:=sto hw gy (by simp; omega);have hB4:=stb hw hB3 (by simp);clear hw yy ff;refine hK.out _ _ (fK.cell rfl) (fun hHeld=>?_);clear hK K;try simp only[Act.put,lq1,lq2,lq3,lq4,lq5,lq6]
        refine tk0 [18,19] ?_;iterate 2 (refine tk (v:=?_) rfl (by kernel_rfl) (by kernel_rfl) (by kernel_rfl) (fun _ _ _ h=>h) (Or.inl ⟨by rfl,?_⟩) hHeld ?_;rotate_left;(focus intro wx hSx;(try dsimp only at hSx);go_split_ands;go_simp;try with_reducible rfl);try simp only[Act.put,lq1,lq2,lq3,lq4,lq5,lq6])
        refine tk1 ?_;refine wpAnyH_ready (rs:=[20]) (by decide +kernel) (by simp) ?_;refine(AllReadyH.cons (o:=_) rfl (fun K hK=>?_) AllReadyH.nil)
        ·have yy:=dV.cell (i:=4) rfl;have ff:=dV.frozen 4;go_simp;obtain⟨w5,hw⟩:∃ W,W=w4.setCell ⟨w.heap.size+1,4,none⟩ (.slice (some ⟨w2.heap.size,0,none⟩) g.nodes.length g.nodes.length):=⟨_,rfl⟩;rw[← hw];have gW:=sto hw fK (by simp);have dW:=ste hw dV;have gX:=sto hw fG (by simp; omega);have dX:=sto hw dJ (by simp; omega);have dY:=sto hw gB (by simp; omega);have hB5:=stb hw hB4 (by simp);clear hw yy ff;refine hK.out _ _ (gW.cell rfl) (fun hHeld=>?_);clear hK K;try simp only[Act.put,lq1,lq2,lq3,lq4,lq5,lq6]
         refine tk0 [21,22] ?_;iterate 2 (refine tk (v:=?_) rfl (by kernel_rfl) (by kernel_rfl) (by kernel_rfl) (fun _ _ _ h=>h) (Or.inl ⟨by rfl,?_⟩) hHeld ?_;rotate_left;(focus intro wx hSx;(try dsimp only at hSx);go_split_ands;go_simp;try with_reducible rfl);try simp only[Act.put,lq1,lq2,lq3,lq4,lq5,lq6])
         refine tk1 ?_;refine wpAnyH_ready (rs:=[23]) (by decide +kernel) (by simp) ?_;refine(AllReadyH.cons (o:=_) rfl (fun K hK=>?_) AllReadyH.nil)
         ·have yy:=dW.cell (i:=5) rfl;have ff:=dW.frozen 5;go_simp;obtain⟨w6,hw⟩:∃ W,W=w5.setCell ⟨w.heap.size+1,5,none⟩ (.slice (some ⟨w0.heap.size,0,none⟩) g.nodes.length g.nodes.length):=⟨_,rfl⟩;rw[← hw];have gY:=sto hw gW (by simp);have kL:=ste hw dW;have gZ:=sto hw gX (by simp; omega);have dZ:=sto hw dX (by simp; omega);have eF:=sto hw dY (by simp; omega);have hB6:=stb hw hB5 (by simp);clear hw yy ff;refine hK.out _ _ (gY.cell rfl) (fun hHeld=>?_);clear hK K;try simp only[Act.put,lq1,lq2,lq3,lq4,lq5,lq6]
          refine wpAnyH_done (by kernel_rfl) ?_ _;clear hHeld;go_wp2_with fail
          go_meet
          exact⟨w1.heap.size,w2.heap.size,w0.heap.size,⟨kL,by simpa [aY] using gZ,by simpa [aY] using dZ,by simpa [aY] using eF⟩,gY,hB6,g6,g10,g14,by omega,by omega,by omega⟩
      ·have yy:=gV.cell (i:=3) rfl;have ff:=gV.frozen 3;go_simp;obtain⟨w3,hw⟩:∃ W,W=w2.setCell ⟨w.heap.size+1,3,none⟩ (.slice (some ⟨w1.heap.size,0,none⟩) g.nodes.length g.nodes.length):=⟨_,rfl⟩;rw[← hw];have dL:=sto hw hbx2 (by simp);have eY:=ste hw gV;have eP:=sto hw iI (by simp; omega);have gy:=sto hw jm (by simp; omega);have hB3:=stb hw hB2 (by simp);clear hw yy ff;refine hK.out _ _ (dL.cell rfl) (fun hHeld=>?_);clear hK K;try simp only[Act.put,lq1,lq2,lq3,lq4,lq5,lq6]
       refine wpAnyH_ready (rs:=[10]) (by decide +kernel) (by simp) ?_;refine(AllReadyH.cons (o:=_) rfl (fun K hK=>?_) AllReadyH.nil)
       ·refine ifT rfl ?_;refine bg _ _ _ 57 rfl 3 (.int .i64 0) 8 Tryz.underlying57 Tryz.infoInt rfl g.nodes.length rfl rfl (by omega) (by omega) ?_;intro w4 hb hz dJ;have g10:w.heap.size+1 < w3.heap.size:=eY.lt;have aaL:=eP.lt;have fG:=eP.below hb eP.lt;have y9:=gy.lt;have gB:=gy.below hb gy.lt;have fK:=dL.below hb dL.lt;have dV:=eY.below hb eY.lt;have hB4:Below w.heap.size w w4:=hB3.trans (hb.mono hB3.size);clear hb hz;refine hK.out _ _ (fK.cell rfl) (fun hHeld=>?_);clear hK K;try simp only[Act.put,lq1,lq2,lq3,lq4,lq5,lq6]
        refine tk0 [18,19] ?_;iterate 2 (refine tk (v:=?_) rfl (by kernel_rfl) (by kernel_rfl) (by kernel_rfl) (fun _ _ _ h=>h) (Or.inl ⟨by rfl,?_⟩) hHeld ?_;rotate_left;(focus intro wx hSx;(try dsimp only at hSx);go_split_ands;go_simp;try with_reducible rfl);try simp only[Act.put,lq1,lq2,lq3,lq4,lq5,lq6])
        refine tk1 ?_;refine wpAnyH_ready (rs:=[20]) (by decide +kernel) (by simp) ?_;refine(AllReadyH.cons (o:=_) rfl (fun K hK=>?_) AllReadyH.nil)
        ·have yy:=dV.cell (i:=4) rfl;have ff:=dV.frozen 4;go_simp;obtain⟨w5,hw⟩:∃ W,W=w4.setCell ⟨w.heap.size+1,4,none⟩ (.slice (some ⟨w3.heap.size,0,none⟩) g.nodes.length g.nodes.length):=⟨_,rfl⟩;rw[← hw];have gW:=sto hw fK (by simp);have dW:=ste hw dV;have gX:=sto hw fG (by simp; omega);have dX:=sto hw dJ (by simp; omega);have dY:=sto hw gB (by simp; omega);have hB5:=stb hw hB4 (by simp);clear hw yy ff;refine hK.out _ _ (gW.cell rfl) (fun hHeld=>?_);clear hK K;try simp only[Act.put,lq1,lq2,lq3,lq4,lq5,lq6]
         refine tk0 [21,22] ?_;iterate 2 (refine tk (v:=?_) rfl (by kernel_rfl) (by kernel_rfl) (by kernel_rfl) (fun _ _ _ h=>h) (Or.inl ⟨by rfl,?_⟩) hHeld ?_;rotate_left;(focus intro wx hSx;(try dsimp only at hSx);go_split_ands;go_simp;try with_reducible rfl);try simp only[Act.put,lq1,lq2,lq3,lq4,lq5,lq6])
         refine tk1 ?_;refine wpAnyH_ready (rs:=[23]) (by decide +kernel) (by simp) ?_;refine(AllReadyH.cons (o:=_) rfl (fun K hK=>?_) AllReadyH.nil)
         ·have yy:=dW.cell (i:=5) rfl;have ff:=dW.frozen 5;go_simp;obtain⟨w6,hw⟩:∃ W,W=w5.setCell ⟨w.heap.size+1,5,none⟩ (.slice (some ⟨w0.heap.size,0,none⟩) g.nodes.length g.nodes.length):=⟨_,rfl⟩;rw[← hw];have gY:=sto hw gW (by simp);have kL:=ste hw dW;have gZ:=sto hw gX (by simp; omega);have dZ:=sto hw dX (by simp; omega);have eF:=sto hw dY (by simp; omega);have hB6:=stb hw hB5 (by simp);clear hw yy ff;refine hK.out _ _ (gY.cell rfl) (fun hHeld=>?_);clear hK K;try simp only[Act.put,lq1,lq2,lq3,lq4,lq5,lq6]
          refine wpAnyH_done (by kernel_rfl) ?_ _;clear hHeld;go_wp2_with fail
          go_meet
          exact⟨w1.heap.size,w3.heap.size,w0.heap.size,⟨kL,by simpa [aY] using gZ,by simpa [aY] using dZ,by simpa [aY] using eF⟩,gY,hB6,g6,g10,g14,by omega,by omega,by omega⟩
     ·refine ifT rfl ?_;refine bg _ _ _ 57 rfl 3 (.int .i64 0) 8 Tryz.underlying57 Tryz.infoInt rfl g.nodes.length rfl rfl (by omega) (by omega) ?_;intro w2 hb hz jl;have g10:w.heap.size+1 < w1.heap.size:=jZ.lt;have y9:=wG.lt;have jm:=wG.below hb wG.lt;have hbx2:=dw.below hb dw.lt;have gV:=jZ.below hb jZ.lt;have hB2:Below w.heap.size w w2:=hB1.trans (hb.mono hB1.size);clear hb hz;refine hK.out _ _ (hbx2.cell rfl) (fun hHeld=>?_);clear hK K;try simp only[Act.put,lq1,lq2,lq3,lq4,lq5,lq6]
      refine wpAnyH_ready (rs:=[6]) (by decide +kernel) (by simp) ?_;refine(AllReadyH.cons (o:=_) rfl (fun K hK=>?_) AllReadyH.nil)
      ·refine ifT rfl ?_;refine bg _ _ _ 57 rfl 3 (.int .i64 0) 8 Tryz.underlying57 Tryz.infoInt rfl g.nodes.length rfl rfl (by omega) (by omega) ?_;intro w3 hb hz eP;have g6:w.heap.size+1 < w2.heap.size:=gV.lt;have ahX:=jl.lt;have fF:=jl.below hb jl.lt;have ahY:=jm.lt;have gy:=jm.below hb jm.lt;have dL:=hbx2.below hb hbx2.lt;have eY:=gV.below hb gV.lt;have hB3:Below w.heap.size w w3:=hB2.trans (hb.mono hB2.size);clear hb hz;refine hK.out _ _ (dL.cell rfl) (fun hHeld=>?_);clear hK K;try simp only[Act.put,lq1,lq2,lq3,lq4,lq5,lq6]
       refine tk0 [15,16] ?_;iterate 2 (refine tk (v:=?_) rfl (by kernel_rfl) (by kernel_rfl) (by kernel_rfl) (fun _ _ _ h=>h) (Or.inl ⟨by rfl,?_⟩) hHeld ?_;rotate_left;(focus intro wx hSx;(try dsimp only at hSx);go_split_ands;go_simp;try with_reducible rfl);try simp only[Act.put,lq1,lq2,lq3,lq4,lq5,lq6])
       refine tk1 ?_;refine wpAnyH_ready (rs:=[17]) (by decide +kernel) (by simp) ?_;refine(AllReadyH.cons (o:=_) rfl (fun K hK=>?_) AllReadyH.nil)
       ·have yy:=eY.cell (i:=3) rfl;have ff:=eY.frozen 3;go_simp;obtain⟨w4,hw⟩:∃ W,W=w3.setCell ⟨w.heap.size+1,3,none⟩ (.slice (some ⟨w2.heap.size,0,none⟩) g.nodes.length g.nodes.length):=⟨_,rfl⟩;rw[← hw];have fK:=sto hw dL (by simp);have dV:=ste hw eY;have fG:=sto hw eP (by simp; omega);have dJ:=sto hw fF (by simp; omega);have gB:=sto hw gy (by simp; omega);have hB4:=stb hw hB3 (by simp);clear hw yy ff;refine hK.out _ _ (fK.cell rfl) (fun hHeld=>?_);clear hK K;try simp only[Act.put,lq1,lq2,lq3,lq4,lq5,lq6]
        refine tk0 [18,19] ?_;iterate 2 (refine tk (v:=?_) rfl (by kernel_rfl) (by kernel_rfl) (by kernel_rfl) (fun _ _ _ h=>h) (Or.inl ⟨by rfl,?_⟩) hHeld ?_;rotate_left;(focus intro wx hSx;(try dsimp only at hSx);go_split_ands;go_simp;try with_reducible rfl);try simp only[Act.put,lq1,lq2,lq3,lq4,lq5,lq6])
        refine tk1 ?_;refine wpAnyH_ready (rs:=[20]) (by decide +kernel) (by simp) ?_;refine(AllReadyH.cons (o:=_) rfl (fun K hK=>?_) AllReadyH.nil)
        ·have yy:=dV.cell (i:=4) rfl;have ff:=dV.frozen 4;go_simp;obtain⟨w5,hw⟩:∃ W,W=w4.setCell ⟨w.heap.size+1,4,none⟩ (.slice (some ⟨w1.heap.size,0,none⟩) g.nodes.length g.nodes.length):=⟨_,rfl⟩;rw[← hw];have gW:=sto hw fK (by simp);have dW:=ste hw dV;have gX:=sto hw fG (by simp; omega);have dX:=sto hw dJ (by simp; omega);have dY:=sto hw gB (by simp; omega);have hB5:=stb hw hB4 (by simp);clear hw yy ff;refine hK.out _ _ (gW.cell rfl) (fun hHeld=>?_);clear hK K;try simp only[Act.put,lq1,lq2,lq3,lq4,lq5,lq6]
         refine tk0 [21,22] ?_;iterate 2 (refine tk (v:=?_) rfl (by kernel_rfl) (by kernel_rfl) (by kernel_rfl) (fun _ _ _ h=>h) (Or.inl ⟨by rfl,?_⟩) hHeld ?_;rotate_left;(focus intro wx hSx;(try dsimp only at hSx);go_split_ands;go_simp;try with_reducible rfl);try simp only[Act.put,lq1,lq2,lq3,lq4,lq5,lq6])
         refine tk1 ?_;refine wpAnyH_ready (rs:=[23]) (by decide +kernel) (by simp) ?_;refine(AllReadyH.cons (o:=_) rfl (fun K hK=>?_) AllReadyH.nil)
         ·have yy:=dW.cell (i:=5) rfl;have ff:=dW.frozen 5;go_simp;obtain⟨w6,hw⟩:∃ W,W=w5.setCell ⟨w.heap.size+1,5,none⟩ (.slice (some ⟨w0.heap.size,0,none⟩) g.nodes.length g.nodes.length):=⟨_,rfl⟩;rw[← hw];have gY:=sto hw gW (by simp);have kL:=ste hw dW;have gZ:=sto hw gX (by simp; omega);have dZ:=sto hw dX (by simp; omega);have eF:=sto hw dY (by simp; omega);have hB6:=stb hw hB5 (by simp);clear hw yy ff;refine hK.out _ _ (gY.cell rfl) (fun hHeld=>?_);clear hK K;try simp only[Act.put,lq1,lq2,lq3,lq4,lq5,lq6]
          refine wpAnyH_done (by kernel_rfl) ?_ _;clear hHeld;go_wp2_with fail
          go_meet
          exact⟨w2.heap.size,w1.heap.size,w0.heap.size,⟨kL,by simpa [aY] using gZ,by simpa [aY] using dZ,by simpa [aY] using eF⟩,gY,hB6,g6,g10,g14,by omega,by omega,by omega⟩
   case rest =>
    obtain⟨bp,bd,bl,hwa,yB,aZ,z1,z2,z3,z4,z5,z6⟩:=hcut;clear hbx hwk hbel;have aff:=yB.lt;have x1:=yB.cell (i:=1) rfl;have HNO:=Ac (show Bd w F (.slice (some ⟨b,o,none⟩) g.nodes.length c) g.nodes from⟨_,_,rfl,hc,HN.out⟩);have HIO:=Ac (show AQ w F (.slice Ai g.infos.length ci) g.infos from⟨_,_,rfl,hci,HI.out⟩);have HWA:=Ac hwa; clear hwa;have HG':=Ac (show ∀ k,(F k∧k < w.heap.size)→k≠bp∧k≠bd∧k≠bl from fun k hk=>by omega);go_wp2_with fail
    refine(aft g HS.out (w.heap.size+1) bp bd bl b o c Ai ci ⟨by omega,by omega,by omega,z4,z5,z6⟩ hc (fun k=>F k∧k < w.heap.size) HG'.out (g.nodes.length+1) 0 (-1) 0 _ wc _ ⟨some ⟨b,o,none⟩,by simp,fun _=>by simp⟩ ⟨by simp,by simp,by simp⟩ (fun _=>HNO.out.keep (fun k hk hl=>⟨hk,hl⟩) (Below.same' aZ F)) HWA.out (by omega) (by omega) (by omega) (by omega)).mono ?_;rintro e w2 ⟨vr,rfl,hrest,ais,hwr2⟩;have ait:=nX g.nodes (g.nodes.length+1) 0 (-1) 0 ⟨List.replicate g.nodes.length 0,List.replicate g.nodes.length 0,List.replicate g.nodes.length 0⟩;have hlen:=mF (N:=g.nodes.length) g.nodes (g.nodes.length+1) 0 (-1) 0 ⟨List.replicate g.nodes.length 0,List.replicate g.nodes.length 0,List.replicate g.nodes.length 0⟩ ⟨by simp,by simp,by simp⟩;have hT:walkT g=bU g.nodes (g.nodes.length+1) 0 (-1) 0 ⟨List.replicate g.nodes.length 0,List.replicate g.nodes.length 0,List.replicate g.nodes.length 0⟩:=rfl;rw[← hT] at hrest ais ait hlen ⊢;clear hT;have hB2:Below w.heap.size w w2:=Wrote.below aZ hwr2 (fun k hk=>by omega) aZ.size;have hbx2:=yB.wrote hwr2 (by omega);clear aZ hwr2 yB x1 HWA;obtain⟨T,hTT⟩:∃ T,T=walkT g:=⟨_,rfl⟩;have HT:=Ac (show Bq w2 (w.heap.size+1) bp bd bl g.ak (some ⟨b,o,none⟩) g.nodes.length c Ai g.infos.length ci (walkT g).2 from ais);clear ais;have HLN:=Ac hlen; clear hlen;rw[← hTT] at hrest ait HE2 ⊢;have HTT:=Ac hTT; clear hTT;obtain⟨rn,td⟩:=T;dsimp only at hrest ait HE2 ⊢;by_cases hng:rn < 0
    ·have HF:=Ac (show oK g=9 by rw[HE2.out,if_pos (by omega)]);have hdn:decide (0≤rn)=false:=decide_eq_false (by omega);clear hrest;go_wp2
     go_ret2;exact⟨_,rfl,hB2,.pointer none,by rw[HF.out]; rfl,by rw[HF.out]; intro h; simp at h⟩
    ·obtain⟨q,rfl⟩:=Int.eq_ofNat_of_zero_le (show 0≤rn by omega);obtain⟨A',rfl,hA'⟩:=hrest (by omega);simp only[Int.toNat_natCast] at hA' ⊢;have hdn:decide (0≤(q:Int))=true:=decide_eq_true (by omega);by_cases hqn:q=g.nodes.length
     ·subst hqn;have HF:=Ac (show oK g=if 40 < maxL td.d then 5 else gU g by rw[HE2.out,if_neg (by simp)]);have hz:g.nodes.length - g.nodes.length=0:=by omega
      rw[hz];have ht2:td=(walkT g).2:=by rw[← HTT.out]
      have x4:=HT.out.head.cell (i:=4) rfl;clear hA' hz;go_wp2_with fail
      have hdl:td.d.length=g.nodes.length:=by rw[ht2]; exact HLN.out.d
      have HID:=Ac (show Aw w2 (fun k=>k=bd) (.slice (some ⟨bd,0,none⟩) g.nodes.length g.nodes.length) td.d by
       have:=Row.ints (F:=fun k=>k=bd) (show Row w2 bd 3 (td.d.map (Value.int .i64)) by rw[ht2]; exact HT.out.rd) rfl (c:=g.nodes.length) (by omega);rwa [hdl] at this)
      have HT2:=Ac ht2; clear ht2;refine(ahj w2 (fun k=>k=bd) _ td.d HID.out (by omega) (by omega)).mono ?_;rintro e w3 ⟨rfl,rfl⟩;dsimp only;generalize maxL td.d=mx at *;by_cases hmx:40 < mx
      ·have HF2:=Ac (show oK g=5 by rw[HF.out,if_pos hmx]);go_wp2
       go_ret2;exact⟨_,rfl,hB2,.pointer none,by rw[HF2.out]; rfl,by rw[HF2.out]; intro h; simp at h⟩
      ·have HF2:=Ac (show oK g=gU g by rw[HF.out,if_neg hmx]);have hdm:decide (40 < mx)=false:=decide_eq_false hmx;clear hmx;go_wp2_with fail
       refine(afu w3 F (w.heap.size+1) g _ _ _ _ (HT.out.head.cell rfl) (HT.out.head.cell rfl) HT.out.head.lt (HNO.out.on (Below.same' hB2 F)) (HIO.out.on (Below.same' hB2 F)) HS.out HIN.out (by omega)).mono ?_;rintro e w4 ⟨_,rfl,hb4,rfl⟩;dsimp only;go_wp2
       go_ret2;refine⟨_,rfl,hB2.trans (hb4.mono hB2.size),.pointer (some ⟨w.heap.size+1,0,none⟩),by rw[HF2.out]; rfl,fun _=>?_⟩;have h:=HT.out;exact⟨w.heap.size+1,bp,bd,bl,_,_,_,_,rfl,⟨h.head.below hb4 h.head.lt,h.rp.below hb4 h.rp.lt,h.rd.below hb4 h.rd.lt,h.rl.below hb4 h.rl.lt⟩,by omega,by omega,by omega,by omega⟩
     ·have HF:=Ac (show oK g=9 by rw[HE2.out,if_pos (by omega)]);have hdg:(0:Int) < ((g.nodes.length - q:Nat):Int):=by omega
      clear hqn;go_wp2
      go_ret2;exact⟨_,rfl,hB2,.pointer none,by rw[HF.out]; rfl,by rw[HF.out]; intro h; simp at h⟩
theorem afv (w:World) (F:Ag) (u:Value) (g:Gm) (hg:AA w F u g) (hsm:Small g) :
  Calls Tryz.prog 115 #[u] w (Ret w fun v _=>v = .int .i64 (oK g)):=by
 have HG:=Ac hg;obtain⟨vn,vi,rfl,⟨A,c,rfl,hc,hN⟩,⟨Ai,ci,rfl,hci,hI⟩⟩:=hg;clear hN hI;have HS:=Ac hsm; clear hsm;go_enter Tryz.func115,Tryz.ntmps115;go_wp2_with fail
 refine(adR _ F _ g (HG.out.on (Same.alloc _ _ _)) HS.out).mono ?_;rintro e w1 ⟨v,rfl,hb1,vp,rfl,hv⟩;clear hv;have hB:Below w.heap.size w w1:=((Below.refl w.heap.size w).alloc (Nat.le_refl _) _).trans (hb1.mono (by simp));dsimp only;go_wp2
 go_ret;exact⟨_,rfl,hB,rfl⟩
def mv (nodes:List Nd) (s i:Nat):Bool:=match nodes[i]? with | some n=>decide (n.kind=2)&&decide (n.info.toNat=s) | none=>false
def eG (nodes:List Nd) (s k:Nat):List Int:=((List.range k).filter (mv nodes s)).map fun i:Nat=>(i:Int)
theorem zh (nodes:List Nd) (s k:Nat):eG nodes s (k+1)=eG nodes s k++(if mv nodes s k then [(k:Int)] else []):=by
 unfold eG;rw[List.range_succ,List.filter_append,List.map_append];cases h:mv nodes s k <;> simp[h]
theorem adS (nodes:List Nd) (ni:Nat) (hin:∀ n∈nodes,n.kind=2→0≤n.info∧n.info < (ni:Int)) (k:Nat):∀ s,s < ni→(fC nodes ni k)[s]? = some (eG nodes s k):=by
 induction k with
 | zero=>intro s hs; simp[fC,eG,hs]
 | succ k ih =>
  intro s hs;rw[zh];cases hn:nodes[k]? with
  | none =>
   have:mv nodes s k=false:=by simp[mv,hn]
   rw[this]; simp only[fC,hn]; rw[ih s hs]; simp
  | some n =>
   by_cases hk:n.kind=2
   ·have hb:=hin n (List.mem_of_getElem? hn) hk;have hlt:n.info.toNat < ni:=by omega
    rw[wL hn hk (ih _ hlt)];by_cases he:n.info.toNat=s
    ·subst he;have:mv nodes n.info.toNat k=true:=by simp[mv,hn,hk]
     rw[this,List.getElem?_set_self (by rw[fP]; exact hlt)]; simp
    ·have:mv nodes s k=false:=by simp[mv,hn,he]
     rw[this,List.getElem?_set_ne he,ih s hs]; simp
   ·have:mv nodes s k=false:=by simp[mv,hn,hk]
    rw[wM hn hk,this,ih s hs]; simp
theorem jY {g:Gm} (hin:BF g) {s:Nat} (hs:s < g.infos.length):(mM g)[s]? = some (eG g.nodes s g.nodes.length):=adS g.nodes g.infos.length hin _ s hs
theorem xg {nodes:List Nd} {s k:Nat} {x:Int}:x∈eG nodes s k↔∃ i:Nat,x=i∧i < k∧mv nodes s i=true:=by
 unfold eG;simp only[List.mem_map,List.mem_filter,List.mem_range];constructor
 ·rintro⟨i,⟨h1,h2⟩,rfl⟩; exact⟨i,rfl,h1,h2⟩
 ·rintro⟨i,rfl,h1,h2⟩; exact⟨i,⟨h1,h2⟩,rfl⟩
theorem acL (nodes:List Nd) (ni:Nat) (hin:∀ n∈nodes,n.kind=2→0≤n.info∧n.info < (ni:Int)) (m:Nat):∀ k,k+m=nodes.length→∀ s,s < ni →
  (gI (nodes.drop k) k (List.replicate ni 0))[s]? = some (match (List.range' k m).find? (mv nodes s) with | some i=>(i:Int)+1 | none=>0):=by
 induction m with
 | zero =>
  intro k hk s hs;rw[List.drop_eq_nil_of_le (by omega)];simp[gI,hs]
 | succ m ih =>
  intro k hk s hs;obtain⟨n,hn⟩:=ay (l:=nodes) (k:=k) (by omega);rw[uV hn];have hr:List.range' k (m+1)=k :: List.range' (k+1) m:=by rw[List.range'_succ]
  rw[hr,List.find?_cons];by_cases hkd:n.kind=2
  ·have hb:=hin n (List.mem_of_getElem? hn) hkd;rw[if_pos hkd];by_cases he:n.info.toNat=s
   ·subst he;have:mv nodes n.info.toNat k=true:=by simp[mv,hn,hkd]
    rw[this,List.getElem?_set_self (by rw[iG]; simp; omega)]
   ·have:mv nodes s k=false:=by simp[mv,hn,he]
    rw[this,List.getElem?_set_ne he];exact ih (k+1) (by omega) s hs
  ·have:mv nodes s k=false:=by simp[mv,hn,hkd]
   rw[if_neg hkd,this];exact ih (k+1) (by omega) s hs
theorem jA {g:Gm} (hin:BF g) {s:Nat} (hs:s < g.infos.length):(eX g)[s]? = some (match eG g.nodes s g.nodes.length with | []=>0 | x :: _=>x+1):=by
 have h:=acL g.nodes g.infos.length hin g.nodes.length 0 (by omega) s hs;unfold eX;rw[List.drop_zero] at h;rw[h];congr 1
 unfold eG;rw[← List.range_eq_range',← List.head?_filter];cases (List.range g.nodes.length).filter (mv g.nodes s) <;> simp
theorem xK (g:Gm):(eX g).length=g.infos.length:=by unfold eX; rw[iG]; simp
theorem adT {g:Gm} (hin:BF g):gU g=kH g:=by
 unfold gU kH;have hl:(mM g).length=g.infos.length:=fP _ _ _;have hfl:=xK g;have h1:(eX g).contains 0=lY (mM g):=by
  rw[Bool.eq_iff_iff];unfold lY;rw[List.any_eq_true,List.contains_iff_exists_mem_beq];constructor
  ·rintro⟨x,hx,h0⟩;obtain⟨s,hs⟩:=List.getElem?_of_mem hx;have hlt:s < g.infos.length:=by rw[← hfl]; exact aG hs
   have:=jA hin hlt;rw[hs] at this;refine⟨_,List.mem_of_getElem? (jY hin hlt),?_⟩;have hx0:x=0:=by simpa using (beq_iff_eq.1 h0).symm
   subst hx0;cases hm:eG g.nodes s g.nodes.length with
   | nil=>rfl
   | cons y l =>
    exfalso
    rw[hm] at this;have hy:y∈eG g.nodes s g.nodes.length:=by rw[hm]; simp
    obtain⟨i,rfl,_⟩:=xg.1 hy;simp at this;omega
  ·rintro⟨l,hl',h0⟩;obtain⟨s,hs⟩:=List.getElem?_of_mem hl';have hlt:s < g.infos.length:=by rw[← hl]; exact aG hs
   have h2:=jY hin hlt;rw[hs] at h2;cases h2
   have h3:=jA hin hlt;have hnil:eG g.nodes s g.nodes.length = []:=List.eq_nil_of_length_eq_zero (by simpa using h0);rw[hnil] at h3;exact⟨0,List.mem_of_getElem? h3,by simp⟩
 rw[h1];split
 ·rfl
 ·cases hn:lY (mM g) with
  | true=>rfl
  | false =>
   have hne:∀ s,s < g.infos.length→∃ x l,eG g.nodes s g.nodes.length=x :: l:=by
    intro s hs;have:=List.any_eq_false.1 hn _ (List.mem_of_getElem? (jY hin hs));cases hm:eG g.nodes s g.nodes.length with
    | nil=>rw[hm] at this; simp at this
    | cons x l=>exact⟨x,l,rfl⟩
   have h2:fH (eX g) = !fA (mM g) g.infos.length:=by
    rw[Bool.eq_iff_iff,acF,Bool.not_eq_true',fA,List.any_eq_false];constructor
    ·intro h i hi;rw[List.mem_range'_1] at hi;obtain⟨x,l,hx⟩:=hne (i - 1) (by omega);obtain⟨y,l',hy⟩:=hne i (by omega);have f1:=jA hin (s:=i - 1) (by omega);have f2:=jA hin (s:=i) (by omega);rw[hx] at f1; rw[hy] at f2;have:=h (i - 1) _ _ f1 (by rw[show i - 1+1=i by omega]; exact f2);have s1:=jY hin (s:=i - 1) (by omega);have s2:=jY hin (s:=i) (by omega);rw[hx] at s1; rw[hy] at s2;simp[jQ,List.getD_eq_getElem?_getD,s1,s2];simp at this;exact this
    ·intro h k x y hx hy;have hk1:k+1 < g.infos.length:=by rw[← hfl]; exact aG hy
     have:=h (k+1) (by rw[List.mem_range'_1]; omega);obtain⟨x',l,hx'⟩:=hne k (by omega);obtain⟨y',l',hy'⟩:=hne (k+1) (by omega);have f1:=jA hin (s:=k) (by omega);have f2:=jA hin (s:=k+1) (by omega);rw[hx'] at f1; rw[hy'] at f2;have s1:=jY hin (s:=k) (by omega);have s2:=jY hin (s:=k+1) (by omega);rw[hx'] at s1; rw[hy'] at s2;rw[hx] at f1; rw[hy] at f2;cases f1; cases f2
     simp[jQ,List.getD_eq_getElem?_getD,s1,s2] at this;simpa using this
   rw[h2];cases fA (mM g) g.infos.length <;> rfl
structure Deep (a:Nat) (r:Int) (d d':List Int) (deep deep':Int):Prop where
 out:∀ i:Nat,i < a∨r≤(i:Int)→d'[i]? = d[i]?
 le:deep≤deep'
 below:∀ (i:Nat) x,a≤i→(i:Int) < r→d'[i]? = some x→x≤deep'
 hit:deep'=deep∨∃ (i:Nat),a≤i∧(i:Int) < r∧d'[i]? = some deep'
theorem Deep.refl (a:Nat) (d:List Int) (deep:Int):Deep a a d d deep deep:=⟨fun _ _=>rfl,by omega,fun i x h1 h2=>by omega,.inl rfl⟩
theorem Deep.trans {a m:Nat} {r:Int} {d d' d'':List Int} {x y z:Int} (ham:a≤m) (hmr:(m:Int)≤r) (h:Deep a m d d' x y) (k:Deep m r d' d'' y z):Deep a r d d'' x z:=by
 refine⟨fun i hi=>?_,Int.le_trans h.le k.le,fun i v h1 h2 hv=>?_,?_⟩
 ·rw[k.out i (by omega),h.out i (by omega)]
 ·by_cases hm:i < m
  ·rw[k.out i (.inl hm)] at hv;exact Int.le_trans (h.below i v h1 (by omega) hv) k.le
  ·exact k.below i v (by omega) h2 hv
 ·rcases k.hit with e | ⟨i,h1,h2,h3⟩
  ·rcases h.hit with e' | ⟨i,h1,h2,h3⟩
   ·left; omega
   ·right; exact⟨i,h1,by omega,by rw[k.out i (.inl (by omega)),h3,e]⟩
  ·right; exact⟨i,by omega,h2,h3⟩
theorem aaM {N:Nat} {rec:Nat→Tri→Int×Tri} {rec':Nat→Int→Int×Int} (hlen:∀ a t,Tri.Len N t→Tri.Len N (rec a t).2)
  (hb:∀ a t,(rec a t).1 = -1∨((a:Int) < (rec a t).1∧(rec a t).1≤N)) (hs:∀ a t d,(rec a t).1=(rec' a d).1)
  (hrec:∀ a t deep,a < N→Tri.Len N t→0≤(rec a t).1→Deep a (rec a t).1 t.d (rec a t).2.d deep (rec' a deep).2) :
  ∀ (cs:List Int) (x:Nat) (t:Tri) (deep:Int),x≤N→Tri.Len N t→0≤(fE rec cs x t).1→(x:Int)≤(fE rec cs x t).1∧Deep x (fE rec cs x t).1 t.d (fE rec cs x t).2.d deep (bW rec' cs x deep).2
 | [],x,t,deep,_,_,_=>⟨by simp[fE],by simpa [fE,bW] using Deep.refl x t.d deep⟩
 | c :: cs,x,t,deep,hx,ht,h=>by
  unfold fE at h ⊢;unfold bW;by_cases hc:c=x
  ·subst hc;simp only[ne_eq,not_true_eq_false,↓reduceIte,Int.toNat_natCast] at h ⊢;rw[← hs x t deep];by_cases hng:(rec x t).1 < 0
   ·rw[if_pos hng] at h; simp at h
   ·rw[if_neg hng] at h ⊢;rw[if_neg hng];rcases hb x t with hb1 | hb1
    ·omega
    ·have hr:=hrec x t deep (by omega) ht (by omega);obtain⟨m,hm⟩:=Int.eq_ofNat_of_zero_le (show 0≤(rec x t).1 by omega);rw[hm] at h hr ⊢;rw[hm] at hb1;have ih:=aaM hlen hb hs hrec cs m (rec x t).2 (rec' x deep).2 (by omega) (hlen x t ht) h;exact⟨by omega,hr.trans (by omega) ih.1 ih.2⟩
  ·rw[if_pos hc] at h; simp at h
theorem wH (nodes:List Nd):∀ (f a:Nat) (par dep:Int) (t:Tri) (deep:Int),Tri.Len nodes.length t→0≤(bU nodes f a par dep t).1 →
  Deep a (bU nodes f a par dep t).1 t.d (bU nodes f a par dep t).2.d deep (bI nodes f a dep deep).2
 | 0,_,_,_,_,_,_,h=>by simp[bU] at h
 | f+1,a,par,dep,t,deep,ht,h=>by
  unfold bU at h ⊢;unfold bI;cases hn:nodes[a]? with
  | none=>rw[hn] at h; simp at h
  | some n =>
   rw[hn] at h;simp only at h ⊢;have ha:=aG hn;have hk:=aaM (N:=nodes.length) (rec:=fun a' t=>bU nodes f a' a (dep+1) t) (rec':=fun a' d=>bI nodes f a' (dep+1) d)
    (fun a' t h=>mF nodes f a' a (dep+1) t h) (fun a' t=>nX nodes f a' a (dep+1) t) (fun a' t d=>rM nodes f a' a (dep+1) t d)
    (fun a' t d _ ht h=>wH nodes f a' a (dep+1) t d ht h) n.next (a+1) ⟨t.p.set a par,t.d.set a dep,t.l⟩ (max deep dep) (by omega) ⟨by simp[ht.p],by simp[ht.d],ht.l⟩
   simp only[Int.natCast_add,Int.cast_ofNat_Int] at hk;by_cases hng:(fE (fun a' t=>bU nodes f a' a (dep+1) t) n.next ((a:Int)+1) ⟨t.p.set a par,t.d.set a dep,t.l⟩).1 < 0
   ·rw[if_pos hng] at h; omega
   ·rw[if_neg hng] at h ⊢;obtain⟨h1,h2⟩:=hk (by omega);have h0:Deep a ((a+1:Nat):Int) t.d (t.d.set a dep) deep (max deep dep):=by
     refine⟨fun i hi=>List.getElem?_set_ne (by omega),by omega,fun i x h1 h2 hx=>?_,?_⟩
     ·have:i=a:=by omega
      subst this;rw[List.getElem?_set_self (by rw[ht.d]; exact ha)] at hx;cases hx; omega
     ·by_cases hd:dep≤deep
      ·left; omega
      ·right; exact⟨a,by omega,by omega,by rw[List.getElem?_set_self (by rw[ht.d]; exact ha)]; congr 1; omega⟩
    exact h0.trans (by omega) (by simpa using h1) (by simpa using h2)
theorem adU (l:List Int) (a:Int):a≤l.foldl max a∧∀ x∈l,x≤l.foldl max a:=by
 induction l generalizing a with
 | nil=>simp
 | cons y l ih =>
  obtain⟨h1,h2⟩:=ih (max a y);simp only[List.foldl_cons];refine⟨by omega,fun x hx=>?_⟩;rcases List.mem_cons.1 hx with rfl | hx
  ·omega
  ·exact h2 x hx
theorem acM (l:List Int) (a:Int):l.foldl max a=a∨l.foldl max a∈l:=by
 induction l generalizing a with
 | nil=>simp
 | cons y l ih =>
  simp only[List.foldl_cons];rcases ih (max a y) with h | h
  ·rw[h];by_cases hay:y≤a
   ·left; omega
   ·right; rw[show max a y=y by omega]; simp
  ·right; exact List.mem_cons_of_mem _ h
theorem afw {l:List Int} {m:Int} (hm:m∈l) (hb:∀ x∈l,x≤m):maxL l=m:=by
 cases l with
 | nil=>cases hm
 | cons y l =>
  unfold maxL;have h1:=adU l y;have h2:=acM l y;have h3:m≤l.foldl max y:=by
   rcases List.mem_cons.1 hm with rfl | h
   ·exact h1.1
   ·exact h1.2 m h
  have h4:l.foldl max y≤m:=by
   rcases h2 with h | h
   ·rw[h]; exact hb y (by simp)
   ·exact hb _ (List.mem_cons_of_mem _ h)
  show l.foldl max y=m;omega
theorem ahH (g:Gm):oK g=dP g:=by
 unfold oK dP;have hw:(walkT g).1=(bI g.nodes (g.nodes.length+1) 0 0 0).1:=rM _ _ _ _ _ _ _;split
 ·rfl
 ·rename_i hsz
  split
  ·rfl
  ·rename_i hne
   rw[hw];split
   ·rfl
   ·rename_i hN
    have hin:BF g:=nC (by simpa using hne);have hp:0 < g.nodes.length:=by unfold iL at hsz; omega
    have hd:=wH g.nodes (g.nodes.length+1) 0 (-1) 0 ⟨List.replicate g.nodes.length 0,List.replicate g.nodes.length 0,List.replicate g.nodes.length 0⟩ (-1) ⟨by simp,by simp,by simp⟩;have hd0:=wH g.nodes (g.nodes.length+1) 0 (-1) 0 ⟨List.replicate g.nodes.length 0,List.replicate g.nodes.length 0,List.replicate g.nodes.length 0⟩ 0 ⟨by simp,by simp,by simp⟩;have hee:bI g.nodes (g.nodes.length+1) 0 0 (-1)=bI g.nodes (g.nodes.length+1) 0 0 0:=by
     obtain⟨n0,hn0⟩:=ay hp;unfold bI; rw[hn0]; rfl
    rw[hee] at hd;have hlen:=mF (N:=g.nodes.length) g.nodes (g.nodes.length+1) 0 (-1) 0 ⟨List.replicate g.nodes.length 0,List.replicate g.nodes.length 0,List.replicate g.nodes.length 0⟩ ⟨by simp,by simp,by simp⟩;have hT:walkT g=bU g.nodes (g.nodes.length+1) 0 (-1) 0 ⟨List.replicate g.nodes.length 0,List.replicate g.nodes.length 0,List.replicate g.nodes.length 0⟩:=rfl;rw[← hT] at hd hd0 hlen;have hN':(walkT g).1=(g.nodes.length:Int):=by rw[hw]; simpa using hN
    rw[hN'] at hd hd0;have hd:=hd (by omega);have hle:=(hd0 (by omega)).le;clear hd0;have hmax:maxL (walkT g).2.d=(bI g.nodes (g.nodes.length+1) 0 0 0).2:=by
     generalize (bI g.nodes (g.nodes.length+1) 0 0 0).2=mx at hd hle;have hb:∀ x∈(walkT g).2.d,x≤mx:=by
      intro x hx;obtain⟨i,hi⟩:=List.getElem?_of_mem hx;exact hd.below i x (by omega) (by have:=aG hi; rw[hlen.d] at this; omega) hi
     rcases hd.hit with e | ⟨i,_,_,hi⟩
     ·omega
     ·exact afw (List.mem_of_getElem? hi) hb
    rw[hmax,adT hin]
theorem qP {g:Gm} (h:dP g=0):cZ g.ak g.infos.length g.nodes=0∧kH g=0:=by
 unfold dP at h;split at h
 ·omega
 ·split at h
  ·rename_i h2; exact absurd h h2
  ·rename_i h2
   split at h
   ·omega
   ·split at h
    ·omega
    ·exact⟨by simpa using h2,h⟩
theorem zi {g:Gm} (h:dP g=0):∀ i∈g.infos,i.actions≤10:=by
 intro inf hin;obtain⟨s,hs⟩:=List.getElem?_of_mem hin;have hsl:s < g.infos.length:=aG hs;obtain⟨h2,h5⟩:=qP h;unfold kH at h5;split at h5
 ·omega
 rename_i ht
 split at h5
 ·omega
 rename_i hn
 have hm:=jY (abm h).infos hsl;have hne:(eG g.nodes s g.nodes.length).length≠0:=fun e=>by
  apply hn
  unfold lY;exact List.any_eq_true.2 ⟨_,List.mem_of_getElem? hm,decide_eq_true e⟩
 obtain⟨x,hx⟩:=List.exists_mem_of_length_pos (Nat.pos_of_ne_zero hne);obtain⟨k,rfl,hk,hmv⟩:=xg.1 hx;unfold mv at hmv;split at hmv
 ·rename_i n hnk
  simp only[Bool.and_eq_true,decide_eq_true_eq] at hmv;have hmem:=List.mem_of_getElem? hnk;have e1:=iC h2 n hmem;unfold aN at e1;rw[if_neg (by omega),if_pos hmv.1] at e1;unfold dK at e1;split at e1
  ·omega
  ·rename_i h3
   have e2:dF g.infos n=false:=by
    cases hb:dF g.infos n with
    | false=>rfl
    | true=>exact absurd (List.any_eq_true.2 ⟨n,hmem,hb⟩) ht
   unfold dF at e2;rw[decide_eq_true hmv.1,Bool.true_and,Bool.or_eq_false_iff,hmv.2,List.getD_eq_getElem?_getD,hs] at e2;have e3:=of_decide_eq_false e2.2;simp only[Option.getD_some] at e3;omega
 ·cases hmv
end Go.Proofs.YtkcheepafifjaaaGreatDoor

/- recall.walked and recall.Form -/
import Derived.Test.YtkcheepafifjaaaGreatDoorF28
import Derived.Deep.CutRange
set_option linter.all false
set_option maxRecDepth 100000
set_option maxHeartbeats 12800000
namespace Go.Proofs.YtkcheepafifjaaaGreatDoor
open Lib renaming hid → Ac
open List renaming getElem_toArray → lq1, getElem_cons_zero → lq2, getElem_cons_succ → lq3, setIfInBounds_toArray → lq4, set_cons_zero → lq5, set_cons_succ → lq6
open Go.RowKit
def walkT (g:Gm):Int×Tri:=bP g.nodes (g.nodes.length+1) 0 (-1) 0 ⟨List.replicate g.nodes.length 0,List.replicate g.nodes.length 0,List.replicate g.nodes.length 0⟩
def qF (g:Gm):Int :=
 if kQ g then 2 else if cZ g.au g.infos.length g.nodes≠0 then cZ g.au g.infos.length g.nodes
 else if (walkT g).1≠g.nodes.length then 9 else if 40 < maxL (walkT g).2.d then 5 else iE g
def DK (g:Gm) (B:Nat) (v:Value) (w':World):Prop:=∃ vp,v = .tuple #[vp,.int .i64 (qF g)] ∧
 (qF g=0→∃ p bp bd bl A c Ai ci,vp = .pointer (some ⟨p,0,none⟩)∧BJ w' p bp bd bl g.au A g.nodes.length c Ai g.infos.length ci (walkT g).2∧B≤p∧B≤bp∧B≤bd∧B≤bl)
theorem ifT {c:Bool} {p q:Prop} (h:c=true) (hp:p):if c=true then p else q:=by rw[if_pos h]; exact hp
theorem aW {P:Program} (w:World) {o:Oper} {a:Act} {K:Act→World→Prop} {Q:Exit→Act→World→Prop} (l c:Operand) (t:TypeId) (hop:o.op=Op.makeSlice t l c)
  (e:TypeId) (z:Value) (bytes:Nat) (ht:P.underlying t=some (.slice e)) (hinfo:(P.info? e).map (fun i=>(i.zero,i.size,i.bytes))=some (some z,1,bytes)) (hz1:z.cells = #[z])
  (n:Nat) (hl:a.eval l = .int .i64 (n:Int)) (hc:a.eval c = .int .i64 (n:Int)) (hn:n≤1000000) (hb:bytes≤1000)
  (hK:∀ w1,Below w.heap.size w w1→w1.heap.size=w.heap.size+1→Row w1 w.heap.size e (List.replicate n z)→K (a.put o.dst (.slice (some ⟨w.heap.size,0,none⟩) n n)) w1) :
  Oper.wp P o a w K Q:=by
 have hbytes:bytes*n≤281474976710656:=by
  have:bytes*n≤1000*1000000:=Nat.mul_le_mul hb hn;omega
 have hrun:=run_make_row' (P:=P) t e z bytes ht hinfo hz1 .i64 .i64 n hbytes (by omega) w;unfold Oper.wp;simp[execOp,hop,hl,hc,hrun,Result.andThen];have hbel:Below w.heap.size w (w.alloc (.cells (madeCells #[z] n) e)):=(Below.refl _ _).alloc (Nat.le_refl _) _;exact hK _ hbel (by simp) (Row.made w z n e)
theorem aeW (w:World) (F:Ag) (u:Value) (g:Gm) (hg:AX w F u g) (hsm:Small g) :
  Calls Tryz.prog 137 #[u] w (Ret w (DK g w.heap.size)):=by
 have HG:=Ac hg;obtain⟨vn,vi,rfl,⟨A,c,rfl,hc,hN⟩,⟨Ai,ci,rfl,hci,hI⟩⟩:=hg;have HN:=Ac hN; have HI:=Ac hI; clear hN hI;have hn:=hsm.nodes;have hni:=hsm.infos;have HS:=Ac hsm; clear hsm;by_cases q0:g.au < 1
 ·have HF:=Ac (show qF g=2 by unfold qF; rw[if_pos (by unfold kQ; omega)]);go_enter Tryz.func137,Tryz.ntmps137;go_wp2
  go_ret2;exact⟨_,rfl,(Below.refl _ _).alloc (Nat.le_refl _) _,.pointer none,by rw[HF.out]; rfl,by rw[HF.out]; intro h; simp at h⟩
 have d0:decide (g.au < 1)=false:=decide_eq_false (by omega);by_cases q1:4 < g.au
 ·have HF:=Ac (show qF g=2 by unfold qF; rw[if_pos (by unfold kQ; omega)]);go_enter Tryz.func137,Tryz.ntmps137;go_wp2
  go_ret2;exact⟨_,rfl,(Below.refl _ _).alloc (Nat.le_refl _) _,.pointer none,by rw[HF.out]; rfl,by rw[HF.out]; intro h; simp at h⟩
 have d1:decide ((4:Int) < g.au)=false:=decide_eq_false (by omega);by_cases q2:g.nodes.length < 1
 ·have HF:=Ac (show qF g=2 by unfold qF; rw[if_pos (by unfold kQ; omega)]);go_enter Tryz.func137,Tryz.ntmps137;go_wp2
  go_ret2;exact⟨_,rfl,(Below.refl _ _).alloc (Nat.le_refl _) _,.pointer none,by rw[HF.out]; rfl,by rw[HF.out]; intro h; simp at h⟩
 have d2:decide ((g.nodes.length:Int) < 1)=false:=decide_eq_false (by omega);have d3:decide ((2000:Int) < (g.nodes.length:Int))=false:=decide_eq_false (by omega);have d4:decide ((200:Int) < (g.infos.length:Int))=false:=decide_eq_false (by omega);have HE:=Ac (show qF g=if cZ g.au g.infos.length g.nodes≠0 then cZ g.au g.infos.length g.nodes
   else if (walkT g).1≠g.nodes.length then 9 else if 40 < maxL (walkT g).2.d then 5 else iE g by unfold qF; rw[if_neg (by unfold kQ; omega)])
 obtain⟨b,o,rfl,hbF,hb,hcell⟩:=HN.out (by omega);have HC:=Ac hcell; clear hcell;go_enter Tryz.func137,Tryz.ntmps137;go_wp2_with fail
 go_loopw [42] (fun i wr=>∃ k:Nat,k≤g.nodes.length∧i = .int .i64 k∧Row wr w.heap.size 25 [.int .i64 g.au,.slice (some ⟨b,o,none⟩) g.nodes.length c,.slice Ai g.infos.length ci]∧Row wr (w.heap.size+1) 203 [.int .i64 g.au,.slice (some ⟨b,o,none⟩) g.nodes.length c,.slice Ai g.infos.length ci,.slice none 0 0,.slice none 0 0,.slice none 0 0]∧Below w.heap.size w wr∧cZ g.au g.infos.length g.nodes=cZ g.au g.infos.length (g.nodes.drop k)) (fun i _=>g.nodes.length - (intOf i).toNat)
 case atStart =>
  refine⟨0,by omega,rfl,(Row.new w _ _).alloc _,?_,?_,rfl⟩
  ·have:=Row.new (w.alloc (.cells #[.int .i64 g.au,.slice (some ⟨b,o,none⟩) g.nodes.length c,.slice Ai g.infos.length ci] 25)) 203 #[.int .i64 g.au,.slice (some ⟨b,o,none⟩) g.nodes.length c,.slice Ai g.infos.length ci,.slice none 0 0,.slice none 0 0,.slice none 0 0];simpa using this
  ·exact tK _ _ _ 0
 case round =>
  obtain⟨k,hk,rfl,hbx,hwk,hbel,hval⟩:=hrel;have HV:=Ac hval; clear hval;by_cases hlt:k < g.nodes.length
  ·obtain⟨x,hx⟩:=aB hlt;obtain⟨e0,e1,e2,⟨v3,e3,i3⟩,⟨v4,e4,i4⟩,⟨v5,e5,i5⟩⟩:=HC.out k x hx;obtain⟨A3,c3,rfl,hc3,h3⟩:=i3;obtain⟨A4,c4,rfl,hc4,h4⟩:=i4;obtain⟨A5,c5,rfl,hc5,h5⟩:=i5;have V:=Ac (show Bf w F _ x from⟨_,_,_,rfl,⟨A3,c3,rfl,hc3,h3⟩,⟨A4,c4,rfl,hc4,h4⟩,⟨A5,c5,rfl,hc5,h5⟩⟩);clear h3 h4 h5;have M:=List.mem_of_getElem? hx;have HL:=Ac (show x.next.length < 1000000∧x.weights.length < 1000000∧x.pay.length < 1000000 from⟨by have:=HS.out.next x M; omega,by have:=HS.out.weights x M; omega,by have:=HS.out.pay x M; omega⟩);clear M;have HV2:=Ac (HV.out.trans (aa2 hx)); clear hx;have hold:=aO hbel;have hwl:=hwk.lt;go_wp2_with fail
   obtain⟨W,hW,_,hWb,hWz⟩:=fH wr 67 #[.int .i64 x.kind,.int .i64 x.aA,.int .i64 x.info,.slice A3 x.next.length c3,.slice A4 x.weights.length c4,.slice A5 x.pay.length c5];rw[← hW];clear hW;have dV:=hbx.below hWb hbx.lt;have lM:=hwk.below hWb hwk.lt;have uH:=hbel.trans (hWb.mono hbel.size);clear hbx hwk hbel hold;refine(agy _ F (w.heap.size+1) _ g.au g.infos.length x ⟨lM.cell rfl,_,_,lM.cell rfl⟩ (V.out.on (Below.same' uH F)) HL.out (by omega) (by omega) lM.lt).mono ?_;rintro e w1 ⟨_,rfl,hb1,rfl⟩;have hbx2:=dV.below hb1 dV.lt;have iF:=lM.below hb1 lM.lt;have jL:=uH.trans (hb1.mono uH.size);clear dV lM uH hb1 hWb hWz;dsimp only;generalize dU g.au g.infos.length x=er at *;by_cases he:er=0
   ·subst he;go_wp2
    go_roundw
    case rel=>exact⟨k+1,by omega,by go_num,hbx2,iF,jL,by rw[HV2.out]; simp⟩
    case measure=>simp[intOf]; omega
   ·have hd:(er != 0)=true:=by simp[he]
    have HF:=Ac (show qF g=er by rw[HE.out,HV2.out]; simp[he]);have HNZ:=Ac he;clear he;go_wp2
    go_ret2;exact⟨_,rfl,jL,.pointer none,by rw[HF.out]; rfl,by rw[HF.out]; intro h; exact absurd h HNZ.out⟩
  ·have HE2:=Ac (show qF g=if (walkT g).1≠g.nodes.length then 9 else if 40 < maxL (walkT g).2.d then 5 else iE g by
    rw[HE.out,HV.out,List.drop_eq_nil_of_le (by omega)]; simp[cZ])
   have HIN:=Ac (qZ (g:=g) (by rw[HV.out,List.drop_eq_nil_of_le (by omega)]; rfl));have hbl:=hbx.lt;have hwl:=hwk.lt;go_upto_region 11 with fail
   go_cut [] from 53 to 73 (fun wx=>∃ bp bd bl,BJ wx (w.heap.size+1) bp bd bl g.au (some ⟨b,o,none⟩) g.nodes.length c Ai g.infos.length ci ⟨List.replicate g.nodes.length 0,List.replicate g.nodes.length 0,List.replicate g.nodes.length 0⟩∧Row wx w.heap.size 25 [.int .i64 g.au,.slice (some ⟨b,o,none⟩) g.nodes.length c,.slice Ai g.infos.length ci]∧Below w.heap.size w wx∧w.heap.size+1 < bp∧w.heap.size+1 < bd∧w.heap.size+1 < bl∧bp≠bd∧bp≠bl∧bd≠bl)
   case first =>
    refine wp_region_held_drew (S:=fun w'=>w'.cell? ⟨w.heap.size,1,none⟩=some (.slice (some ⟨b,o,none⟩) g.nodes.length c)) (by kernel_rfl) (hbx.cell rfl) (fun hHeld=>?_);refine tk0 [0,1,2,3,4,5,7,8,9,11,12,13] ?_;iterate 12 (refine tk (v:=?_) rfl (by kernel_rfl) (by kernel_rfl) (by kernel_rfl) (fun _ _ _ h=>h) (Or.inl ⟨by rfl,?_⟩) hHeld ?_;rotate_left;(focus intro wx hSx;(try dsimp only at hSx);go_split_ands;go_simp;try with_reducible rfl);try simp only[Act.put,lq1,lq2,lq3,lq4,lq5,lq6])
    refine tk1 ?_;obtain⟨w0,hw0⟩:∃ W,W=wr.drew:=⟨_,rfl⟩;have hbx0:Row w0 _ _ _:=hw0▸hbx.drew;have hwk0:Row w0 _ _ _:=hw0▸hwk.drew;have hB0:Below w.heap.size w w0:=hw0▸hbel.drew;rw[← hw0] at hHeld ⊢;clear hw0 hbx hwk hbel hwl hbl;refine wpAnyH_ready (rs:=[6,10,14]) (by decide +kernel) (by simp) ?_;refine(AllReadyH.cons (o:=_) rfl (fun K hK=>?_) (AllReadyH.cons (o:=_) rfl (fun K hK=>?_) (AllReadyH.cons (o:=_) rfl (fun K hK=>?_) AllReadyH.nil)))
    ·refine ifT rfl ?_;refine aW _ _ _ 57 rfl 3 (.int .i64 0) 8 Tryz.underlying57 Tryz.infoInt rfl g.nodes.length rfl rfl (by omega) (by omega) ?_;intro w1 hb hz aat;have g6:w.heap.size+1 < w0.heap.size:=hwk0.lt;have dV:=hbx0.below hb hbx0.lt;have lM:=hwk0.below hb hwk0.lt;have hB1:Below w.heap.size w w1:=hB0.trans (hb.mono hB0.size);clear hb hz;refine hK.out _ _ (dV.cell rfl) (fun hHeld=>?_);clear hK K;try simp only[Act.put,lq1,lq2,lq3,lq4,lq5,lq6]
     refine tk0 [15,16] ?_;iterate 2 (refine tk (v:=?_) rfl (by kernel_rfl) (by kernel_rfl) (by kernel_rfl) (fun _ _ _ h=>h) (Or.inl ⟨by rfl,?_⟩) hHeld ?_;rotate_left;(focus intro wx hSx;(try dsimp only at hSx);go_split_ands;go_simp;try with_reducible rfl);try simp only[Act.put,lq1,lq2,lq3,lq4,lq5,lq6])
     refine tk1 ?_;refine wpAnyH_ready (rs:=[10,14,17]) (by decide +kernel) (by simp) ?_;refine(AllReadyH.cons (o:=_) rfl (fun K hK=>?_) (AllReadyH.cons (o:=_) rfl (fun K hK=>?_) (AllReadyH.cons (o:=_) rfl (fun K hK=>?_) AllReadyH.nil)))
     ·refine ifT rfl ?_;refine aW _ _ _ 57 rfl 3 (.int .i64 0) 8 Tryz.underlying57 Tryz.infoInt rfl g.nodes.length rfl rfl (by omega) (by omega) ?_;intro w2 hb hz jP;have g10:w.heap.size+1 < w1.heap.size:=lM.lt;have abC:=aat.lt;have je:=aat.below hb aat.lt;have hbx2:=dV.below hb dV.lt;have iF:=lM.below hb lM.lt;have hB2:Below w.heap.size w w2:=hB1.trans (hb.mono hB1.size);clear hb hz;refine hK.out _ _ (hbx2.cell rfl) (fun hHeld=>?_);clear hK K;try simp only[Act.put,lq1,lq2,lq3,lq4,lq5,lq6]
      refine wpAnyH_ready (rs:=[14,17]) (by decide +kernel) (by simp) ?_;refine(AllReadyH.cons (o:=_) rfl (fun K hK=>?_) (AllReadyH.cons (o:=_) rfl (fun K hK=>?_) AllReadyH.nil))
      ·refine ifT rfl ?_;refine aW _ _ _ 57 rfl 3 (.int .i64 0) 8 Tryz.underlying57 Tryz.infoInt rfl g.nodes.length rfl rfl (by omega) (by omega) ?_;intro w3 hb hz gY;have g14:w.heap.size+1 < w2.heap.size:=iF.lt;have wL:=je.lt;have fB:=je.below hb je.lt;have sQ:=jP.lt;have fO:=jP.below hb jP.lt;have gU:=hbx2.below hb hbx2.lt;have fG:=iF.below hb iF.lt;have hB3:Below w.heap.size w w3:=hB2.trans (hb.mono hB2.size);clear hb hz;refine hK.out _ _ (gU.cell rfl) (fun hHeld=>?_);clear hK K;try simp only[Act.put,lq1,lq2,lq3,lq4,lq5,lq6]
       refine wpAnyH_ready (rs:=[17]) (by decide +kernel) (by simp) ?_;refine(AllReadyH.cons (o:=_) rfl (fun K hK=>?_) AllReadyH.nil)
       ·have yy:=fG.cell (i:=3) rfl;have ff:=fG.frozen 3;go_simp;obtain⟨w4,hw⟩:∃ W,W=w3.setCell ⟨w.heap.size+1,3,none⟩ (.slice (some ⟨w0.heap.size,0,none⟩) g.nodes.length g.nodes.length):=⟨_,rfl⟩;rw[← hw];have gI:=sto hw gU (by simp);have eF:=ste hw fG;have fP:=sto hw fB (by simp; omega);have dG:=sto hw fO (by simp; omega);have gZ:=sto hw gY (by simp; omega);have hB4:=stb hw hB3 (by simp);clear hw yy ff;refine hK.out _ _ (gI.cell rfl) (fun hHeld=>?_);clear hK K;try simp only[Act.put,lq1,lq2,lq3,lq4,lq5,lq6]
        refine tk0 [18,19] ?_;iterate 2 (refine tk (v:=?_) rfl (by kernel_rfl) (by kernel_rfl) (by kernel_rfl) (fun _ _ _ h=>h) (Or.inl ⟨by rfl,?_⟩) hHeld ?_;rotate_left;(focus intro wx hSx;(try dsimp only at hSx);go_split_ands;go_simp;try with_reducible rfl);try simp only[Act.put,lq1,lq2,lq3,lq4,lq5,lq6])
        refine tk1 ?_;refine wpAnyH_ready (rs:=[20]) (by decide +kernel) (by simp) ?_;refine(AllReadyH.cons (o:=_) rfl (fun K hK=>?_) AllReadyH.nil)
        ·have yy:=eF.cell (i:=4) rfl;have ff:=eF.frozen 4;go_simp;obtain⟨w5,hw⟩:∃ W,W=w4.setCell ⟨w.heap.size+1,4,none⟩ (.slice (some ⟨w1.heap.size,0,none⟩) g.nodes.length g.nodes.length):=⟨_,rfl⟩;rw[← hw];have iG:=sto hw gI (by simp);have eG:=ste hw eF;have iH:=sto hw fP (by simp; omega);have eH:=sto hw dG (by simp; omega);have eP:=sto hw gZ (by simp; omega);have hB5:=stb hw hB4 (by simp);clear hw yy ff;refine hK.out _ _ (iG.cell rfl) (fun hHeld=>?_);clear hK K;try simp only[Act.put,lq1,lq2,lq3,lq4,lq5,lq6]
         refine tk0 [21,22] ?_;iterate 2 (refine tk (v:=?_) rfl (by kernel_rfl) (by kernel_rfl) (by kernel_rfl) (fun _ _ _ h=>h) (Or.inl ⟨by rfl,?_⟩) hHeld ?_;rotate_left;(focus intro wx hSx;(try dsimp only at hSx);go_split_ands;go_simp;try with_reducible rfl);try simp only[Act.put,lq1,lq2,lq3,lq4,lq5,lq6])
         refine tk1 ?_;refine wpAnyH_ready (rs:=[23]) (by decide +kernel) (by simp) ?_;refine(AllReadyH.cons (o:=_) rfl (fun K hK=>?_) AllReadyH.nil)
         ·have yy:=eG.cell (i:=5) rfl;have ff:=eG.frozen 5;go_simp;obtain⟨w6,hw⟩:∃ W,W=w5.setCell ⟨w.heap.size+1,5,none⟩ (.slice (some ⟨w2.heap.size,0,none⟩) g.nodes.length g.nodes.length):=⟨_,rfl⟩;rw[← hw];have iI:=sto hw iG (by simp);have lV:=ste hw eG;have iJ:=sto hw iH (by simp; omega);have eU:=sto hw eH (by simp; omega);have eX:=sto hw eP (by simp; omega);have hB6:=stb hw hB5 (by simp);clear hw yy ff;refine hK.out _ _ (iI.cell rfl) (fun hHeld=>?_);clear hK K;try simp only[Act.put,lq1,lq2,lq3,lq4,lq5,lq6]
          refine wpAnyH_done (by kernel_rfl) ?_ _;clear hHeld;go_wp2_with fail
          go_meet
          exact⟨w0.heap.size,w1.heap.size,w2.heap.size,⟨lV,by simpa [bg] using iJ,by simpa [bg] using eU,by simpa [bg] using eX⟩,iI,hB6,g6,g10,g14,by omega,by omega,by omega⟩
      ·have yy:=iF.cell (i:=3) rfl;have ff:=iF.frozen 3;go_simp;obtain⟨w3,hw⟩:∃ W,W=w2.setCell ⟨w.heap.size+1,3,none⟩ (.slice (some ⟨w0.heap.size,0,none⟩) g.nodes.length g.nodes.length):=⟨_,rfl⟩;rw[← hw];have gU:=sto hw hbx2 (by simp);have fG:=ste hw iF;have fB:=sto hw je (by simp; omega);have fO:=sto hw jP (by simp; omega);have hB3:=stb hw hB2 (by simp);clear hw yy ff;refine hK.out _ _ (gU.cell rfl) (fun hHeld=>?_);clear hK K;try simp only[Act.put,lq1,lq2,lq3,lq4,lq5,lq6]
       refine tk0 [18,19] ?_;iterate 2 (refine tk (v:=?_) rfl (by kernel_rfl) (by kernel_rfl) (by kernel_rfl) (fun _ _ _ h=>h) (Or.inl ⟨by rfl,?_⟩) hHeld ?_;rotate_left;(focus intro wx hSx;(try dsimp only at hSx);go_split_ands;go_simp;try with_reducible rfl);try simp only[Act.put,lq1,lq2,lq3,lq4,lq5,lq6])
       refine tk1 ?_;refine wpAnyH_ready (rs:=[14,20]) (by decide +kernel) (by simp) ?_;refine(AllReadyH.cons (o:=_) rfl (fun K hK=>?_) (AllReadyH.cons (o:=_) rfl (fun K hK=>?_) AllReadyH.nil))
       ·refine ifT rfl ?_;refine aW _ _ _ 57 rfl 3 (.int .i64 0) 8 Tryz.underlying57 Tryz.infoInt rfl g.nodes.length rfl rfl (by omega) (by omega) ?_;intro w4 hb hz gZ;have g14:w.heap.size+1 < w3.heap.size:=fG.lt;have wL:=fB.lt;have fP:=fB.below hb fB.lt;have sQ:=fO.lt;have dG:=fO.below hb fO.lt;have gI:=gU.below hb gU.lt;have eF:=fG.below hb fG.lt;have hB4:Below w.heap.size w w4:=hB3.trans (hb.mono hB3.size);clear hb hz;refine hK.out _ _ (gI.cell rfl) (fun hHeld=>?_);clear hK K;try simp only[Act.put,lq1,lq2,lq3,lq4,lq5,lq6]
        refine wpAnyH_ready (rs:=[20]) (by decide +kernel) (by simp) ?_;refine(AllReadyH.cons (o:=_) rfl (fun K hK=>?_) AllReadyH.nil)
        ·have yy:=eF.cell (i:=4) rfl;have ff:=eF.frozen 4;go_simp;obtain⟨w5,hw⟩:∃ W,W=w4.setCell ⟨w.heap.size+1,4,none⟩ (.slice (some ⟨w1.heap.size,0,none⟩) g.nodes.length g.nodes.length):=⟨_,rfl⟩;rw[← hw];have iG:=sto hw gI (by simp);have eG:=ste hw eF;have iH:=sto hw fP (by simp; omega);have eH:=sto hw dG (by simp; omega);have eP:=sto hw gZ (by simp; omega);have hB5:=stb hw hB4 (by simp);clear hw yy ff;refine hK.out _ _ (iG.cell rfl) (fun hHeld=>?_);clear hK K;try simp only[Act.put,lq1,lq2,lq3,lq4,lq5,lq6]
         refine tk0 [21,22] ?_;iterate 2 (refine tk (v:=?_) rfl (by kernel_rfl) (by kernel_rfl) (by kernel_rfl) (fun _ _ _ h=>h) (Or.inl ⟨by rfl,?_⟩) hHeld ?_;rotate_left;(focus intro wx hSx;(try dsimp only at hSx);go_split_ands;go_simp;try with_reducible rfl);try simp only[Act.put,lq1,lq2,lq3,lq4,lq5,lq6])
         refine tk1 ?_;refine wpAnyH_ready (rs:=[23]) (by decide +kernel) (by simp) ?_;refine(AllReadyH.cons (o:=_) rfl (fun K hK=>?_) AllReadyH.nil)
         ·have yy:=eG.cell (i:=5) rfl;have ff:=eG.frozen 5;go_simp;obtain⟨w6,hw⟩:∃ W,W=w5.setCell ⟨w.heap.size+1,5,none⟩ (.slice (some ⟨w3.heap.size,0,none⟩) g.nodes.length g.nodes.length):=⟨_,rfl⟩;rw[← hw];have iI:=sto hw iG (by simp);have lV:=ste hw eG;have iJ:=sto hw iH (by simp; omega);have eU:=sto hw eH (by simp; omega);have eX:=sto hw eP (by simp; omega);have hB6:=stb hw hB5 (by simp);clear hw yy ff;refine hK.out _ _ (iI.cell rfl) (fun hHeld=>?_);clear hK K;try simp only[Act.put,lq1,lq2,lq3,lq4,lq5,lq6]
          refine wpAnyH_done (by kernel_rfl) ?_ _;clear hHeld;go_wp2_with fail
          go_meet
          exact⟨w0.heap.size,w1.heap.size,w3.heap.size,⟨lV,by simpa [bg] using iJ,by simpa [bg] using eU,by simpa [bg] using eX⟩,iI,hB6,g6,g10,g14,by omega,by omega,by omega⟩
       ·have yy:=fG.cell (i:=4) rfl;have ff:=fG.frozen 4;go_simp;obtain⟨w4,hw⟩:∃ W,W=w3.setCell ⟨w.heap.size+1,4,none⟩ (.slice (some ⟨w1.heap.size,0,none⟩) g.nodes.length g.nodes.length):=⟨_,rfl⟩;rw[← hw];have gI:=sto hw gU (by simp);have eF:=ste hw fG;have fP:=sto hw fB (by simp; omega);have dG:=sto hw fO (by simp; omega);have hB4:=stb hw hB3 (by simp);clear hw yy ff;refine hK.out _ _ (gI.cell rfl) (fun hHeld=>?_);clear hK K;try simp only[Act.put,lq1,lq2,lq3,lq4,lq5,lq6]
        refine wpAnyH_ready (rs:=[14]) (by decide +kernel) (by simp) ?_;refine(AllReadyH.cons (o:=_) rfl (fun K hK=>?_) AllReadyH.nil)
        ·refine ifT rfl ?_;refine aW _ _ _ 57 rfl 3 (.int .i64 0) 8 Tryz.underlying57 Tryz.infoInt rfl g.nodes.length rfl rfl (by omega) (by omega) ?_;intro w5 hb hz eP;have g14:w.heap.size+1 < w4.heap.size:=eF.lt;have wL:=fP.lt;have iH:=fP.below hb fP.lt;have sQ:=dG.lt;have eH:=dG.below hb dG.lt;have iG:=gI.below hb gI.lt;have eG:=eF.below hb eF.lt;have hB5:Below w.heap.size w w5:=hB4.trans (hb.mono hB4.size);clear hb hz;refine hK.out _ _ (iG.cell rfl) (fun hHeld=>?_);clear hK K;try simp only[Act.put,lq1,lq2,lq3,lq4,lq5,lq6]
         refine tk0 [21,22] ?_;iterate 2 (refine tk (v:=?_) rfl (by kernel_rfl) (by kernel_rfl) (by kernel_rfl) (fun _ _ _ h=>h) (Or.inl ⟨by rfl,?_⟩) hHeld ?_;rotate_left;(focus intro wx hSx;(try dsimp only at hSx);go_split_ands;go_simp;try with_reducible rfl);try simp only[Act.put,lq1,lq2,lq3,lq4,lq5,lq6])
         refine tk1 ?_;refine wpAnyH_ready (rs:=[23]) (by decide +kernel) (by simp) ?_;refine(AllReadyH.cons (o:=_) rfl (fun K hK=>?_) AllReadyH.nil)
         ·have yy:=eG.cell (i:=5) rfl;have ff:=eG.frozen 5;go_simp;obtain⟨w6,hw⟩:∃ W,W=w5.setCell ⟨w.heap.size+1,5,none⟩ (.slice (some ⟨w4.heap.size,0,none⟩) g.nodes.length g.nodes.length):=⟨_,rfl⟩;rw[← hw];have iI:=sto hw iG (by simp);have lV:=ste hw eG;have iJ:=sto hw iH (by simp; omega);have eU:=sto hw eH (by simp; omega);have eX:=sto hw eP (by simp; omega);have hB6:=stb hw hB5 (by simp);clear hw yy ff;refine hK.out _ _ (iI.cell rfl) (fun hHeld=>?_);clear hK K;try simp only[Act.put,lq1,lq2,lq3,lq4,lq5,lq6]
          refine wpAnyH_done (by kernel_rfl) ?_ _;clear hHeld;go_wp2_with fail
          go_meet
          exact⟨w0.heap.size,w1.heap.size,w4.heap.size,⟨lV,by simpa [bg] using iJ,by simpa [bg] using eU,by simpa [bg] using eX⟩,iI,hB6,g6,g10,g14,by omega,by omega,by omega⟩
     ·refine ifT rfl ?_;refine aW _ _ _ 57 rfl 3 (.int .i64 0) 8 Tryz.underlying57 Tryz.infoInt rfl g.nodes.length rfl rfl (by omega) (by omega) ?_;intro w2 hb hz jQ;have g14:w.heap.size+1 < w1.heap.size:=lM.lt;have wL:=aat.lt;have je:=aat.below hb aat.lt;have hbx2:=dV.below hb dV.lt;have iF:=lM.below hb lM.lt;have hB2:Below w.heap.size w w2:=hB1.trans (hb.mono hB1.size);clear hb hz;refine hK.out _ _ (hbx2.cell rfl) (fun hHeld=>?_);clear hK K;try simp only[Act.put,lq1,lq2,lq3,lq4,lq5,lq6]
      refine wpAnyH_ready (rs:=[10,17]) (by decide +kernel) (by simp) ?_;refine(AllReadyH.cons (o:=_) rfl (fun K hK=>?_) (AllReadyH.cons (o:=_) rfl (fun K hK=>?_) AllReadyH.nil))
      ·refine ifT rfl ?_;refine aW _ _ _ 57 rfl 3 (.int .i64 0) 8 Tryz.underlying57 Tryz.infoInt rfl g.nodes.length rfl rfl (by omega) (by omega) ?_;intro w3 hb hz fO;have g10:w.heap.size+1 < w2.heap.size:=iF.lt;have abC:=je.lt;have fB:=je.below hb je.lt;have aau:=jQ.lt;have gY:=jQ.below hb jQ.lt;have gU:=hbx2.below hb hbx2.lt;have fG:=iF.below hb iF.lt;have hB3:Below w.heap.size w w3:=hB2.trans (hb.mono hB2.size);clear hb hz;refine hK.out _ _ (gU.cell rfl) (fun hHeld=>?_);clear hK K;try simp only[Act.put,lq1,lq2,lq3,lq4,lq5,lq6]
       refine wpAnyH_ready (rs:=[17]) (by decide +kernel) (by simp) ?_;refine(AllReadyH.cons (o:=_) rfl (fun K hK=>?_) AllReadyH.nil)
       ·have yy:=fG.cell (i:=3) rfl;have ff:=fG.frozen 3;go_simp;obtain⟨w4,hw⟩:∃ W,W=w3.setCell ⟨w.heap.size+1,3,none⟩ (.slice (some ⟨w0.heap.size,0,none⟩) g.nodes.length g.nodes.length):=⟨_,rfl⟩;rw[← hw];have gI:=sto hw gU (by simp);have eF:=ste hw fG;have fP:=sto hw fB (by simp; omega);have dG:=sto hw fO (by simp; omega);have gZ:=sto hw gY (by simp; omega);have hB4:=stb hw hB3 (by simp);clear hw yy ff;refine hK.out _ _ (gI.cell rfl) (fun hHeld=>?_);clear hK K;try simp only[Act.put,lq1,lq2,lq3,lq4,lq5,lq6]
        refine tk0 [18,19] ?_;iterate 2 (refine tk (v:=?_) rfl (by kernel_rfl) (by kernel_rfl) (by kernel_rfl) (fun _ _ _ h=>h) (Or.inl ⟨by rfl,?_⟩) hHeld ?_;rotate_left;(focus intro wx hSx;(try dsimp only at hSx);go_split_ands;go_simp;try with_reducible rfl);try simp only[Act.put,lq1,lq2,lq3,lq4,lq5,lq6])
        refine tk1 ?_;refine wpAnyH_ready (rs:=[20]) (by decide +kernel) (by simp) ?_;refine(AllReadyH.cons (o:=_) rfl (fun K hK=>?_) AllReadyH.nil)
        ·have yy:=eF.cell (i:=4) rfl;have ff:=eF.frozen 4;go_simp;obtain⟨w5,hw⟩:∃ W,W=w4.setCell ⟨w.heap.size+1,4,none⟩ (.slice (some ⟨w2.heap.size,0,none⟩) g.nodes.length g.nodes.length):=⟨_,rfl⟩;rw[← hw];have iG:=sto hw gI (by simp);have eG:=ste hw eF;have iH:=sto hw fP (by simp; omega);have eH:=sto hw dG (by simp; omega);have eP:=sto hw gZ (by simp; omega);have hB5:=stb hw hB4 (by simp);clear hw yy ff;refine hK.out _ _ (iG.cell rfl) (fun hHeld=>?_);clear hK K;try simp only[Act.put,lq1,lq2,lq3,lq4,lq5,lq6]
         refine tk0 [21,22] ?_;iterate 2 (refine tk (v:=?_) rfl (by kernel_rfl) (by kernel_rfl) (by kernel_rfl) (fun _ _ _ h=>h) (Or.inl ⟨by rfl,?_⟩) hHeld ?_;rotate_left;(focus intro wx hSx;(try dsimp only at hSx);go_split_ands;go_simp;try with_reducible rfl);try simp only[Act.put,lq1,lq2,lq3,lq4,lq5,lq6])
         refine tk1 ?_;refine wpAnyH_ready (rs:=[23]) (by decide +kernel) (by simp) ?_;refine(AllReadyH.cons (o:=_) rfl (fun K hK=>?_) AllReadyH.nil)
         ·have yy:=eG.cell (i:=5) rfl;have ff:=eG.frozen 5;go_simp;obtain⟨w6,hw⟩:∃ W,W=w5.setCell ⟨w.heap.size+1,5,none⟩ (.slice (some ⟨w1.heap.size,0,none⟩) g.nodes.length g.nodes.length):=⟨_,rfl⟩;rw[← hw];have iI:=sto hw iG (by simp);have lV:=ste hw eG;have iJ:=sto hw iH (by simp; omega);have eU:=sto hw eH (by simp; omega);have eX:=sto hw eP (by simp; omega);have hB6:=stb hw hB5 (by simp);clear hw yy ff;refine hK.out _ _ (iI.cell rfl) (fun hHeld=>?_);clear hK K;try simp only[Act.put,lq1,lq2,lq3,lq4,lq5,lq6]
          refine wpAnyH_done (by kernel_rfl) ?_ _;clear hHeld;go_wp2_with fail
          go_meet
          exact⟨w0.heap.size,w2.heap.size,w1.heap.size,⟨lV,by simpa [bg] using iJ,by simpa [bg] using eU,by simpa [bg] using eX⟩,iI,hB6,g6,g10,g14,by omega,by omega,by omega⟩
      ·have yy:=iF.cell (i:=3) rfl;have ff:=iF.frozen 3;go_simp;obtain⟨w3,hw⟩:∃ W,W=w2.setCell ⟨w.heap.size+1,3,none⟩ (.slice (some ⟨w0.heap.size,0,none⟩) g.nodes.length g.nodes.length):=⟨_,rfl⟩;rw[← hw];have gU:=sto hw hbx2 (by simp);have fG:=ste hw iF;have fB:=sto hw je (by simp; omega);have gY:=sto hw jQ (by simp; omega);have hB3:=stb hw hB2 (by simp);clear hw yy ff;refine hK.out _ _ (gU.cell rfl) (fun hHeld=>?_);clear hK K;try simp only[Act.put,lq1,lq2,lq3,lq4,lq5,lq6]
       refine wpAnyH_ready (rs:=[10]) (by decide +kernel) (by simp) ?_;refine(AllReadyH.cons (o:=_) rfl (fun K hK=>?_) AllReadyH.nil)
       ·refine ifT rfl ?_;refine aW _ _ _ 57 rfl 3 (.int .i64 0) 8 Tryz.underlying57 Tryz.infoInt rfl g.nodes.length rfl rfl (by omega) (by omega) ?_;intro w4 hb hz dG;have g10:w.heap.size+1 < w3.heap.size:=fG.lt;have abC:=fB.lt;have fP:=fB.below hb fB.lt;have aau:=gY.lt;have gZ:=gY.below hb gY.lt;have gI:=gU.below hb gU.lt;have eF:=fG.below hb fG.lt;have hB4:Below w.heap.size w w4:=hB3.trans (hb.mono hB3.size);clear hb hz;refine hK.out _ _ (gI.cell rfl) (fun hHeld=>?_);clear hK K;try simp only[Act.put,lq1,lq2,lq3,lq4,lq5,lq6]
        refine tk0 [18,19] ?_;iterate 2 (refine tk (v:=?_) rfl (by kernel_rfl) (by kernel_rfl) (by kernel_rfl) (fun _ _ _ h=>h) (Or.inl ⟨by rfl,?_⟩) hHeld ?_;rotate_left;(focus intro wx hSx;(try dsimp only at hSx);go_split_ands;go_simp;try with_reducible rfl);try simp only[Act.put,lq1,lq2,lq3,lq4,lq5,lq6])
        refine tk1 ?_;refine wpAnyH_ready (rs:=[20]) (by decide +kernel) (by simp) ?_;refine(AllReadyH.cons (o:=_) rfl (fun K hK=>?_) AllReadyH.nil)
        ·have yy:=eF.cell (i:=4) rfl;have ff:=eF.frozen 4;go_simp;obtain⟨w5,hw⟩:∃ W,W=w4.setCell ⟨w.heap.size+1,4,none⟩ (.slice (some ⟨w3.heap.size,0,none⟩) g.nodes.length g.nodes.length):=⟨_,rfl⟩;rw[← hw];have iG:=sto hw gI (by simp);have eG:=ste hw eF;have iH:=sto hw fP (by simp; omega);have eH:=sto hw dG (by simp; omega);have eP:=sto hw gZ (by simp; omega);have hB5:=stb hw hB4 (by simp);clear hw yy ff;refine hK.out _ _ (iG.cell rfl) (fun hHeld=>?_);clear hK K;try simp only[Act.put,lq1,lq2,lq3,lq4,lq5,lq6]
         refine tk0 [21,22] ?_;iterate 2 (refine tk (v:=?_) rfl (by kernel_rfl) (by kernel_rfl) (by kernel_rfl) (fun _ _ _ h=>h) (Or.inl ⟨by rfl,?_⟩) hHeld ?_;rotate_left;(focus intro wx hSx;(try dsimp only at hSx);go_split_ands;go_simp;try with_reducible rfl);try simp only[Act.put,lq1,lq2,lq3,lq4,lq5,lq6])
         refine tk1 ?_;refine wpAnyH_ready (rs:=[23]) (by decide +kernel) (by simp) ?_;refine(AllReadyH.cons (o:=_) rfl (fun K hK=>?_) AllReadyH.nil)
         ·have yy:=eG.cell (i:=5) rfl;have ff:=eG.frozen 5;go_simp;obtain⟨w6,hw⟩:∃ W,W=w5.setCell ⟨w.heap.size+1,5,none⟩ (.slice (some ⟨w1.heap.size,0,none⟩) g.nodes.length g.nodes.length):=⟨_,rfl⟩;rw[← hw];have iI:=sto hw iG (by simp);have lV:=ste hw eG;have iJ:=sto hw iH (by simp; omega);have eU:=sto hw eH (by simp; omega);have eX:=sto hw eP (by simp; omega);have hB6:=stb hw hB5 (by simp);clear hw yy ff;refine hK.out _ _ (iI.cell rfl) (fun hHeld=>?_);clear hK K;try simp only[Act.put,lq1,lq2,lq3,lq4,lq5,lq6]
          refine wpAnyH_done (by kernel_rfl) ?_ _;clear hHeld;go_wp2_with fail
          go_meet
          exact⟨w0.heap.size,w3.heap.size,w1.heap.size,⟨lV,by simpa [bg] using iJ,by simpa [bg] using eU,by simpa [bg] using eX⟩,iI,hB6,g6,g10,g14,by omega,by omega,by omega⟩
     ·have yy:=lM.cell (i:=3) rfl;have ff:=lM.frozen 3;go_simp;obtain⟨w2,hw⟩:∃ W,W=w1.setCell ⟨w.heap.size+1,3,none⟩ (.slice (some ⟨w0.heap.size,0,none⟩) g.nodes.length g.nodes.length):=⟨_,rfl⟩;rw[← hw];have hbx2:=sto hw dV (by simp);have iF:=ste hw lM;have je:=sto hw aat (by simp; omega);have hB2:=stb hw hB1 (by simp);clear hw yy ff;refine hK.out _ _ (hbx2.cell rfl) (fun hHeld=>?_);clear hK K;try simp only[Act.put,lq1,lq2,lq3,lq4,lq5,lq6]
      refine wpAnyH_ready (rs:=[10,14]) (by decide +kernel) (by simp) ?_;refine(AllReadyH.cons (o:=_) rfl (fun K hK=>?_) (AllReadyH.cons (o:=_) rfl (fun K hK=>?_) AllReadyH.nil))
      ·refine ifT rfl ?_;refine aW _ _ _ 57 rfl 3 (.int .i64 0) 8 Tryz.underlying57 Tryz.infoInt rfl g.nodes.length rfl rfl (by omega) (by omega) ?_;intro w3 hb hz fO;have g10:w.heap.size+1 < w2.heap.size:=iF.lt;have abC:=je.lt;have fB:=je.below hb je.lt;have gU:=hbx2.below hb hbx2.lt;have fG:=iF.below hb iF.lt;have hB3:Below w.heap.size w w3:=hB2.trans (hb.mono hB2.size);clear hb hz;refine hK.out _ _ (gU.cell rfl) (fun hHeld=>?_);clear hK K;try simp only[Act.put,lq1,lq2,lq3,lq4,lq5,lq6]
       refine tk0 [18,19] ?_;iterate 2 (refine tk (v:=?_) rfl (by kernel_rfl) (by kernel_rfl) (by kernel_rfl) (fun _ _ _ h=>h) (Or.inl ⟨by rfl,?_⟩) hHeld ?_;rotate_left;(focus intro wx hSx;(try dsimp only at hSx);go_split_ands;go_simp;try with_reducible rfl);try simp only[Act.put,lq1,lq2,lq3,lq4,lq5,lq6])
       refine tk1 ?_;refine wpAnyH_ready (rs:=[14,20]) (by decide +kernel) (by simp) ?_;refine(AllReadyH.cons (o:=_) rfl (fun K hK=>?_) (AllReadyH.cons (o:=_) rfl (fun K hK=>?_) AllReadyH.nil))
       ·refine ifT rfl ?_;refine aW _ _ _ 57 rfl 3 (.int .i64 0) 8 Tryz.underlying57 Tryz.infoInt rfl g.nodes.length rfl rfl (by omega) (by omega) ?_;intro w4 hb hz gZ;have g14:w.heap.size+1 < w3.heap.size:=fG.lt;have wL:=fB.lt;have fP:=fB.below hb fB.lt;have sQ:=fO.lt;have dG:=fO.below hb fO.lt;have gI:=gU.below hb gU.lt;have eF:=fG.below hb fG.lt;have hB4:Below w.heap.size w w4:=hB3.trans (hb.mono hB3.size);clear hb hz;refine hK.out _ _ (gI.cell rfl) (fun hHeld=>?_);clear hK K;try simp only[Act.put,lq1,lq2,lq3,lq4,lq5,lq6]
        refine wpAnyH_ready (rs:=[20]) (by decide +kernel) (by simp) ?_;refine(AllReadyH.cons (o:=_) rfl (fun K hK=>?_) AllReadyH.nil)
        ·have yy:=eF.cell (i:=4) rfl;have ff:=eF.frozen 4;go_simp;obtain⟨w5,hw⟩:∃ W,W=w4.setCell ⟨w.heap.size+1,4,none⟩ (.slice (some ⟨w2.heap.size,0,none⟩) g.nodes.length g.nodes.length):=⟨_,rfl⟩;rw[← hw];have iG:=sto hw gI (by simp);have eG:=ste hw eF;have iH:=sto hw fP (by simp; omega);have eH:=sto hw dG (by simp; omega);have eP:=sto hw gZ (by simp; omega);have hB5:=stb hw hB4 (by simp);clear hw yy ff;refine hK.out _ _ (iG.cell rfl) (fun hHeld=>?_);clear hK K;try simp only[Act.put,lq1,lq2,lq3,lq4,lq5,lq6]
         refine tk0 [21,22] ?_;iterate 2 (refine tk (v:=?_) rfl (by kernel_rfl) (by kernel_rfl) (by kernel_rfl) (fun _ _ _ h=>h) (Or.inl ⟨by rfl,?_⟩) hHeld ?_;rotate_left;(focus intro wx hSx;(try dsimp only at hSx);go_split_ands;go_simp;try with_reducible rfl);try simp only[Act.put,lq1,lq2,lq3,lq4,lq5,lq6])
         refine tk1 ?_;refine wpAnyH_ready (rs:=[23]) (by decide +kernel) (by simp) ?_;refine(AllReadyH.cons (o:=_) rfl (fun K hK=>?_) AllReadyH.nil)
         ·have yy:=eG.cell (i:=5) rfl;have ff:=eG.frozen 5;go_simp;obtain⟨w6,hw⟩:∃ W,W=w5.setCell ⟨w.heap.size+1,5,none⟩ (.slice (some ⟨w3.heap.size,0,none⟩) g.nodes.length g.nodes.length):=⟨_,rfl⟩;rw[← hw];have iI:=sto hw iG (by simp);have lV:=ste hw eG;have iJ:=sto hw iH (by simp; omega);have eU:=sto hw eH (by simp; omega);have eX:=sto hw eP (by simp; omega);have hB6:=stb hw hB5 (by simp);clear hw yy ff;refine hK.out _ _ (iI.cell rfl) (fun hHeld=>?_);clear hK K;try simp only[Act.put,lq1,lq2,lq3,lq4,lq5,lq6]
          refine wpAnyH_done (by kernel_rfl) ?_ _;clear hHeld;go_wp2_with fail
          go_meet
          exact⟨w0.heap.size,w2.heap.size,w3.heap.size,⟨lV,by simpa [bg] using iJ,by simpa [bg] using eU,by simpa [bg] using eX⟩,iI,hB6,g6,g10,g14,by omega,by omega,by omega⟩
       ·have yy:=fG.cell (i:=4) rfl;have ff:=fG.frozen 4;go_simp;obtain⟨w4,hw⟩:∃ W,W=w3.setCell ⟨w.heap.size+1,4,none⟩ (.slice (some ⟨w2.heap.size,0,none⟩) g.nodes.length g.nodes.length):=⟨_,rfl⟩;rw[← hw];have gI:=sto hw gU (by simp);have eF:=ste hw fG;have fP:=sto hw fB (by simp; omega);have dG:=sto hw fO (by simp; omega);have hB4:=stb hw hB3 (by simp);clear hw yy ff;refine hK.out _ _ (gI.cell rfl) (fun hHeld=>?_);clear hK K;try simp only[Act.put,lq1,lq2,lq3,lq4,lq5,lq6]
        refine wpAnyH_ready (rs:=[14]) (by decide +kernel) (by simp) ?_;refine(AllReadyH.cons (o:=_) rfl (fun K hK=>?_) AllReadyH.nil)
        ·refine ifT rfl ?_;refine aW _ _ _ 57 rfl 3 (.int .i64 0) 8 Tryz.underlying57 Tryz.infoInt rfl g.nodes.length rfl rfl (by omega) (by omega) ?_;intro w5 hb hz eP;have g14:w.heap.size+1 < w4.heap.size:=eF.lt;have wL:=fP.lt;have iH:=fP.below hb fP.lt;have sQ:=dG.lt;have eH:=dG.below hb dG.lt;have iG:=gI.below hb gI.lt;have eG:=eF.below hb eF.lt;have hB5:Below w.heap.size w w5:=hB4.trans (hb.mono hB4.size);clear hb hz;refine hK.out _ _ (iG.cell rfl) (fun hHeld=>?_);clear hK K;try simp only[Act.put,lq1,lq2,lq3,lq4,lq5,lq6]
         refine tk0 [21,22] ?_;iterate 2 (refine tk (v:=?_) rfl (by kernel_rfl) (by kernel_rfl) (by kernel_rfl) (fun _ _ _ h=>h) (Or.inl ⟨by rfl,?_⟩) hHeld ?_;rotate_left;(focus intro wx hSx;(try dsimp only at hSx);go_split_ands;go_simp;try with_reducible rfl);try simp only[Act.put,lq1,lq2,lq3,lq4,lq5,lq6])
         refine tk1 ?_;refine wpAnyH_ready (rs:=[23]) (by decide +kernel) (by simp) ?_;refine(AllReadyH.cons (o:=_) rfl (fun K hK=>?_) AllReadyH.nil)
         ·have yy:=eG.cell (i:=5) rfl;have ff:=eG.frozen 5;go_simp;obtain⟨w6,hw⟩:∃ W,W=w5.setCell ⟨w.heap.size+1,5,none⟩ (.slice (some ⟨w4.heap.size,0,none⟩) g.nodes.length g.nodes.length):=⟨_,rfl⟩;rw[← hw];have iI:=sto hw iG (by simp);have lV:=ste hw eG;have iJ:=sto hw iH (by simp; omega);have eU:=sto hw eH (by simp; omega);have eX:=sto hw eP (by simp; omega);have hB6:=stb hw hB5 (by simp);clear hw yy ff;refine hK.out _ _ (iI.cell rfl) (fun hHeld=>?_);clear hK K;try simp only[Act.put,lq1,lq2,lq3,lq4,lq5,lq6]
          refine wpAnyH_done (by kernel_rfl) ?_ _;clear hHeld;go_wp2_with fail
          go_meet
          exact⟨w0.heap.size,w2.heap.size,w4.heap.size,⟨lV,by simpa [bg] using iJ,by simpa [bg] using eU,by simpa [bg] using eX⟩,iI,hB6,g6,g10,g14,by omega,by omega,by omega⟩
      ·refine ifT rfl ?_;refine aW _ _ _ 57 rfl 3 (.int .i64 0) 8 Tryz.underlying57 Tryz.infoInt rfl g.nodes.length rfl rfl (by omega) (by omega) ?_;intro w3 hb hz gY;have g14:w.heap.size+1 < w2.heap.size:=iF.lt;have wL:=je.lt;have fB:=je.below hb je.lt;have gU:=hbx2.below hb hbx2.lt;have fG:=iF.below hb iF.lt;have hB3:Below w.heap.size w w3:=hB2.trans (hb.mono hB2.size);clear hb hz;refine hK.out _ _ (gU.cell rfl) (fun hHeld=>?_);clear hK K;try simp only[Act.put,lq1,lq2,lq3,lq4,lq5,lq6]
       refine wpAnyH_ready (rs:=[10]) (by decide +kernel) (by simp) ?_;refine(AllReadyH.cons (o:=_) rfl (fun K hK=>?_) AllReadyH.nil)
       ·refine ifT rfl ?_;refine aW _ _ _ 57 rfl 3 (.int .i64 0) 8 Tryz.underlying57 Tryz.infoInt rfl g.nodes.length rfl rfl (by omega) (by omega) ?_;intro w4 hb hz dG;have g10:w.heap.size+1 < w3.heap.size:=fG.lt;have abC:=fB.lt;have fP:=fB.below hb fB.lt;have aau:=gY.lt;have gZ:=gY.below hb gY.lt;have gI:=gU.below hb gU.lt;have eF:=fG.below hb fG.lt;have hB4:Below w.heap.size w w4:=hB3.trans (hb.mono hB3.size);clear hb hz;refine hK.out _ _ (gI.cell rfl) (fun hHeld=>?_);clear hK K;try simp only[Act.put,lq1,lq2,lq3,lq4,lq5,lq6]
        refine tk0 [18,19] ?_;iterate 2 (refine tk (v:=?_) rfl (by kernel_rfl) (by kernel_rfl) (by kernel_rfl) (fun _ _ _ h=>h) (Or.inl ⟨by rfl,?_⟩) hHeld ?_;rotate_left;(focus intro wx hSx;(try dsimp only at hSx);go_split_ands;go_simp;try with_reducible rfl);try simp only[Act.put,lq1,lq2,lq3,lq4,lq5,lq6])
        refine tk1 ?_;refine wpAnyH_ready (rs:=[20]) (by decide +kernel) (by simp) ?_;refine(AllReadyH.cons (o:=_) rfl (fun K hK=>?_) AllReadyH.nil)
        ·have yy:=eF.cell (i:=4) rfl;have ff:=eF.frozen 4;go_simp;obtain⟨w5,hw⟩:∃ W,W=w4.setCell ⟨w.heap.size+1,4,none⟩ (.slice (some ⟨w3.heap.size,0,none⟩) g.nodes.length g.nodes.length):=⟨_,rfl⟩;rw[← hw];have iG:=sto hw gI (by simp);have eG:=ste hw eF;have iH:=sto hw fP (by simp; omega);have eH:=sto hw dG (by simp; omega);have eP:=sto hw gZ (by simp; omega);have hB5:=stb hw hB4 (by simp);clear hw yy ff;refine hK.out _ _ (iG.cell rfl) (fun hHeld=>?_);clear hK K;try simp only[Act.put,lq1,lq2,lq3,lq4,lq5,lq6]
         refine tk0 [21,22] ?_;iterate 2 (refine tk (v:=?_) rfl (by kernel_rfl) (by kernel_rfl) (by kernel_rfl) (fun _ _ _ h=>h) (Or.inl ⟨by rfl,?_⟩) hHeld ?_;rotate_left;(focus intro wx hSx;(try dsimp only at hSx);go_split_ands;go_simp;try with_reducible rfl);try simp only[Act.put,lq1,lq2,lq3,lq4,lq5,lq6])
         refine tk1 ?_;refine wpAnyH_ready (rs:=[23]) (by decide +kernel) (by simp) ?_;refine(AllReadyH.cons (o:=_) rfl (fun K hK=>?_) AllReadyH.nil)
         ·have yy:=eG.cell (i:=5) rfl;have ff:=eG.frozen 5;go_simp;obtain⟨w6,hw⟩:∃ W,W=w5.setCell ⟨w.heap.size+1,5,none⟩ (.slice (some ⟨w2.heap.size,0,none⟩) g.nodes.length g.nodes.length):=⟨_,rfl⟩;rw[← hw];have iI:=sto hw iG (by simp);have lV:=ste hw eG;have iJ:=sto hw iH (by simp; omega);have eU:=sto hw eH (by simp; omega);have eX:=sto hw eP (by simp; omega);have hB6:=stb hw hB5 (by simp);clear hw yy ff;refine hK.out _ _ (iI.cell rfl) (fun hHeld=>?_);clear hK K;try simp only[Act.put,lq1,lq2,lq3,lq4,lq5,lq6]
          refine wpAnyH_done (by kernel_rfl) ?_ _;clear hHeld;go_wp2_with fail
          go_meet
          exact⟨w0.heap.size,w3.heap.size,w2.heap.size,⟨lV,by simpa [bg] using iJ,by simpa [bg] using eU,by simpa [bg] using eX⟩,iI,hB6,g6,g10,g14,by omega,by omega,by omega⟩
    ·refine ifT rfl ?_;refine aW _ _ _ 57 rfl 3 (.int .i64 0) 8 Tryz.underlying57 Tryz.infoInt rfl g.nodes.length rfl rfl (by omega) (by omega) ?_;intro w1 hb hz xW;have g10:w.heap.size+1 < w0.heap.size:=hwk0.lt;have dV:=hbx0.below hb hbx0.lt;have lM:=hwk0.below hb hwk0.lt;have hB1:Below w.heap.size w w1:=hB0.trans (hb.mono hB0.size);clear hb hz;refine hK.out _ _ (dV.cell rfl) (fun hHeld=>?_);clear hK K;try simp only[Act.put,lq1,lq2,lq3,lq4,lq5,lq6]
     refine wpAnyH_ready (rs:=[6,14]) (by decide +kernel) (by simp) ?_;refine(AllReadyH.cons (o:=_) rfl (fun K hK=>?_) (AllReadyH.cons (o:=_) rfl (fun K hK=>?_) AllReadyH.nil))
     ·refine ifT rfl ?_;refine aW _ _ _ 57 rfl 3 (.int .i64 0) 8 Tryz.underlying57 Tryz.infoInt rfl g.nodes.length rfl rfl (by omega) (by omega) ?_;intro w2 hb hz je;have g6:w.heap.size+1 < w1.heap.size:=lM.lt;have ajb:=xW.lt;have jP:=xW.below hb xW.lt;have hbx2:=dV.below hb dV.lt;have iF:=lM.below hb lM.lt;have hB2:Below w.heap.size w w2:=hB1.trans (hb.mono hB1.size);clear hb hz;refine hK.out _ _ (hbx2.cell rfl) (fun hHeld=>?_);clear hK K;try simp only[Act.put,lq1,lq2,lq3,lq4,lq5,lq6]
      refine tk0 [15,16] ?_;iterate 2 (refine tk (v:=?_) rfl (by kernel_rfl) (by kernel_rfl) (by kernel_rfl) (fun _ _ _ h=>h) (Or.inl ⟨by rfl,?_⟩) hHeld ?_;rotate_left;(focus intro wx hSx;(try dsimp only at hSx);go_split_ands;go_simp;try with_reducible rfl);try simp only[Act.put,lq1,lq2,lq3,lq4,lq5,lq6])
      refine tk1 ?_;refine wpAnyH_ready (rs:=[14,17]) (by decide +kernel) (by simp) ?_;refine(AllReadyH.cons (o:=_) rfl (fun K hK=>?_) (AllReadyH.cons (o:=_) rfl (fun K hK=>?_) AllReadyH.nil))
      ·refine ifT rfl ?_;refine aW _ _ _ 57 rfl 3 (.int .i64 0) 8 Tryz.underlying57 Tryz.infoInt rfl g.nodes.length rfl rfl (by omega) (by omega) ?_;intro w3 hb hz gY;have g14:w.heap.size+1 < w2.heap.size:=iF.lt;have wL:=je.lt;have fB:=je.below hb je.lt;have sQ:=jP.lt;have fO:=jP.below hb jP.lt;have gU:=hbx2.below hb hbx2.lt;have fG:=iF.below hb iF.lt;have hB3:Below w.heap.size w w3:=hB2.trans (hb.mono hB2.size);clear hb hz;refine hK.out _ _ (gU.cell rfl) (fun hHeld=>?_);clear hK K;try simp only[Act.put,lq1,lq2,lq3,lq4,lq5,lq6]
       refine wpAnyH_ready (rs:=[17]) (by decide +kernel) (by simp) ?_;refine(AllReadyH.cons (o:=_) rfl (fun K hK=>?_) AllReadyH.nil)
       ·have yy:=fG.cell (i:=3) rfl;have ff:=fG.frozen 3;go_simp;obtain⟨w4,hw⟩:∃ W,W=w3.setCell ⟨w.heap.size+1,3,none⟩ (.slice (some ⟨w1.heap.size,0,none⟩) g.nodes.length g.nodes.length):=⟨_,rfl⟩;rw[← hw];have gI:=sto hw gU (by simp);have eF:=ste hw fG;have fP:=sto hw fB (by simp; omega);have dG:=sto hw fO (by simp; omega);have gZ:=sto hw gY (by simp; omega);have hB4:=stb hw hB3 (by simp);clear hw yy ff;refine hK.out _ _ (gI.cell rfl) (fun hHeld=>?_);clear hK K;try simp only[Act.put,lq1,lq2,lq3,lq4,lq5,lq6]
        refine tk0 [18,19] ?_;iterate 2 (refine tk (v:=?_) rfl (by kernel_rfl) (by kernel_rfl) (by kernel_rfl) (fun _ _ _ h=>h) (Or.inl ⟨by rfl,?_⟩) hHeld ?_;rotate_left;(focus intro wx hSx;(try dsimp only at hSx);go_split_ands;go_simp;try with_reducible rfl);try simp only[Act.put,lq1,lq2,lq3,lq4,lq5,lq6])
        refine tk1 ?_;refine wpAnyH_ready (rs:=[20]) (by decide +kernel) (by simp) ?_;refine(AllReadyH.cons (o:=_) rfl (fun K hK=>?_) AllReadyH.nil)
        ·have yy:=eF.cell (i:=4) rfl;have ff:=eF.frozen 4;go_simp;obtain⟨w5,hw⟩:∃ W,W=w4.setCell ⟨w.heap.size+1,4,none⟩ (.slice (some ⟨w0.heap.size,0,none⟩) g.nodes.length g.nodes.length):=⟨_,rfl⟩;rw[← hw];have iG:=sto hw gI (by simp);have eG:=ste hw eF;have iH:=sto hw fP (by simp; omega);have eH:=sto hw dG (by simp; omega);have eP:=sto hw gZ (by simp; omega);have hB5:=stb hw hB4 (by simp);clear hw yy ff;refine hK.out _ _ (iG.cell rfl) (fun hHeld=>?_);clear hK K;try simp only[Act.put,lq1,lq2,lq3,lq4,lq5,lq6]
         refine tk0 [21,22] ?_;iterate 2 (refine tk (v:=?_) rfl (by kernel_rfl) (by kernel_rfl) (by kernel_rfl) (fun _ _ _ h=>h) (Or.inl ⟨by rfl,?_⟩) hHeld ?_;rotate_left;(focus intro wx hSx;(try dsimp only at hSx);go_split_ands;go_simp;try with_reducible rfl);try simp only[Act.put,lq1,lq2,lq3,lq4,lq5,lq6])
         refine tk1 ?_;refine wpAnyH_ready (rs:=[23]) (by decide +kernel) (by simp) ?_;refine(AllReadyH.cons (o:=_) rfl (fun K hK=>?_) AllReadyH.nil)
         ·have yy:=eG.cell (i:=5) rfl;have ff:=eG.frozen 5;go_simp;obtain⟨w6,hw⟩:∃ W,W=w5.setCell ⟨w.heap.size+1,5,none⟩ (.slice (some ⟨w2.heap.size,0,none⟩) g.nodes.length g.nodes.length):=⟨_,rfl⟩;rw[← hw];have iI:=sto hw iG (by simp);have lV:=ste hw eG;have iJ:=sto hw iH (by simp; omega);have eU:=sto hw eH (by simp; omega);have eX:=sto hw eP (by simp; omega);have hB6:=stb hw hB5 (by simp);clear hw yy ff;refine hK.out _ _ (iI.cell rfl) (fun hHeld=>?_);clear hK K;try simp only[Act.put,lq1,lq2,lq3,lq4,lq5,lq6]
          refine wpAnyH_done (by kernel_rfl) ?_ _;clear hHeld;go_wp2_with fail
          go_meet
          exact⟨w1.heap.size,w0.heap.size,w2.heap.size,⟨lV,by simpa [bg] using iJ,by simpa [bg] using eU,by simpa [bg] using eX⟩,iI,hB6,g6,g10,g14,by omega,by omega,by omega⟩
      ·have yy:=iF.cell (i:=3) rfl;have ff:=iF.frozen 3;go_simp;obtain⟨w3,hw⟩:∃ W,W=w2.setCell ⟨w.heap.size+1,3,none⟩ (.slice (some ⟨w1.heap.size,0,none⟩) g.nodes.length g.nodes.length):=⟨_,rfl⟩;rw[← hw];have gU:=sto hw hbx2 (by simp);have fG:=ste hw iF;have fB:=sto hw je (by simp; omega);have fO:=sto hw jP (by simp; omega);have hB3:=stb hw hB2 (by simp);clear hw yy ff;refine hK.out _ _ (gU.cell rfl) (fun hHeld=>?_);clear hK K;try simp only[Act.put,lq1,lq2,lq3,lq4,lq5,lq6]
       refine tk0 [18,19] ?_;iterate 2 (refine tk (v:=?_) rfl (by kernel_rfl) (by kernel_rfl) (by kernel_rfl) (fun _ _ _ h=>h) (Or.inl ⟨by rfl,?_⟩) hHeld ?_;rotate_left;(focus intro wx hSx;(try dsimp only at hSx);go_split_ands;go_simp;try with_reducible rfl);try simp only[Act.put,lq1,lq2,lq3,lq4,lq5,lq6])
       refine tk1 ?_;refine wpAnyH_ready (rs:=[14,20]) (by decide +kernel) (by simp) ?_;refine(AllReadyH.cons (o:=_) rfl (fun K hK=>?_) (AllReadyH.cons (o:=_) rfl (fun K hK=>?_) AllReadyH.nil))
       ·refine ifT rfl ?_;refine aW _ _ _ 57 rfl 3 (.int .i64 0) 8 Tryz.underlying57 Tryz.infoInt rfl g.nodes.length rfl rfl (by omega) (by omega) ?_;intro w4 hb hz gZ;have g14:w.heap.size+1 < w3.heap.size:=fG.lt;have wL:=fB.lt;have fP:=fB.below hb fB.lt;have sQ:=fO.lt;have dG:=fO.below hb fO.lt;have gI:=gU.below hb gU.lt;have eF:=fG.below hb fG.lt;have hB4:Below w.heap.size w w4:=hB3.trans (hb.mono hB3.size);clear hb hz;refine hK.out _ _ (gI.cell rfl) (fun hHeld=>?_);clear hK K;try simp only[Act.put,lq1,lq2,lq3,lq4,lq5,lq6]
        refine wpAnyH_ready (rs:=[20]) (by decide +kernel) (by simp) ?_;refine(AllReadyH.cons (o:=_) rfl (fun K hK=>?_) AllReadyH.nil)
        ·have yy:=eF.cell (i:=4) rfl;have ff:=eF.frozen 4;go_simp;obtain⟨w5,hw⟩:∃ W,W=w4.setCell ⟨w.heap.size+1,4,none⟩ (.slice (some ⟨w0.heap.size,0,none⟩) g.nodes.length g.nodes.length):=⟨_,rfl⟩;rw[← hw];have iG:=sto hw gI (by simp);have eG:=ste hw eF;have iH:=sto hw fP (by simp; omega);have eH:=sto hw dG (by simp; omega);have eP:=sto hw gZ (by simp; omega);have hB5:=stb hw hB4 (by simp);clear hw yy ff;refine hK.out _ _ (iG.cell rfl) (fun hHeld=>?_);clear hK K;try simp only[Act.put,lq1,lq2,lq3,lq4,lq5,lq6]
         refine tk0 [21,22] ?_;iterate 2 (refine tk (v:=?_) rfl (by kernel_rfl) (by kernel_rfl) (by kernel_rfl) (fun _ _ _ h=>h) (Or.inl ⟨by rfl,?_⟩) hHeld ?_;rotate_left;(focus intro wx hSx;(try dsimp only at hSx);go_split_ands;go_simp;try with_reducible rfl);try simp only[Act.put,lq1,lq2,lq3,lq4,lq5,lq6])
         refine tk1 ?_;refine wpAnyH_ready (rs:=[23]) (by decide +kernel) (by simp) ?_;refine(AllReadyH.cons (o:=_) rfl (fun K hK=>?_) AllReadyH.nil)
         ·have yy:=eG.cell (i:=5) rfl;have ff:=eG.frozen 5;go_simp;obtain⟨w6,hw⟩:∃ W,W=w5.setCell ⟨w.heap.size+1,5,none⟩ (.slice (some ⟨w3.heap.size,0,none⟩) g.nodes.length g.nodes.length):=⟨_,rfl⟩;rw[← hw];have iI:=sto hw iG (by simp);have lV:=ste hw eG;have iJ:=sto hw iH (by simp; omega);have eU:=sto hw eH (by simp; omega);have eX:=sto hw eP (by simp; omega);have hB6:=stb hw hB5 (by simp);clear hw yy ff;refine hK.out _ _ (iI.cell rfl) (fun hHeld=>?_);clear hK K;try simp only[Act.put,lq1,lq2,lq3,lq4,lq5,lq6]
          refine wpAnyH_done (by kernel_rfl) ?_ _;clear hHeld;go_wp2_with fail
          go_meet
          exact⟨w1.heap.size,w0.heap.size,w3.heap.size,⟨lV,by simpa [bg] using iJ,by simpa [bg] using eU,by simpa [bg] using eX⟩,iI,hB6,g6,g10,g14,by omega,by omega,by omega⟩
       ·have yy:=fG.cell (i:=4) rfl;have ff:=fG.frozen 4;go_simp;obtain⟨w4,hw⟩:∃ W,W=w3.setCell ⟨w.heap.size+1,4,none⟩ (.slice (some ⟨w0.heap.size,0,none⟩) g.nodes.length g.nodes.length):=⟨_,rfl⟩;rw[← hw];have gI:=sto hw gU (by simp);have eF:=ste hw fG;have fP:=sto hw fB (by simp; omega);have dG:=sto hw fO (by simp; omega);have hB4:=stb hw hB3 (by simp);clear hw yy ff;refine hK.out _ _ (gI.cell rfl) (fun hHeld=>?_);clear hK K;try simp only[Act.put,lq1,lq2,lq3,lq4,lq5,lq6]
        refine wpAnyH_ready (rs:=[14]) (by decide +kernel) (by simp) ?_;refine(AllReadyH.cons (o:=_) rfl (fun K hK=>?_) AllReadyH.nil)
        ·refine ifT rfl ?_;refine aW _ _ _ 57 rfl 3 (.int .i64 0) 8 Tryz.underlying57 Tryz.infoInt rfl g.nodes.length rfl rfl (by omega) (by omega) ?_;intro w5 hb hz eP;have g14:w.heap.size+1 < w4.heap.size:=eF.lt;have wL:=fP.lt;have iH:=fP.below hb fP.lt;have sQ:=dG.lt;have eH:=dG.below hb dG.lt;have iG:=gI.below hb gI.lt;have eG:=eF.below hb eF.lt;have hB5:Below w.heap.size w w5:=hB4.trans (hb.mono hB4.size);clear hb hz;refine hK.out _ _ (iG.cell rfl) (fun hHeld=>?_);clear hK K;try simp only[Act.put,lq1,lq2,lq3,lq4,lq5,lq6]
         refine tk0 [21,22] ?_;iterate 2 (refine tk (v:=?_) rfl (by kernel_rfl) (by kernel_rfl) (by kernel_rfl) (fun _ _ _ h=>h) (Or.inl ⟨by rfl,?_⟩) hHeld ?_;rotate_left;(focus intro wx hSx;(try dsimp only at hSx);go_split_ands;go_simp;try with_reducible rfl);try simp only[Act.put,lq1,lq2,lq3,lq4,lq5,lq6])
         refine tk1 ?_;refine wpAnyH_ready (rs:=[23]) (by decide +kernel) (by simp) ?_;refine(AllReadyH.cons (o:=_) rfl (fun K hK=>?_) AllReadyH.nil)
         ·have yy:=eG.cell (i:=5) rfl;have ff:=eG.frozen 5;go_simp;obtain⟨w6,hw⟩:∃ W,W=w5.setCell ⟨w.heap.size+1,5,none⟩ (.slice (some ⟨w4.heap.size,0,none⟩) g.nodes.length g.nodes.length):=⟨_,rfl⟩;rw[← hw];have iI:=sto hw iG (by simp);have lV:=ste hw eG;have iJ:=sto hw iH (by simp; omega);have eU:=sto hw eH (by simp; omega);have eX:=sto hw eP (by simp; omega);have hB6:=stb hw hB5 (by simp);clear hw yy ff;refine hK.out _ _ (iI.cell rfl) (fun hHeld=>?_);clear hK K;try simp only[Act.put,lq1,lq2,lq3,lq4,lq5,lq6]
          refine wpAnyH_done (by kernel_rfl) ?_ _;clear hHeld;go_wp2_with fail
          go_meet
          exact⟨w1.heap.size,w0.heap.size,w4.heap.size,⟨lV,by simpa [bg] using iJ,by simpa [bg] using eU,by simpa [bg] using eX⟩,iI,hB6,g6,g10,g14,by omega,by omega,by omega⟩
     ·refine ifT rfl ?_;refine aW _ _ _ 57 rfl 3 (.int .i64 0) 8 Tryz.underlying57 Tryz.infoInt rfl g.nodes.length rfl rfl (by omega) (by omega) ?_;intro w2 hb hz jQ;have g14:w.heap.size+1 < w1.heap.size:=lM.lt;have sQ:=xW.lt;have jP:=xW.below hb xW.lt;have hbx2:=dV.below hb dV.lt;have iF:=lM.below hb lM.lt;have hB2:Below w.heap.size w w2:=hB1.trans (hb.mono hB1.size);clear hb hz;refine hK.out _ _ (hbx2.cell rfl) (fun hHeld=>?_);clear hK K;try simp only[Act.put,lq1,lq2,lq3,lq4,lq5,lq6]
      refine wpAnyH_ready (rs:=[6]) (by decide +kernel) (by simp) ?_;refine(AllReadyH.cons (o:=_) rfl (fun K hK=>?_) AllReadyH.nil)
      ·refine ifT rfl ?_;refine aW _ _ _ 57 rfl 3 (.int .i64 0) 8 Tryz.underlying57 Tryz.infoInt rfl g.nodes.length rfl rfl (by omega) (by omega) ?_;intro w3 hb hz fB;have g6:w.heap.size+1 < w2.heap.size:=iF.lt;have ajb:=jP.lt;have fO:=jP.below hb jP.lt;have ajc:=jQ.lt;have gY:=jQ.below hb jQ.lt;have gU:=hbx2.below hb hbx2.lt;have fG:=iF.below hb iF.lt;have hB3:Below w.heap.size w w3:=hB2.trans (hb.mono hB2.size);clear hb hz;refine hK.out _ _ (gU.cell rfl) (fun hHeld=>?_);clear hK K;try simp only[Act.put,lq1,lq2,lq3,lq4,lq5,lq6]
       refine tk0 [15,16] ?_;iterate 2 (refine tk (v:=?_) rfl (by kernel_rfl) (by kernel_rfl) (by kernel_rfl) (fun _ _ _ h=>h) (Or.inl ⟨by rfl,?_⟩) hHeld ?_;rotate_left;(focus intro wx hSx;(try dsimp only at hSx);go_split_ands;go_simp;try with_reducible rfl);try simp only[Act.put,lq1,lq2,lq3,lq4,lq5,lq6])
       refine tk1 ?_;refine wpAnyH_ready (rs:=[17]) (by decide +kernel) (by simp) ?_;refine(AllReadyH.cons (o:=_) rfl (fun K hK=>?_) AllReadyH.nil)
       ·have yy:=fG.cell (i:=3) rfl;have ff:=fG.frozen 3;go_simp;obtain⟨w4,hw⟩:∃ W,W=w3.setCell ⟨w.heap.size+1,3,none⟩ (.slice (some ⟨w2.heap.size,0,none⟩) g.nodes.length g.nodes.length):=⟨_,rfl⟩;rw[← hw];have gI:=sto hw gU (by simp);have eF:=ste hw fG;have fP:=sto hw fB (by simp; omega);have dG:=sto hw fO (by simp; omega);have gZ:=sto hw gY (by simp; omega);have hB4:=stb hw hB3 (by simp);clear hw yy ff;refine hK.out _ _ (gI.cell rfl) (fun hHeld=>?_);clear hK K;try simp only[Act.put,lq1,lq2,lq3,lq4,lq5,lq6]
        refine tk0 [18,19] ?_;iterate 2 (refine tk (v:=?_) rfl (by kernel_rfl) (by kernel_rfl) (by kernel_rfl) (fun _ _ _ h=>h) (Or.inl ⟨by rfl,?_⟩) hHeld ?_;rotate_left;(focus intro wx hSx;(try dsimp only at hSx);go_split_ands;go_simp;try with_reducible rfl);try simp only[Act.put,lq1,lq2,lq3,lq4,lq5,lq6])
        refine tk1 ?_;refine wpAnyH_ready (rs:=[20]) (by decide +kernel) (by simp) ?_;refine(AllReadyH.cons (o:=_) rfl (fun K hK=>?_) AllReadyH.nil)
        ·have yy:=eF.cell (i:=4) rfl;have ff:=eF.frozen 4;go_simp;obtain⟨w5,hw⟩:∃ W,W=w4.setCell ⟨w.heap.size+1,4,none⟩ (.slice (some ⟨w0.heap.size,0,none⟩) g.nodes.length g.nodes.length):=⟨_,rfl⟩;rw[← hw];have iG:=sto hw gI (by simp);have eG:=ste hw eF;have iH:=sto hw fP (by simp; omega);have eH:=sto hw dG (by simp; omega);have eP:=sto hw gZ (by simp; omega);have hB5:=stb hw hB4 (by simp);clear hw yy ff;refine hK.out _ _ (iG.cell rfl) (fun hHeld=>?_);clear hK K;try simp only[Act.put,lq1,lq2,lq3,lq4,lq5,lq6]
         refine tk0 [21,22] ?_;iterate 2 (refine tk (v:=?_) rfl (by kernel_rfl) (by kernel_rfl) (by kernel_rfl) (fun _ _ _ h=>h) (Or.inl ⟨by rfl,?_⟩) hHeld ?_;rotate_left;(focus intro wx hSx;(try dsimp only at hSx);go_split_ands;go_simp;try with_reducible rfl);try simp only[Act.put,lq1,lq2,lq3,lq4,lq5,lq6])
         refine tk1 ?_;refine wpAnyH_ready (rs:=[23]) (by decide +kernel) (by simp) ?_;refine(AllReadyH.cons (o:=_) rfl (fun K hK=>?_) AllReadyH.nil)
         ·have yy:=eG.cell (i:=5) rfl;have ff:=eG.frozen 5;go_simp;obtain⟨w6,hw⟩:∃ W,W=w5.setCell ⟨w.heap.size+1,5,none⟩ (.slice (some ⟨w1.heap.size,0,none⟩) g.nodes.length g.nodes.length):=⟨_,rfl⟩;rw[← hw];have iI:=sto hw iG (by simp);have lV:=ste hw eG;have iJ:=sto hw iH (by simp; omega);have eU:=sto hw eH (by simp; omega);have eX:=sto hw eP (by simp; omega);have hB6:=stb hw hB5 (by simp);clear hw yy ff;refine hK.out _ _ (iI.cell rfl) (fun hHeld=>?_);clear hK K;try simp only[Act.put,lq1,lq2,lq3,lq4,lq5,lq6]
          refine wpAnyH_done (by kernel_rfl) ?_ _;clear hHeld;go_wp2_with fail
          go_meet
          exact⟨w2.heap.size,w0.heap.size,w1.heap.size,⟨lV,by simpa [bg] using iJ,by simpa [bg] using eU,by simpa [bg] using eX⟩,iI,hB6,g6,g10,g14,by omega,by omega,by omega⟩
    ·refine ifT rfl ?_;refine aW _ _ _ 57 rfl 3 (.int .i64 0) 8 Tryz.underlying57 Tryz.infoInt rfl g.nodes.length rfl rfl (by omega) (by omega) ?_;intro w1 hb hz xX;have g14:w.heap.size+1 < w0.heap.size:=hwk0.lt;have dV:=hbx0.below hb hbx0.lt;have lM:=hwk0.below hb hwk0.lt;have hB1:Below w.heap.size w w1:=hB0.trans (hb.mono hB0.size);clear hb hz;refine hK.out _ _ (dV.cell rfl) (fun hHeld=>?_);clear hK K;try simp only[Act.put,lq1,lq2,lq3,lq4,lq5,lq6]
     refine wpAnyH_ready (rs:=[6,10]) (by decide +kernel) (by simp) ?_;refine(AllReadyH.cons (o:=_) rfl (fun K hK=>?_) (AllReadyH.cons (o:=_) rfl (fun K hK=>?_) AllReadyH.nil))
     ·refine ifT rfl ?_;refine aW _ _ _ 57 rfl 3 (.int .i64 0) 8 Tryz.underlying57 Tryz.infoInt rfl g.nodes.length rfl rfl (by omega) (by omega) ?_;intro w2 hb hz je;have g6:w.heap.size+1 < w1.heap.size:=lM.lt;have ajc:=xX.lt;have jQ:=xX.below hb xX.lt;have hbx2:=dV.below hb dV.lt;have iF:=lM.below hb lM.lt;have hB2:Below w.heap.size w w2:=hB1.trans (hb.mono hB1.size);clear hb hz;refine hK.out _ _ (hbx2.cell rfl) (fun hHeld=>?_);clear hK K;try simp only[Act.put,lq1,lq2,lq3,lq4,lq5,lq6]
      refine tk0 [15,16] ?_;iterate 2 (refine tk (v:=?_) rfl (by kernel_rfl) (by kernel_rfl) (by kernel_rfl) (fun _ _ _ h=>h) (Or.inl ⟨by rfl,?_⟩) hHeld ?_;rotate_left;(focus intro wx hSx;(try dsimp only at hSx);go_split_ands;go_simp;try with_reducible rfl);try simp only[Act.put,lq1,lq2,lq3,lq4,lq5,lq6])
      refine tk1 ?_;refine wpAnyH_ready (rs:=[10,17]) (by decide +kernel) (by simp) ?_;refine(AllReadyH.cons (o:=_) rfl (fun K hK=>?_) (AllReadyH.cons (o:=_) rfl (fun K hK=>?_) AllReadyH.nil))
      ·refine ifT rfl ?_;refine aW _ _ _ 57 rfl 3 (.int .i64 0) 8 Tryz.underlying57 Tryz.infoInt rfl g.nodes.length rfl rfl (by omega) (by omega) ?_;intro w3 hb hz fO;have g10:w.heap.size+1 < w2.heap.size:=iF.lt;have abC:=je.lt;have fB:=je.below hb je.lt;have aau:=jQ.lt;have gY:=jQ.below hb jQ.lt;have gU:=hbx2.below hb hbx2.lt;have fG:=iF.below hb iF.lt;have hB3:Below w.heap.size w w3:=hB2.trans (hb.mono hB2.size);clear hb hz;refine hK.out _ _ (gU.cell rfl) (fun hHeld=>?_);clear hK K;try simp only[Act.put,lq1,lq2,lq3,lq4,lq5,lq6]
       refine wpAnyH_ready (rs:=[17]) (by decide +kernel) (by simp) ?_;refine(AllReadyH.cons (o:=_) rfl (fun K hK=>?_) AllReadyH.nil)
       ·have yy:=fG.cell (i:=3) rfl;have ff:=fG.frozen 3;go_simp;obtain⟨w4,hw⟩:∃ W,W=w3.setCell ⟨w.heap.size+1,3,none⟩ (.slice (some ⟨w1.heap.size,0,none⟩) g.nodes.length g.nodes.length):=⟨_,rfl⟩;rw[← hw];have gI:=sto hw gU (by simp);have eF:=ste hw fG;have fP:=sto hw fB (by simp; omega);have dG:=sto hw fO (by simp; omega);have gZ:=sto hw gY (by simp; omega);have hB4:=stb hw hB3 (by simp);clear hw yy ff;refine hK.out _ _ (gI.cell rfl) (fun hHeld=>?_);clear hK K;try simp only[Act.put,lq1,lq2,lq3,lq4,lq5,lq6]
        refine tk0 [18,19] ?_;iterate 2 (refine tk (v:=?_) rfl (by kernel_rfl) (by kernel_rfl) (by kernel_rfl) (fun _ _ _ h=>h) (Or.inl ⟨by rfl,?_⟩) hHeld ?_;rotate_left;(focus intro wx hSx;(try dsimp only at hSx);go_split_ands;go_simp;try with_reducible rfl);try simp only[Act.put,lq1,lq2,lq3,lq4,lq5,lq6])
        refine tk1 ?_;refine wpAnyH_ready (rs:=[20]) (by decide +kernel) (by simp) ?_;refine(AllReadyH.cons (o:=_) rfl (fun K hK=>?_) AllReadyH.nil)
        ·have yy:=eF.cell (i:=4) rfl;have ff:=eF.frozen 4;go_simp;obtain⟨w5,hw⟩:∃ W,W=w4.setCell ⟨w.heap.size+1,4,none⟩ (.slice (some ⟨w2.heap.size,0,none⟩) g.nodes.length g.nodes.length):=⟨_,rfl⟩;rw[← hw];have iG:=sto hw gI (by simp);have eG:=ste hw eF;have iH:=sto hw fP (by simp; omega);have eH:=sto hw dG (by simp; omega);have eP:=sto hw gZ (by simp; omega);have hB5:=stb hw hB4 (by simp);clear hw yy ff;refine hK.out _ _ (iG.cell rfl) (fun hHeld=>?_);clear hK K;try simp only[Act.put,lq1,lq2,lq3,lq4,lq5,lq6]
         refine tk0 [21,22] ?_;iterate 2 (refine tk (v:=?_) rfl (by kernel_rfl) (by kernel_rfl) (by kernel_rfl) (fun _ _ _ h=>h) (Or.inl ⟨by rfl,?_⟩) hHeld ?_;rotate_left;(focus intro wx hSx;(try dsimp only at hSx);go_split_ands;go_simp;try with_reducible rfl);try simp only[Act.put,lq1,lq2,lq3,lq4,lq5,lq6])
         refine tk1 ?_;refine wpAnyH_ready (rs:=[23]) (by decide +kernel) (by simp) ?_;refine(AllReadyH.cons (o:=_) rfl (fun K hK=>?_) AllReadyH.nil)
         ·have yy:=eG.cell (i:=5) rfl;have ff:=eG.frozen 5;go_simp;obtain⟨w6,hw⟩:∃ W,W=w5.setCell ⟨w.heap.size+1,5,none⟩ (.slice (some ⟨w0.heap.size,0,none⟩) g.nodes.length g.nodes.length):=⟨_,rfl⟩;rw[← hw];have iI:=sto hw iG (by simp);have lV:=ste hw eG;have iJ:=sto hw iH (by simp; omega);have eU:=sto hw eH (by simp; omega);have eX:=sto hw eP (by simp; omega);have hB6:=stb hw hB5 (by simp);clear hw yy ff;refine hK.out _ _ (iI.cell rfl) (fun hHeld=>?_);clear hK K;try simp only[Act.put,lq1,lq2,lq3,lq4,lq5,lq6]
          refine wpAnyH_done (by kernel_rfl) ?_ _;clear hHeld;go_wp2_with fail
          go_meet
          exact⟨w1.heap.size,w2.heap.size,w0.heap.size,⟨lV,by simpa [bg] using iJ,by simpa [bg] using eU,by simpa [bg] using eX⟩,iI,hB6,g6,g10,g14,by omega,by omega,by omega⟩
      ·have yy:=iF.cell (i:=3) rfl;have ff:=iF.frozen 3;go_simp;obtain⟨w3,hw⟩:∃ W,W=w2.setCell ⟨w.heap.size+1,3,none⟩ (.slice (some ⟨w1.heap.size,0,none⟩) g.nodes.length g.nodes.length):=⟨_,rfl⟩;rw[← hw];have gU:=sto hw hbx2 (by simp);have fG:=ste hw iF;have fB:=sto hw je (by simp; omega);have gY:=sto hw jQ (by simp; omega);have hB3:=stb hw hB2 (by simp);clear hw yy ff;refine hK.out _ _ (gU.cell rfl) (fun hHeld=>?_);clear hK K;try simp only[Act.put,lq1,lq2,lq3,lq4,lq5,lq6]
       refine wpAnyH_ready (rs:=[10]) (by decide +kernel) (by simp) ?_;refine(AllReadyH.cons (o:=_) rfl (fun K hK=>?_) AllReadyH.nil)
       ·refine ifT rfl ?_;refine aW _ _ _ 57 rfl 3 (.int .i64 0) 8 Tryz.underlying57 Tryz.infoInt rfl g.nodes.length rfl rfl (by omega) (by omega) ?_;intro w4 hb hz dG;have g10:w.heap.size+1 < w3.heap.size:=fG.lt;have abC:=fB.lt;have fP:=fB.below hb fB.lt;have aau:=gY.lt;have gZ:=gY.below hb gY.lt;have gI:=gU.below hb gU.lt;have eF:=fG.below hb fG.lt;have hB4:Below w.heap.size w w4:=hB3.trans (hb.mono hB3.size);clear hb hz;refine hK.out _ _ (gI.cell rfl) (fun hHeld=>?_);clear hK K;try simp only[Act.put,lq1,lq2,lq3,lq4,lq5,lq6]
        refine tk0 [18,19] ?_;iterate 2 (refine tk (v:=?_) rfl (by kernel_rfl) (by kernel_rfl) (by kernel_rfl) (fun _ _ _ h=>h) (Or.inl ⟨by rfl,?_⟩) hHeld ?_;rotate_left;(focus intro wx hSx;(try dsimp only at hSx);go_split_ands;go_simp;try with_reducible rfl);try simp only[Act.put,lq1,lq2,lq3,lq4,lq5,lq6])
        refine tk1 ?_;refine wpAnyH_ready (rs:=[20]) (by decide +kernel) (by simp) ?_;refine(AllReadyH.cons (o:=_) rfl (fun K hK=>?_) AllReadyH.nil)
        ·have yy:=eF.cell (i:=4) rfl;have ff:=eF.frozen 4;go_simp;obtain⟨w5,hw⟩:∃ W,W=w4.setCell ⟨w.heap.size+1,4,none⟩ (.slice (some ⟨w3.heap.size,0,none⟩) g.nodes.length g.nodes.length):=⟨_,rfl⟩;rw[← hw];have iG:=sto hw gI (by simp);have eG:=ste hw eF;have iH:=sto hw fP (by simp; omega);have eH:=sto hw dG (by simp; omega);have eP:=sto hw gZ (by simp; omega);have hB5:=stb hw hB4 (by simp);clear hw yy ff;refine hK.out _ _ (iG.cell rfl) (fun hHeld=>?_);clear hK K;try simp only[Act.put,lq1,lq2,lq3,lq4,lq5,lq6]
         refine tk0 [21,22] ?_;iterate 2 (refine tk (v:=?_) rfl (by kernel_rfl) (by kernel_rfl) (by kernel_rfl) (fun _ _ _ h=>h) (Or.inl ⟨by rfl,?_⟩) hHeld ?_;rotate_left;(focus intro wx hSx;(try dsimp only at hSx);go_split_ands;go_simp;try with_reducible rfl);try simp only[Act.put,lq1,lq2,lq3,lq4,lq5,lq6])
         refine tk1 ?_;refine wpAnyH_ready (rs:=[23]) (by decide +kernel) (by simp) ?_;refine(AllReadyH.cons (o:=_) rfl (fun K hK=>?_) AllReadyH.nil)
         ·have yy:=eG.cell (i:=5) rfl;have ff:=eG.frozen 5;go_simp;obtain⟨w6,hw⟩:∃ W,W=w5.setCell ⟨w.heap.size+1,5,none⟩ (.slice (some ⟨w0.heap.size,0,none⟩) g.nodes.length g.nodes.length):=⟨_,rfl⟩;rw[← hw];have iI:=sto hw iG (by simp);have lV:=ste hw eG;have iJ:=sto hw iH (by simp; omega);have eU:=sto hw eH (by simp; omega);have eX:=sto hw eP (by simp; omega);have hB6:=stb hw hB5 (by simp);clear hw yy ff;refine hK.out _ _ (iI.cell rfl) (fun hHeld=>?_);clear hK K;try simp only[Act.put,lq1,lq2,lq3,lq4,lq5,lq6]
          refine wpAnyH_done (by kernel_rfl) ?_ _;clear hHeld;go_wp2_with fail
          go_meet
          exact⟨w1.heap.size,w3.heap.size,w0.heap.size,⟨lV,by simpa [bg] using iJ,by simpa [bg] using eU,by simpa [bg] using eX⟩,iI,hB6,g6,g10,g14,by omega,by omega,by omega⟩
     ·refine ifT rfl ?_;refine aW _ _ _ 57 rfl 3 (.int .i64 0) 8 Tryz.underlying57 Tryz.infoInt rfl g.nodes.length rfl rfl (by omega) (by omega) ?_;intro w2 hb hz jP;have g10:w.heap.size+1 < w1.heap.size:=lM.lt;have aau:=xX.lt;have jQ:=xX.below hb xX.lt;have hbx2:=dV.below hb dV.lt;have iF:=lM.below hb lM.lt;have hB2:Below w.heap.size w w2:=hB1.trans (hb.mono hB1.size);clear hb hz;refine hK.out _ _ (hbx2.cell rfl) (fun hHeld=>?_);clear hK K;try simp only[Act.put,lq1,lq2,lq3,lq4,lq5,lq6]
      refine wpAnyH_ready (rs:=[6]) (by decide +kernel) (by simp) ?_;refine(AllReadyH.cons (o:=_) rfl (fun K hK=>?_) AllReadyH.nil)
      ·refine ifT rfl ?_;refine aW _ _ _ 57 rfl 3 (.int .i64 0) 8 Tryz.underlying57 Tryz.infoInt rfl g.nodes.length rfl rfl (by omega) (by omega) ?_;intro w3 hb hz fB;have g6:w.heap.size+1 < w2.heap.size:=iF.lt;have ajb:=jP.lt;have fO:=jP.below hb jP.lt;have ajc:=jQ.lt;have gY:=jQ.below hb jQ.lt;have gU:=hbx2.below hb hbx2.lt;have fG:=iF.below hb iF.lt;have hB3:Below w.heap.size w w3:=hB2.trans (hb.mono hB2.size);clear hb hz;refine hK.out _ _ (gU.cell rfl) (fun hHeld=>?_);clear hK K;try simp only[Act.put,lq1,lq2,lq3,lq4,lq5,lq6]
       refine tk0 [15,16] ?_;iterate 2 (refine tk (v:=?_) rfl (by kernel_rfl) (by kernel_rfl) (by kernel_rfl) (fun _ _ _ h=>h) (Or.inl ⟨by rfl,?_⟩) hHeld ?_;rotate_left;(focus intro wx hSx;(try dsimp only at hSx);go_split_ands;go_simp;try with_reducible rfl);try simp only[Act.put,lq1,lq2,lq3,lq4,lq5,lq6])
       refine tk1 ?_;refine wpAnyH_ready (rs:=[17]) (by decide +kernel) (by simp) ?_;refine(AllReadyH.cons (o:=_) rfl (fun K hK=>?_) AllReadyH.nil)
       ·have yy:=fG.cell (i:=3) rfl;have ff:=fG.frozen 3;go_simp;obtain⟨w4,hw⟩:∃ W,W=w3.setCell ⟨w.heap.size+1,3,none⟩ (.slice (some ⟨w2.heap.size,0,none⟩) g.nodes.length g.nodes.length):=⟨_,rfl⟩;rw[← hw];have gI:=sto hw gU (by simp);have eF:=ste hw fG;have fP:=sto hw fB (by simp; omega);have dG:=sto hw fO (by simp; omega);have gZ:=sto hw gY (by simp; omega);have hB4:=stb hw hB3 (by simp);clear hw yy ff;refine hK.out _ _ (gI.cell rfl) (fun hHeld=>?_);clear hK K;try simp only[Act.put,lq1,lq2,lq3,lq4,lq5,lq6]
        refine tk0 [18,19] ?_;iterate 2 (refine tk (v:=?_) rfl (by kernel_rfl) (by kernel_rfl) (by kernel_rfl) (fun _ _ _ h=>h) (Or.inl ⟨by rfl,?_⟩) hHeld ?_;rotate_left;(focus intro wx hSx;(try dsimp only at hSx);go_split_ands;go_simp;try with_reducible rfl);try simp only[Act.put,lq1,lq2,lq3,lq4,lq5,lq6])
        refine tk1 ?_;refine wpAnyH_ready (rs:=[20]) (by decide +kernel) (by simp) ?_;refine(AllReadyH.cons (o:=_) rfl (fun K hK=>?_) AllReadyH.nil)
        ·have yy:=eF.cell (i:=4) rfl;have ff:=eF.frozen 4;go_simp;obtain⟨w5,hw⟩:∃ W,W=w4.setCell ⟨w.heap.size+1,4,none⟩ (.slice (some ⟨w1.heap.size,0,none⟩) g.nodes.length g.nodes.length):=⟨_,rfl⟩;rw[← hw];have iG:=sto hw gI (by simp);have eG:=ste hw eF;have iH:=sto hw fP (by simp; omega);have eH:=sto hw dG (by simp; omega);have eP:=sto hw gZ (by simp; omega);have hB5:=stb hw hB4 (by simp);clear hw yy ff;refine hK.out _ _ (iG.cell rfl) (fun hHeld=>?_);clear hK K;try simp only[Act.put,lq1,lq2,lq3,lq4,lq5,lq6]
         refine tk0 [21,22] ?_;iterate 2 (refine tk (v:=?_) rfl (by kernel_rfl) (by kernel_rfl) (by kernel_rfl) (fun _ _ _ h=>h) (Or.inl ⟨by rfl,?_⟩) hHeld ?_;rotate_left;(focus intro wx hSx;(try dsimp only at hSx);go_split_ands;go_simp;try with_reducible rfl);try simp only[Act.put,lq1,lq2,lq3,lq4,lq5,lq6])
         refine tk1 ?_;refine wpAnyH_ready (rs:=[23]) (by decide +kernel) (by simp) ?_;refine(AllReadyH.cons (o:=_) rfl (fun K hK=>?_) AllReadyH.nil)
         ·have yy:=eG.cell (i:=5) rfl;have ff:=eG.frozen 5;go_simp;obtain⟨w6,hw⟩:∃ W,W=w5.setCell ⟨w.heap.size+1,5,none⟩ (.slice (some ⟨w0.heap.size,0,none⟩) g.nodes.length g.nodes.length):=⟨_,rfl⟩;rw[← hw];have iI:=sto hw iG (by simp);have lV:=ste hw eG;have iJ:=sto hw iH (by simp; omega);have eU:=sto hw eH (by simp; omega);have eX:=sto hw eP (by simp; omega);have hB6:=stb hw hB5 (by simp);clear hw yy ff;refine hK.out _ _ (iI.cell rfl) (fun hHeld=>?_);clear hK K;try simp only[Act.put,lq1,lq2,lq3,lq4,lq5,lq6]
          refine wpAnyH_done (by kernel_rfl) ?_ _;clear hHeld;go_wp2_with fail
          go_meet
          exact⟨w2.heap.size,w1.heap.size,w0.heap.size,⟨lV,by simpa [bg] using iJ,by simpa [bg] using eU,by simpa [bg] using eX⟩,iI,hB6,g6,g10,g14,by omega,by omega,by omega⟩
   case rest =>
    obtain⟨bp,bd,bl,hwa,aiQ,dD,z1,z2,z3,z4,z5,z6⟩:=hcut;clear hbx hwk hbel;have ahO:=aiQ.lt;have x1:=aiQ.cell (i:=1) rfl;have HNO:=Ac (show Bj w F (.slice (some ⟨b,o,none⟩) g.nodes.length c) g.nodes from⟨_,_,rfl,hc,HN.out⟩);have HIO:=Ac (show Bv w F (.slice Ai g.infos.length ci) g.infos from⟨_,_,rfl,hci,HI.out⟩);have HWA:=Ac hwa; clear hwa;have HG':=Ac (show ∀ k,(F k∧k < w.heap.size)→k≠bp∧k≠bd∧k≠bl from fun k hk=>by omega);go_wp2_with fail
    refine(agz g HS.out (w.heap.size+1) bp bd bl b o c Ai ci ⟨by omega,by omega,by omega,z4,z5,z6⟩ hc (fun k=>F k∧k < w.heap.size) HG'.out (g.nodes.length+1) 0 (-1) 0 _ wc _ ⟨some ⟨b,o,none⟩,by simp,fun _=>by simp⟩ ⟨by simp,by simp,by simp⟩ (fun _=>HNO.out.keep (fun k hk hl=>⟨hk,hl⟩) (Below.same' dD F)) HWA.out (by omega) (by omega) (by omega) (by omega)).mono ?_;rintro e w2 ⟨vr,rfl,hrest,ajx,hwr2⟩;have ajy:=pK g.nodes (g.nodes.length+1) 0 (-1) 0 ⟨List.replicate g.nodes.length 0,List.replicate g.nodes.length 0,List.replicate g.nodes.length 0⟩;have hlen:=oD (N:=g.nodes.length) g.nodes (g.nodes.length+1) 0 (-1) 0 ⟨List.replicate g.nodes.length 0,List.replicate g.nodes.length 0,List.replicate g.nodes.length 0⟩ ⟨by simp,by simp,by simp⟩;have hT:walkT g=bP g.nodes (g.nodes.length+1) 0 (-1) 0 ⟨List.replicate g.nodes.length 0,List.replicate g.nodes.length 0,List.replicate g.nodes.length 0⟩:=rfl;rw[← hT] at hrest ajx ajy hlen ⊢;clear hT;have hB2:Below w.heap.size w w2:=Wrote.below dD hwr2 (fun k hk=>by omega) dD.size;have hbx2:=aiQ.wrote hwr2 (by omega);clear dD hwr2 aiQ x1 HWA;obtain⟨T,hTT⟩:∃ T,T=walkT g:=⟨_,rfl⟩;have HT:=Ac (show BJ w2 (w.heap.size+1) bp bd bl g.au (some ⟨b,o,none⟩) g.nodes.length c Ai g.infos.length ci (walkT g).2 from ajx);clear ajx;have HLN:=Ac hlen; clear hlen;rw[← hTT] at hrest ajy HE2 ⊢;have HTT:=Ac hTT; clear hTT;obtain⟨rn,td⟩:=T;dsimp only at hrest ajy HE2 ⊢;by_cases hng:rn < 0
    ·have HF:=Ac (show qF g=9 by rw[HE2.out,if_pos (by omega)]);have hdn:decide (0≤rn)=false:=decide_eq_false (by omega);clear hrest;go_wp2
     go_ret2;exact⟨_,rfl,hB2,.pointer none,by rw[HF.out]; rfl,by rw[HF.out]; intro h; simp at h⟩
    ·obtain⟨q,rfl⟩:=Int.eq_ofNat_of_zero_le (show 0≤rn by omega);obtain⟨A',rfl,hA'⟩:=hrest (by omega);simp only[Int.toNat_natCast] at hA' ⊢;have hdn:decide (0≤(q:Int))=true:=decide_eq_true (by omega);by_cases hqn:q=g.nodes.length
     ·subst hqn;have HF:=Ac (show qF g=if 40 < maxL td.d then 5 else iE g by rw[HE2.out,if_neg (by simp)]);have hz:g.nodes.length - g.nodes.length=0:=by omega
      rw[hz];have ht2:td=(walkT g).2:=by rw[← HTT.out]
      have x4:=HT.out.head.cell (i:=4) rfl;clear hA' hz;go_wp2_with fail
      have hdl:td.d.length=g.nodes.length:=by rw[ht2]; exact HLN.out.d
      have HID:=Ac (show AA w2 (fun k=>k=bd) (.slice (some ⟨bd,0,none⟩) g.nodes.length g.nodes.length) td.d by
       have:=Row.ints (F:=fun k=>k=bd) (show Row w2 bd 3 (td.d.map (Value.int .i64)) by rw[ht2]; exact HT.out.rd) rfl (c:=g.nodes.length) (by omega);rwa [hdl] at this)
      have HT2:=Ac ht2; clear ht2;refine(aiv w2 (fun k=>k=bd) _ td.d HID.out (by omega) (by omega)).mono ?_;rintro e w3 ⟨rfl,rfl⟩;dsimp only;generalize maxL td.d=mx at *;by_cases hmx:40 < mx
      ·have HF2:=Ac (show qF g=5 by rw[HF.out,if_pos hmx]);go_wp2
       go_ret2;exact⟨_,rfl,hB2,.pointer none,by rw[HF2.out]; rfl,by rw[HF2.out]; intro h; simp at h⟩
      ·have HF2:=Ac (show qF g=iE g by rw[HF.out,if_neg hmx]);have hdm:decide (40 < mx)=false:=decide_eq_false hmx;clear hmx;go_wp2_with fail
       refine(agA w3 F (w.heap.size+1) g _ _ _ _ (HT.out.head.cell rfl) (HT.out.head.cell rfl) HT.out.head.lt (HNO.out.on (Below.same' hB2 F)) (HIO.out.on (Below.same' hB2 F)) HS.out HIN.out (by omega)).mono ?_;rintro e w4 ⟨_,rfl,hb4,rfl⟩;dsimp only;go_wp2
       go_ret2;refine⟨_,rfl,hB2.trans (hb4.mono hB2.size),.pointer (some ⟨w.heap.size+1,0,none⟩),by rw[HF2.out]; rfl,fun _=>?_⟩;have h:=HT.out;exact⟨w.heap.size+1,bp,bd,bl,_,_,_,_,rfl,⟨h.head.below hb4 h.head.lt,h.rp.below hb4 h.rp.lt,h.rd.below hb4 h.rd.lt,h.rl.below hb4 h.rl.lt⟩,by omega,by omega,by omega,by omega⟩
     ·have HF:=Ac (show qF g=9 by rw[HE2.out,if_pos (by omega)]);have hdg:(0:Int) < ((g.nodes.length - q:Nat):Int):=by omega
      clear hqn;go_wp2
      go_ret2;exact⟨_,rfl,hB2,.pointer none,by rw[HF.out]; rfl,by rw[HF.out]; intro h; simp at h⟩
theorem agB (w:World) (F:Ag) (u:Value) (g:Gm) (hg:AX w F u g) (hsm:Small g) :
  Calls Tryz.prog 115 #[u] w (Ret w fun v _=>v = .int .i64 (qF g)):=by
 have HG:=Ac hg;obtain⟨vn,vi,rfl,⟨A,c,rfl,hc,hN⟩,⟨Ai,ci,rfl,hci,hI⟩⟩:=hg;clear hN hI;have HS:=Ac hsm; clear hsm;go_enter Tryz.func115,Tryz.ntmps115;go_wp2_with fail
 refine(aeW _ F _ g (HG.out.on (Same.alloc _ _ _)) HS.out).mono ?_;rintro e w1 ⟨v,rfl,hb1,vp,rfl,hv⟩;clear hv;have hB:Below w.heap.size w w1:=((Below.refl w.heap.size w).alloc (Nat.le_refl _) _).trans (hb1.mono (by simp));dsimp only;go_wp2
 go_ret;exact⟨_,rfl,hB,rfl⟩
def mv (nodes:List Nd) (s i:Nat):Bool:=match nodes[i]? with | some n=>decide (n.kind=2)&&decide (n.info.toNat=s) | none=>false
def dK (nodes:List Nd) (s k:Nat):List Int:=((List.range k).filter (mv nodes s)).map fun i:Nat=>(i:Int)
theorem aav (nodes:List Nd) (s k:Nat):dK nodes s (k+1)=dK nodes s k++(if mv nodes s k then [(k:Int)] else []):=by
 unfold dK;rw[List.range_succ,List.filter_append,List.map_append];cases h:mv nodes s k <;> simp[h]
theorem aeX (nodes:List Nd) (ni:Nat) (hin:∀ n∈nodes,n.kind=2→0≤n.info∧n.info < (ni:Int)) (k:Nat):∀ s,s < ni→(jD nodes ni k)[s]? = some (dK nodes s k):=by
 induction k with
 | zero=>intro s hs; simp[jD,dK,hs]
 | succ k ih =>
  intro s hs;rw[aav];cases hn:nodes[k]? with
  | none =>
   have:mv nodes s k=false:=by simp[mv,hn]
   rw[this]; simp only[jD,hn]; rw[ih s hs]; simp
  | some n =>
   by_cases hk:n.kind=2
   ·have hb:=hin n (List.mem_of_getElem? hn) hk;have hlt:n.info.toNat < ni:=by omega
    rw[ac7 hn hk (ih _ hlt)];by_cases he:n.info.toNat=s
    ·subst he;have:mv nodes n.info.toNat k=true:=by simp[mv,hn,hk]
     rw[this,List.getElem?_set_self (by rw[qh]; exact hlt)]; simp
    ·have:mv nodes s k=false:=by simp[mv,hn,he]
     rw[this,List.getElem?_set_ne he,ih s hs]; simp
   ·have:mv nodes s k=false:=by simp[mv,hn,hk]
    rw[ac8 hn hk,this,ih s hs]; simp
theorem jZ {g:Gm} (hin:BP g) {s:Nat} (hs:s < g.infos.length):(pq g)[s]? = some (dK g.nodes s g.nodes.length):=aeX g.nodes g.infos.length hin _ s hs
theorem yR {nodes:List Nd} {s k:Nat} {x:Int}:x∈dK nodes s k↔∃ i:Nat,x=i∧i < k∧mv nodes s i=true:=by
 unfold dK;simp only[List.mem_map,List.mem_filter,List.mem_range];constructor
 ·rintro⟨i,⟨h1,h2⟩,rfl⟩; exact⟨i,rfl,h1,h2⟩
 ·rintro⟨i,rfl,h1,h2⟩; exact⟨i,⟨h1,h2⟩,rfl⟩
theorem adM (nodes:List Nd) (ni:Nat) (hin:∀ n∈nodes,n.kind=2→0≤n.info∧n.info < (ni:Int)) (m:Nat):∀ k,k+m=nodes.length→∀ s,s < ni →
  (iy (nodes.drop k) k (List.replicate ni 0))[s]? = some (match (List.range' k m).find? (mv nodes s) with | some i=>(i:Int)+1 | none=>0):=by
 induction m with
 | zero =>
  intro k hk s hs;rw[List.drop_eq_nil_of_le (by omega)];simp[iy,hs]
 | succ m ih =>
  intro k hk s hs;obtain⟨n,hn⟩:=aB (l:=nodes) (k:=k) (by omega);rw[wK hn];have hr:List.range' k (m+1)=k :: List.range' (k+1) m:=by rw[List.range'_succ]
  rw[hr,List.find?_cons];by_cases hkd:n.kind=2
  ·have hb:=hin n (List.mem_of_getElem? hn) hkd;rw[if_pos hkd];by_cases he:n.info.toNat=s
   ·subst he;have:mv nodes n.info.toNat k=true:=by simp[mv,hn,hkd]
    rw[this,List.getElem?_set_self (by rw[iU]; simp; omega)]
   ·have:mv nodes s k=false:=by simp[mv,hn,he]
    rw[this,List.getElem?_set_ne he];exact ih (k+1) (by omega) s hs
  ·have:mv nodes s k=false:=by simp[mv,hn,hkd]
   rw[if_neg hkd,this];exact ih (k+1) (by omega) s hs
theorem ku {g:Gm} (hin:BP g) {s:Nat} (hs:s < g.infos.length):(fF g)[s]? = some (match dK g.nodes s g.nodes.length with | []=>0 | x :: _=>x+1):=by
 have h:=adM g.nodes g.infos.length hin g.nodes.length 0 (by omega) s hs;unfold fF;rw[List.drop_zero] at h;rw[h];congr 1
 unfold dK;rw[← List.range_eq_range',← List.head?_filter];cases (List.range g.nodes.length).filter (mv g.nodes s) <;> simp
theorem y7 (g:Gm):(fF g).length=g.infos.length:=by unfold fF; rw[iU]; simp
theorem aeY {g:Gm} (hin:BP g):iE g=qY g:=by
 unfold iE qY;have hl:(pq g).length=g.infos.length:=qh _ _ _;have hfl:=y7 g;have h1:(fF g).contains 0=qW (pq g):=by
  rw[Bool.eq_iff_iff];unfold qW;rw[List.any_eq_true,List.contains_iff_exists_mem_beq];constructor
  ·rintro⟨x,hx,h0⟩;obtain⟨s,hs⟩:=List.getElem?_of_mem hx;have hlt:s < g.infos.length:=by rw[← hfl]; exact aF hs
   have:=ku hin hlt;rw[hs] at this;refine⟨_,List.mem_of_getElem? (jZ hin hlt),?_⟩;have hx0:x=0:=by simpa using (beq_iff_eq.1 h0).symm
   subst hx0;cases hm:dK g.nodes s g.nodes.length with
   | nil=>rfl
   | cons y l =>
    exfalso
    rw[hm] at this;have hy:y∈dK g.nodes s g.nodes.length:=by rw[hm]; simp
    obtain⟨i,rfl,_⟩:=yR.1 hy;simp at this;omega
  ·rintro⟨l,hl',h0⟩;obtain⟨s,hs⟩:=List.getElem?_of_mem hl';have hlt:s < g.infos.length:=by rw[← hl]; exact aF hs
   have h2:=jZ hin hlt;rw[hs] at h2;cases h2
   have h3:=ku hin hlt;have hnil:dK g.nodes s g.nodes.length = []:=List.eq_nil_of_length_eq_zero (by simpa using h0);rw[hnil] at h3;exact⟨0,List.mem_of_getElem? h3,by simp⟩
 rw[h1];split
 ·rfl
 ·cases hn:qW (pq g) with
  | true=>rfl
  | false =>
   have hne:∀ s,s < g.infos.length→∃ x l,dK g.nodes s g.nodes.length=x :: l:=by
    intro s hs;have:=List.any_eq_false.1 hn _ (List.mem_of_getElem? (jZ hin hs));cases hm:dK g.nodes s g.nodes.length with
    | nil=>rw[hm] at this; simp at this
    | cons x l=>exact⟨x,l,rfl⟩
   have h2:fV (fF g) = !mO (pq g) g.infos.length:=by
    rw[Bool.eq_iff_iff,adH,Bool.not_eq_true',mO,List.any_eq_false];constructor
    ·intro h i hi;rw[List.mem_range'_1] at hi;obtain⟨x,l,hx⟩:=hne (i - 1) (by omega);obtain⟨y,l',hy⟩:=hne i (by omega);have f1:=ku hin (s:=i - 1) (by omega);have f2:=ku hin (s:=i) (by omega);rw[hx] at f1; rw[hy] at f2;have:=h (i - 1) _ _ f1 (by rw[show i - 1+1=i by omega]; exact f2);have s1:=jZ hin (s:=i - 1) (by omega);have s2:=jZ hin (s:=i) (by omega);rw[hx] at s1; rw[hy] at s2;simp[qX,List.getD_eq_getElem?_getD,s1,s2];simp at this;exact this
    ·intro h k x y hx hy;have hk1:k+1 < g.infos.length:=by rw[← hfl]; exact aF hy
     have:=h (k+1) (by rw[List.mem_range'_1]; omega);obtain⟨x',l,hx'⟩:=hne k (by omega);obtain⟨y',l',hy'⟩:=hne (k+1) (by omega);have f1:=ku hin (s:=k) (by omega);have f2:=ku hin (s:=k+1) (by omega);rw[hx'] at f1; rw[hy'] at f2;have s1:=jZ hin (s:=k) (by omega);have s2:=jZ hin (s:=k+1) (by omega);rw[hx'] at s1; rw[hy'] at s2;rw[hx] at f1; rw[hy] at f2;cases f1; cases f2
     simp[qX,List.getD_eq_getElem?_getD,s1,s2] at this;simpa using this
   rw[h2];cases mO (pq g) g.infos.length <;> rfl
structure Deep (a:Nat) (r:Int) (d d':List Int) (deep deep':Int):Prop where
 out:∀ i:Nat,i < a∨r≤(i:Int)→d'[i]? = d[i]?
 le:deep≤deep'
 below:∀ (i:Nat) x,a≤i→(i:Int) < r→d'[i]? = some x→x≤deep'
 hit:deep'=deep∨∃ (i:Nat),a≤i∧(i:Int) < r∧d'[i]? = some deep'
theorem Deep.refl (a:Nat) (d:List Int) (deep:Int):Deep a a d d deep deep:=⟨fun _ _=>rfl,by omega,fun i x h1 h2=>by omega,.inl rfl⟩
theorem Deep.trans {a m:Nat} {r:Int} {d d' d'':List Int} {x y z:Int} (ham:a≤m) (hmr:(m:Int)≤r) (h:Deep a m d d' x y) (k:Deep m r d' d'' y z):Deep a r d d'' x z:=by
 refine⟨fun i hi=>?_,Int.le_trans h.le k.le,fun i v h1 h2 hv=>?_,?_⟩
 ·rw[k.out i (by omega),h.out i (by omega)]
 ·by_cases hm:i < m
  ·rw[k.out i (.inl hm)] at hv;exact Int.le_trans (h.below i v h1 (by omega) hv) k.le
  ·exact k.below i v (by omega) h2 hv
 ·rcases k.hit with e | ⟨i,h1,h2,h3⟩
  ·rcases h.hit with e' | ⟨i,h1,h2,h3⟩
   ·left; omega
   ·right; exact⟨i,h1,by omega,by rw[k.out i (.inl (by omega)),h3,e]⟩
  ·right; exact⟨i,by omega,h2,h3⟩
theorem abD {N:Nat} {rec:Nat→Tri→Int×Tri} {rec':Nat→Int→Int×Int} (hlen:∀ a t,Tri.Len N t→Tri.Len N (rec a t).2)
  (hb:∀ a t,(rec a t).1 = -1∨((a:Int) < (rec a t).1∧(rec a t).1≤N)) (hs:∀ a t d,(rec a t).1=(rec' a d).1)
  (hrec:∀ a t deep,a < N→Tri.Len N t→0≤(rec a t).1→Deep a (rec a t).1 t.d (rec a t).2.d deep (rec' a deep).2) :
  ∀ (cs:List Int) (x:Nat) (t:Tri) (deep:Int),x≤N→Tri.Len N t→0≤(fM rec cs x t).1→(x:Int)≤(fM rec cs x t).1∧Deep x (fM rec cs x t).1 t.d (fM rec cs x t).2.d deep (dL rec' cs x deep).2
 | [],x,t,deep,_,_,_=>⟨by simp[fM],by simpa [fM,dL] using Deep.refl x t.d deep⟩
 | c :: cs,x,t,deep,hx,ht,h=>by
  unfold fM at h ⊢;unfold dL;by_cases hc:c=x
  ·subst hc;simp only[ne_eq,not_true_eq_false,↓reduceIte,Int.toNat_natCast] at h ⊢;rw[← hs x t deep];by_cases hng:(rec x t).1 < 0
   ·rw[if_pos hng] at h; simp at h
   ·rw[if_neg hng] at h ⊢;rw[if_neg hng];rcases hb x t with hb1 | hb1
    ·omega
    ·have hr:=hrec x t deep (by omega) ht (by omega);obtain⟨m,hm⟩:=Int.eq_ofNat_of_zero_le (show 0≤(rec x t).1 by omega);rw[hm] at h hr ⊢;rw[hm] at hb1;have ih:=abD hlen hb hs hrec cs m (rec x t).2 (rec' x deep).2 (by omega) (hlen x t ht) h;exact⟨by omega,hr.trans (by omega) ih.1 ih.2⟩
  ·rw[if_pos hc] at h; simp at h
theorem xY (nodes:List Nd):∀ (f a:Nat) (par dep:Int) (t:Tri) (deep:Int),Tri.Len nodes.length t→0≤(bP nodes f a par dep t).1 →
  Deep a (bP nodes f a par dep t).1 t.d (bP nodes f a par dep t).2.d deep (fQ nodes f a dep deep).2
 | 0,_,_,_,_,_,_,h=>by simp[bP] at h
 | f+1,a,par,dep,t,deep,ht,h=>by
  unfold bP at h ⊢;unfold fQ;cases hn:nodes[a]? with
  | none=>rw[hn] at h; simp at h
  | some n =>
   rw[hn] at h;simp only at h ⊢;have ha:=aF hn;have hk:=abD (N:=nodes.length) (rec:=fun a' t=>bP nodes f a' a (dep+1) t) (rec':=fun a' d=>fQ nodes f a' (dep+1) d)
    (fun a' t h=>oD nodes f a' a (dep+1) t h) (fun a' t=>pK nodes f a' a (dep+1) t) (fun a' t d=>ug nodes f a' a (dep+1) t d)
    (fun a' t d _ ht h=>xY nodes f a' a (dep+1) t d ht h) n.next (a+1) ⟨t.p.set a par,t.d.set a dep,t.l⟩ (max deep dep) (by omega) ⟨by simp[ht.p],by simp[ht.d],ht.l⟩
   simp only[Int.natCast_add,Int.cast_ofNat_Int] at hk;by_cases hng:(fM (fun a' t=>bP nodes f a' a (dep+1) t) n.next ((a:Int)+1) ⟨t.p.set a par,t.d.set a dep,t.l⟩).1 < 0
   ·rw[if_pos hng] at h; omega
   ·rw[if_neg hng] at h ⊢;obtain⟨h1,h2⟩:=hk (by omega);have h0:Deep a ((a+1:Nat):Int) t.d (t.d.set a dep) deep (max deep dep):=by
     refine⟨fun i hi=>List.getElem?_set_ne (by omega),by omega,fun i x h1 h2 hx=>?_,?_⟩
     ·have:i=a:=by omega
      subst this;rw[List.getElem?_set_self (by rw[ht.d]; exact ha)] at hx;cases hx; omega
     ·by_cases hd:dep≤deep
      ·left; omega
      ·right; exact⟨a,by omega,by omega,by rw[List.getElem?_set_self (by rw[ht.d]; exact ha)]; congr 1; omega⟩
    exact h0.trans (by omega) (by simpa using h1) (by simpa using h2)
theorem aeZ (l:List Int) (a:Int):a≤l.foldl max a∧∀ x∈l,x≤l.foldl max a:=by
 induction l generalizing a with
 | nil=>simp
 | cons y l ih =>
  obtain⟨h1,h2⟩:=ih (max a y);simp only[List.foldl_cons];refine⟨by omega,fun x hx=>?_⟩;rcases List.mem_cons.1 hx with rfl | hx
  ·omega
  ·exact h2 x hx
theorem adN (l:List Int) (a:Int):l.foldl max a=a∨l.foldl max a∈l:=by
 induction l generalizing a with
 | nil=>simp
 | cons y l ih =>
  simp only[List.foldl_cons];rcases ih (max a y) with h | h
  ·rw[h];by_cases hay:y≤a
   ·left; omega
   ·right; rw[show max a y=y by omega]; simp
  ·right; exact List.mem_cons_of_mem _ h
theorem agC {l:List Int} {m:Int} (hm:m∈l) (hb:∀ x∈l,x≤m):maxL l=m:=by
 cases l with
 | nil=>cases hm
 | cons y l =>
  unfold maxL;have h1:=aeZ l y;have h2:=adN l y;have h3:m≤l.foldl max y:=by
   rcases List.mem_cons.1 hm with rfl | h
   ·exact h1.1
   ·exact h1.2 m h
  have h4:l.foldl max y≤m:=by
   rcases h2 with h | h
   ·rw[h]; exact hb y (by simp)
   ·exact hb _ (List.mem_cons_of_mem _ h)
  show l.foldl max y=m;omega
theorem aiR (g:Gm):qF g=jG g:=by
 unfold qF jG;have hw:(walkT g).1=(fQ g.nodes (g.nodes.length+1) 0 0 0).1:=ug _ _ _ _ _ _ _;split
 ·rfl
 ·rename_i hsz
  split
  ·rfl
  ·rename_i hne
   rw[hw];split
   ·rfl
   ·rename_i hN
    have hin:BP g:=qZ (by simpa using hne);have hp:0 < g.nodes.length:=by unfold kQ at hsz; omega
    have hd:=xY g.nodes (g.nodes.length+1) 0 (-1) 0 ⟨List.replicate g.nodes.length 0,List.replicate g.nodes.length 0,List.replicate g.nodes.length 0⟩ (-1) ⟨by simp,by simp,by simp⟩;have hd0:=xY g.nodes (g.nodes.length+1) 0 (-1) 0 ⟨List.replicate g.nodes.length 0,List.replicate g.nodes.length 0,List.replicate g.nodes.length 0⟩ 0 ⟨by simp,by simp,by simp⟩;have hee:fQ g.nodes (g.nodes.length+1) 0 0 (-1)=fQ g.nodes (g.nodes.length+1) 0 0 0:=by
     obtain⟨n0,hn0⟩:=aB hp;unfold fQ; rw[hn0]; rfl
    rw[hee] at hd;have hlen:=oD (N:=g.nodes.length) g.nodes (g.nodes.length+1) 0 (-1) 0 ⟨List.replicate g.nodes.length 0,List.replicate g.nodes.length 0,List.replicate g.nodes.length 0⟩ ⟨by simp,by simp,by simp⟩;have hT:walkT g=bP g.nodes (g.nodes.length+1) 0 (-1) 0 ⟨List.replicate g.nodes.length 0,List.replicate g.nodes.length 0,List.replicate g.nodes.length 0⟩:=rfl;rw[← hT] at hd hd0 hlen;have hN':(walkT g).1=(g.nodes.length:Int):=by rw[hw]; simpa using hN
    rw[hN'] at hd hd0;have hd:=hd (by omega);have hle:=(hd0 (by omega)).le;clear hd0;have hmax:maxL (walkT g).2.d=(fQ g.nodes (g.nodes.length+1) 0 0 0).2:=by
     generalize (fQ g.nodes (g.nodes.length+1) 0 0 0).2=mx at hd hle;have hb:∀ x∈(walkT g).2.d,x≤mx:=by
      intro x hx;obtain⟨i,hi⟩:=List.getElem?_of_mem hx;exact hd.below i x (by omega) (by have:=aF hi; rw[hlen.d] at this; omega) hi
     rcases hd.hit with e | ⟨i,_,_,hi⟩
     ·omega
     ·exact agC (List.mem_of_getElem? hi) hb
    rw[hmax,aeY hin]
theorem pO {g:Gm} (h:jG g=0):cZ g.au g.infos.length g.nodes=0∧qY g=0:=by
 unfold jG at h;split at h
 ·omega
 ·split at h
  ·rename_i h2; exact absurd h h2
  ·rename_i h2
   split at h
   ·omega
   ·split at h
    ·omega
    ·exact⟨by simpa using h2,h⟩
theorem aaw {g:Gm} (h:jG g=0):∀ i∈g.infos,i.actions≤10:=by
 intro inf hin;obtain⟨s,hs⟩:=List.getElem?_of_mem hin;have hsl:s < g.infos.length:=aF hs;obtain⟨h2,h5⟩:=pO h;unfold qY at h5;split at h5
 ·omega
 rename_i ht
 split at h5
 ·omega
 rename_i hn
 have hm:=jZ (aci h).infos hsl;have hne:(dK g.nodes s g.nodes.length).length≠0:=fun e=>by
  apply hn
  unfold qW;exact List.any_eq_true.2 ⟨_,List.mem_of_getElem? hm,decide_eq_true e⟩
 obtain⟨x,hx⟩:=List.exists_mem_of_length_pos (Nat.pos_of_ne_zero hne);obtain⟨k,rfl,hk,hmv⟩:=yR.1 hx;unfold mv at hmv;split at hmv
 ·rename_i n hnk
  simp only[Bool.and_eq_true,decide_eq_true_eq] at hmv;have hmem:=List.mem_of_getElem? hnk;have e1:=iQ h2 n hmem;unfold dU at e1;rw[if_neg (by omega),if_pos hmv.1] at e1;unfold gG at e1;split at e1
  ·omega
  ·rename_i h3
   have e2:fU g.infos n=false:=by
    cases hb:fU g.infos n with
    | false=>rfl
    | true=>exact absurd (List.any_eq_true.2 ⟨n,hmem,hb⟩) ht
   unfold fU at e2;rw[decide_eq_true hmv.1,Bool.true_and,Bool.or_eq_false_iff,hmv.2,List.getD_eq_getElem?_getD,hs] at e2;have e3:=of_decide_eq_false e2.2;simp only[Option.getD_some] at e3;omega
 ·cases hmv
end Go.Proofs.YtkcheepafifjaaaGreatDoor

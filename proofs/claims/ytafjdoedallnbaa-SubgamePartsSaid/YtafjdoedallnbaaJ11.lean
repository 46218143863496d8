/- subgame.look: the view of a game -/
import Derived.Test.YtafjdoedallnbaaJ10
namespace Go.Proofs.Ytafjdoedallnbaa
open List renaming getElem_toArray → lq1, getElem_cons_zero → lq2, getElem_cons_succ → lq3, setIfInBounds_toArray → lq4, set_cons_zero → lq5, set_cons_succ → lq6
open Go.RowKit
/-- the view of a game, by value -/
def ViewV (w : World) (F : Foot) (v : Value) (g : Gm) (par last : List Int) (sets : List (List Int)) : Prop :=
 ∃ vn vi vp vl vs, v = .agg #[.int .i64 g.players, vn, vi, vp, vl, vs] ∧ NodesAt w F vn g.nodes ∧ InfosAt w F vi g.infos ∧ IntsAt w F vp par ∧ IntsAt w F vl last ∧ RowsAt w F vs sets
theorem ViewV.keep {w w' : World} {F G : Foot} {v : Value} {g : Gm} {par last : List Int} {sets : List (List Int)} (h : ViewV w F v g par last sets) (hFG : ∀ b, F b → b < w.heap.size → G b) (hs : Same F w w') : ViewV w' G v g par last sets := by
 obtain ⟨vn, vi, vp, vl, vs, rfl, h1, h2, h3, h4, h5⟩ := h
 exact ⟨vn, vi, vp, vl, vs, rfl, h1.keep hFG hs, h2.keep hFG hs, h3.keep hFG hs, h4.keep hFG hs, h5.keep hFG hs⟩
theorem ViewV.on {w w' : World} {F : Foot} {v : Value} {g : Gm} {par last : List Int} {sets : List (List Int)} (h : ViewV w F v g par last sets) (hs : Same F w w') : ViewV w' F v g par last sets := h.keep (fun _ h _ => h) hs
/-- one step of look's loop over the nodes, from the last one on: the parents of the children, and the last nodes -/
def lookKids (i : Nat) (cs : List Int) (s : List Int × List Int) : List Int × List Int := cs.foldl (fun s c => (s.1.set c.toNat i, s.2.set i (s.2.getD c.toNat 0))) s
def lookStep (nodes : List Nd) (i : Nat) (s : List Int × List Int) : List Int × List Int := match nodes[i]? with
 | some n => lookKids i n.next (s.1, s.2.set i i)
 | none => s
/-- the last m nodes have been done -/
def lookTo (nodes : List Nd) : Nat → List Int × List Int
 | 0 => ((List.replicate nodes.length 0).set 0 (-1), List.replicate nodes.length 0)
 | m + 1 => lookStep nodes (nodes.length - 1 - m) (lookTo nodes m)
def lookL (nodes : List Nd) : List Int × List Int := lookTo nodes nodes.length
theorem lookKids_snoc {l : List Int} {i : Nat} {s : List Int × List Int} {k : Nat} {c : Int} (h : l[k]? = some c) : lookKids i (l.take (k + 1)) s = ((lookKids i (l.take k) s).1.set c.toNat i, (lookKids i (l.take k) s).2.set i ((lookKids i (l.take k) s).2.getD c.toNat 0)) := by
 rw [take_snoc h]; simp [lookKids, List.foldl_append]
theorem lookKids_len {N : Nat} (i : Nat) (l : List Int) (s : List Int × List Int) (h1 : s.1.length = N) (h2 : s.2.length = N) : (lookKids i l s).1.length = N ∧ (lookKids i l s).2.length = N := by
 unfold lookKids
 induction l generalizing s with
 | nil => exact ⟨h1, h2⟩
 | cons c l ih => simp only [List.foldl_cons]; exact ih _ (by simp [h1]) (by simp [h2])
theorem lookTo_len (nodes : List Nd) (m : Nat) : (lookTo nodes m).1.length = nodes.length ∧ (lookTo nodes m).2.length = nodes.length := by
 induction m with
 | zero => simp [lookTo]
 | succ m ih =>
  unfold lookTo lookStep
  split
  ·exact lookKids_len _ _ _ ih.1 (by simp [ih.2])
  ·exact ih
def noView : Value := .agg #[.int .i64 0, .slice none 0 0, .slice none 0 0, .slice none 0 0, .slice none 0 0, .slice none 0 0]
def LookOut (F : Foot) (g : Gm) (B : Nat) (v : Value) (w' : World) : Prop := ∃ vv, v = .tuple #[vv, .int .i64 (formL g)] ∧
 (formL g ≠ 0 → vv = noView) ∧ (formL g = 0 → ViewV w' (fun b => F b ∨ B ≤ b) vv g (lookL g.nodes).1 (lookL g.nodes).2 (setsL g))
theorem set6 {w : World} {b : Nat} {t : TypeId} {a0 a1 a2 a3 a4 a5 : Value} (h : Row w b t [a0, a1, a2, a3, a4, a5]) (v0 v1 v2 v3 v4 v5 : Value) : ∃ W, W = ((((((w.setCell ⟨b, 0, none⟩ v0).setCell ⟨b, 1, none⟩ v1).setCell ⟨b, 2, none⟩ v2).setCell ⟨b, 3, none⟩ v3).setCell ⟨b, 4, none⟩ v4).setCell ⟨b, 5, none⟩ v5) ∧
  Row W b t [v0, v1, v2, v3, v4, v5] ∧ Wrote (fun k => k = b) w W := by
 refine ⟨_, rfl, ?_, ?_⟩
 ·exact (((((h.set 0 v0).set 1 v1).set 2 v2).set 3 v3).set 4 v4).set 5 v5
 ·have h0 : Wrote (fun k => k = b) w w := Wrote.refl _ _
  exact (((((h0.setCell (p := ⟨b, 0, none⟩) (.inl rfl) v0).setCell (p := ⟨b, 1, none⟩) (.inl rfl) v1).setCell (p := ⟨b, 2, none⟩) (.inl rfl) v2).setCell (p := ⟨b, 3, none⟩) (.inl rfl) v3).setCell (p := ⟨b, 4, none⟩) (.inl rfl) v4).setCell (p := ⟨b, 5, none⟩) (.inl rfl) v5
/-- what look holds while it works -/
structure LookSt (w : World) (g : Gm) (A : Option Addr) (c : Nat) (Ai : Option Addr) (ci : Nat) (bv bp bl bs : Nat) (s : List Int × List Int) (vs : List Value) (wr : World) : Prop where
 box : Row wr w.heap.size 25 [.int .i64 g.players, .slice A g.nodes.length c, .slice Ai g.infos.length ci]
 res : Row wr (w.heap.size + 1) 51 [.int .i64 0, .slice none 0 0, .slice none 0 0, .slice none 0 0, .slice none 0 0, .slice none 0 0]
 view : Row wr bv 51 [.int .i64 g.players, .slice A g.nodes.length c, .slice Ai g.infos.length ci, .slice (some ⟨bp, 0, none⟩) g.nodes.length g.nodes.length, .slice (some ⟨bl, 0, none⟩) g.nodes.length g.nodes.length, .slice (some ⟨bs, 0, none⟩) g.infos.length g.infos.length]
 rp : Row wr bp 3 (intsV s.1)
 rl : Row wr bl 3 (intsV s.2)
 rs : Row wr bs 26 vs
 bel : Below w.heap.size w wr
structure Apart (B bv bp bl bs : Nat) : Prop where
 v : B + 1 < bv
 p : B + 1 < bp
 l : B + 1 < bl
 s : B + 1 < bs
 vp : bv ≠ bp
 vl : bv ≠ bl
 vs : bv ≠ bs
 pl : bp ≠ bl
 ps : bp ≠ bs
 ls : bl ≠ bs
section
variable {w : World} {g : Gm} {A : Option Addr} {c : Nat} {Ai : Option Addr} {ci : Nat} {bv bp bl bs : Nat} {s : List Int × List Int} {vs : List Value} {wr wr' : World}
theorem LookSt.below (h : LookSt w g A c Ai ci bv bp bl bs s vs wr) (k : Below wr.heap.size wr wr') : LookSt w g A c Ai ci bv bp bl bs s vs wr' :=
 ⟨h.box.below k h.box.lt, h.res.below k h.res.lt, h.view.below k h.view.lt, h.rp.below k h.rp.lt, h.rl.below k h.rl.lt, h.rs.below k h.rs.lt, h.bel.trans (k.mono h.bel.size)⟩
theorem LookSt.alloc (h : LookSt w g A c Ai ci bv bp bl bs s vs wr) (o : Obj) : LookSt w g A c Ai ci bv bp bl bs s vs (wr.alloc o) := h.below ((Below.refl _ _).alloc (Nat.le_refl _) _)
theorem LookSt.drew (h : LookSt w g A c Ai ci bv bp bl bs s vs wr) : LookSt w g A c Ai ci bv bp bl bs s vs wr.drew := ⟨h.box, h.res, h.view, h.rp, h.rl, h.rs, h.bel.drew⟩
theorem LookSt.setP (h : LookSt w g A c Ai ci bv bp bl bs s vs wr) (ap : Apart w.heap.size bv bp bl bs) (i : Nat) (x : Int) : LookSt w g A c Ai ci bv bp bl bs (s.1.set i x, s.2) vs (wr.setCell ⟨bp, i, none⟩ (.int .i64 x)) :=
 ⟨h.box.other (by have := ap.p; simp; omega) _, h.res.other (by have := ap.p; simp; omega) _, h.view.other ap.vp _, by simpa [intsV, List.map_set] using h.rp.set i (.int .i64 x), h.rl.other ap.pl.symm _, h.rs.other ap.ps.symm _, h.bel.setCell (by have := ap.p; simp; omega) _⟩
theorem LookSt.setL (h : LookSt w g A c Ai ci bv bp bl bs s vs wr) (ap : Apart w.heap.size bv bp bl bs) (i : Nat) (x : Int) : LookSt w g A c Ai ci bv bp bl bs (s.1, s.2.set i x) vs (wr.setCell ⟨bl, i, none⟩ (.int .i64 x)) :=
 ⟨h.box.other (by have := ap.l; simp; omega) _, h.res.other (by have := ap.l; simp; omega) _, h.view.other ap.vl _, h.rp.other ap.pl _, by simpa [intsV, List.map_set] using h.rl.set i (.int .i64 x), h.rs.other ap.ls.symm _, h.bel.setCell (by have := ap.l; simp; omega) _⟩
theorem LookSt.setS (h : LookSt w g A c Ai ci bv bp bl bs s vs wr) (ap : Apart w.heap.size bv bp bl bs) (i : Nat) (x : Value) : LookSt w g A c Ai ci bv bp bl bs s (vs.set i x) (wr.setCell ⟨bs, i, none⟩ x) :=
 ⟨h.box.other (by have := ap.s; simp; omega) _, h.res.other (by have := ap.s; simp; omega) _, h.view.other ap.vs _, h.rp.other ap.ps _, h.rl.other ap.ls _, h.rs.set i x, h.bel.setCell (by have := ap.s; simp; omega) _⟩
theorem LookSt.blocks (h : LookSt w g A c Ai ci bv bp bl bs s vs wr) (k : ∀ b, b < wr.heap.size → b = w.heap.size ∨ b = w.heap.size + 1 ∨ b = bv ∨ b = bp ∨ b = bl ∨ b = bs → wr'.heap[b]? = wr.heap[b]?) (hb : Below w.heap.size w wr') : LookSt w g A c Ai ci bv bp bl bs s vs wr' :=
 ⟨h.box.of_block (k _ h.box.lt (by simp)), h.res.of_block (k _ h.res.lt (by simp)), h.view.of_block (k _ h.view.lt (by simp)), h.rp.of_block (k _ h.rp.lt (by simp)), h.rl.of_block (k _ h.rl.lt (by simp)), h.rs.of_block (k _ h.rs.lt (by simp)), hb⟩
end
set_option maxRecDepth 100000 in
set_option maxHeartbeats 6400000 in
theorem look_any (w : World) (F : Foot) (u : Value) (g : Gm) (hg : GameAt w F u g) (hsm : Small g) :
  Calls Try.prog 34 #[u] w (Ret w (LookOut F g w.heap.size)) := by
 have HG := Lib.hid hg
 obtain ⟨vn, vi, rfl, ⟨A, c, rfl, hc, hN⟩, ⟨Ai, ci, rfl, hci, hI⟩⟩ := hg
 have HN := Lib.hid hN; have HI := Lib.hid hI; clear hN hI
 have hn := hsm.nodes
 have hni := hsm.infos
 have HS := Lib.hid hsm; clear hsm
 go_enter Try.func34, Try.ntmps34
 go_wp2_with fail
 refine (formP_any _ F _ g ((HG.out.on (Same.alloc _ _ _)).on (Same.alloc _ _ _)) HS.out).mono ?_
 rintro e w1 ⟨_, rfl, hb1, rfl⟩
 rw [errP_eq]
 have hbx := ((Row.new w 25 #[.int .i64 g.players, .slice A g.nodes.length c, .slice Ai g.infos.length ci]).alloc (.cells #[.int .i64 0, .slice none 0 0, .slice none 0 0, .slice none 0 0, .slice none 0 0, .slice none 0 0] 51)).below hb1 (by simp; omega)
 have hrs : Row w1 (w.heap.size + 1) 51 [.int .i64 0, .slice none 0 0, .slice none 0 0, .slice none 0 0, .slice none 0 0, .slice none 0 0] := by
  have := (Row.new (w.alloc (.cells #[.int .i64 g.players, .slice A g.nodes.length c, .slice Ai g.infos.length ci] 25)) 51 #[.int .i64 0, .slice none 0 0, .slice none 0 0, .slice none 0 0, .slice none 0 0, .slice none 0 0]).below hb1 (by simp)
  simpa using this
 have hB : Below w.heap.size w w1 := (below_two w _ _ 0).trans (hb1.mono (by simp; omega))
 clear hb1
 have HGD := Lib.hid (fun h : formL g = 0 => good_of h)
 generalize hfe : formL g = er at *
 have HFE := Lib.hid hfe; clear hfe
 dsimp only
 by_cases he : er = 0
 ·have hgd := HGD.out he
  have HK := Lib.hid hgd.kidsIn
  have HIN := Lib.hid hgd.infos
  have hp := hgd.pos
  subst he
  clear hgd HGD
  obtain ⟨b, o, rfl, hbF, hb, hcell⟩ := HN.out hp
  have HC := Lib.hid hcell; clear hcell
  go_upto_region 4 with fail
  go_cut [5] from 17 to 30 (fun v5 wx => ∃ bv bp bl bs, v5 = .pointer (some ⟨bv, 0, none⟩) ∧ LookSt w g (some ⟨b, o, none⟩) c Ai ci bv bp bl bs (List.replicate g.nodes.length 0, List.replicate g.nodes.length 0) (List.replicate g.infos.length (.slice none 0 0)) wx ∧ Apart w.heap.size bv bp bl bs)
  case first =>
   obtain ⟨w0, hw0⟩ : ∃ W, W = w1.drew := ⟨_, rfl⟩
   refine wp_region_held_drew (S := fun w' => w'.cell? ⟨w.heap.size, 0, none⟩ = some (.int .i64 g.players) ∧ w'.cell? ⟨w.heap.size, 1, none⟩ = some (.slice (some ⟨b, o, none⟩) g.nodes.length c) ∧ w'.cell? ⟨w.heap.size, 2, none⟩ = some (.slice Ai g.infos.length ci)) (by kernel_rfl) ⟨hbx.cell rfl, hbx.cell rfl, hbx.cell rfl⟩ (fun hHeld => ?_)
   refine wpAnyH_take (i := 0) (v := ?_) rfl (by kernel_rfl) (by kernel_rfl) (by kernel_rfl) (fun _ _ _ h => h) (Or.inl ⟨by rfl, ?_⟩) hHeld ?_
   rotate_left
   ·intro wx hSx; (try dsimp only at hSx); go_split_ands; go_simp; try (with_reducible rfl)
   try simp only [Act.put, lq1, lq2, lq3, lq4, lq5, lq6]
   refine wpAnyH_take (i := 1) (v := ?_) rfl (by kernel_rfl) (by kernel_rfl) (by kernel_rfl) (fun _ _ _ h => h) (Or.inl ⟨by rfl, ?_⟩) hHeld ?_
   rotate_left
   ·intro wx hSx; (try dsimp only at hSx); go_split_ands; go_simp; try (with_reducible rfl)
   try simp only [Act.put, lq1, lq2, lq3, lq4, lq5, lq6]
   refine wpAnyH_take (i := 2) (v := ?_) rfl (by kernel_rfl) (by kernel_rfl) (by kernel_rfl) (fun _ _ _ h => h) (Or.inl ⟨by rfl, ?_⟩) hHeld ?_
   rotate_left
   ·intro wx hSx; (try dsimp only at hSx); go_split_ands; go_simp; try (with_reducible rfl)
   try simp only [Act.put, lq1, lq2, lq3, lq4, lq5, lq6]
   refine wpAnyH_take (i := 3) (v := ?_) rfl (by kernel_rfl) (by kernel_rfl) (by kernel_rfl) (fun _ _ _ h => h) (Or.inl ⟨by rfl, ?_⟩) hHeld ?_
   rotate_left
   ·intro wx hSx; (try dsimp only at hSx); go_split_ands; go_simp; try (with_reducible rfl)
   try simp only [Act.put, lq1, lq2, lq3, lq4, lq5, lq6]
   refine wpAnyH_take (i := 5) (v := ?_) rfl (by kernel_rfl) (by kernel_rfl) (by kernel_rfl) (fun _ _ _ h => h) (Or.inl ⟨by rfl, ?_⟩) hHeld ?_
   rotate_left
   ·intro wx hSx; (try dsimp only at hSx); go_split_ands; go_simp; try (with_reducible rfl)
   try simp only [Act.put, lq1, lq2, lq3, lq4, lq5, lq6]
   refine wpAnyH_take (i := 6) (v := ?_) rfl (by kernel_rfl) (by kernel_rfl) (by kernel_rfl) (fun _ _ _ h => h) (Or.inl ⟨by rfl, ?_⟩) hHeld ?_
   rotate_left
   ·intro wx hSx; (try dsimp only at hSx); go_split_ands; go_simp; try (with_reducible rfl)
   try simp only [Act.put, lq1, lq2, lq3, lq4, lq5, lq6]
   refine wpAnyH_take (i := 7) (v := ?_) rfl (by kernel_rfl) (by kernel_rfl) (by kernel_rfl) (fun _ _ _ h => h) (Or.inl ⟨by rfl, ?_⟩) hHeld ?_
   rotate_left
   ·intro wx hSx; (try dsimp only at hSx); go_split_ands; go_simp; try (with_reducible rfl)
   try simp only [Act.put, lq1, lq2, lq3, lq4, lq5, lq6]
   refine wpAnyH_take (i := 9) (v := ?_) rfl (by kernel_rfl) (by kernel_rfl) (by kernel_rfl) (fun _ _ _ h => h) (Or.inl ⟨by rfl, ?_⟩) hHeld ?_
   rotate_left
   ·intro wx hSx; (try dsimp only at hSx); go_split_ands; go_simp; try (with_reducible rfl)
   try simp only [Act.put, lq1, lq2, lq3, lq4, lq5, lq6]
   refine wpAnyH_take (i := 10) (v := ?_) rfl (by kernel_rfl) (by kernel_rfl) (by kernel_rfl) (fun _ _ _ h => h) (Or.inl ⟨by rfl, ?_⟩) hHeld ?_
   rotate_left
   ·intro wx hSx; (try dsimp only at hSx); go_split_ands; go_simp; try (with_reducible rfl)
   try simp only [Act.put, lq1, lq2, lq3, lq4, lq5, lq6]
   refine wpAnyH_take (i := 11) (v := ?_) rfl (by kernel_rfl) (by kernel_rfl) (by kernel_rfl) (fun _ _ _ h => h) (Or.inl ⟨by rfl, ?_⟩) hHeld ?_
   rotate_left
   ·intro wx hSx; (try dsimp only at hSx); go_split_ands; go_simp; try (with_reducible rfl)
   try simp only [Act.put, lq1, lq2, lq3, lq4, lq5, lq6]
   have hbx0 : Row w0 _ _ _ := hw0 ▸ hbx.drew
   have hrs0 : Row w0 _ _ _ := hw0 ▸ hrs.drew
   have hB0 : Below w.heap.size w w0 := hw0 ▸ hB.drew
   rw [← hw0] at hHeld ⊢
   clear hw0 hbx hrs hB
   refine wpAnyH_ready (rs := [4, 8, 12, 14]) (by decide +kernel) (by simp) ?_
   refine (AllReadyH.cons (o := _) rfl (fun K hK => ?_) (AllReadyH.cons (o := _) rfl (fun K hK => ?_) (AllReadyH.cons (o := _) rfl (fun K hK => ?_) (AllReadyH.cons (o := _) rfl (fun K hK => ?_) AllReadyH.nil))))
   ·refine ifT rfl ?_
    refine oper_make _ _ _ 26 rfl 3 (.int .i64 0) 8 Try.underlying26 Try.infoInt rfl g.nodes.length rfl rfl (by omega) (by omega) ?_
    intro w1 hb hz hr4_1
    clear hz
    have g4 := hrs0.lt
    have sz1 := hb.size
    have hbx1 := hbx0.below hb hbx0.lt
    have hrs1 := hrs0.below hb hrs0.lt
    have hB1 := hB0.trans (hb.mono hB0.size)
    clear hb
    refine hK.out _ _ ⟨hbx1.cell rfl, hbx1.cell rfl, hbx1.cell rfl⟩ (fun hHeld => ?_)
    clear hK K
    try simp only [Act.put, lq1, lq2, lq3, lq4, lq5, lq6]
    refine wpAnyH_ready (rs := [8, 12, 14]) (by decide +kernel) (by simp) ?_
    refine (AllReadyH.cons (o := _) rfl (fun K hK => ?_) (AllReadyH.cons (o := _) rfl (fun K hK => ?_) (AllReadyH.cons (o := _) rfl (fun K hK => ?_) AllReadyH.nil)))
    ·refine ifT rfl ?_
     refine oper_make _ _ _ 26 rfl 3 (.int .i64 0) 8 Try.underlying26 Try.infoInt rfl g.nodes.length rfl rfl (by omega) (by omega) ?_
     intro w2 hb hz hr8_2
     clear hz
     have g8 := hrs1.lt
     have l4_8 := hr4_1.lt
     have hr4_2 := hr4_1.below hb hr4_1.lt
     have sz2 := hb.size
     have hbx2 := hbx1.below hb hbx1.lt
     have hrs2 := hrs1.below hb hrs1.lt
     have hB2 := hB1.trans (hb.mono hB1.size)
     clear hb
     refine hK.out _ _ ⟨hbx2.cell rfl, hbx2.cell rfl, hbx2.cell rfl⟩ (fun hHeld => ?_)
     clear hK K
     try simp only [Act.put, lq1, lq2, lq3, lq4, lq5, lq6]
     refine wpAnyH_ready (rs := [12, 14]) (by decide +kernel) (by simp) ?_
     refine (AllReadyH.cons (o := _) rfl (fun K hK => ?_) (AllReadyH.cons (o := _) rfl (fun K hK => ?_) AllReadyH.nil))
     ·refine ifT rfl ?_
      refine oper_make _ _ _ 49 rfl 26 (.slice none 0 0) 24 Try.underlying49 Try.infoInts rfl g.infos.length rfl rfl (by omega) (by omega) ?_
      intro w3 hb hz hr12_3
      clear hz
      have g12 := hrs2.lt
      have l4_12 := hr4_2.lt
      have hr4_3 := hr4_2.below hb hr4_2.lt
      have l8_12 := hr8_2.lt
      have hr8_3 := hr8_2.below hb hr8_2.lt
      have sz3 := hb.size
      have hbx3 := hbx2.below hb hbx2.lt
      have hrs3 := hrs2.below hb hrs2.lt
      have hB3 := hB2.trans (hb.mono hB2.size)
      clear hb
      refine hK.out _ _ ⟨hbx3.cell rfl, hbx3.cell rfl, hbx3.cell rfl⟩ (fun hHeld => ?_)
      clear hK K
      try simp only [Act.put, lq1, lq2, lq3, lq4, lq5, lq6]
      refine wpAnyH_take (i := 13) (v := ?_) rfl (by kernel_rfl) (by kernel_rfl) (by kernel_rfl) (fun _ _ _ h => h) (Or.inl ⟨by rfl, ?_⟩) hHeld ?_
      rotate_left
      ·intro wx hSx; (try dsimp only at hSx); go_split_ands; go_simp; try (with_reducible rfl)
      try simp only [Act.put, lq1, lq2, lq3, lq4, lq5, lq6]
      refine wpAnyH_ready (rs := [14]) (by decide +kernel) (by simp) ?_
      refine (AllReadyH.cons (o := _) rfl (fun K hK => ?_) AllReadyH.nil)
      ·go_simp
       obtain ⟨w4, hw, hr14_4, hb, hz⟩ := row_of_alloc w3 51 #[.int .i64 0, .slice none 0 0, .slice none 0 0, .slice none 0 0, .slice none 0 0, .slice none 0 0]
       rw [← hw]
       clear hw hz
       have g14 := hrs3.lt
       have l4_14 := hr4_3.lt
       have hr4_4 := hr4_3.below hb hr4_3.lt
       have l8_14 := hr8_3.lt
       have hr8_4 := hr8_3.below hb hr8_3.lt
       have l12_14 := hr12_3.lt
       have hr12_4 := hr12_3.below hb hr12_3.lt
       have sz4 := hb.size
       have hbx4 := hbx3.below hb hbx3.lt
       have hrs4 := hrs3.below hb hrs3.lt
       have hB4 := hB3.trans (hb.mono hB3.size)
       clear hb
       refine hK.out _ _ ⟨hbx4.cell rfl, hbx4.cell rfl, hbx4.cell rfl⟩ (fun hHeld => ?_)
       clear hK K
       try simp only [Act.put, lq1, lq2, lq3, lq4, lq5, lq6]
       have r0 := hr14_4.cell (i := 0) rfl
       have f0 := hr14_4.frozen 0
       have r1 := hr14_4.cell (i := 1) rfl
       have f1 := hr14_4.frozen 1
       have r2 := hr14_4.cell (i := 2) rfl
       have f2 := hr14_4.frozen 2
       have r3 := hr14_4.cell (i := 3) rfl
       have f3 := hr14_4.frozen 3
       have r4 := hr14_4.cell (i := 4) rfl
       have f4 := hr14_4.frozen 4
       have r5 := hr14_4.cell (i := 5) rfl
       have f5 := hr14_4.frozen 5
       refine wpAnyH_ready (rs := [15]) (by kernel_rfl) (by simp) ?_
       refine AllReadyH.cons (o := _) rfl (fun K hK => ?_) AllReadyH.nil
       go_simp
       obtain ⟨W, hW, hrw, hww⟩ := set6 hr14_4 (.int .i64 g.players) (.slice (some ⟨b, o, none⟩) g.nodes.length c) (.slice Ai g.infos.length ci) (.slice (some ⟨w0.heap.size, 0, none⟩) g.nodes.length g.nodes.length) (.slice (some ⟨w1.heap.size, 0, none⟩) g.nodes.length g.nodes.length) (.slice (some ⟨w2.heap.size, 0, none⟩) g.infos.length g.infos.length)
       rw [← hW]
       clear hW
       have hbxw := hbx4.wrote hww (by omega)
       refine hK.out _ _ ⟨hbxw.cell rfl, hbxw.cell rfl, hbxw.cell rfl⟩ (fun hHeld => ?_)
       clear hK K
       try simp only [Act.put, lq1, lq2, lq3, lq4, lq5, lq6]
       refine wpAnyH_done (by kernel_rfl) ?_ _
       clear hHeld
       clear r0 f0
       clear r1 f1
       clear r2 f2
       clear r3 f3
       clear r4 f4
       clear r5 f5
       go_wp2_with fail
       go_meet
       exact ⟨w3.heap.size, w0.heap.size, w1.heap.size, w2.heap.size, rfl, ⟨hbxw, hrs4.wrote hww (by omega), hrw, by simpa [intsV] using hr4_4.wrote hww (by omega), by simpa [intsV] using hr8_4.wrote hww (by omega), hr12_4.wrote hww (by omega), Wrote.below hB4 hww (fun k hk => by omega) hB4.size⟩, ⟨g14, g4, g8, g12, by omega, by omega, by omega, by omega, by omega, by omega⟩⟩
     ·go_simp
      obtain ⟨w3, hw, hr14_3, hb, hz⟩ := row_of_alloc w2 51 #[.int .i64 0, .slice none 0 0, .slice none 0 0, .slice none 0 0, .slice none 0 0, .slice none 0 0]
      rw [← hw]
      clear hw hz
      have g14 := hrs2.lt
      have l4_14 := hr4_2.lt
      have hr4_3 := hr4_2.below hb hr4_2.lt
      have l8_14 := hr8_2.lt
      have hr8_3 := hr8_2.below hb hr8_2.lt
      have sz3 := hb.size
      have hbx3 := hbx2.below hb hbx2.lt
      have hrs3 := hrs2.below hb hrs2.lt
      have hB3 := hB2.trans (hb.mono hB2.size)
      clear hb
      refine hK.out _ _ ⟨hbx3.cell rfl, hbx3.cell rfl, hbx3.cell rfl⟩ (fun hHeld => ?_)
      clear hK K
      try simp only [Act.put, lq1, lq2, lq3, lq4, lq5, lq6]
      refine wpAnyH_ready (rs := [12]) (by decide +kernel) (by simp) ?_
      refine (AllReadyH.cons (o := _) rfl (fun K hK => ?_) AllReadyH.nil)
      ·refine ifT rfl ?_
       refine oper_make _ _ _ 49 rfl 26 (.slice none 0 0) 24 Try.underlying49 Try.infoInts rfl g.infos.length rfl rfl (by omega) (by omega) ?_
       intro w4 hb hz hr12_4
       clear hz
       have g12 := hrs3.lt
       have l4_12 := hr4_3.lt
       have hr4_4 := hr4_3.below hb hr4_3.lt
       have l8_12 := hr8_3.lt
       have hr8_4 := hr8_3.below hb hr8_3.lt
       have l14_12 := hr14_3.lt
       have hr14_4 := hr14_3.below hb hr14_3.lt
       have sz4 := hb.size
       have hbx4 := hbx3.below hb hbx3.lt
       have hrs4 := hrs3.below hb hrs3.lt
       have hB4 := hB3.trans (hb.mono hB3.size)
       clear hb
       refine hK.out _ _ ⟨hbx4.cell rfl, hbx4.cell rfl, hbx4.cell rfl⟩ (fun hHeld => ?_)
       clear hK K
       try simp only [Act.put, lq1, lq2, lq3, lq4, lq5, lq6]
       refine wpAnyH_take (i := 13) (v := ?_) rfl (by kernel_rfl) (by kernel_rfl) (by kernel_rfl) (fun _ _ _ h => h) (Or.inl ⟨by rfl, ?_⟩) hHeld ?_
       rotate_left
       ·intro wx hSx; (try dsimp only at hSx); go_split_ands; go_simp; try (with_reducible rfl)
       try simp only [Act.put, lq1, lq2, lq3, lq4, lq5, lq6]
       have r0 := hr14_4.cell (i := 0) rfl
       have f0 := hr14_4.frozen 0
       have r1 := hr14_4.cell (i := 1) rfl
       have f1 := hr14_4.frozen 1
       have r2 := hr14_4.cell (i := 2) rfl
       have f2 := hr14_4.frozen 2
       have r3 := hr14_4.cell (i := 3) rfl
       have f3 := hr14_4.frozen 3
       have r4 := hr14_4.cell (i := 4) rfl
       have f4 := hr14_4.frozen 4
       have r5 := hr14_4.cell (i := 5) rfl
       have f5 := hr14_4.frozen 5
       refine wpAnyH_ready (rs := [15]) (by kernel_rfl) (by simp) ?_
       refine AllReadyH.cons (o := _) rfl (fun K hK => ?_) AllReadyH.nil
       go_simp
       obtain ⟨W, hW, hrw, hww⟩ := set6 hr14_4 (.int .i64 g.players) (.slice (some ⟨b, o, none⟩) g.nodes.length c) (.slice Ai g.infos.length ci) (.slice (some ⟨w0.heap.size, 0, none⟩) g.nodes.length g.nodes.length) (.slice (some ⟨w1.heap.size, 0, none⟩) g.nodes.length g.nodes.length) (.slice (some ⟨w3.heap.size, 0, none⟩) g.infos.length g.infos.length)
       rw [← hW]
       clear hW
       have hbxw := hbx4.wrote hww (by omega)
       refine hK.out _ _ ⟨hbxw.cell rfl, hbxw.cell rfl, hbxw.cell rfl⟩ (fun hHeld => ?_)
       clear hK K
       try simp only [Act.put, lq1, lq2, lq3, lq4, lq5, lq6]
       refine wpAnyH_done (by kernel_rfl) ?_ _
       clear hHeld
       clear r0 f0
       clear r1 f1
       clear r2 f2
       clear r3 f3
       clear r4 f4
       clear r5 f5
       go_wp2_with fail
       go_meet
       exact ⟨w2.heap.size, w0.heap.size, w1.heap.size, w3.heap.size, rfl, ⟨hbxw, hrs4.wrote hww (by omega), hrw, by simpa [intsV] using hr4_4.wrote hww (by omega), by simpa [intsV] using hr8_4.wrote hww (by omega), hr12_4.wrote hww (by omega), Wrote.below hB4 hww (fun k hk => by omega) hB4.size⟩, ⟨g14, g4, g8, g12, by omega, by omega, by omega, by omega, by omega, by omega⟩⟩
    ·refine ifT rfl ?_
     refine oper_make _ _ _ 49 rfl 26 (.slice none 0 0) 24 Try.underlying49 Try.infoInts rfl g.infos.length rfl rfl (by omega) (by omega) ?_
     intro w2 hb hz hr12_2
     clear hz
     have g12 := hrs1.lt
     have l4_12 := hr4_1.lt
     have hr4_2 := hr4_1.below hb hr4_1.lt
     have sz2 := hb.size
     have hbx2 := hbx1.below hb hbx1.lt
     have hrs2 := hrs1.below hb hrs1.lt
     have hB2 := hB1.trans (hb.mono hB1.size)
     clear hb
     refine hK.out _ _ ⟨hbx2.cell rfl, hbx2.cell rfl, hbx2.cell rfl⟩ (fun hHeld => ?_)
     clear hK K
     try simp only [Act.put, lq1, lq2, lq3, lq4, lq5, lq6]
     refine wpAnyH_ready (rs := [8, 14]) (by decide +kernel) (by simp) ?_
     refine (AllReadyH.cons (o := _) rfl (fun K hK => ?_) (AllReadyH.cons (o := _) rfl (fun K hK => ?_) AllReadyH.nil))
     ·refine ifT rfl ?_
      refine oper_make _ _ _ 26 rfl 3 (.int .i64 0) 8 Try.underlying26 Try.infoInt rfl g.nodes.length rfl rfl (by omega) (by omega) ?_
      intro w3 hb hz hr8_3
      clear hz
      have g8 := hrs2.lt
      have l4_8 := hr4_2.lt
      have hr4_3 := hr4_2.below hb hr4_2.lt
      have l12_8 := hr12_2.lt
      have hr12_3 := hr12_2.below hb hr12_2.lt
      have sz3 := hb.size
      have hbx3 := hbx2.below hb hbx2.lt
      have hrs3 := hrs2.below hb hrs2.lt
      have hB3 := hB2.trans (hb.mono hB2.size)
      clear hb
      refine hK.out _ _ ⟨hbx3.cell rfl, hbx3.cell rfl, hbx3.cell rfl⟩ (fun hHeld => ?_)
      clear hK K
      try simp only [Act.put, lq1, lq2, lq3, lq4, lq5, lq6]
      refine wpAnyH_take (i := 13) (v := ?_) rfl (by kernel_rfl) (by kernel_rfl) (by kernel_rfl) (fun _ _ _ h => h) (Or.inl ⟨by rfl, ?_⟩) hHeld ?_
      rotate_left
      ·intro wx hSx; (try dsimp only at hSx); go_split_ands; go_simp; try (with_reducible rfl)
      try simp only [Act.put, lq1, lq2, lq3, lq4, lq5, lq6]
      refine wpAnyH_ready (rs := [14]) (by decide +kernel) (by simp) ?_
      refine (AllReadyH.cons (o := _) rfl (fun K hK => ?_) AllReadyH.nil)
      ·go_simp
       obtain ⟨w4, hw, hr14_4, hb, hz⟩ := row_of_alloc w3 51 #[.int .i64 0, .slice none 0 0, .slice none 0 0, .slice none 0 0, .slice none 0 0, .slice none 0 0]
       rw [← hw]
       clear hw hz
       have g14 := hrs3.lt
       have l4_14 := hr4_3.lt
       have hr4_4 := hr4_3.below hb hr4_3.lt
       have l12_14 := hr12_3.lt
       have hr12_4 := hr12_3.below hb hr12_3.lt
       have l8_14 := hr8_3.lt
       have hr8_4 := hr8_3.below hb hr8_3.lt
       have sz4 := hb.size
       have hbx4 := hbx3.below hb hbx3.lt
       have hrs4 := hrs3.below hb hrs3.lt
       have hB4 := hB3.trans (hb.mono hB3.size)
       clear hb
       refine hK.out _ _ ⟨hbx4.cell rfl, hbx4.cell rfl, hbx4.cell rfl⟩ (fun hHeld => ?_)
       clear hK K
       try simp only [Act.put, lq1, lq2, lq3, lq4, lq5, lq6]
       have r0 := hr14_4.cell (i := 0) rfl
       have f0 := hr14_4.frozen 0
       have r1 := hr14_4.cell (i := 1) rfl
       have f1 := hr14_4.frozen 1
       have r2 := hr14_4.cell (i := 2) rfl
       have f2 := hr14_4.frozen 2
       have r3 := hr14_4.cell (i := 3) rfl
       have f3 := hr14_4.frozen 3
       have r4 := hr14_4.cell (i := 4) rfl
       have f4 := hr14_4.frozen 4
       have r5 := hr14_4.cell (i := 5) rfl
       have f5 := hr14_4.frozen 5
       refine wpAnyH_ready (rs := [15]) (by kernel_rfl) (by simp) ?_
       refine AllReadyH.cons (o := _) rfl (fun K hK => ?_) AllReadyH.nil
       go_simp
       obtain ⟨W, hW, hrw, hww⟩ := set6 hr14_4 (.int .i64 g.players) (.slice (some ⟨b, o, none⟩) g.nodes.length c) (.slice Ai g.infos.length ci) (.slice (some ⟨w0.heap.size, 0, none⟩) g.nodes.length g.nodes.length) (.slice (some ⟨w2.heap.size, 0, none⟩) g.nodes.length g.nodes.length) (.slice (some ⟨w1.heap.size, 0, none⟩) g.infos.length g.infos.length)
       rw [← hW]
       clear hW
       have hbxw := hbx4.wrote hww (by omega)
       refine hK.out _ _ ⟨hbxw.cell rfl, hbxw.cell rfl, hbxw.cell rfl⟩ (fun hHeld => ?_)
       clear hK K
       try simp only [Act.put, lq1, lq2, lq3, lq4, lq5, lq6]
       refine wpAnyH_done (by kernel_rfl) ?_ _
       clear hHeld
       clear r0 f0
       clear r1 f1
       clear r2 f2
       clear r3 f3
       clear r4 f4
       clear r5 f5
       go_wp2_with fail
       go_meet
       exact ⟨w3.heap.size, w0.heap.size, w2.heap.size, w1.heap.size, rfl, ⟨hbxw, hrs4.wrote hww (by omega), hrw, by simpa [intsV] using hr4_4.wrote hww (by omega), by simpa [intsV] using hr8_4.wrote hww (by omega), hr12_4.wrote hww (by omega), Wrote.below hB4 hww (fun k hk => by omega) hB4.size⟩, ⟨g14, g4, g8, g12, by omega, by omega, by omega, by omega, by omega, by omega⟩⟩
     ·go_simp
      obtain ⟨w3, hw, hr14_3, hb, hz⟩ := row_of_alloc w2 51 #[.int .i64 0, .slice none 0 0, .slice none 0 0, .slice none 0 0, .slice none 0 0, .slice none 0 0]
      rw [← hw]
      clear hw hz
      have g14 := hrs2.lt
      have l4_14 := hr4_2.lt
      have hr4_3 := hr4_2.below hb hr4_2.lt
      have l12_14 := hr12_2.lt
      have hr12_3 := hr12_2.below hb hr12_2.lt
      have sz3 := hb.size
      have hbx3 := hbx2.below hb hbx2.lt
      have hrs3 := hrs2.below hb hrs2.lt
      have hB3 := hB2.trans (hb.mono hB2.size)
      clear hb
      refine hK.out _ _ ⟨hbx3.cell rfl, hbx3.cell rfl, hbx3.cell rfl⟩ (fun hHeld => ?_)
      clear hK K
      try simp only [Act.put, lq1, lq2, lq3, lq4, lq5, lq6]
      refine wpAnyH_ready (rs := [8]) (by decide +kernel) (by simp) ?_
      refine (AllReadyH.cons (o := _) rfl (fun K hK => ?_) AllReadyH.nil)
      ·refine ifT rfl ?_
       refine oper_make _ _ _ 26 rfl 3 (.int .i64 0) 8 Try.underlying26 Try.infoInt rfl g.nodes.length rfl rfl (by omega) (by omega) ?_
       intro w4 hb hz hr8_4
       clear hz
       have g8 := hrs3.lt
       have l4_8 := hr4_3.lt
       have hr4_4 := hr4_3.below hb hr4_3.lt
       have l12_8 := hr12_3.lt
       have hr12_4 := hr12_3.below hb hr12_3.lt
       have l14_8 := hr14_3.lt
       have hr14_4 := hr14_3.below hb hr14_3.lt
       have sz4 := hb.size
       have hbx4 := hbx3.below hb hbx3.lt
       have hrs4 := hrs3.below hb hrs3.lt
       have hB4 := hB3.trans (hb.mono hB3.size)
       clear hb
       refine hK.out _ _ ⟨hbx4.cell rfl, hbx4.cell rfl, hbx4.cell rfl⟩ (fun hHeld => ?_)
       clear hK K
       try simp only [Act.put, lq1, lq2, lq3, lq4, lq5, lq6]
       refine wpAnyH_take (i := 13) (v := ?_) rfl (by kernel_rfl) (by kernel_rfl) (by kernel_rfl) (fun _ _ _ h => h) (Or.inl ⟨by rfl, ?_⟩) hHeld ?_
       rotate_left
       ·intro wx hSx; (try dsimp only at hSx); go_split_ands; go_simp; try (with_reducible rfl)
       try simp only [Act.put, lq1, lq2, lq3, lq4, lq5, lq6]
       have r0 := hr14_4.cell (i := 0) rfl
       have f0 := hr14_4.frozen 0
       have r1 := hr14_4.cell (i := 1) rfl
       have f1 := hr14_4.frozen 1
       have r2 := hr14_4.cell (i := 2) rfl
       have f2 := hr14_4.frozen 2
       have r3 := hr14_4.cell (i := 3) rfl
       have f3 := hr14_4.frozen 3
       have r4 := hr14_4.cell (i := 4) rfl
       have f4 := hr14_4.frozen 4
       have r5 := hr14_4.cell (i := 5) rfl
       have f5 := hr14_4.frozen 5
       refine wpAnyH_ready (rs := [15]) (by kernel_rfl) (by simp) ?_
       refine AllReadyH.cons (o := _) rfl (fun K hK => ?_) AllReadyH.nil
       go_simp
       obtain ⟨W, hW, hrw, hww⟩ := set6 hr14_4 (.int .i64 g.players) (.slice (some ⟨b, o, none⟩) g.nodes.length c) (.slice Ai g.infos.length ci) (.slice (some ⟨w0.heap.size, 0, none⟩) g.nodes.length g.nodes.length) (.slice (some ⟨w3.heap.size, 0, none⟩) g.nodes.length g.nodes.length) (.slice (some ⟨w1.heap.size, 0, none⟩) g.infos.length g.infos.length)
       rw [← hW]
       clear hW
       have hbxw := hbx4.wrote hww (by omega)
       refine hK.out _ _ ⟨hbxw.cell rfl, hbxw.cell rfl, hbxw.cell rfl⟩ (fun hHeld => ?_)
       clear hK K
       try simp only [Act.put, lq1, lq2, lq3, lq4, lq5, lq6]
       refine wpAnyH_done (by kernel_rfl) ?_ _
       clear hHeld
       clear r0 f0
       clear r1 f1
       clear r2 f2
       clear r3 f3
       clear r4 f4
       clear r5 f5
       go_wp2_with fail
       go_meet
       exact ⟨w2.heap.size, w0.heap.size, w3.heap.size, w1.heap.size, rfl, ⟨hbxw, hrs4.wrote hww (by omega), hrw, by simpa [intsV] using hr4_4.wrote hww (by omega), by simpa [intsV] using hr8_4.wrote hww (by omega), hr12_4.wrote hww (by omega), Wrote.below hB4 hww (fun k hk => by omega) hB4.size⟩, ⟨g14, g4, g8, g12, by omega, by omega, by omega, by omega, by omega, by omega⟩⟩
    ·go_simp
     obtain ⟨w2, hw, hr14_2, hb, hz⟩ := row_of_alloc w1 51 #[.int .i64 0, .slice none 0 0, .slice none 0 0, .slice none 0 0, .slice none 0 0, .slice none 0 0]
     rw [← hw]
     clear hw hz
     have g14 := hrs1.lt
     have l4_14 := hr4_1.lt
     have hr4_2 := hr4_1.below hb hr4_1.lt
     have sz2 := hb.size
     have hbx2 := hbx1.below hb hbx1.lt
     have hrs2 := hrs1.below hb hrs1.lt
     have hB2 := hB1.trans (hb.mono hB1.size)
     clear hb
     refine hK.out _ _ ⟨hbx2.cell rfl, hbx2.cell rfl, hbx2.cell rfl⟩ (fun hHeld => ?_)
     clear hK K
     try simp only [Act.put, lq1, lq2, lq3, lq4, lq5, lq6]
     refine wpAnyH_ready (rs := [8, 12]) (by decide +kernel) (by simp) ?_
     refine (AllReadyH.cons (o := _) rfl (fun K hK => ?_) (AllReadyH.cons (o := _) rfl (fun K hK => ?_) AllReadyH.nil))
     ·refine ifT rfl ?_
      refine oper_make _ _ _ 26 rfl 3 (.int .i64 0) 8 Try.underlying26 Try.infoInt rfl g.nodes.length rfl rfl (by omega) (by omega) ?_
      intro w3 hb hz hr8_3
      clear hz
      have g8 := hrs2.lt
      have l4_8 := hr4_2.lt
      have hr4_3 := hr4_2.below hb hr4_2.lt
      have l14_8 := hr14_2.lt
      have hr14_3 := hr14_2.below hb hr14_2.lt
      have sz3 := hb.size
      have hbx3 := hbx2.below hb hbx2.lt
      have hrs3 := hrs2.below hb hrs2.lt
      have hB3 := hB2.trans (hb.mono hB2.size)
      clear hb
      refine hK.out _ _ ⟨hbx3.cell rfl, hbx3.cell rfl, hbx3.cell rfl⟩ (fun hHeld => ?_)
      clear hK K
      try simp only [Act.put, lq1, lq2, lq3, lq4, lq5, lq6]
      refine wpAnyH_ready (rs := [12]) (by decide +kernel) (by simp) ?_
      refine (AllReadyH.cons (o := _) rfl (fun K hK => ?_) AllReadyH.nil)
      ·refine ifT rfl ?_
       refine oper_make _ _ _ 49 rfl 26 (.slice none 0 0) 24 Try.underlying49 Try.infoInts rfl g.infos.length rfl rfl (by omega) (by omega) ?_
       intro w4 hb hz hr12_4
       clear hz
       have g12 := hrs3.lt
       have l4_12 := hr4_3.lt
       have hr4_4 := hr4_3.below hb hr4_3.lt
       have l14_12 := hr14_3.lt
       have hr14_4 := hr14_3.below hb hr14_3.lt
       have l8_12 := hr8_3.lt
       have hr8_4 := hr8_3.below hb hr8_3.lt
       have sz4 := hb.size
       have hbx4 := hbx3.below hb hbx3.lt
       have hrs4 := hrs3.below hb hrs3.lt
       have hB4 := hB3.trans (hb.mono hB3.size)
       clear hb
       refine hK.out _ _ ⟨hbx4.cell rfl, hbx4.cell rfl, hbx4.cell rfl⟩ (fun hHeld => ?_)
       clear hK K
       try simp only [Act.put, lq1, lq2, lq3, lq4, lq5, lq6]
       refine wpAnyH_take (i := 13) (v := ?_) rfl (by kernel_rfl) (by kernel_rfl) (by kernel_rfl) (fun _ _ _ h => h) (Or.inl ⟨by rfl, ?_⟩) hHeld ?_
       rotate_left
       ·intro wx hSx; (try dsimp only at hSx); go_split_ands; go_simp; try (with_reducible rfl)
       try simp only [Act.put, lq1, lq2, lq3, lq4, lq5, lq6]
       have r0 := hr14_4.cell (i := 0) rfl
       have f0 := hr14_4.frozen 0
       have r1 := hr14_4.cell (i := 1) rfl
       have f1 := hr14_4.frozen 1
       have r2 := hr14_4.cell (i := 2) rfl
       have f2 := hr14_4.frozen 2
       have r3 := hr14_4.cell (i := 3) rfl
       have f3 := hr14_4.frozen 3
       have r4 := hr14_4.cell (i := 4) rfl
       have f4 := hr14_4.frozen 4
       have r5 := hr14_4.cell (i := 5) rfl
       have f5 := hr14_4.frozen 5
       refine wpAnyH_ready (rs := [15]) (by kernel_rfl) (by simp) ?_
       refine AllReadyH.cons (o := _) rfl (fun K hK => ?_) AllReadyH.nil
       go_simp
       obtain ⟨W, hW, hrw, hww⟩ := set6 hr14_4 (.int .i64 g.players) (.slice (some ⟨b, o, none⟩) g.nodes.length c) (.slice Ai g.infos.length ci) (.slice (some ⟨w0.heap.size, 0, none⟩) g.nodes.length g.nodes.length) (.slice (some ⟨w2.heap.size, 0, none⟩) g.nodes.length g.nodes.length) (.slice (some ⟨w3.heap.size, 0, none⟩) g.infos.length g.infos.length)
       rw [← hW]
       clear hW
       have hbxw := hbx4.wrote hww (by omega)
       refine hK.out _ _ ⟨hbxw.cell rfl, hbxw.cell rfl, hbxw.cell rfl⟩ (fun hHeld => ?_)
       clear hK K
       try simp only [Act.put, lq1, lq2, lq3, lq4, lq5, lq6]
       refine wpAnyH_done (by kernel_rfl) ?_ _
       clear hHeld
       clear r0 f0
       clear r1 f1
       clear r2 f2
       clear r3 f3
       clear r4 f4
       clear r5 f5
       go_wp2_with fail
       go_meet
       exact ⟨w1.heap.size, w0.heap.size, w2.heap.size, w3.heap.size, rfl, ⟨hbxw, hrs4.wrote hww (by omega), hrw, by simpa [intsV] using hr4_4.wrote hww (by omega), by simpa [intsV] using hr8_4.wrote hww (by omega), hr12_4.wrote hww (by omega), Wrote.below hB4 hww (fun k hk => by omega) hB4.size⟩, ⟨g14, g4, g8, g12, by omega, by omega, by omega, by omega, by omega, by omega⟩⟩
     ·refine ifT rfl ?_
      refine oper_make _ _ _ 49 rfl 26 (.slice none 0 0) 24 Try.underlying49 Try.infoInts rfl g.infos.length rfl rfl (by omega) (by omega) ?_
      intro w3 hb hz hr12_3
      clear hz
      have g12 := hrs2.lt
      have l4_12 := hr4_2.lt
      have hr4_3 := hr4_2.below hb hr4_2.lt
      have l14_12 := hr14_2.lt
      have hr14_3 := hr14_2.below hb hr14_2.lt
      have sz3 := hb.size
      have hbx3 := hbx2.below hb hbx2.lt
      have hrs3 := hrs2.below hb hrs2.lt
      have hB3 := hB2.trans (hb.mono hB2.size)
      clear hb
      refine hK.out _ _ ⟨hbx3.cell rfl, hbx3.cell rfl, hbx3.cell rfl⟩ (fun hHeld => ?_)
      clear hK K
      try simp only [Act.put, lq1, lq2, lq3, lq4, lq5, lq6]
      refine wpAnyH_ready (rs := [8]) (by decide +kernel) (by simp) ?_
      refine (AllReadyH.cons (o := _) rfl (fun K hK => ?_) AllReadyH.nil)
      ·refine ifT rfl ?_
       refine oper_make _ _ _ 26 rfl 3 (.int .i64 0) 8 Try.underlying26 Try.infoInt rfl g.nodes.length rfl rfl (by omega) (by omega) ?_
       intro w4 hb hz hr8_4
       clear hz
       have g8 := hrs3.lt
       have l4_8 := hr4_3.lt
       have hr4_4 := hr4_3.below hb hr4_3.lt
       have l14_8 := hr14_3.lt
       have hr14_4 := hr14_3.below hb hr14_3.lt
       have l12_8 := hr12_3.lt
       have hr12_4 := hr12_3.below hb hr12_3.lt
       have sz4 := hb.size
       have hbx4 := hbx3.below hb hbx3.lt
       have hrs4 := hrs3.below hb hrs3.lt
       have hB4 := hB3.trans (hb.mono hB3.size)
       clear hb
       refine hK.out _ _ ⟨hbx4.cell rfl, hbx4.cell rfl, hbx4.cell rfl⟩ (fun hHeld => ?_)
       clear hK K
       try simp only [Act.put, lq1, lq2, lq3, lq4, lq5, lq6]
       refine wpAnyH_take (i := 13) (v := ?_) rfl (by kernel_rfl) (by kernel_rfl) (by kernel_rfl) (fun _ _ _ h => h) (Or.inl ⟨by rfl, ?_⟩) hHeld ?_
       rotate_left
       ·intro wx hSx; (try dsimp only at hSx); go_split_ands; go_simp; try (with_reducible rfl)
       try simp only [Act.put, lq1, lq2, lq3, lq4, lq5, lq6]
       have r0 := hr14_4.cell (i := 0) rfl
       have f0 := hr14_4.frozen 0
       have r1 := hr14_4.cell (i := 1) rfl
       have f1 := hr14_4.frozen 1
       have r2 := hr14_4.cell (i := 2) rfl
       have f2 := hr14_4.frozen 2
       have r3 := hr14_4.cell (i := 3) rfl
       have f3 := hr14_4.frozen 3
       have r4 := hr14_4.cell (i := 4) rfl
       have f4 := hr14_4.frozen 4
       have r5 := hr14_4.cell (i := 5) rfl
       have f5 := hr14_4.frozen 5
       refine wpAnyH_ready (rs := [15]) (by kernel_rfl) (by simp) ?_
       refine AllReadyH.cons (o := _) rfl (fun K hK => ?_) AllReadyH.nil
       go_simp
       obtain ⟨W, hW, hrw, hww⟩ := set6 hr14_4 (.int .i64 g.players) (.slice (some ⟨b, o, none⟩) g.nodes.length c) (.slice Ai g.infos.length ci) (.slice (some ⟨w0.heap.size, 0, none⟩) g.nodes.length g.nodes.length) (.slice (some ⟨w3.heap.size, 0, none⟩) g.nodes.length g.nodes.length) (.slice (some ⟨w2.heap.size, 0, none⟩) g.infos.length g.infos.length)
       rw [← hW]
       clear hW
       have hbxw := hbx4.wrote hww (by omega)
       refine hK.out _ _ ⟨hbxw.cell rfl, hbxw.cell rfl, hbxw.cell rfl⟩ (fun hHeld => ?_)
       clear hK K
       try simp only [Act.put, lq1, lq2, lq3, lq4, lq5, lq6]
       refine wpAnyH_done (by kernel_rfl) ?_ _
       clear hHeld
       clear r0 f0
       clear r1 f1
       clear r2 f2
       clear r3 f3
       clear r4 f4
       clear r5 f5
       go_wp2_with fail
       go_meet
       exact ⟨w1.heap.size, w0.heap.size, w3.heap.size, w2.heap.size, rfl, ⟨hbxw, hrs4.wrote hww (by omega), hrw, by simpa [intsV] using hr4_4.wrote hww (by omega), by simpa [intsV] using hr8_4.wrote hww (by omega), hr12_4.wrote hww (by omega), Wrote.below hB4 hww (fun k hk => by omega) hB4.size⟩, ⟨g14, g4, g8, g12, by omega, by omega, by omega, by omega, by omega, by omega⟩⟩
   ·refine ifT rfl ?_
    refine oper_make _ _ _ 26 rfl 3 (.int .i64 0) 8 Try.underlying26 Try.infoInt rfl g.nodes.length rfl rfl (by omega) (by omega) ?_
    intro w1 hb hz hr8_1
    clear hz
    have g8 := hrs0.lt
    have sz1 := hb.size
    have hbx1 := hbx0.below hb hbx0.lt
    have hrs1 := hrs0.below hb hrs0.lt
    have hB1 := hB0.trans (hb.mono hB0.size)
    clear hb
    refine hK.out _ _ ⟨hbx1.cell rfl, hbx1.cell rfl, hbx1.cell rfl⟩ (fun hHeld => ?_)
    clear hK K
    try simp only [Act.put, lq1, lq2, lq3, lq4, lq5, lq6]
    refine wpAnyH_ready (rs := [4, 12, 14]) (by decide +kernel) (by simp) ?_
    refine (AllReadyH.cons (o := _) rfl (fun K hK => ?_) (AllReadyH.cons (o := _) rfl (fun K hK => ?_) (AllReadyH.cons (o := _) rfl (fun K hK => ?_) AllReadyH.nil)))
    ·refine ifT rfl ?_
     refine oper_make _ _ _ 26 rfl 3 (.int .i64 0) 8 Try.underlying26 Try.infoInt rfl g.nodes.length rfl rfl (by omega) (by omega) ?_
     intro w2 hb hz hr4_2
     clear hz
     have g4 := hrs1.lt
     have l8_4 := hr8_1.lt
     have hr8_2 := hr8_1.below hb hr8_1.lt
     have sz2 := hb.size
     have hbx2 := hbx1.below hb hbx1.lt
     have hrs2 := hrs1.below hb hrs1.lt
     have hB2 := hB1.trans (hb.mono hB1.size)
     clear hb
     refine hK.out _ _ ⟨hbx2.cell rfl, hbx2.cell rfl, hbx2.cell rfl⟩ (fun hHeld => ?_)
     clear hK K
     try simp only [Act.put, lq1, lq2, lq3, lq4, lq5, lq6]
     refine wpAnyH_ready (rs := [12, 14]) (by decide +kernel) (by simp) ?_
     refine (AllReadyH.cons (o := _) rfl (fun K hK => ?_) (AllReadyH.cons (o := _) rfl (fun K hK => ?_) AllReadyH.nil))
     ·refine ifT rfl ?_
      refine oper_make _ _ _ 49 rfl 26 (.slice none 0 0) 24 Try.underlying49 Try.infoInts rfl g.infos.length rfl rfl (by omega) (by omega) ?_
      intro w3 hb hz hr12_3
      clear hz
      have g12 := hrs2.lt
      have l8_12 := hr8_2.lt
      have hr8_3 := hr8_2.below hb hr8_2.lt
      have l4_12 := hr4_2.lt
      have hr4_3 := hr4_2.below hb hr4_2.lt
      have sz3 := hb.size
      have hbx3 := hbx2.below hb hbx2.lt
      have hrs3 := hrs2.below hb hrs2.lt
      have hB3 := hB2.trans (hb.mono hB2.size)
      clear hb
      refine hK.out _ _ ⟨hbx3.cell rfl, hbx3.cell rfl, hbx3.cell rfl⟩ (fun hHeld => ?_)
      clear hK K
      try simp only [Act.put, lq1, lq2, lq3, lq4, lq5, lq6]
      refine wpAnyH_take (i := 13) (v := ?_) rfl (by kernel_rfl) (by kernel_rfl) (by kernel_rfl) (fun _ _ _ h => h) (Or.inl ⟨by rfl, ?_⟩) hHeld ?_
      rotate_left
      ·intro wx hSx; (try dsimp only at hSx); go_split_ands; go_simp; try (with_reducible rfl)
      try simp only [Act.put, lq1, lq2, lq3, lq4, lq5, lq6]
      refine wpAnyH_ready (rs := [14]) (by decide +kernel) (by simp) ?_
      refine (AllReadyH.cons (o := _) rfl (fun K hK => ?_) AllReadyH.nil)
      ·go_simp
       obtain ⟨w4, hw, hr14_4, hb, hz⟩ := row_of_alloc w3 51 #[.int .i64 0, .slice none 0 0, .slice none 0 0, .slice none 0 0, .slice none 0 0, .slice none 0 0]
       rw [← hw]
       clear hw hz
       have g14 := hrs3.lt
       have l8_14 := hr8_3.lt
       have hr8_4 := hr8_3.below hb hr8_3.lt
       have l4_14 := hr4_3.lt
       have hr4_4 := hr4_3.below hb hr4_3.lt
       have l12_14 := hr12_3.lt
       have hr12_4 := hr12_3.below hb hr12_3.lt
       have sz4 := hb.size
       have hbx4 := hbx3.below hb hbx3.lt
       have hrs4 := hrs3.below hb hrs3.lt
       have hB4 := hB3.trans (hb.mono hB3.size)
       clear hb
       refine hK.out _ _ ⟨hbx4.cell rfl, hbx4.cell rfl, hbx4.cell rfl⟩ (fun hHeld => ?_)
       clear hK K
       try simp only [Act.put, lq1, lq2, lq3, lq4, lq5, lq6]
       have r0 := hr14_4.cell (i := 0) rfl
       have f0 := hr14_4.frozen 0
       have r1 := hr14_4.cell (i := 1) rfl
       have f1 := hr14_4.frozen 1
       have r2 := hr14_4.cell (i := 2) rfl
       have f2 := hr14_4.frozen 2
       have r3 := hr14_4.cell (i := 3) rfl
       have f3 := hr14_4.frozen 3
       have r4 := hr14_4.cell (i := 4) rfl
       have f4 := hr14_4.frozen 4
       have r5 := hr14_4.cell (i := 5) rfl
       have f5 := hr14_4.frozen 5
       refine wpAnyH_ready (rs := [15]) (by kernel_rfl) (by simp) ?_
       refine AllReadyH.cons (o := _) rfl (fun K hK => ?_) AllReadyH.nil
       go_simp
       obtain ⟨W, hW, hrw, hww⟩ := set6 hr14_4 (.int .i64 g.players) (.slice (some ⟨b, o, none⟩) g.nodes.length c) (.slice Ai g.infos.length ci) (.slice (some ⟨w1.heap.size, 0, none⟩) g.nodes.length g.nodes.length) (.slice (some ⟨w0.heap.size, 0, none⟩) g.nodes.length g.nodes.length) (.slice (some ⟨w2.heap.size, 0, none⟩) g.infos.length g.infos.length)
       rw [← hW]
       clear hW
       have hbxw := hbx4.wrote hww (by omega)
       refine hK.out _ _ ⟨hbxw.cell rfl, hbxw.cell rfl, hbxw.cell rfl⟩ (fun hHeld => ?_)
       clear hK K
       try simp only [Act.put, lq1, lq2, lq3, lq4, lq5, lq6]
       refine wpAnyH_done (by kernel_rfl) ?_ _
       clear hHeld
       clear r0 f0
       clear r1 f1
       clear r2 f2
       clear r3 f3
       clear r4 f4
       clear r5 f5
       go_wp2_with fail
       go_meet
       exact ⟨w3.heap.size, w1.heap.size, w0.heap.size, w2.heap.size, rfl, ⟨hbxw, hrs4.wrote hww (by omega), hrw, by simpa [intsV] using hr4_4.wrote hww (by omega), by simpa [intsV] using hr8_4.wrote hww (by omega), hr12_4.wrote hww (by omega), Wrote.below hB4 hww (fun k hk => by omega) hB4.size⟩, ⟨g14, g4, g8, g12, by omega, by omega, by omega, by omega, by omega, by omega⟩⟩
     ·go_simp
      obtain ⟨w3, hw, hr14_3, hb, hz⟩ := row_of_alloc w2 51 #[.int .i64 0, .slice none 0 0, .slice none 0 0, .slice none 0 0, .slice none 0 0, .slice none 0 0]
      rw [← hw]
      clear hw hz
      have g14 := hrs2.lt
      have l8_14 := hr8_2.lt
      have hr8_3 := hr8_2.below hb hr8_2.lt
      have l4_14 := hr4_2.lt
      have hr4_3 := hr4_2.below hb hr4_2.lt
      have sz3 := hb.size
      have hbx3 := hbx2.below hb hbx2.lt
      have hrs3 := hrs2.below hb hrs2.lt
      have hB3 := hB2.trans (hb.mono hB2.size)
      clear hb
      refine hK.out _ _ ⟨hbx3.cell rfl, hbx3.cell rfl, hbx3.cell rfl⟩ (fun hHeld => ?_)
      clear hK K
      try simp only [Act.put, lq1, lq2, lq3, lq4, lq5, lq6]
      refine wpAnyH_ready (rs := [12]) (by decide +kernel) (by simp) ?_
      refine (AllReadyH.cons (o := _) rfl (fun K hK => ?_) AllReadyH.nil)
      ·refine ifT rfl ?_
       refine oper_make _ _ _ 49 rfl 26 (.slice none 0 0) 24 Try.underlying49 Try.infoInts rfl g.infos.length rfl rfl (by omega) (by omega) ?_
       intro w4 hb hz hr12_4
       clear hz
       have g12 := hrs3.lt
       have l8_12 := hr8_3.lt
       have hr8_4 := hr8_3.below hb hr8_3.lt
       have l4_12 := hr4_3.lt
       have hr4_4 := hr4_3.below hb hr4_3.lt
       have l14_12 := hr14_3.lt
       have hr14_4 := hr14_3.below hb hr14_3.lt
       have sz4 := hb.size
       have hbx4 := hbx3.below hb hbx3.lt
       have hrs4 := hrs3.below hb hrs3.lt
       have hB4 := hB3.trans (hb.mono hB3.size)
       clear hb
       refine hK.out _ _ ⟨hbx4.cell rfl, hbx4.cell rfl, hbx4.cell rfl⟩ (fun hHeld => ?_)
       clear hK K
       try simp only [Act.put, lq1, lq2, lq3, lq4, lq5, lq6]
       refine wpAnyH_take (i := 13) (v := ?_) rfl (by kernel_rfl) (by kernel_rfl) (by kernel_rfl) (fun _ _ _ h => h) (Or.inl ⟨by rfl, ?_⟩) hHeld ?_
       rotate_left
       ·intro wx hSx; (try dsimp only at hSx); go_split_ands; go_simp; try (with_reducible rfl)
       try simp only [Act.put, lq1, lq2, lq3, lq4, lq5, lq6]
       have r0 := hr14_4.cell (i := 0) rfl
       have f0 := hr14_4.frozen 0
       have r1 := hr14_4.cell (i := 1) rfl
       have f1 := hr14_4.frozen 1
       have r2 := hr14_4.cell (i := 2) rfl
       have f2 := hr14_4.frozen 2
       have r3 := hr14_4.cell (i := 3) rfl
       have f3 := hr14_4.frozen 3
       have r4 := hr14_4.cell (i := 4) rfl
       have f4 := hr14_4.frozen 4
       have r5 := hr14_4.cell (i := 5) rfl
       have f5 := hr14_4.frozen 5
       refine wpAnyH_ready (rs := [15]) (by kernel_rfl) (by simp) ?_
       refine AllReadyH.cons (o := _) rfl (fun K hK => ?_) AllReadyH.nil
       go_simp
       obtain ⟨W, hW, hrw, hww⟩ := set6 hr14_4 (.int .i64 g.players) (.slice (some ⟨b, o, none⟩) g.nodes.length c) (.slice Ai g.infos.length ci) (.slice (some ⟨w1.heap.size, 0, none⟩) g.nodes.length g.nodes.length) (.slice (some ⟨w0.heap.size, 0, none⟩) g.nodes.length g.nodes.length) (.slice (some ⟨w3.heap.size, 0, none⟩) g.infos.length g.infos.length)
       rw [← hW]
       clear hW
       have hbxw := hbx4.wrote hww (by omega)
       refine hK.out _ _ ⟨hbxw.cell rfl, hbxw.cell rfl, hbxw.cell rfl⟩ (fun hHeld => ?_)
       clear hK K
       try simp only [Act.put, lq1, lq2, lq3, lq4, lq5, lq6]
       refine wpAnyH_done (by kernel_rfl) ?_ _
       clear hHeld
       clear r0 f0
       clear r1 f1
       clear r2 f2
       clear r3 f3
       clear r4 f4
       clear r5 f5
       go_wp2_with fail
       go_meet
       exact ⟨w2.heap.size, w1.heap.size, w0.heap.size, w3.heap.size, rfl, ⟨hbxw, hrs4.wrote hww (by omega), hrw, by simpa [intsV] using hr4_4.wrote hww (by omega), by simpa [intsV] using hr8_4.wrote hww (by omega), hr12_4.wrote hww (by omega), Wrote.below hB4 hww (fun k hk => by omega) hB4.size⟩, ⟨g14, g4, g8, g12, by omega, by omega, by omega, by omega, by omega, by omega⟩⟩
    ·refine ifT rfl ?_
     refine oper_make _ _ _ 49 rfl 26 (.slice none 0 0) 24 Try.underlying49 Try.infoInts rfl g.infos.length rfl rfl (by omega) (by omega) ?_
     intro w2 hb hz hr12_2
     clear hz
     have g12 := hrs1.lt
     have l8_12 := hr8_1.lt
     have hr8_2 := hr8_1.below hb hr8_1.lt
     have sz2 := hb.size
     have hbx2 := hbx1.below hb hbx1.lt
     have hrs2 := hrs1.below hb hrs1.lt
     have hB2 := hB1.trans (hb.mono hB1.size)
     clear hb
     refine hK.out _ _ ⟨hbx2.cell rfl, hbx2.cell rfl, hbx2.cell rfl⟩ (fun hHeld => ?_)
     clear hK K
     try simp only [Act.put, lq1, lq2, lq3, lq4, lq5, lq6]
     refine wpAnyH_ready (rs := [4, 14]) (by decide +kernel) (by simp) ?_
     refine (AllReadyH.cons (o := _) rfl (fun K hK => ?_) (AllReadyH.cons (o := _) rfl (fun K hK => ?_) AllReadyH.nil))
     ·refine ifT rfl ?_
      refine oper_make _ _ _ 26 rfl 3 (.int .i64 0) 8 Try.underlying26 Try.infoInt rfl g.nodes.length rfl rfl (by omega) (by omega) ?_
      intro w3 hb hz hr4_3
      clear hz
      have g4 := hrs2.lt
      have l8_4 := hr8_2.lt
      have hr8_3 := hr8_2.below hb hr8_2.lt
      have l12_4 := hr12_2.lt
      have hr12_3 := hr12_2.below hb hr12_2.lt
      have sz3 := hb.size
      have hbx3 := hbx2.below hb hbx2.lt
      have hrs3 := hrs2.below hb hrs2.lt
      have hB3 := hB2.trans (hb.mono hB2.size)
      clear hb
      refine hK.out _ _ ⟨hbx3.cell rfl, hbx3.cell rfl, hbx3.cell rfl⟩ (fun hHeld => ?_)
      clear hK K
      try simp only [Act.put, lq1, lq2, lq3, lq4, lq5, lq6]
      refine wpAnyH_take (i := 13) (v := ?_) rfl (by kernel_rfl) (by kernel_rfl) (by kernel_rfl) (fun _ _ _ h => h) (Or.inl ⟨by rfl, ?_⟩) hHeld ?_
      rotate_left
      ·intro wx hSx; (try dsimp only at hSx); go_split_ands; go_simp; try (with_reducible rfl)
      try simp only [Act.put, lq1, lq2, lq3, lq4, lq5, lq6]
      refine wpAnyH_ready (rs := [14]) (by decide +kernel) (by simp) ?_
      refine (AllReadyH.cons (o := _) rfl (fun K hK => ?_) AllReadyH.nil)
      ·go_simp
       obtain ⟨w4, hw, hr14_4, hb, hz⟩ := row_of_alloc w3 51 #[.int .i64 0, .slice none 0 0, .slice none 0 0, .slice none 0 0, .slice none 0 0, .slice none 0 0]
       rw [← hw]
       clear hw hz
       have g14 := hrs3.lt
       have l8_14 := hr8_3.lt
       have hr8_4 := hr8_3.below hb hr8_3.lt
       have l12_14 := hr12_3.lt
       have hr12_4 := hr12_3.below hb hr12_3.lt
       have l4_14 := hr4_3.lt
       have hr4_4 := hr4_3.below hb hr4_3.lt
       have sz4 := hb.size
       have hbx4 := hbx3.below hb hbx3.lt
       have hrs4 := hrs3.below hb hrs3.lt
       have hB4 := hB3.trans (hb.mono hB3.size)
       clear hb
       refine hK.out _ _ ⟨hbx4.cell rfl, hbx4.cell rfl, hbx4.cell rfl⟩ (fun hHeld => ?_)
       clear hK K
       try simp only [Act.put, lq1, lq2, lq3, lq4, lq5, lq6]
       have r0 := hr14_4.cell (i := 0) rfl
       have f0 := hr14_4.frozen 0
       have r1 := hr14_4.cell (i := 1) rfl
       have f1 := hr14_4.frozen 1
       have r2 := hr14_4.cell (i := 2) rfl
       have f2 := hr14_4.frozen 2
       have r3 := hr14_4.cell (i := 3) rfl
       have f3 := hr14_4.frozen 3
       have r4 := hr14_4.cell (i := 4) rfl
       have f4 := hr14_4.frozen 4
       have r5 := hr14_4.cell (i := 5) rfl
       have f5 := hr14_4.frozen 5
       refine wpAnyH_ready (rs := [15]) (by kernel_rfl) (by simp) ?_
       refine AllReadyH.cons (o := _) rfl (fun K hK => ?_) AllReadyH.nil
       go_simp
       obtain ⟨W, hW, hrw, hww⟩ := set6 hr14_4 (.int .i64 g.players) (.slice (some ⟨b, o, none⟩) g.nodes.length c) (.slice Ai g.infos.length ci) (.slice (some ⟨w2.heap.size, 0, none⟩) g.nodes.length g.nodes.length) (.slice (some ⟨w0.heap.size, 0, none⟩) g.nodes.length g.nodes.length) (.slice (some ⟨w1.heap.size, 0, none⟩) g.infos.length g.infos.length)
       rw [← hW]
       clear hW
       have hbxw := hbx4.wrote hww (by omega)
       refine hK.out _ _ ⟨hbxw.cell rfl, hbxw.cell rfl, hbxw.cell rfl⟩ (fun hHeld => ?_)
       clear hK K
       try simp only [Act.put, lq1, lq2, lq3, lq4, lq5, lq6]
       refine wpAnyH_done (by kernel_rfl) ?_ _
       clear hHeld
       clear r0 f0
       clear r1 f1
       clear r2 f2
       clear r3 f3
       clear r4 f4
       clear r5 f5
       go_wp2_with fail
       go_meet
       exact ⟨w3.heap.size, w2.heap.size, w0.heap.size, w1.heap.size, rfl, ⟨hbxw, hrs4.wrote hww (by omega), hrw, by simpa [intsV] using hr4_4.wrote hww (by omega), by simpa [intsV] using hr8_4.wrote hww (by omega), hr12_4.wrote hww (by omega), Wrote.below hB4 hww (fun k hk => by omega) hB4.size⟩, ⟨g14, g4, g8, g12, by omega, by omega, by omega, by omega, by omega, by omega⟩⟩
     ·go_simp
      obtain ⟨w3, hw, hr14_3, hb, hz⟩ := row_of_alloc w2 51 #[.int .i64 0, .slice none 0 0, .slice none 0 0, .slice none 0 0, .slice none 0 0, .slice none 0 0]
      rw [← hw]
      clear hw hz
      have g14 := hrs2.lt
      have l8_14 := hr8_2.lt
      have hr8_3 := hr8_2.below hb hr8_2.lt
      have l12_14 := hr12_2.lt
      have hr12_3 := hr12_2.below hb hr12_2.lt
      have sz3 := hb.size
      have hbx3 := hbx2.below hb hbx2.lt
      have hrs3 := hrs2.below hb hrs2.lt
      have hB3 := hB2.trans (hb.mono hB2.size)
      clear hb
      refine hK.out _ _ ⟨hbx3.cell rfl, hbx3.cell rfl, hbx3.cell rfl⟩ (fun hHeld => ?_)
      clear hK K
      try simp only [Act.put, lq1, lq2, lq3, lq4, lq5, lq6]
      refine wpAnyH_ready (rs := [4]) (by decide +kernel) (by simp) ?_
      refine (AllReadyH.cons (o := _) rfl (fun K hK => ?_) AllReadyH.nil)
      ·refine ifT rfl ?_
       refine oper_make _ _ _ 26 rfl 3 (.int .i64 0) 8 Try.underlying26 Try.infoInt rfl g.nodes.length rfl rfl (by omega) (by omega) ?_
       intro w4 hb hz hr4_4
       clear hz
       have g4 := hrs3.lt
       have l8_4 := hr8_3.lt
       have hr8_4 := hr8_3.below hb hr8_3.lt
       have l12_4 := hr12_3.lt
       have hr12_4 := hr12_3.below hb hr12_3.lt
       have l14_4 := hr14_3.lt
       have hr14_4 := hr14_3.below hb hr14_3.lt
       have sz4 := hb.size
       have hbx4 := hbx3.below hb hbx3.lt
       have hrs4 := hrs3.below hb hrs3.lt
       have hB4 := hB3.trans (hb.mono hB3.size)
       clear hb
       refine hK.out _ _ ⟨hbx4.cell rfl, hbx4.cell rfl, hbx4.cell rfl⟩ (fun hHeld => ?_)
       clear hK K
       try simp only [Act.put, lq1, lq2, lq3, lq4, lq5, lq6]
       refine wpAnyH_take (i := 13) (v := ?_) rfl (by kernel_rfl) (by kernel_rfl) (by kernel_rfl) (fun _ _ _ h => h) (Or.inl ⟨by rfl, ?_⟩) hHeld ?_
       rotate_left
       ·intro wx hSx; (try dsimp only at hSx); go_split_ands; go_simp; try (with_reducible rfl)
       try simp only [Act.put, lq1, lq2, lq3, lq4, lq5, lq6]
       have r0 := hr14_4.cell (i := 0) rfl
       have f0 := hr14_4.frozen 0
       have r1 := hr14_4.cell (i := 1) rfl
       have f1 := hr14_4.frozen 1
       have r2 := hr14_4.cell (i := 2) rfl
       have f2 := hr14_4.frozen 2
       have r3 := hr14_4.cell (i := 3) rfl
       have f3 := hr14_4.frozen 3
       have r4 := hr14_4.cell (i := 4) rfl
       have f4 := hr14_4.frozen 4
       have r5 := hr14_4.cell (i := 5) rfl
       have f5 := hr14_4.frozen 5
       refine wpAnyH_ready (rs := [15]) (by kernel_rfl) (by simp) ?_
       refine AllReadyH.cons (o := _) rfl (fun K hK => ?_) AllReadyH.nil
       go_simp
       obtain ⟨W, hW, hrw, hww⟩ := set6 hr14_4 (.int .i64 g.players) (.slice (some ⟨b, o, none⟩) g.nodes.length c) (.slice Ai g.infos.length ci) (.slice (some ⟨w3.heap.size, 0, none⟩) g.nodes.length g.nodes.length) (.slice (some ⟨w0.heap.size, 0, none⟩) g.nodes.length g.nodes.length) (.slice (some ⟨w1.heap.size, 0, none⟩) g.infos.length g.infos.length)
       rw [← hW]
       clear hW
       have hbxw := hbx4.wrote hww (by omega)
       refine hK.out _ _ ⟨hbxw.cell rfl, hbxw.cell rfl, hbxw.cell rfl⟩ (fun hHeld => ?_)
       clear hK K
       try simp only [Act.put, lq1, lq2, lq3, lq4, lq5, lq6]
       refine wpAnyH_done (by kernel_rfl) ?_ _
       clear hHeld
       clear r0 f0
       clear r1 f1
       clear r2 f2
       clear r3 f3
       clear r4 f4
       clear r5 f5
       go_wp2_with fail
       go_meet
       exact ⟨w2.heap.size, w3.heap.size, w0.heap.size, w1.heap.size, rfl, ⟨hbxw, hrs4.wrote hww (by omega), hrw, by simpa [intsV] using hr4_4.wrote hww (by omega), by simpa [intsV] using hr8_4.wrote hww (by omega), hr12_4.wrote hww (by omega), Wrote.below hB4 hww (fun k hk => by omega) hB4.size⟩, ⟨g14, g4, g8, g12, by omega, by omega, by omega, by omega, by omega, by omega⟩⟩
    ·go_simp
     obtain ⟨w2, hw, hr14_2, hb, hz⟩ := row_of_alloc w1 51 #[.int .i64 0, .slice none 0 0, .slice none 0 0, .slice none 0 0, .slice none 0 0, .slice none 0 0]
     rw [← hw]
     clear hw hz
     have g14 := hrs1.lt
     have l8_14 := hr8_1.lt
     have hr8_2 := hr8_1.below hb hr8_1.lt
     have sz2 := hb.size
     have hbx2 := hbx1.below hb hbx1.lt
     have hrs2 := hrs1.below hb hrs1.lt
     have hB2 := hB1.trans (hb.mono hB1.size)
     clear hb
     refine hK.out _ _ ⟨hbx2.cell rfl, hbx2.cell rfl, hbx2.cell rfl⟩ (fun hHeld => ?_)
     clear hK K
     try simp only [Act.put, lq1, lq2, lq3, lq4, lq5, lq6]
     refine wpAnyH_ready (rs := [4, 12]) (by decide +kernel) (by simp) ?_
     refine (AllReadyH.cons (o := _) rfl (fun K hK => ?_) (AllReadyH.cons (o := _) rfl (fun K hK => ?_) AllReadyH.nil))
     ·refine ifT rfl ?_
      refine oper_make _ _ _ 26 rfl 3 (.int .i64 0) 8 Try.underlying26 Try.infoInt rfl g.nodes.length rfl rfl (by omega) (by omega) ?_
      intro w3 hb hz hr4_3
      clear hz
      have g4 := hrs2.lt
      have l8_4 := hr8_2.lt
      have hr8_3 := hr8_2.below hb hr8_2.lt
      have l14_4 := hr14_2.lt
      have hr14_3 := hr14_2.below hb hr14_2.lt
      have sz3 := hb.size
      have hbx3 := hbx2.below hb hbx2.lt
      have hrs3 := hrs2.below hb hrs2.lt
      have hB3 := hB2.trans (hb.mono hB2.size)
      clear hb
      refine hK.out _ _ ⟨hbx3.cell rfl, hbx3.cell rfl, hbx3.cell rfl⟩ (fun hHeld => ?_)
      clear hK K
      try simp only [Act.put, lq1, lq2, lq3, lq4, lq5, lq6]
      refine wpAnyH_ready (rs := [12]) (by decide +kernel) (by simp) ?_
      refine (AllReadyH.cons (o := _) rfl (fun K hK => ?_) AllReadyH.nil)
      ·refine ifT rfl ?_
       refine oper_make _ _ _ 49 rfl 26 (.slice none 0 0) 24 Try.underlying49 Try.infoInts rfl g.infos.length rfl rfl (by omega) (by omega) ?_
       intro w4 hb hz hr12_4
       clear hz
       have g12 := hrs3.lt
       have l8_12 := hr8_3.lt
       have hr8_4 := hr8_3.below hb hr8_3.lt
       have l14_12 := hr14_3.lt
       have hr14_4 := hr14_3.below hb hr14_3.lt
       have l4_12 := hr4_3.lt
       have hr4_4 := hr4_3.below hb hr4_3.lt
       have sz4 := hb.size
       have hbx4 := hbx3.below hb hbx3.lt
       have hrs4 := hrs3.below hb hrs3.lt
       have hB4 := hB3.trans (hb.mono hB3.size)
       clear hb
       refine hK.out _ _ ⟨hbx4.cell rfl, hbx4.cell rfl, hbx4.cell rfl⟩ (fun hHeld => ?_)
       clear hK K
       try simp only [Act.put, lq1, lq2, lq3, lq4, lq5, lq6]
       refine wpAnyH_take (i := 13) (v := ?_) rfl (by kernel_rfl) (by kernel_rfl) (by kernel_rfl) (fun _ _ _ h => h) (Or.inl ⟨by rfl, ?_⟩) hHeld ?_
       rotate_left
       ·intro wx hSx; (try dsimp only at hSx); go_split_ands; go_simp; try (with_reducible rfl)
       try simp only [Act.put, lq1, lq2, lq3, lq4, lq5, lq6]
       have r0 := hr14_4.cell (i := 0) rfl
       have f0 := hr14_4.frozen 0
       have r1 := hr14_4.cell (i := 1) rfl
       have f1 := hr14_4.frozen 1
       have r2 := hr14_4.cell (i := 2) rfl
       have f2 := hr14_4.frozen 2
       have r3 := hr14_4.cell (i := 3) rfl
       have f3 := hr14_4.frozen 3
       have r4 := hr14_4.cell (i := 4) rfl
       have f4 := hr14_4.frozen 4
       have r5 := hr14_4.cell (i := 5) rfl
       have f5 := hr14_4.frozen 5
       refine wpAnyH_ready (rs := [15]) (by kernel_rfl) (by simp) ?_
       refine AllReadyH.cons (o := _) rfl (fun K hK => ?_) AllReadyH.nil
       go_simp
       obtain ⟨W, hW, hrw, hww⟩ := set6 hr14_4 (.int .i64 g.players) (.slice (some ⟨b, o, none⟩) g.nodes.length c) (.slice Ai g.infos.length ci) (.slice (some ⟨w2.heap.size, 0, none⟩) g.nodes.length g.nodes.length) (.slice (some ⟨w0.heap.size, 0, none⟩) g.nodes.length g.nodes.length) (.slice (some ⟨w3.heap.size, 0, none⟩) g.infos.length g.infos.length)
       rw [← hW]
       clear hW
       have hbxw := hbx4.wrote hww (by omega)
       refine hK.out _ _ ⟨hbxw.cell rfl, hbxw.cell rfl, hbxw.cell rfl⟩ (fun hHeld => ?_)
       clear hK K
       try simp only [Act.put, lq1, lq2, lq3, lq4, lq5, lq6]
       refine wpAnyH_done (by kernel_rfl) ?_ _
       clear hHeld
       clear r0 f0
       clear r1 f1
       clear r2 f2
       clear r3 f3
       clear r4 f4
       clear r5 f5
       go_wp2_with fail
       go_meet
       exact ⟨w1.heap.size, w2.heap.size, w0.heap.size, w3.heap.size, rfl, ⟨hbxw, hrs4.wrote hww (by omega), hrw, by simpa [intsV] using hr4_4.wrote hww (by omega), by simpa [intsV] using hr8_4.wrote hww (by omega), hr12_4.wrote hww (by omega), Wrote.below hB4 hww (fun k hk => by omega) hB4.size⟩, ⟨g14, g4, g8, g12, by omega, by omega, by omega, by omega, by omega, by omega⟩⟩
     ·refine ifT rfl ?_
      refine oper_make _ _ _ 49 rfl 26 (.slice none 0 0) 24 Try.underlying49 Try.infoInts rfl g.infos.length rfl rfl (by omega) (by omega) ?_
      intro w3 hb hz hr12_3
      clear hz
      have g12 := hrs2.lt
      have l8_12 := hr8_2.lt
      have hr8_3 := hr8_2.below hb hr8_2.lt
      have l14_12 := hr14_2.lt
      have hr14_3 := hr14_2.below hb hr14_2.lt
      have sz3 := hb.size
      have hbx3 := hbx2.below hb hbx2.lt
      have hrs3 := hrs2.below hb hrs2.lt
      have hB3 := hB2.trans (hb.mono hB2.size)
      clear hb
      refine hK.out _ _ ⟨hbx3.cell rfl, hbx3.cell rfl, hbx3.cell rfl⟩ (fun hHeld => ?_)
      clear hK K
      try simp only [Act.put, lq1, lq2, lq3, lq4, lq5, lq6]
      refine wpAnyH_ready (rs := [4]) (by decide +kernel) (by simp) ?_
      refine (AllReadyH.cons (o := _) rfl (fun K hK => ?_) AllReadyH.nil)
      ·refine ifT rfl ?_
       refine oper_make _ _ _ 26 rfl 3 (.int .i64 0) 8 Try.underlying26 Try.infoInt rfl g.nodes.length rfl rfl (by omega) (by omega) ?_
       intro w4 hb hz hr4_4
       clear hz
       have g4 := hrs3.lt
       have l8_4 := hr8_3.lt
       have hr8_4 := hr8_3.below hb hr8_3.lt
       have l14_4 := hr14_3.lt
       have hr14_4 := hr14_3.below hb hr14_3.lt
       have l12_4 := hr12_3.lt
       have hr12_4 := hr12_3.below hb hr12_3.lt
       have sz4 := hb.size
       have hbx4 := hbx3.below hb hbx3.lt
       have hrs4 := hrs3.below hb hrs3.lt
       have hB4 := hB3.trans (hb.mono hB3.size)
       clear hb
       refine hK.out _ _ ⟨hbx4.cell rfl, hbx4.cell rfl, hbx4.cell rfl⟩ (fun hHeld => ?_)
       clear hK K
       try simp only [Act.put, lq1, lq2, lq3, lq4, lq5, lq6]
       refine wpAnyH_take (i := 13) (v := ?_) rfl (by kernel_rfl) (by kernel_rfl) (by kernel_rfl) (fun _ _ _ h => h) (Or.inl ⟨by rfl, ?_⟩) hHeld ?_
       rotate_left
       ·intro wx hSx; (try dsimp only at hSx); go_split_ands; go_simp; try (with_reducible rfl)
       try simp only [Act.put, lq1, lq2, lq3, lq4, lq5, lq6]
       have r0 := hr14_4.cell (i := 0) rfl
       have f0 := hr14_4.frozen 0
       have r1 := hr14_4.cell (i := 1) rfl
       have f1 := hr14_4.frozen 1
       have r2 := hr14_4.cell (i := 2) rfl
       have f2 := hr14_4.frozen 2
       have r3 := hr14_4.cell (i := 3) rfl
       have f3 := hr14_4.frozen 3
       have r4 := hr14_4.cell (i := 4) rfl
       have f4 := hr14_4.frozen 4
       have r5 := hr14_4.cell (i := 5) rfl
       have f5 := hr14_4.frozen 5
       refine wpAnyH_ready (rs := [15]) (by kernel_rfl) (by simp) ?_
       refine AllReadyH.cons (o := _) rfl (fun K hK => ?_) AllReadyH.nil
       go_simp
       obtain ⟨W, hW, hrw, hww⟩ := set6 hr14_4 (.int .i64 g.players) (.slice (some ⟨b, o, none⟩) g.nodes.length c) (.slice Ai g.infos.length ci) (.slice (some ⟨w3.heap.size, 0, none⟩) g.nodes.length g.nodes.length) (.slice (some ⟨w0.heap.size, 0, none⟩) g.nodes.length g.nodes.length) (.slice (some ⟨w2.heap.size, 0, none⟩) g.infos.length g.infos.length)
       rw [← hW]
       clear hW
       have hbxw := hbx4.wrote hww (by omega)
       refine hK.out _ _ ⟨hbxw.cell rfl, hbxw.cell rfl, hbxw.cell rfl⟩ (fun hHeld => ?_)
       clear hK K
       try simp only [Act.put, lq1, lq2, lq3, lq4, lq5, lq6]
       refine wpAnyH_done (by kernel_rfl) ?_ _
       clear hHeld
       clear r0 f0
       clear r1 f1
       clear r2 f2
       clear r3 f3
       clear r4 f4
       clear r5 f5
       go_wp2_with fail
       go_meet
       exact ⟨w1.heap.size, w3.heap.size, w0.heap.size, w2.heap.size, rfl, ⟨hbxw, hrs4.wrote hww (by omega), hrw, by simpa [intsV] using hr4_4.wrote hww (by omega), by simpa [intsV] using hr8_4.wrote hww (by omega), hr12_4.wrote hww (by omega), Wrote.below hB4 hww (fun k hk => by omega) hB4.size⟩, ⟨g14, g4, g8, g12, by omega, by omega, by omega, by omega, by omega, by omega⟩⟩
   ·refine ifT rfl ?_
    refine oper_make _ _ _ 49 rfl 26 (.slice none 0 0) 24 Try.underlying49 Try.infoInts rfl g.infos.length rfl rfl (by omega) (by omega) ?_
    intro w1 hb hz hr12_1
    clear hz
    have g12 := hrs0.lt
    have sz1 := hb.size
    have hbx1 := hbx0.below hb hbx0.lt
    have hrs1 := hrs0.below hb hrs0.lt
    have hB1 := hB0.trans (hb.mono hB0.size)
    clear hb
    refine hK.out _ _ ⟨hbx1.cell rfl, hbx1.cell rfl, hbx1.cell rfl⟩ (fun hHeld => ?_)
    clear hK K
    try simp only [Act.put, lq1, lq2, lq3, lq4, lq5, lq6]
    refine wpAnyH_ready (rs := [4, 8, 14]) (by decide +kernel) (by simp) ?_
    refine (AllReadyH.cons (o := _) rfl (fun K hK => ?_) (AllReadyH.cons (o := _) rfl (fun K hK => ?_) (AllReadyH.cons (o := _) rfl (fun K hK => ?_) AllReadyH.nil)))
    ·refine ifT rfl ?_
     refine oper_make _ _ _ 26 rfl 3 (.int .i64 0) 8 Try.underlying26 Try.infoInt rfl g.nodes.length rfl rfl (by omega) (by omega) ?_
     intro w2 hb hz hr4_2
     clear hz
     have g4 := hrs1.lt
     have l12_4 := hr12_1.lt
     have hr12_2 := hr12_1.below hb hr12_1.lt
     have sz2 := hb.size
     have hbx2 := hbx1.below hb hbx1.lt
     have hrs2 := hrs1.below hb hrs1.lt
     have hB2 := hB1.trans (hb.mono hB1.size)
     clear hb
     refine hK.out _ _ ⟨hbx2.cell rfl, hbx2.cell rfl, hbx2.cell rfl⟩ (fun hHeld => ?_)
     clear hK K
     try simp only [Act.put, lq1, lq2, lq3, lq4, lq5, lq6]
     refine wpAnyH_ready (rs := [8, 14]) (by decide +kernel) (by simp) ?_
     refine (AllReadyH.cons (o := _) rfl (fun K hK => ?_) (AllReadyH.cons (o := _) rfl (fun K hK => ?_) AllReadyH.nil))
     ·refine ifT rfl ?_
      refine oper_make _ _ _ 26 rfl 3 (.int .i64 0) 8 Try.underlying26 Try.infoInt rfl g.nodes.length rfl rfl (by omega) (by omega) ?_
      intro w3 hb hz hr8_3
      clear hz
      have g8 := hrs2.lt
      have l12_8 := hr12_2.lt
      have hr12_3 := hr12_2.below hb hr12_2.lt
      have l4_8 := hr4_2.lt
      have hr4_3 := hr4_2.below hb hr4_2.lt
      have sz3 := hb.size
      have hbx3 := hbx2.below hb hbx2.lt
      have hrs3 := hrs2.below hb hrs2.lt
      have hB3 := hB2.trans (hb.mono hB2.size)
      clear hb
      refine hK.out _ _ ⟨hbx3.cell rfl, hbx3.cell rfl, hbx3.cell rfl⟩ (fun hHeld => ?_)
      clear hK K
      try simp only [Act.put, lq1, lq2, lq3, lq4, lq5, lq6]
      refine wpAnyH_take (i := 13) (v := ?_) rfl (by kernel_rfl) (by kernel_rfl) (by kernel_rfl) (fun _ _ _ h => h) (Or.inl ⟨by rfl, ?_⟩) hHeld ?_
      rotate_left
      ·intro wx hSx; (try dsimp only at hSx); go_split_ands; go_simp; try (with_reducible rfl)
      try simp only [Act.put, lq1, lq2, lq3, lq4, lq5, lq6]
      refine wpAnyH_ready (rs := [14]) (by decide +kernel) (by simp) ?_
      refine (AllReadyH.cons (o := _) rfl (fun K hK => ?_) AllReadyH.nil)
      ·go_simp
       obtain ⟨w4, hw, hr14_4, hb, hz⟩ := row_of_alloc w3 51 #[.int .i64 0, .slice none 0 0, .slice none 0 0, .slice none 0 0, .slice none 0 0, .slice none 0 0]
       rw [← hw]
       clear hw hz
       have g14 := hrs3.lt
       have l12_14 := hr12_3.lt
       have hr12_4 := hr12_3.below hb hr12_3.lt
       have l4_14 := hr4_3.lt
       have hr4_4 := hr4_3.below hb hr4_3.lt
       have l8_14 := hr8_3.lt
       have hr8_4 := hr8_3.below hb hr8_3.lt
       have sz4 := hb.size
       have hbx4 := hbx3.below hb hbx3.lt
       have hrs4 := hrs3.below hb hrs3.lt
       have hB4 := hB3.trans (hb.mono hB3.size)
       clear hb
       refine hK.out _ _ ⟨hbx4.cell rfl, hbx4.cell rfl, hbx4.cell rfl⟩ (fun hHeld => ?_)
       clear hK K
       try simp only [Act.put, lq1, lq2, lq3, lq4, lq5, lq6]
       have r0 := hr14_4.cell (i := 0) rfl
       have f0 := hr14_4.frozen 0
       have r1 := hr14_4.cell (i := 1) rfl
       have f1 := hr14_4.frozen 1
       have r2 := hr14_4.cell (i := 2) rfl
       have f2 := hr14_4.frozen 2
       have r3 := hr14_4.cell (i := 3) rfl
       have f3 := hr14_4.frozen 3
       have r4 := hr14_4.cell (i := 4) rfl
       have f4 := hr14_4.frozen 4
       have r5 := hr14_4.cell (i := 5) rfl
       have f5 := hr14_4.frozen 5
       refine wpAnyH_ready (rs := [15]) (by kernel_rfl) (by simp) ?_
       refine AllReadyH.cons (o := _) rfl (fun K hK => ?_) AllReadyH.nil
       go_simp
       obtain ⟨W, hW, hrw, hww⟩ := set6 hr14_4 (.int .i64 g.players) (.slice (some ⟨b, o, none⟩) g.nodes.length c) (.slice Ai g.infos.length ci) (.slice (some ⟨w1.heap.size, 0, none⟩) g.nodes.length g.nodes.length) (.slice (some ⟨w2.heap.size, 0, none⟩) g.nodes.length g.nodes.length) (.slice (some ⟨w0.heap.size, 0, none⟩) g.infos.length g.infos.length)
       rw [← hW]
       clear hW
       have hbxw := hbx4.wrote hww (by omega)
       refine hK.out _ _ ⟨hbxw.cell rfl, hbxw.cell rfl, hbxw.cell rfl⟩ (fun hHeld => ?_)
       clear hK K
       try simp only [Act.put, lq1, lq2, lq3, lq4, lq5, lq6]
       refine wpAnyH_done (by kernel_rfl) ?_ _
       clear hHeld
       clear r0 f0
       clear r1 f1
       clear r2 f2
       clear r3 f3
       clear r4 f4
       clear r5 f5
       go_wp2_with fail
       go_meet
       exact ⟨w3.heap.size, w1.heap.size, w2.heap.size, w0.heap.size, rfl, ⟨hbxw, hrs4.wrote hww (by omega), hrw, by simpa [intsV] using hr4_4.wrote hww (by omega), by simpa [intsV] using hr8_4.wrote hww (by omega), hr12_4.wrote hww (by omega), Wrote.below hB4 hww (fun k hk => by omega) hB4.size⟩, ⟨g14, g4, g8, g12, by omega, by omega, by omega, by omega, by omega, by omega⟩⟩
     ·go_simp
      obtain ⟨w3, hw, hr14_3, hb, hz⟩ := row_of_alloc w2 51 #[.int .i64 0, .slice none 0 0, .slice none 0 0, .slice none 0 0, .slice none 0 0, .slice none 0 0]
      rw [← hw]
      clear hw hz
      have g14 := hrs2.lt
      have l12_14 := hr12_2.lt
      have hr12_3 := hr12_2.below hb hr12_2.lt
      have l4_14 := hr4_2.lt
      have hr4_3 := hr4_2.below hb hr4_2.lt
      have sz3 := hb.size
      have hbx3 := hbx2.below hb hbx2.lt
      have hrs3 := hrs2.below hb hrs2.lt
      have hB3 := hB2.trans (hb.mono hB2.size)
      clear hb
      refine hK.out _ _ ⟨hbx3.cell rfl, hbx3.cell rfl, hbx3.cell rfl⟩ (fun hHeld => ?_)
      clear hK K
      try simp only [Act.put, lq1, lq2, lq3, lq4, lq5, lq6]
      refine wpAnyH_ready (rs := [8]) (by decide +kernel) (by simp) ?_
      refine (AllReadyH.cons (o := _) rfl (fun K hK => ?_) AllReadyH.nil)
      ·refine ifT rfl ?_
       refine oper_make _ _ _ 26 rfl 3 (.int .i64 0) 8 Try.underlying26 Try.infoInt rfl g.nodes.length rfl rfl (by omega) (by omega) ?_
       intro w4 hb hz hr8_4
       clear hz
       have g8 := hrs3.lt
       have l12_8 := hr12_3.lt
       have hr12_4 := hr12_3.below hb hr12_3.lt
       have l4_8 := hr4_3.lt
       have hr4_4 := hr4_3.below hb hr4_3.lt
       have l14_8 := hr14_3.lt
       have hr14_4 := hr14_3.below hb hr14_3.lt
       have sz4 := hb.size
       have hbx4 := hbx3.below hb hbx3.lt
       have hrs4 := hrs3.below hb hrs3.lt
       have hB4 := hB3.trans (hb.mono hB3.size)
       clear hb
       refine hK.out _ _ ⟨hbx4.cell rfl, hbx4.cell rfl, hbx4.cell rfl⟩ (fun hHeld => ?_)
       clear hK K
       try simp only [Act.put, lq1, lq2, lq3, lq4, lq5, lq6]
       refine wpAnyH_take (i := 13) (v := ?_) rfl (by kernel_rfl) (by kernel_rfl) (by kernel_rfl) (fun _ _ _ h => h) (Or.inl ⟨by rfl, ?_⟩) hHeld ?_
       rotate_left
       ·intro wx hSx; (try dsimp only at hSx); go_split_ands; go_simp; try (with_reducible rfl)
       try simp only [Act.put, lq1, lq2, lq3, lq4, lq5, lq6]
       have r0 := hr14_4.cell (i := 0) rfl
       have f0 := hr14_4.frozen 0
       have r1 := hr14_4.cell (i := 1) rfl
       have f1 := hr14_4.frozen 1
       have r2 := hr14_4.cell (i := 2) rfl
       have f2 := hr14_4.frozen 2
       have r3 := hr14_4.cell (i := 3) rfl
       have f3 := hr14_4.frozen 3
       have r4 := hr14_4.cell (i := 4) rfl
       have f4 := hr14_4.frozen 4
       have r5 := hr14_4.cell (i := 5) rfl
       have f5 := hr14_4.frozen 5
       refine wpAnyH_ready (rs := [15]) (by kernel_rfl) (by simp) ?_
       refine AllReadyH.cons (o := _) rfl (fun K hK => ?_) AllReadyH.nil
       go_simp
       obtain ⟨W, hW, hrw, hww⟩ := set6 hr14_4 (.int .i64 g.players) (.slice (some ⟨b, o, none⟩) g.nodes.length c) (.slice Ai g.infos.length ci) (.slice (some ⟨w1.heap.size, 0, none⟩) g.nodes.length g.nodes.length) (.slice (some ⟨w3.heap.size, 0, none⟩) g.nodes.length g.nodes.length) (.slice (some ⟨w0.heap.size, 0, none⟩) g.infos.length g.infos.length)
       rw [← hW]
       clear hW
       have hbxw := hbx4.wrote hww (by omega)
       refine hK.out _ _ ⟨hbxw.cell rfl, hbxw.cell rfl, hbxw.cell rfl⟩ (fun hHeld => ?_)
       clear hK K
       try simp only [Act.put, lq1, lq2, lq3, lq4, lq5, lq6]
       refine wpAnyH_done (by kernel_rfl) ?_ _
       clear hHeld
       clear r0 f0
       clear r1 f1
       clear r2 f2
       clear r3 f3
       clear r4 f4
       clear r5 f5
       go_wp2_with fail
       go_meet
       exact ⟨w2.heap.size, w1.heap.size, w3.heap.size, w0.heap.size, rfl, ⟨hbxw, hrs4.wrote hww (by omega), hrw, by simpa [intsV] using hr4_4.wrote hww (by omega), by simpa [intsV] using hr8_4.wrote hww (by omega), hr12_4.wrote hww (by omega), Wrote.below hB4 hww (fun k hk => by omega) hB4.size⟩, ⟨g14, g4, g8, g12, by omega, by omega, by omega, by omega, by omega, by omega⟩⟩
    ·refine ifT rfl ?_
     refine oper_make _ _ _ 26 rfl 3 (.int .i64 0) 8 Try.underlying26 Try.infoInt rfl g.nodes.length rfl rfl (by omega) (by omega) ?_
     intro w2 hb hz hr8_2
     clear hz
     have g8 := hrs1.lt
     have l12_8 := hr12_1.lt
     have hr12_2 := hr12_1.below hb hr12_1.lt
     have sz2 := hb.size
     have hbx2 := hbx1.below hb hbx1.lt
     have hrs2 := hrs1.below hb hrs1.lt
     have hB2 := hB1.trans (hb.mono hB1.size)
     clear hb
     refine hK.out _ _ ⟨hbx2.cell rfl, hbx2.cell rfl, hbx2.cell rfl⟩ (fun hHeld => ?_)
     clear hK K
     try simp only [Act.put, lq1, lq2, lq3, lq4, lq5, lq6]
     refine wpAnyH_ready (rs := [4, 14]) (by decide +kernel) (by simp) ?_
     refine (AllReadyH.cons (o := _) rfl (fun K hK => ?_) (AllReadyH.cons (o := _) rfl (fun K hK => ?_) AllReadyH.nil))
     ·refine ifT rfl ?_
      refine oper_make _ _ _ 26 rfl 3 (.int .i64 0) 8 Try.underlying26 Try.infoInt rfl g.nodes.length rfl rfl (by omega) (by omega) ?_
      intro w3 hb hz hr4_3
      clear hz
      have g4 := hrs2.lt
      have l12_4 := hr12_2.lt
      have hr12_3 := hr12_2.below hb hr12_2.lt
      have l8_4 := hr8_2.lt
      have hr8_3 := hr8_2.below hb hr8_2.lt
      have sz3 := hb.size
      have hbx3 := hbx2.below hb hbx2.lt
      have hrs3 := hrs2.below hb hrs2.lt
      have hB3 := hB2.trans (hb.mono hB2.size)
      clear hb
      refine hK.out _ _ ⟨hbx3.cell rfl, hbx3.cell rfl, hbx3.cell rfl⟩ (fun hHeld => ?_)
      clear hK K
      try simp only [Act.put, lq1, lq2, lq3, lq4, lq5, lq6]
      refine wpAnyH_take (i := 13) (v := ?_) rfl (by kernel_rfl) (by kernel_rfl) (by kernel_rfl) (fun _ _ _ h => h) (Or.inl ⟨by rfl, ?_⟩) hHeld ?_
      rotate_left
      ·intro wx hSx; (try dsimp only at hSx); go_split_ands; go_simp; try (with_reducible rfl)
      try simp only [Act.put, lq1, lq2, lq3, lq4, lq5, lq6]
      refine wpAnyH_ready (rs := [14]) (by decide +kernel) (by simp) ?_
      refine (AllReadyH.cons (o := _) rfl (fun K hK => ?_) AllReadyH.nil)
      ·go_simp
       obtain ⟨w4, hw, hr14_4, hb, hz⟩ := row_of_alloc w3 51 #[.int .i64 0, .slice none 0 0, .slice none 0 0, .slice none 0 0, .slice none 0 0, .slice none 0 0]
       rw [← hw]
       clear hw hz
       have g14 := hrs3.lt
       have l12_14 := hr12_3.lt
       have hr12_4 := hr12_3.below hb hr12_3.lt
       have l8_14 := hr8_3.lt
       have hr8_4 := hr8_3.below hb hr8_3.lt
       have l4_14 := hr4_3.lt
       have hr4_4 := hr4_3.below hb hr4_3.lt
       have sz4 := hb.size
       have hbx4 := hbx3.below hb hbx3.lt
       have hrs4 := hrs3.below hb hrs3.lt
       have hB4 := hB3.trans (hb.mono hB3.size)
       clear hb
       refine hK.out _ _ ⟨hbx4.cell rfl, hbx4.cell rfl, hbx4.cell rfl⟩ (fun hHeld => ?_)
       clear hK K
       try simp only [Act.put, lq1, lq2, lq3, lq4, lq5, lq6]
       have r0 := hr14_4.cell (i := 0) rfl
       have f0 := hr14_4.frozen 0
       have r1 := hr14_4.cell (i := 1) rfl
       have f1 := hr14_4.frozen 1
       have r2 := hr14_4.cell (i := 2) rfl
       have f2 := hr14_4.frozen 2
       have r3 := hr14_4.cell (i := 3) rfl
       have f3 := hr14_4.frozen 3
       have r4 := hr14_4.cell (i := 4) rfl
       have f4 := hr14_4.frozen 4
       have r5 := hr14_4.cell (i := 5) rfl
       have f5 := hr14_4.frozen 5
       refine wpAnyH_ready (rs := [15]) (by kernel_rfl) (by simp) ?_
       refine AllReadyH.cons (o := _) rfl (fun K hK => ?_) AllReadyH.nil
       go_simp
       obtain ⟨W, hW, hrw, hww⟩ := set6 hr14_4 (.int .i64 g.players) (.slice (some ⟨b, o, none⟩) g.nodes.length c) (.slice Ai g.infos.length ci) (.slice (some ⟨w2.heap.size, 0, none⟩) g.nodes.length g.nodes.length) (.slice (some ⟨w1.heap.size, 0, none⟩) g.nodes.length g.nodes.length) (.slice (some ⟨w0.heap.size, 0, none⟩) g.infos.length g.infos.length)
       rw [← hW]
       clear hW
       have hbxw := hbx4.wrote hww (by omega)
       refine hK.out _ _ ⟨hbxw.cell rfl, hbxw.cell rfl, hbxw.cell rfl⟩ (fun hHeld => ?_)
       clear hK K
       try simp only [Act.put, lq1, lq2, lq3, lq4, lq5, lq6]
       refine wpAnyH_done (by kernel_rfl) ?_ _
       clear hHeld
       clear r0 f0
       clear r1 f1
       clear r2 f2
       clear r3 f3
       clear r4 f4
       clear r5 f5
       go_wp2_with fail
       go_meet
       exact ⟨w3.heap.size, w2.heap.size, w1.heap.size, w0.heap.size, rfl, ⟨hbxw, hrs4.wrote hww (by omega), hrw, by simpa [intsV] using hr4_4.wrote hww (by omega), by simpa [intsV] using hr8_4.wrote hww (by omega), hr12_4.wrote hww (by omega), Wrote.below hB4 hww (fun k hk => by omega) hB4.size⟩, ⟨g14, g4, g8, g12, by omega, by omega, by omega, by omega, by omega, by omega⟩⟩
     ·go_simp
      obtain ⟨w3, hw, hr14_3, hb, hz⟩ := row_of_alloc w2 51 #[.int .i64 0, .slice none 0 0, .slice none 0 0, .slice none 0 0, .slice none 0 0, .slice none 0 0]
      rw [← hw]
      clear hw hz
      have g14 := hrs2.lt
      have l12_14 := hr12_2.lt
      have hr12_3 := hr12_2.below hb hr12_2.lt
      have l8_14 := hr8_2.lt
      have hr8_3 := hr8_2.below hb hr8_2.lt
      have sz3 := hb.size
      have hbx3 := hbx2.below hb hbx2.lt
      have hrs3 := hrs2.below hb hrs2.lt
      have hB3 := hB2.trans (hb.mono hB2.size)
      clear hb
      refine hK.out _ _ ⟨hbx3.cell rfl, hbx3.cell rfl, hbx3.cell rfl⟩ (fun hHeld => ?_)
      clear hK K
      try simp only [Act.put, lq1, lq2, lq3, lq4, lq5, lq6]
      refine wpAnyH_ready (rs := [4]) (by decide +kernel) (by simp) ?_
      refine (AllReadyH.cons (o := _) rfl (fun K hK => ?_) AllReadyH.nil)
      ·refine ifT rfl ?_
       refine oper_make _ _ _ 26 rfl 3 (.int .i64 0) 8 Try.underlying26 Try.infoInt rfl g.nodes.length rfl rfl (by omega) (by omega) ?_
       intro w4 hb hz hr4_4
       clear hz
       have g4 := hrs3.lt
       have l12_4 := hr12_3.lt
       have hr12_4 := hr12_3.below hb hr12_3.lt
       have l8_4 := hr8_3.lt
       have hr8_4 := hr8_3.below hb hr8_3.lt
       have l14_4 := hr14_3.lt
       have hr14_4 := hr14_3.below hb hr14_3.lt
       have sz4 := hb.size
       have hbx4 := hbx3.below hb hbx3.lt
       have hrs4 := hrs3.below hb hrs3.lt
       have hB4 := hB3.trans (hb.mono hB3.size)
       clear hb
       refine hK.out _ _ ⟨hbx4.cell rfl, hbx4.cell rfl, hbx4.cell rfl⟩ (fun hHeld => ?_)
       clear hK K
       try simp only [Act.put, lq1, lq2, lq3, lq4, lq5, lq6]
       refine wpAnyH_take (i := 13) (v := ?_) rfl (by kernel_rfl) (by kernel_rfl) (by kernel_rfl) (fun _ _ _ h => h) (Or.inl ⟨by rfl, ?_⟩) hHeld ?_
       rotate_left
       ·intro wx hSx; (try dsimp only at hSx); go_split_ands; go_simp; try (with_reducible rfl)
       try simp only [Act.put, lq1, lq2, lq3, lq4, lq5, lq6]
       have r0 := hr14_4.cell (i := 0) rfl
       have f0 := hr14_4.frozen 0
       have r1 := hr14_4.cell (i := 1) rfl
       have f1 := hr14_4.frozen 1
       have r2 := hr14_4.cell (i := 2) rfl
       have f2 := hr14_4.frozen 2
       have r3 := hr14_4.cell (i := 3) rfl
       have f3 := hr14_4.frozen 3
       have r4 := hr14_4.cell (i := 4) rfl
       have f4 := hr14_4.frozen 4
       have r5 := hr14_4.cell (i := 5) rfl
       have f5 := hr14_4.frozen 5
       refine wpAnyH_ready (rs := [15]) (by kernel_rfl) (by simp) ?_
       refine AllReadyH.cons (o := _) rfl (fun K hK => ?_) AllReadyH.nil
       go_simp
       obtain ⟨W, hW, hrw, hww⟩ := set6 hr14_4 (.int .i64 g.players) (.slice (some ⟨b, o, none⟩) g.nodes.length c) (.slice Ai g.infos.length ci) (.slice (some ⟨w3.heap.size, 0, none⟩) g.nodes.length g.nodes.length) (.slice (some ⟨w1.heap.size, 0, none⟩) g.nodes.length g.nodes.length) (.slice (some ⟨w0.heap.size, 0, none⟩) g.infos.length g.infos.length)
       rw [← hW]
       clear hW
       have hbxw := hbx4.wrote hww (by omega)
       refine hK.out _ _ ⟨hbxw.cell rfl, hbxw.cell rfl, hbxw.cell rfl⟩ (fun hHeld => ?_)
       clear hK K
       try simp only [Act.put, lq1, lq2, lq3, lq4, lq5, lq6]
       refine wpAnyH_done (by kernel_rfl) ?_ _
       clear hHeld
       clear r0 f0
       clear r1 f1
       clear r2 f2
       clear r3 f3
       clear r4 f4
       clear r5 f5
       go_wp2_with fail
       go_meet
       exact ⟨w2.heap.size, w3.heap.size, w1.heap.size, w0.heap.size, rfl, ⟨hbxw, hrs4.wrote hww (by omega), hrw, by simpa [intsV] using hr4_4.wrote hww (by omega), by simpa [intsV] using hr8_4.wrote hww (by omega), hr12_4.wrote hww (by omega), Wrote.below hB4 hww (fun k hk => by omega) hB4.size⟩, ⟨g14, g4, g8, g12, by omega, by omega, by omega, by omega, by omega, by omega⟩⟩
    ·go_simp
     obtain ⟨w2, hw, hr14_2, hb, hz⟩ := row_of_alloc w1 51 #[.int .i64 0, .slice none 0 0, .slice none 0 0, .slice none 0 0, .slice none 0 0, .slice none 0 0]
     rw [← hw]
     clear hw hz
     have g14 := hrs1.lt
     have l12_14 := hr12_1.lt
     have hr12_2 := hr12_1.below hb hr12_1.lt
     have sz2 := hb.size
     have hbx2 := hbx1.below hb hbx1.lt
     have hrs2 := hrs1.below hb hrs1.lt
     have hB2 := hB1.trans (hb.mono hB1.size)
     clear hb
     refine hK.out _ _ ⟨hbx2.cell rfl, hbx2.cell rfl, hbx2.cell rfl⟩ (fun hHeld => ?_)
     clear hK K
     try simp only [Act.put, lq1, lq2, lq3, lq4, lq5, lq6]
     refine wpAnyH_ready (rs := [4, 8]) (by decide +kernel) (by simp) ?_
     refine (AllReadyH.cons (o := _) rfl (fun K hK => ?_) (AllReadyH.cons (o := _) rfl (fun K hK => ?_) AllReadyH.nil))
     ·refine ifT rfl ?_
      refine oper_make _ _ _ 26 rfl 3 (.int .i64 0) 8 Try.underlying26 Try.infoInt rfl g.nodes.length rfl rfl (by omega) (by omega) ?_
      intro w3 hb hz hr4_3
      clear hz
      have g4 := hrs2.lt
      have l12_4 := hr12_2.lt
      have hr12_3 := hr12_2.below hb hr12_2.lt
      have l14_4 := hr14_2.lt
      have hr14_3 := hr14_2.below hb hr14_2.lt
      have sz3 := hb.size
      have hbx3 := hbx2.below hb hbx2.lt
      have hrs3 := hrs2.below hb hrs2.lt
      have hB3 := hB2.trans (hb.mono hB2.size)
      clear hb
      refine hK.out _ _ ⟨hbx3.cell rfl, hbx3.cell rfl, hbx3.cell rfl⟩ (fun hHeld => ?_)
      clear hK K
      try simp only [Act.put, lq1, lq2, lq3, lq4, lq5, lq6]
      refine wpAnyH_ready (rs := [8]) (by decide +kernel) (by simp) ?_
      refine (AllReadyH.cons (o := _) rfl (fun K hK => ?_) AllReadyH.nil)
      ·refine ifT rfl ?_
       refine oper_make _ _ _ 26 rfl 3 (.int .i64 0) 8 Try.underlying26 Try.infoInt rfl g.nodes.length rfl rfl (by omega) (by omega) ?_
       intro w4 hb hz hr8_4
       clear hz
       have g8 := hrs3.lt
       have l12_8 := hr12_3.lt
       have hr12_4 := hr12_3.below hb hr12_3.lt
       have l14_8 := hr14_3.lt
       have hr14_4 := hr14_3.below hb hr14_3.lt
       have l4_8 := hr4_3.lt
       have hr4_4 := hr4_3.below hb hr4_3.lt
       have sz4 := hb.size
       have hbx4 := hbx3.below hb hbx3.lt
       have hrs4 := hrs3.below hb hrs3.lt
       have hB4 := hB3.trans (hb.mono hB3.size)
       clear hb
       refine hK.out _ _ ⟨hbx4.cell rfl, hbx4.cell rfl, hbx4.cell rfl⟩ (fun hHeld => ?_)
       clear hK K
       try simp only [Act.put, lq1, lq2, lq3, lq4, lq5, lq6]
       refine wpAnyH_take (i := 13) (v := ?_) rfl (by kernel_rfl) (by kernel_rfl) (by kernel_rfl) (fun _ _ _ h => h) (Or.inl ⟨by rfl, ?_⟩) hHeld ?_
       rotate_left
       ·intro wx hSx; (try dsimp only at hSx); go_split_ands; go_simp; try (with_reducible rfl)
       try simp only [Act.put, lq1, lq2, lq3, lq4, lq5, lq6]
       have r0 := hr14_4.cell (i := 0) rfl
       have f0 := hr14_4.frozen 0
       have r1 := hr14_4.cell (i := 1) rfl
       have f1 := hr14_4.frozen 1
       have r2 := hr14_4.cell (i := 2) rfl
       have f2 := hr14_4.frozen 2
       have r3 := hr14_4.cell (i := 3) rfl
       have f3 := hr14_4.frozen 3
       have r4 := hr14_4.cell (i := 4) rfl
       have f4 := hr14_4.frozen 4
       have r5 := hr14_4.cell (i := 5) rfl
       have f5 := hr14_4.frozen 5
       refine wpAnyH_ready (rs := [15]) (by kernel_rfl) (by simp) ?_
       refine AllReadyH.cons (o := _) rfl (fun K hK => ?_) AllReadyH.nil
       go_simp
       obtain ⟨W, hW, hrw, hww⟩ := set6 hr14_4 (.int .i64 g.players) (.slice (some ⟨b, o, none⟩) g.nodes.length c) (.slice Ai g.infos.length ci) (.slice (some ⟨w2.heap.size, 0, none⟩) g.nodes.length g.nodes.length) (.slice (some ⟨w3.heap.size, 0, none⟩) g.nodes.length g.nodes.length) (.slice (some ⟨w0.heap.size, 0, none⟩) g.infos.length g.infos.length)
       rw [← hW]
       clear hW
       have hbxw := hbx4.wrote hww (by omega)
       refine hK.out _ _ ⟨hbxw.cell rfl, hbxw.cell rfl, hbxw.cell rfl⟩ (fun hHeld => ?_)
       clear hK K
       try simp only [Act.put, lq1, lq2, lq3, lq4, lq5, lq6]
       refine wpAnyH_done (by kernel_rfl) ?_ _
       clear hHeld
       clear r0 f0
       clear r1 f1
       clear r2 f2
       clear r3 f3
       clear r4 f4
       clear r5 f5
       go_wp2_with fail
       go_meet
       exact ⟨w1.heap.size, w2.heap.size, w3.heap.size, w0.heap.size, rfl, ⟨hbxw, hrs4.wrote hww (by omega), hrw, by simpa [intsV] using hr4_4.wrote hww (by omega), by simpa [intsV] using hr8_4.wrote hww (by omega), hr12_4.wrote hww (by omega), Wrote.below hB4 hww (fun k hk => by omega) hB4.size⟩, ⟨g14, g4, g8, g12, by omega, by omega, by omega, by omega, by omega, by omega⟩⟩
     ·refine ifT rfl ?_
      refine oper_make _ _ _ 26 rfl 3 (.int .i64 0) 8 Try.underlying26 Try.infoInt rfl g.nodes.length rfl rfl (by omega) (by omega) ?_
      intro w3 hb hz hr8_3
      clear hz
      have g8 := hrs2.lt
      have l12_8 := hr12_2.lt
      have hr12_3 := hr12_2.below hb hr12_2.lt
      have l14_8 := hr14_2.lt
      have hr14_3 := hr14_2.below hb hr14_2.lt
      have sz3 := hb.size
      have hbx3 := hbx2.below hb hbx2.lt
      have hrs3 := hrs2.below hb hrs2.lt
      have hB3 := hB2.trans (hb.mono hB2.size)
      clear hb
      refine hK.out _ _ ⟨hbx3.cell rfl, hbx3.cell rfl, hbx3.cell rfl⟩ (fun hHeld => ?_)
      clear hK K
      try simp only [Act.put, lq1, lq2, lq3, lq4, lq5, lq6]
      refine wpAnyH_ready (rs := [4]) (by decide +kernel) (by simp) ?_
      refine (AllReadyH.cons (o := _) rfl (fun K hK => ?_) AllReadyH.nil)
      ·refine ifT rfl ?_
       refine oper_make _ _ _ 26 rfl 3 (.int .i64 0) 8 Try.underlying26 Try.infoInt rfl g.nodes.length rfl rfl (by omega) (by omega) ?_
       intro w4 hb hz hr4_4
       clear hz
       have g4 := hrs3.lt
       have l12_4 := hr12_3.lt
       have hr12_4 := hr12_3.below hb hr12_3.lt
       have l14_4 := hr14_3.lt
       have hr14_4 := hr14_3.below hb hr14_3.lt
       have l8_4 := hr8_3.lt
       have hr8_4 := hr8_3.below hb hr8_3.lt
       have sz4 := hb.size
       have hbx4 := hbx3.below hb hbx3.lt
       have hrs4 := hrs3.below hb hrs3.lt
       have hB4 := hB3.trans (hb.mono hB3.size)
       clear hb
       refine hK.out _ _ ⟨hbx4.cell rfl, hbx4.cell rfl, hbx4.cell rfl⟩ (fun hHeld => ?_)
       clear hK K
       try simp only [Act.put, lq1, lq2, lq3, lq4, lq5, lq6]
       refine wpAnyH_take (i := 13) (v := ?_) rfl (by kernel_rfl) (by kernel_rfl) (by kernel_rfl) (fun _ _ _ h => h) (Or.inl ⟨by rfl, ?_⟩) hHeld ?_
       rotate_left
       ·intro wx hSx; (try dsimp only at hSx); go_split_ands; go_simp; try (with_reducible rfl)
       try simp only [Act.put, lq1, lq2, lq3, lq4, lq5, lq6]
       have r0 := hr14_4.cell (i := 0) rfl
       have f0 := hr14_4.frozen 0
       have r1 := hr14_4.cell (i := 1) rfl
       have f1 := hr14_4.frozen 1
       have r2 := hr14_4.cell (i := 2) rfl
       have f2 := hr14_4.frozen 2
       have r3 := hr14_4.cell (i := 3) rfl
       have f3 := hr14_4.frozen 3
       have r4 := hr14_4.cell (i := 4) rfl
       have f4 := hr14_4.frozen 4
       have r5 := hr14_4.cell (i := 5) rfl
       have f5 := hr14_4.frozen 5
       refine wpAnyH_ready (rs := [15]) (by kernel_rfl) (by simp) ?_
       refine AllReadyH.cons (o := _) rfl (fun K hK => ?_) AllReadyH.nil
       go_simp
       obtain ⟨W, hW, hrw, hww⟩ := set6 hr14_4 (.int .i64 g.players) (.slice (some ⟨b, o, none⟩) g.nodes.length c) (.slice Ai g.infos.length ci) (.slice (some ⟨w3.heap.size, 0, none⟩) g.nodes.length g.nodes.length) (.slice (some ⟨w2.heap.size, 0, none⟩) g.nodes.length g.nodes.length) (.slice (some ⟨w0.heap.size, 0, none⟩) g.infos.length g.infos.length)
       rw [← hW]
       clear hW
       have hbxw := hbx4.wrote hww (by omega)
       refine hK.out _ _ ⟨hbxw.cell rfl, hbxw.cell rfl, hbxw.cell rfl⟩ (fun hHeld => ?_)
       clear hK K
       try simp only [Act.put, lq1, lq2, lq3, lq4, lq5, lq6]
       refine wpAnyH_done (by kernel_rfl) ?_ _
       clear hHeld
       clear r0 f0
       clear r1 f1
       clear r2 f2
       clear r3 f3
       clear r4 f4
       clear r5 f5
       go_wp2_with fail
       go_meet
       exact ⟨w1.heap.size, w3.heap.size, w2.heap.size, w0.heap.size, rfl, ⟨hbxw, hrs4.wrote hww (by omega), hrw, by simpa [intsV] using hr4_4.wrote hww (by omega), by simpa [intsV] using hr8_4.wrote hww (by omega), hr12_4.wrote hww (by omega), Wrote.below hB4 hww (fun k hk => by omega) hB4.size⟩, ⟨g14, g4, g8, g12, by omega, by omega, by omega, by omega, by omega, by omega⟩⟩
   ·go_simp
    obtain ⟨w1, hw, hr14_1, hb, hz⟩ := row_of_alloc w0 51 #[.int .i64 0, .slice none 0 0, .slice none 0 0, .slice none 0 0, .slice none 0 0, .slice none 0 0]
    rw [← hw]
    clear hw hz
    have g14 := hrs0.lt
    have sz1 := hb.size
    have hbx1 := hbx0.below hb hbx0.lt
    have hrs1 := hrs0.below hb hrs0.lt
    have hB1 := hB0.trans (hb.mono hB0.size)
    clear hb
    refine hK.out _ _ ⟨hbx1.cell rfl, hbx1.cell rfl, hbx1.cell rfl⟩ (fun hHeld => ?_)
    clear hK K
    try simp only [Act.put, lq1, lq2, lq3, lq4, lq5, lq6]
    refine wpAnyH_ready (rs := [4, 8, 12]) (by decide +kernel) (by simp) ?_
    refine (AllReadyH.cons (o := _) rfl (fun K hK => ?_) (AllReadyH.cons (o := _) rfl (fun K hK => ?_) (AllReadyH.cons (o := _) rfl (fun K hK => ?_) AllReadyH.nil)))
    ·refine ifT rfl ?_
     refine oper_make _ _ _ 26 rfl 3 (.int .i64 0) 8 Try.underlying26 Try.infoInt rfl g.nodes.length rfl rfl (by omega) (by omega) ?_
     intro w2 hb hz hr4_2
     clear hz
     have g4 := hrs1.lt
     have l14_4 := hr14_1.lt
     have hr14_2 := hr14_1.below hb hr14_1.lt
     have sz2 := hb.size
     have hbx2 := hbx1.below hb hbx1.lt
     have hrs2 := hrs1.below hb hrs1.lt
     have hB2 := hB1.trans (hb.mono hB1.size)
     clear hb
     refine hK.out _ _ ⟨hbx2.cell rfl, hbx2.cell rfl, hbx2.cell rfl⟩ (fun hHeld => ?_)
     clear hK K
     try simp only [Act.put, lq1, lq2, lq3, lq4, lq5, lq6]
     refine wpAnyH_ready (rs := [8, 12]) (by decide +kernel) (by simp) ?_
     refine (AllReadyH.cons (o := _) rfl (fun K hK => ?_) (AllReadyH.cons (o := _) rfl (fun K hK => ?_) AllReadyH.nil))
     ·refine ifT rfl ?_
      refine oper_make _ _ _ 26 rfl 3 (.int .i64 0) 8 Try.underlying26 Try.infoInt rfl g.nodes.length rfl rfl (by omega) (by omega) ?_
      intro w3 hb hz hr8_3
      clear hz
      have g8 := hrs2.lt
      have l14_8 := hr14_2.lt
      have hr14_3 := hr14_2.below hb hr14_2.lt
      have l4_8 := hr4_2.lt
      have hr4_3 := hr4_2.below hb hr4_2.lt
      have sz3 := hb.size
      have hbx3 := hbx2.below hb hbx2.lt
      have hrs3 := hrs2.below hb hrs2.lt
      have hB3 := hB2.trans (hb.mono hB2.size)
      clear hb
      refine hK.out _ _ ⟨hbx3.cell rfl, hbx3.cell rfl, hbx3.cell rfl⟩ (fun hHeld => ?_)
      clear hK K
      try simp only [Act.put, lq1, lq2, lq3, lq4, lq5, lq6]
      refine wpAnyH_ready (rs := [12]) (by decide +kernel) (by simp) ?_
      refine (AllReadyH.cons (o := _) rfl (fun K hK => ?_) AllReadyH.nil)
      ·refine ifT rfl ?_
       refine oper_make _ _ _ 49 rfl 26 (.slice none 0 0) 24 Try.underlying49 Try.infoInts rfl g.infos.length rfl rfl (by omega) (by omega) ?_
       intro w4 hb hz hr12_4
       clear hz
       have g12 := hrs3.lt
       have l14_12 := hr14_3.lt
       have hr14_4 := hr14_3.below hb hr14_3.lt
       have l4_12 := hr4_3.lt
       have hr4_4 := hr4_3.below hb hr4_3.lt
       have l8_12 := hr8_3.lt
       have hr8_4 := hr8_3.below hb hr8_3.lt
       have sz4 := hb.size
       have hbx4 := hbx3.below hb hbx3.lt
       have hrs4 := hrs3.below hb hrs3.lt
       have hB4 := hB3.trans (hb.mono hB3.size)
       clear hb
       refine hK.out _ _ ⟨hbx4.cell rfl, hbx4.cell rfl, hbx4.cell rfl⟩ (fun hHeld => ?_)
       clear hK K
       try simp only [Act.put, lq1, lq2, lq3, lq4, lq5, lq6]
       refine wpAnyH_take (i := 13) (v := ?_) rfl (by kernel_rfl) (by kernel_rfl) (by kernel_rfl) (fun _ _ _ h => h) (Or.inl ⟨by rfl, ?_⟩) hHeld ?_
       rotate_left
       ·intro wx hSx; (try dsimp only at hSx); go_split_ands; go_simp; try (with_reducible rfl)
       try simp only [Act.put, lq1, lq2, lq3, lq4, lq5, lq6]
       have r0 := hr14_4.cell (i := 0) rfl
       have f0 := hr14_4.frozen 0
       have r1 := hr14_4.cell (i := 1) rfl
       have f1 := hr14_4.frozen 1
       have r2 := hr14_4.cell (i := 2) rfl
       have f2 := hr14_4.frozen 2
       have r3 := hr14_4.cell (i := 3) rfl
       have f3 := hr14_4.frozen 3
       have r4 := hr14_4.cell (i := 4) rfl
       have f4 := hr14_4.frozen 4
       have r5 := hr14_4.cell (i := 5) rfl
       have f5 := hr14_4.frozen 5
       refine wpAnyH_ready (rs := [15]) (by kernel_rfl) (by simp) ?_
       refine AllReadyH.cons (o := _) rfl (fun K hK => ?_) AllReadyH.nil
       go_simp
       obtain ⟨W, hW, hrw, hww⟩ := set6 hr14_4 (.int .i64 g.players) (.slice (some ⟨b, o, none⟩) g.nodes.length c) (.slice Ai g.infos.length ci) (.slice (some ⟨w1.heap.size, 0, none⟩) g.nodes.length g.nodes.length) (.slice (some ⟨w2.heap.size, 0, none⟩) g.nodes.length g.nodes.length) (.slice (some ⟨w3.heap.size, 0, none⟩) g.infos.length g.infos.length)
       rw [← hW]
       clear hW
       have hbxw := hbx4.wrote hww (by omega)
       refine hK.out _ _ ⟨hbxw.cell rfl, hbxw.cell rfl, hbxw.cell rfl⟩ (fun hHeld => ?_)
       clear hK K
       try simp only [Act.put, lq1, lq2, lq3, lq4, lq5, lq6]
       refine wpAnyH_done (by kernel_rfl) ?_ _
       clear hHeld
       clear r0 f0
       clear r1 f1
       clear r2 f2
       clear r3 f3
       clear r4 f4
       clear r5 f5
       go_wp2_with fail
       go_meet
       exact ⟨w0.heap.size, w1.heap.size, w2.heap.size, w3.heap.size, rfl, ⟨hbxw, hrs4.wrote hww (by omega), hrw, by simpa [intsV] using hr4_4.wrote hww (by omega), by simpa [intsV] using hr8_4.wrote hww (by omega), hr12_4.wrote hww (by omega), Wrote.below hB4 hww (fun k hk => by omega) hB4.size⟩, ⟨g14, g4, g8, g12, by omega, by omega, by omega, by omega, by omega, by omega⟩⟩
     ·refine ifT rfl ?_
      refine oper_make _ _ _ 49 rfl 26 (.slice none 0 0) 24 Try.underlying49 Try.infoInts rfl g.infos.length rfl rfl (by omega) (by omega) ?_
      intro w3 hb hz hr12_3
      clear hz
      have g12 := hrs2.lt
      have l14_12 := hr14_2.lt
      have hr14_3 := hr14_2.below hb hr14_2.lt
      have l4_12 := hr4_2.lt
      have hr4_3 := hr4_2.below hb hr4_2.lt
      have sz3 := hb.size
      have hbx3 := hbx2.below hb hbx2.lt
      have hrs3 := hrs2.below hb hrs2.lt
      have hB3 := hB2.trans (hb.mono hB2.size)
      clear hb
      refine hK.out _ _ ⟨hbx3.cell rfl, hbx3.cell rfl, hbx3.cell rfl⟩ (fun hHeld => ?_)
      clear hK K
      try simp only [Act.put, lq1, lq2, lq3, lq4, lq5, lq6]
      refine wpAnyH_ready (rs := [8]) (by decide +kernel) (by simp) ?_
      refine (AllReadyH.cons (o := _) rfl (fun K hK => ?_) AllReadyH.nil)
      ·refine ifT rfl ?_
       refine oper_make _ _ _ 26 rfl 3 (.int .i64 0) 8 Try.underlying26 Try.infoInt rfl g.nodes.length rfl rfl (by omega) (by omega) ?_
       intro w4 hb hz hr8_4
       clear hz
       have g8 := hrs3.lt
       have l14_8 := hr14_3.lt
       have hr14_4 := hr14_3.below hb hr14_3.lt
       have l4_8 := hr4_3.lt
       have hr4_4 := hr4_3.below hb hr4_3.lt
       have l12_8 := hr12_3.lt
       have hr12_4 := hr12_3.below hb hr12_3.lt
       have sz4 := hb.size
       have hbx4 := hbx3.below hb hbx3.lt
       have hrs4 := hrs3.below hb hrs3.lt
       have hB4 := hB3.trans (hb.mono hB3.size)
       clear hb
       refine hK.out _ _ ⟨hbx4.cell rfl, hbx4.cell rfl, hbx4.cell rfl⟩ (fun hHeld => ?_)
       clear hK K
       try simp only [Act.put, lq1, lq2, lq3, lq4, lq5, lq6]
       refine wpAnyH_take (i := 13) (v := ?_) rfl (by kernel_rfl) (by kernel_rfl) (by kernel_rfl) (fun _ _ _ h => h) (Or.inl ⟨by rfl, ?_⟩) hHeld ?_
       rotate_left
       ·intro wx hSx; (try dsimp only at hSx); go_split_ands; go_simp; try (with_reducible rfl)
       try simp only [Act.put, lq1, lq2, lq3, lq4, lq5, lq6]
       have r0 := hr14_4.cell (i := 0) rfl
       have f0 := hr14_4.frozen 0
       have r1 := hr14_4.cell (i := 1) rfl
       have f1 := hr14_4.frozen 1
       have r2 := hr14_4.cell (i := 2) rfl
       have f2 := hr14_4.frozen 2
       have r3 := hr14_4.cell (i := 3) rfl
       have f3 := hr14_4.frozen 3
       have r4 := hr14_4.cell (i := 4) rfl
       have f4 := hr14_4.frozen 4
       have r5 := hr14_4.cell (i := 5) rfl
       have f5 := hr14_4.frozen 5
       refine wpAnyH_ready (rs := [15]) (by kernel_rfl) (by simp) ?_
       refine AllReadyH.cons (o := _) rfl (fun K hK => ?_) AllReadyH.nil
       go_simp
       obtain ⟨W, hW, hrw, hww⟩ := set6 hr14_4 (.int .i64 g.players) (.slice (some ⟨b, o, none⟩) g.nodes.length c) (.slice Ai g.infos.length ci) (.slice (some ⟨w1.heap.size, 0, none⟩) g.nodes.length g.nodes.length) (.slice (some ⟨w3.heap.size, 0, none⟩) g.nodes.length g.nodes.length) (.slice (some ⟨w2.heap.size, 0, none⟩) g.infos.length g.infos.length)
       rw [← hW]
       clear hW
       have hbxw := hbx4.wrote hww (by omega)
       refine hK.out _ _ ⟨hbxw.cell rfl, hbxw.cell rfl, hbxw.cell rfl⟩ (fun hHeld => ?_)
       clear hK K
       try simp only [Act.put, lq1, lq2, lq3, lq4, lq5, lq6]
       refine wpAnyH_done (by kernel_rfl) ?_ _
       clear hHeld
       clear r0 f0
       clear r1 f1
       clear r2 f2
       clear r3 f3
       clear r4 f4
       clear r5 f5
       go_wp2_with fail
       go_meet
       exact ⟨w0.heap.size, w1.heap.size, w3.heap.size, w2.heap.size, rfl, ⟨hbxw, hrs4.wrote hww (by omega), hrw, by simpa [intsV] using hr4_4.wrote hww (by omega), by simpa [intsV] using hr8_4.wrote hww (by omega), hr12_4.wrote hww (by omega), Wrote.below hB4 hww (fun k hk => by omega) hB4.size⟩, ⟨g14, g4, g8, g12, by omega, by omega, by omega, by omega, by omega, by omega⟩⟩
    ·refine ifT rfl ?_
     refine oper_make _ _ _ 26 rfl 3 (.int .i64 0) 8 Try.underlying26 Try.infoInt rfl g.nodes.length rfl rfl (by omega) (by omega) ?_
     intro w2 hb hz hr8_2
     clear hz
     have g8 := hrs1.lt
     have l14_8 := hr14_1.lt
     have hr14_2 := hr14_1.below hb hr14_1.lt
     have sz2 := hb.size
     have hbx2 := hbx1.below hb hbx1.lt
     have hrs2 := hrs1.below hb hrs1.lt
     have hB2 := hB1.trans (hb.mono hB1.size)
     clear hb
     refine hK.out _ _ ⟨hbx2.cell rfl, hbx2.cell rfl, hbx2.cell rfl⟩ (fun hHeld => ?_)
     clear hK K
     try simp only [Act.put, lq1, lq2, lq3, lq4, lq5, lq6]
     refine wpAnyH_ready (rs := [4, 12]) (by decide +kernel) (by simp) ?_
     refine (AllReadyH.cons (o := _) rfl (fun K hK => ?_) (AllReadyH.cons (o := _) rfl (fun K hK => ?_) AllReadyH.nil))
     ·refine ifT rfl ?_
      refine oper_make _ _ _ 26 rfl 3 (.int .i64 0) 8 Try.underlying26 Try.infoInt rfl g.nodes.length rfl rfl (by omega) (by omega) ?_
      intro w3 hb hz hr4_3
      clear hz
      have g4 := hrs2.lt
      have l14_4 := hr14_2.lt
      have hr14_3 := hr14_2.below hb hr14_2.lt
      have l8_4 := hr8_2.lt
      have hr8_3 := hr8_2.below hb hr8_2.lt
      have sz3 := hb.size
      have hbx3 := hbx2.below hb hbx2.lt
      have hrs3 := hrs2.below hb hrs2.lt
      have hB3 := hB2.trans (hb.mono hB2.size)
      clear hb
      refine hK.out _ _ ⟨hbx3.cell rfl, hbx3.cell rfl, hbx3.cell rfl⟩ (fun hHeld => ?_)
      clear hK K
      try simp only [Act.put, lq1, lq2, lq3, lq4, lq5, lq6]
      refine wpAnyH_ready (rs := [12]) (by decide +kernel) (by simp) ?_
      refine (AllReadyH.cons (o := _) rfl (fun K hK => ?_) AllReadyH.nil)
      ·refine ifT rfl ?_
       refine oper_make _ _ _ 49 rfl 26 (.slice none 0 0) 24 Try.underlying49 Try.infoInts rfl g.infos.length rfl rfl (by omega) (by omega) ?_
       intro w4 hb hz hr12_4
       clear hz
       have g12 := hrs3.lt
       have l14_12 := hr14_3.lt
       have hr14_4 := hr14_3.below hb hr14_3.lt
       have l8_12 := hr8_3.lt
       have hr8_4 := hr8_3.below hb hr8_3.lt
       have l4_12 := hr4_3.lt
       have hr4_4 := hr4_3.below hb hr4_3.lt
       have sz4 := hb.size
       have hbx4 := hbx3.below hb hbx3.lt
       have hrs4 := hrs3.below hb hrs3.lt
       have hB4 := hB3.trans (hb.mono hB3.size)
       clear hb
       refine hK.out _ _ ⟨hbx4.cell rfl, hbx4.cell rfl, hbx4.cell rfl⟩ (fun hHeld => ?_)
       clear hK K
       try simp only [Act.put, lq1, lq2, lq3, lq4, lq5, lq6]
       refine wpAnyH_take (i := 13) (v := ?_) rfl (by kernel_rfl) (by kernel_rfl) (by kernel_rfl) (fun _ _ _ h => h) (Or.inl ⟨by rfl, ?_⟩) hHeld ?_
       rotate_left
       ·intro wx hSx; (try dsimp only at hSx); go_split_ands; go_simp; try (with_reducible rfl)
       try simp only [Act.put, lq1, lq2, lq3, lq4, lq5, lq6]
       have r0 := hr14_4.cell (i := 0) rfl
       have f0 := hr14_4.frozen 0
       have r1 := hr14_4.cell (i := 1) rfl
       have f1 := hr14_4.frozen 1
       have r2 := hr14_4.cell (i := 2) rfl
       have f2 := hr14_4.frozen 2
       have r3 := hr14_4.cell (i := 3) rfl
       have f3 := hr14_4.frozen 3
       have r4 := hr14_4.cell (i := 4) rfl
       have f4 := hr14_4.frozen 4
       have r5 := hr14_4.cell (i := 5) rfl
       have f5 := hr14_4.frozen 5
       refine wpAnyH_ready (rs := [15]) (by kernel_rfl) (by simp) ?_
       refine AllReadyH.cons (o := _) rfl (fun K hK => ?_) AllReadyH.nil
       go_simp
       obtain ⟨W, hW, hrw, hww⟩ := set6 hr14_4 (.int .i64 g.players) (.slice (some ⟨b, o, none⟩) g.nodes.length c) (.slice Ai g.infos.length ci) (.slice (some ⟨w2.heap.size, 0, none⟩) g.nodes.length g.nodes.length) (.slice (some ⟨w1.heap.size, 0, none⟩) g.nodes.length g.nodes.length) (.slice (some ⟨w3.heap.size, 0, none⟩) g.infos.length g.infos.length)
       rw [← hW]
       clear hW
       have hbxw := hbx4.wrote hww (by omega)
       refine hK.out _ _ ⟨hbxw.cell rfl, hbxw.cell rfl, hbxw.cell rfl⟩ (fun hHeld => ?_)
       clear hK K
       try simp only [Act.put, lq1, lq2, lq3, lq4, lq5, lq6]
       refine wpAnyH_done (by kernel_rfl) ?_ _
       clear hHeld
       clear r0 f0
       clear r1 f1
       clear r2 f2
       clear r3 f3
       clear r4 f4
       clear r5 f5
       go_wp2_with fail
       go_meet
       exact ⟨w0.heap.size, w2.heap.size, w1.heap.size, w3.heap.size, rfl, ⟨hbxw, hrs4.wrote hww (by omega), hrw, by simpa [intsV] using hr4_4.wrote hww (by omega), by simpa [intsV] using hr8_4.wrote hww (by omega), hr12_4.wrote hww (by omega), Wrote.below hB4 hww (fun k hk => by omega) hB4.size⟩, ⟨g14, g4, g8, g12, by omega, by omega, by omega, by omega, by omega, by omega⟩⟩
     ·refine ifT rfl ?_
      refine oper_make _ _ _ 49 rfl 26 (.slice none 0 0) 24 Try.underlying49 Try.infoInts rfl g.infos.length rfl rfl (by omega) (by omega) ?_
      intro w3 hb hz hr12_3
      clear hz
      have g12 := hrs2.lt
      have l14_12 := hr14_2.lt
      have hr14_3 := hr14_2.below hb hr14_2.lt
      have l8_12 := hr8_2.lt
      have hr8_3 := hr8_2.below hb hr8_2.lt
      have sz3 := hb.size
      have hbx3 := hbx2.below hb hbx2.lt
      have hrs3 := hrs2.below hb hrs2.lt
      have hB3 := hB2.trans (hb.mono hB2.size)
      clear hb
      refine hK.out _ _ ⟨hbx3.cell rfl, hbx3.cell rfl, hbx3.cell rfl⟩ (fun hHeld => ?_)
      clear hK K
      try simp only [Act.put, lq1, lq2, lq3, lq4, lq5, lq6]
      refine wpAnyH_ready (rs := [4]) (by decide +kernel) (by simp) ?_
      refine (AllReadyH.cons (o := _) rfl (fun K hK => ?_) AllReadyH.nil)
      ·refine ifT rfl ?_
       refine oper_make _ _ _ 26 rfl 3 (.int .i64 0) 8 Try.underlying26 Try.infoInt rfl g.nodes.length rfl rfl (by omega) (by omega) ?_
       intro w4 hb hz hr4_4
       clear hz
       have g4 := hrs3.lt
       have l14_4 := hr14_3.lt
       have hr14_4 := hr14_3.below hb hr14_3.lt
       have l8_4 := hr8_3.lt
       have hr8_4 := hr8_3.below hb hr8_3.lt
       have l12_4 := hr12_3.lt
       have hr12_4 := hr12_3.below hb hr12_3.lt
       have sz4 := hb.size
       have hbx4 := hbx3.below hb hbx3.lt
       have hrs4 := hrs3.below hb hrs3.lt
       have hB4 := hB3.trans (hb.mono hB3.size)
       clear hb
       refine hK.out _ _ ⟨hbx4.cell rfl, hbx4.cell rfl, hbx4.cell rfl⟩ (fun hHeld => ?_)
       clear hK K
       try simp only [Act.put, lq1, lq2, lq3, lq4, lq5, lq6]
       refine wpAnyH_take (i := 13) (v := ?_) rfl (by kernel_rfl) (by kernel_rfl) (by kernel_rfl) (fun _ _ _ h => h) (Or.inl ⟨by rfl, ?_⟩) hHeld ?_
       rotate_left
       ·intro wx hSx; (try dsimp only at hSx); go_split_ands; go_simp; try (with_reducible rfl)
       try simp only [Act.put, lq1, lq2, lq3, lq4, lq5, lq6]
       have r0 := hr14_4.cell (i := 0) rfl
       have f0 := hr14_4.frozen 0
       have r1 := hr14_4.cell (i := 1) rfl
       have f1 := hr14_4.frozen 1
       have r2 := hr14_4.cell (i := 2) rfl
       have f2 := hr14_4.frozen 2
       have r3 := hr14_4.cell (i := 3) rfl
       have f3 := hr14_4.frozen 3
       have r4 := hr14_4.cell (i := 4) rfl
       have f4 := hr14_4.frozen 4
       have r5 := hr14_4.cell (i := 5) rfl
       have f5 := hr14_4.frozen 5
       refine wpAnyH_ready (rs := [15]) (by kernel_rfl) (by simp) ?_
       refine AllReadyH.cons (o := _) rfl (fun K hK => ?_) AllReadyH.nil
       go_simp
       obtain ⟨W, hW, hrw, hww⟩ := set6 hr14_4 (.int .i64 g.players) (.slice (some ⟨b, o, none⟩) g.nodes.length c) (.slice Ai g.infos.length ci) (.slice (some ⟨w3.heap.size, 0, none⟩) g.nodes.length g.nodes.length) (.slice (some ⟨w1.heap.size, 0, none⟩) g.nodes.length g.nodes.length) (.slice (some ⟨w2.heap.size, 0, none⟩) g.infos.length g.infos.length)
       rw [← hW]
       clear hW
       have hbxw := hbx4.wrote hww (by omega)
       refine hK.out _ _ ⟨hbxw.cell rfl, hbxw.cell rfl, hbxw.cell rfl⟩ (fun hHeld => ?_)
       clear hK K
       try simp only [Act.put, lq1, lq2, lq3, lq4, lq5, lq6]
       refine wpAnyH_done (by kernel_rfl) ?_ _
       clear hHeld
       clear r0 f0
       clear r1 f1
       clear r2 f2
       clear r3 f3
       clear r4 f4
       clear r5 f5
       go_wp2_with fail
       go_meet
       exact ⟨w0.heap.size, w3.heap.size, w1.heap.size, w2.heap.size, rfl, ⟨hbxw, hrs4.wrote hww (by omega), hrw, by simpa [intsV] using hr4_4.wrote hww (by omega), by simpa [intsV] using hr8_4.wrote hww (by omega), hr12_4.wrote hww (by omega), Wrote.below hB4 hww (fun k hk => by omega) hB4.size⟩, ⟨g14, g4, g8, g12, by omega, by omega, by omega, by omega, by omega, by omega⟩⟩
    ·refine ifT rfl ?_
     refine oper_make _ _ _ 49 rfl 26 (.slice none 0 0) 24 Try.underlying49 Try.infoInts rfl g.infos.length rfl rfl (by omega) (by omega) ?_
     intro w2 hb hz hr12_2
     clear hz
     have g12 := hrs1.lt
     have l14_12 := hr14_1.lt
     have hr14_2 := hr14_1.below hb hr14_1.lt
     have sz2 := hb.size
     have hbx2 := hbx1.below hb hbx1.lt
     have hrs2 := hrs1.below hb hrs1.lt
     have hB2 := hB1.trans (hb.mono hB1.size)
     clear hb
     refine hK.out _ _ ⟨hbx2.cell rfl, hbx2.cell rfl, hbx2.cell rfl⟩ (fun hHeld => ?_)
     clear hK K
     try simp only [Act.put, lq1, lq2, lq3, lq4, lq5, lq6]
     refine wpAnyH_ready (rs := [4, 8]) (by decide +kernel) (by simp) ?_
     refine (AllReadyH.cons (o := _) rfl (fun K hK => ?_) (AllReadyH.cons (o := _) rfl (fun K hK => ?_) AllReadyH.nil))
     ·refine ifT rfl ?_
      refine oper_make _ _ _ 26 rfl 3 (.int .i64 0) 8 Try.underlying26 Try.infoInt rfl g.nodes.length rfl rfl (by omega) (by omega) ?_
      intro w3 hb hz hr4_3
      clear hz
      have g4 := hrs2.lt
      have l14_4 := hr14_2.lt
      have hr14_3 := hr14_2.below hb hr14_2.lt
      have l12_4 := hr12_2.lt
      have hr12_3 := hr12_2.below hb hr12_2.lt
      have sz3 := hb.size
      have hbx3 := hbx2.below hb hbx2.lt
      have hrs3 := hrs2.below hb hrs2.lt
      have hB3 := hB2.trans (hb.mono hB2.size)
      clear hb
      refine hK.out _ _ ⟨hbx3.cell rfl, hbx3.cell rfl, hbx3.cell rfl⟩ (fun hHeld => ?_)
      clear hK K
      try simp only [Act.put, lq1, lq2, lq3, lq4, lq5, lq6]
      refine wpAnyH_ready (rs := [8]) (by decide +kernel) (by simp) ?_
      refine (AllReadyH.cons (o := _) rfl (fun K hK => ?_) AllReadyH.nil)
      ·refine ifT rfl ?_
       refine oper_make _ _ _ 26 rfl 3 (.int .i64 0) 8 Try.underlying26 Try.infoInt rfl g.nodes.length rfl rfl (by omega) (by omega) ?_
       intro w4 hb hz hr8_4
       clear hz
       have g8 := hrs3.lt
       have l14_8 := hr14_3.lt
       have hr14_4 := hr14_3.below hb hr14_3.lt
       have l12_8 := hr12_3.lt
       have hr12_4 := hr12_3.below hb hr12_3.lt
       have l4_8 := hr4_3.lt
       have hr4_4 := hr4_3.below hb hr4_3.lt
       have sz4 := hb.size
       have hbx4 := hbx3.below hb hbx3.lt
       have hrs4 := hrs3.below hb hrs3.lt
       have hB4 := hB3.trans (hb.mono hB3.size)
       clear hb
       refine hK.out _ _ ⟨hbx4.cell rfl, hbx4.cell rfl, hbx4.cell rfl⟩ (fun hHeld => ?_)
       clear hK K
       try simp only [Act.put, lq1, lq2, lq3, lq4, lq5, lq6]
       refine wpAnyH_take (i := 13) (v := ?_) rfl (by kernel_rfl) (by kernel_rfl) (by kernel_rfl) (fun _ _ _ h => h) (Or.inl ⟨by rfl, ?_⟩) hHeld ?_
       rotate_left
       ·intro wx hSx; (try dsimp only at hSx); go_split_ands; go_simp; try (with_reducible rfl)
       try simp only [Act.put, lq1, lq2, lq3, lq4, lq5, lq6]
       have r0 := hr14_4.cell (i := 0) rfl
       have f0 := hr14_4.frozen 0
       have r1 := hr14_4.cell (i := 1) rfl
       have f1 := hr14_4.frozen 1
       have r2 := hr14_4.cell (i := 2) rfl
       have f2 := hr14_4.frozen 2
       have r3 := hr14_4.cell (i := 3) rfl
       have f3 := hr14_4.frozen 3
       have r4 := hr14_4.cell (i := 4) rfl
       have f4 := hr14_4.frozen 4
       have r5 := hr14_4.cell (i := 5) rfl
       have f5 := hr14_4.frozen 5
       refine wpAnyH_ready (rs := [15]) (by kernel_rfl) (by simp) ?_
       refine AllReadyH.cons (o := _) rfl (fun K hK => ?_) AllReadyH.nil
       go_simp
       obtain ⟨W, hW, hrw, hww⟩ := set6 hr14_4 (.int .i64 g.players) (.slice (some ⟨b, o, none⟩) g.nodes.length c) (.slice Ai g.infos.length ci) (.slice (some ⟨w2.heap.size, 0, none⟩) g.nodes.length g.nodes.length) (.slice (some ⟨w3.heap.size, 0, none⟩) g.nodes.length g.nodes.length) (.slice (some ⟨w1.heap.size, 0, none⟩) g.infos.length g.infos.length)
       rw [← hW]
       clear hW
       have hbxw := hbx4.wrote hww (by omega)
       refine hK.out _ _ ⟨hbxw.cell rfl, hbxw.cell rfl, hbxw.cell rfl⟩ (fun hHeld => ?_)
       clear hK K
       try simp only [Act.put, lq1, lq2, lq3, lq4, lq5, lq6]
       refine wpAnyH_done (by kernel_rfl) ?_ _
       clear hHeld
       clear r0 f0
       clear r1 f1
       clear r2 f2
       clear r3 f3
       clear r4 f4
       clear r5 f5
       go_wp2_with fail
       go_meet
       exact ⟨w0.heap.size, w2.heap.size, w3.heap.size, w1.heap.size, rfl, ⟨hbxw, hrs4.wrote hww (by omega), hrw, by simpa [intsV] using hr4_4.wrote hww (by omega), by simpa [intsV] using hr8_4.wrote hww (by omega), hr12_4.wrote hww (by omega), Wrote.below hB4 hww (fun k hk => by omega) hB4.size⟩, ⟨g14, g4, g8, g12, by omega, by omega, by omega, by omega, by omega, by omega⟩⟩
     ·refine ifT rfl ?_
      refine oper_make _ _ _ 26 rfl 3 (.int .i64 0) 8 Try.underlying26 Try.infoInt rfl g.nodes.length rfl rfl (by omega) (by omega) ?_
      intro w3 hb hz hr8_3
      clear hz
      have g8 := hrs2.lt
      have l14_8 := hr14_2.lt
      have hr14_3 := hr14_2.below hb hr14_2.lt
      have l12_8 := hr12_2.lt
      have hr12_3 := hr12_2.below hb hr12_2.lt
      have sz3 := hb.size
      have hbx3 := hbx2.below hb hbx2.lt
      have hrs3 := hrs2.below hb hrs2.lt
      have hB3 := hB2.trans (hb.mono hB2.size)
      clear hb
      refine hK.out _ _ ⟨hbx3.cell rfl, hbx3.cell rfl, hbx3.cell rfl⟩ (fun hHeld => ?_)
      clear hK K
      try simp only [Act.put, lq1, lq2, lq3, lq4, lq5, lq6]
      refine wpAnyH_ready (rs := [4]) (by decide +kernel) (by simp) ?_
      refine (AllReadyH.cons (o := _) rfl (fun K hK => ?_) AllReadyH.nil)
      ·refine ifT rfl ?_
       refine oper_make _ _ _ 26 rfl 3 (.int .i64 0) 8 Try.underlying26 Try.infoInt rfl g.nodes.length rfl rfl (by omega) (by omega) ?_
       intro w4 hb hz hr4_4
       clear hz
       have g4 := hrs3.lt
       have l14_4 := hr14_3.lt
       have hr14_4 := hr14_3.below hb hr14_3.lt
       have l12_4 := hr12_3.lt
       have hr12_4 := hr12_3.below hb hr12_3.lt
       have l8_4 := hr8_3.lt
       have hr8_4 := hr8_3.below hb hr8_3.lt
       have sz4 := hb.size
       have hbx4 := hbx3.below hb hbx3.lt
       have hrs4 := hrs3.below hb hrs3.lt
       have hB4 := hB3.trans (hb.mono hB3.size)
       clear hb
       refine hK.out _ _ ⟨hbx4.cell rfl, hbx4.cell rfl, hbx4.cell rfl⟩ (fun hHeld => ?_)
       clear hK K
       try simp only [Act.put, lq1, lq2, lq3, lq4, lq5, lq6]
       refine wpAnyH_take (i := 13) (v := ?_) rfl (by kernel_rfl) (by kernel_rfl) (by kernel_rfl) (fun _ _ _ h => h) (Or.inl ⟨by rfl, ?_⟩) hHeld ?_
       rotate_left
       ·intro wx hSx; (try dsimp only at hSx); go_split_ands; go_simp; try (with_reducible rfl)
       try simp only [Act.put, lq1, lq2, lq3, lq4, lq5, lq6]
       have r0 := hr14_4.cell (i := 0) rfl
       have f0 := hr14_4.frozen 0
       have r1 := hr14_4.cell (i := 1) rfl
       have f1 := hr14_4.frozen 1
       have r2 := hr14_4.cell (i := 2) rfl
       have f2 := hr14_4.frozen 2
       have r3 := hr14_4.cell (i := 3) rfl
       have f3 := hr14_4.frozen 3
       have r4 := hr14_4.cell (i := 4) rfl
       have f4 := hr14_4.frozen 4
       have r5 := hr14_4.cell (i := 5) rfl
       have f5 := hr14_4.frozen 5
       refine wpAnyH_ready (rs := [15]) (by kernel_rfl) (by simp) ?_
       refine AllReadyH.cons (o := _) rfl (fun K hK => ?_) AllReadyH.nil
       go_simp
       obtain ⟨W, hW, hrw, hww⟩ := set6 hr14_4 (.int .i64 g.players) (.slice (some ⟨b, o, none⟩) g.nodes.length c) (.slice Ai g.infos.length ci) (.slice (some ⟨w3.heap.size, 0, none⟩) g.nodes.length g.nodes.length) (.slice (some ⟨w2.heap.size, 0, none⟩) g.nodes.length g.nodes.length) (.slice (some ⟨w1.heap.size, 0, none⟩) g.infos.length g.infos.length)
       rw [← hW]
       clear hW
       have hbxw := hbx4.wrote hww (by omega)
       refine hK.out _ _ ⟨hbxw.cell rfl, hbxw.cell rfl, hbxw.cell rfl⟩ (fun hHeld => ?_)
       clear hK K
       try simp only [Act.put, lq1, lq2, lq3, lq4, lq5, lq6]
       refine wpAnyH_done (by kernel_rfl) ?_ _
       clear hHeld
       clear r0 f0
       clear r1 f1
       clear r2 f2
       clear r3 f3
       clear r4 f4
       clear r5 f5
       go_wp2_with fail
       go_meet
       exact ⟨w0.heap.size, w3.heap.size, w2.heap.size, w1.heap.size, rfl, ⟨hbxw, hrs4.wrote hww (by omega), hrw, by simpa [intsV] using hr4_4.wrote hww (by omega), by simpa [intsV] using hr8_4.wrote hww (by omega), hr12_4.wrote hww (by omega), Wrote.below hB4 hww (fun k hk => by omega) hB4.size⟩, ⟨g14, g4, g8, g12, by omega, by omega, by omega, by omega, by omega, by omega⟩⟩
  case rest =>
   obtain ⟨bv, bp, bl, bs, rfl, hst, hap⟩ := hcut
   clear hbx hrs hB
   have y3 := hst.view.cell (i := 3) rfl
   have ep0 := hst.rp.cell (i := 0) (v := .int .i64 0) (by simp [intsV, hp])
   have fp0 := hst.rp.frozen 0
   have x1 := hst.box.cell (i := 1) rfl
   have zp : w.heap.size ≠ bp := by have := hap.p; omega
   have hsub : ((g.nodes.length : Int) - 1) = ((g.nodes.length - 1 : Nat) : Int) := by omega
   have HST := Lib.hid hst; clear hst
   go_wp2
   go_loopw [6] (fun i wr => ∃ k : Nat, k ≤ g.nodes.length ∧ i = .int .i64 ((k : Int) - 1) ∧ LookSt w g (some ⟨b, o, none⟩) c Ai ci bv bp bl bs (lookTo g.nodes (g.nodes.length - k)) (List.replicate g.infos.length (.slice none 0 0)) wr) (fun i _ => (intOf i + 1).toNat)
   case atStart =>
    refine ⟨g.nodes.length, by omega, by rw [← hsub], ?_⟩
    rw [Nat.sub_self]
    exact HST.out.setP hap 0 (-1)
   case round =>
    clear y3 ep0 fp0 x1 HST
    obtain ⟨k, hk, rfl, hst⟩ := hrel
    have HST := Lib.hid hst; clear hst
    have y3 := HST.out.view.cell (i := 3) rfl
    have y4 := HST.out.view.cell (i := 4) rfl
    have x1 := HST.out.box.cell (i := 1) rfl
    have hlen := lookTo_len g.nodes (g.nodes.length - k)
    by_cases hlt : 0 < k
    ·obtain ⟨q, rfl⟩ : ∃ q, k = q + 1 := ⟨k - 1, by omega⟩
     have i1 : (((q + 1 : Nat) : Int) - 1) = (q : Int) := by omega
     rw [i1]
     clear i1
     obtain ⟨n, hn'⟩ := getSome (l := g.nodes) (k := q) (by omega)
     obtain ⟨v3, e3, A3, c3, rfl, hc3, i3⟩ := (HC.out q n hn').c3
     have hl3 := HS.out.next n (List.mem_of_getElem? hn')
     have HN3 := Lib.hid i3; clear i3
     have hqn : q < g.nodes.length := by omega
     have HTO := Lib.hid (show lookTo g.nodes (g.nodes.length - q) = lookKids q n.next ((lookTo g.nodes (g.nodes.length - (q + 1))).1, (lookTo g.nodes (g.nodes.length - (q + 1))).2.set q q) by
      rw [show g.nodes.length - q = (g.nodes.length - (q + 1)) + 1 by omega, lookTo, lookStep, show g.nodes.length - 1 - (g.nodes.length - (q + 1)) = q by omega, hn'])
     have HX := Lib.hid hn'; clear hn'
     generalize lookTo g.nodes (g.nodes.length - (q + 1)) = s0 at *
     obtain ⟨hlp, hll⟩ := hlen
     obtain ⟨y, hy⟩ := getSome (l := s0.2) (k := q) (by omega)
     have el := HST.out.rl.cell (i := q) (v := .int .i64 y) (by simp [intsV, hy])
     have fl := HST.out.rl.frozen q
     have e3' : wr.cell? ⟨b, o + q * 6 + 3, none⟩ = some (.slice A3 n.next.length c3) := by rw [below_old HST.out.bel b _ hb]; exact e3
     have zl : w.heap.size ≠ bl := by have := hap.l; omega
     have zlb : b ≠ bl := by have := hap.l; omega
     clear hy e3
     go_wp2
     go_loopw [8, 54] (fun _ i wi => ∃ j : Nat, j ≤ n.next.length ∧ i = .int .i64 j ∧ LookSt w g (some ⟨b, o, none⟩) c Ai ci bv bp bl bs (lookKids q (n.next.take j) (s0.1, s0.2.set q q)) (List.replicate g.infos.length (.slice none 0 0)) wi) (fun _ i _ => n.next.length - (intOf i).toNat)
     case atStart => exact ⟨0, by omega, rfl, by simpa [lookKids] using HST.out.setL hap q q⟩
     case round =>
      clear y3 y4 x1 el fl e3' HST
      obtain ⟨j, hj, rfl, hst⟩ := hrel
      have hlk := lookKids_len q (n.next.take j) (s0.1, s0.2.set q q) (N := g.nodes.length) hlp (by simpa using hll)
      have HST := Lib.hid hst; clear hst
      have y3 := HST.out.view.cell (i := 3) rfl
      have y4 := HST.out.view.cell (i := 4) rfl
      by_cases hjt : j < n.next.length
      ·obtain ⟨ch, hch⟩ := getSome hjt
       obtain ⟨b3, o3, rfl, hb3, hb3B, hx3⟩ := HN3.out (by omega)
       have ec := hx3 j ch hch
       unfold intE at ec
       rw [Nat.mul_one] at ec
       rw [← below_old HST.out.bel b3 _ hb3B] at ec
       obtain ⟨hch0, hch1⟩ := HK.out n (List.mem_of_getElem? HX.out) ch (List.mem_of_getElem? hch)
       have HSN := Lib.hid (lookKids_snoc (i := q) (s := (s0.1, s0.2.set q q)) hch)
       clear hch hx3
       generalize lookKids q (n.next.take j) (s0.1, s0.2.set q q) = s at *
       obtain ⟨hkp, hkl⟩ := hlk
       obtain ⟨yp, hyp⟩ := getSome (l := s.1) (k := ch.toNat) (by omega)
       have ep := HST.out.rp.cell (i := ch.toNat) (v := .int .i64 yp) (by simp [intsV, hyp])
       have fp := HST.out.rp.frozen ch.toNat
       clear hyp
       have zvp : bv ≠ bp := hap.vp
       go_wp2
       have hst2 := HST.out.setP hap ch.toNat q
       obtain ⟨W, hW⟩ : ∃ W : World, W = wr.setCell ⟨bp, ch.toNat, none⟩ (.int .i64 q) := ⟨_, rfl⟩
       rw [← hW] at hst2 ⊢
       clear hW y3 y4 ep fp ec
       have HST2 := Lib.hid hst2; clear hst2 HST
       have y4 := HST2.out.view.cell (i := 4) rfl
       obtain ⟨yl, hyl⟩ := getSome (l := s.2) (k := ch.toNat) (by omega)
       obtain ⟨yq, hyq⟩ := getSome (l := s.2) (k := q) (by omega)
       have el := HST2.out.rl.cell (i := ch.toNat) (v := .int .i64 yl) (by simp [intsV, hyl])
       have eq' := HST2.out.rl.cell (i := q) (v := .int .i64 yq) (by simp [intsV, hyq])
       have fl := HST2.out.rl.frozen q
       have HGD := Lib.hid (show s.2.getD ch.toNat 0 = yl by simp [List.getD_eq_getElem?_getD, hyl])
       clear hyl hyq
       refine wp_peel1 (fun w' => w'.cell? ⟨bv, 4, none⟩ = some (.slice (some ⟨bl, 0, none⟩) g.nodes.length g.nodes.length) ∧ w'.cell? ⟨bl, ch.toNat, none⟩ = some (.int .i64 yl)) 9 (by kernel_rfl) rfl (by kernel_rfl) (by kernel_rfl) ⟨y4, el⟩ ?_
       have hHeld : (fun w' : World => w'.cell? ⟨bv, 4, none⟩ = some (.slice (some ⟨bl, 0, none⟩) g.nodes.length g.nodes.length) ∧ w'.cell? ⟨bl, ch.toNat, none⟩ = some (.int .i64 yl)) W.drew := ⟨y4, el⟩
       simp only [List.take_succ_cons, List.take_zero]
       refine wpAnyH_take (i := 0) (v := ?_) rfl (by kernel_rfl) (by kernel_rfl) (by kernel_rfl) (fun _ _ _ h => h) (Or.inl ⟨by rfl, ?_⟩) hHeld ?_
       rotate_left
       ·intro wx hSx; (try dsimp only at hSx); go_split_ands; go_simp; try (with_reducible rfl)
       try simp only [Act.put, lq1, lq2, lq3, lq4, lq5, lq6]
       refine wpAnyH_take (i := 1) (v := ?_) rfl (by kernel_rfl) (by kernel_rfl) (by kernel_rfl) (fun _ _ _ h => h) (Or.inl ⟨by rfl, ?_⟩) hHeld ?_
       rotate_left
       ·intro wx hSx; (try dsimp only at hSx); go_split_ands; go_simp; try (with_reducible rfl)
       try simp only [Act.put, lq1, lq2, lq3, lq4, lq5, lq6]
       refine wpAnyH_take (i := 2) (v := ?_) rfl (by kernel_rfl) (by kernel_rfl) (by kernel_rfl) (fun _ _ _ h => h) (Or.inl ⟨by rfl, ?_⟩) hHeld ?_
       rotate_left
       ·intro wx hSx; (try dsimp only at hSx); go_split_ands; go_simp; try (with_reducible rfl)
       try simp only [Act.put, lq1, lq2, lq3, lq4, lq5, lq6]
       refine wpAnyH_take (i := 3) (v := ?_) rfl (by kernel_rfl) (by kernel_rfl) (by kernel_rfl) (fun _ _ _ h => h) (Or.inl ⟨by rfl, ?_⟩) hHeld ?_
       rotate_left
       ·intro wx hSx; (try dsimp only at hSx); go_split_ands; go_simp; try (with_reducible rfl)
       try simp only [Act.put, lq1, lq2, lq3, lq4, lq5, lq6]
       refine wpAnyH_take (i := 4) (v := ?_) rfl (by kernel_rfl) (by kernel_rfl) (by kernel_rfl) (fun _ _ _ h => h) (Or.inl ⟨by rfl, ?_⟩) hHeld ?_
       rotate_left
       ·intro wx hSx; (try dsimp only at hSx); go_split_ands; go_simp; try (with_reducible rfl)
       try simp only [Act.put, lq1, lq2, lq3, lq4, lq5, lq6]
       refine wpAnyH_take (i := 5) (v := ?_) rfl (by kernel_rfl) (by kernel_rfl) (by kernel_rfl) (fun _ _ _ h => h) (Or.inl ⟨by rfl, ?_⟩) hHeld ?_
       rotate_left
       ·intro wx hSx; (try dsimp only at hSx); go_split_ands; go_simp; try (with_reducible rfl)
       try simp only [Act.put, lq1, lq2, lq3, lq4, lq5, lq6]
       refine wpAnyH_take (i := 6) (v := ?_) rfl (by kernel_rfl) (by kernel_rfl) (by kernel_rfl) (fun _ _ _ h => h) (Or.inl ⟨by rfl, ?_⟩) hHeld ?_
       rotate_left
       ·intro wx hSx; (try dsimp only at hSx); go_split_ands; go_simp; try (with_reducible rfl)
       try simp only [Act.put, lq1, lq2, lq3, lq4, lq5, lq6]
       refine wpAnyH_take (i := 7) (v := ?_) rfl (by kernel_rfl) (by kernel_rfl) (by kernel_rfl) (fun _ _ _ h => h) (Or.inl ⟨by rfl, ?_⟩) hHeld ?_
       rotate_left
       ·intro wx hSx; (try dsimp only at hSx); go_split_ands; go_simp; try (with_reducible rfl)
       try simp only [Act.put, lq1, lq2, lq3, lq4, lq5, lq6]
       refine wpAnyH_take (i := 8) (v := ?_) rfl (by kernel_rfl) (by kernel_rfl) (by kernel_rfl) (fun _ _ _ h => h) (Or.inl ⟨by rfl, ?_⟩) hHeld ?_
       rotate_left
       ·intro wx hSx; (try dsimp only at hSx); go_split_ands; go_simp; try (with_reducible rfl)
       try simp only [Act.put, lq1, lq2, lq3, lq4, lq5, lq6]
       refine wpAnyH_done (by kernel_rfl) ?_ _
       clear hHeld
       show wpList _ _ _ _ _ _
       go_wp2
       go_roundw
       case rel =>
        refine ⟨j + 1, by omega, by go_num, ?_⟩
        rw [HSN.out, HGD.out]
        exact (HST2.out.setL hap q yl).drew
       case measure => simp [intOf] <;> omega
      ·go_wp2
       go_roundw
       case rel => exact ⟨q, by omega, rfl, by rw [HTO.out]; rw [List.take_of_length_le (by omega)] at HST; exact HST.out⟩
       case measure => simp [intOf] <;> omega
    ·obtain rfl : k = 0 := by omega
     have hfs : lookTo g.nodes (g.nodes.length - 0) = lookL g.nodes := rfl
     rw [hfs] at HST
     clear hfs y3 y4
     go_wp2
     go_loopw [9, 10, 76] (fun _ _ i wi => ∃ (k : Nat) (vs : List Value), k ≤ g.nodes.length ∧ i = .int .i64 k ∧ LookSt w g (some ⟨b, o, none⟩) c Ai ci bv bp bl bs (lookL g.nodes) vs wi ∧ OwnRows wi (max (max bv bp) (max bl bs) + 1) 3 vs (setsTo g.nodes g.infos.length k)) (fun _ _ i _ => g.nodes.length - (intOf i).toNat)
     case atStart => exact ⟨0, _, by omega, rfl, HST.out, OwnRows.start _ _ _ _⟩
     case round =>
      clear x1 HST
      obtain ⟨k, vs, hk, rfl, hst, hown⟩ := hrel
      have HST := Lib.hid hst; clear hst
      have hm1 : bv < max (max bv bp) (max bl bs) + 1 ∧ bp < max (max bv bp) (max bl bs) + 1 ∧ bl < max (max bv bp) (max bl bs) + 1 ∧ bs < max (max bv bp) (max bl bs) + 1 := by omega
      have hm2 : max (max bv bp) (max bl bs) + 1 ≤ wr.heap.size := by
       have h1 := HST.out.view.lt
       have h2 := HST.out.rp.lt
       have h3 := HST.out.rl.lt
       have h4 := HST.out.rs.lt
       omega
      generalize max (max bv bp) (max bl bs) + 1 = M at *
      obtain ⟨m1, m2, m3, m4⟩ := hm1
      have a1 := hap.v
      have a2 := hap.s
      have a3 := hap.vs
      have x1 := HST.out.box.cell (i := 1) rfl
      by_cases hlt2 : k < g.nodes.length
      ·obtain ⟨n, hn'⟩ := getSome hlt2
       obtain ⟨e0, e1, e2, ⟨v3, e3, A3, c3, rfl, hc3, i3⟩, ⟨v4, e4, A4, c4, rfl, hc4, i4⟩, ⟨v5, e5, A5, c5, rfl, hc5, i5⟩⟩ := HC.out k n hn'
       clear i3 i4 i5
       have HX := Lib.hid hn'; clear hn'
       have hold := below_old HST.out.bel
       by_cases hkd : n.kind = 2
       ·obtain ⟨hin0, hin1⟩ := HIN.out n (List.mem_of_getElem? HX.out) hkd
        have hd : (n.kind == 2) = true := by simp [hkd]
        have HKD := Lib.hid hkd; clear hkd
        obtain ⟨l, hl⟩ := getSome (l := setsTo g.nodes g.infos.length k) (k := n.info.toNat) (by rw [setsTo_length]; omega)
        obtain ⟨v, hv⟩ := getSome (l := vs) (k := n.info.toNat) (by rw [hown.len, setsTo_length]; omega)
        have hll := setsTo_len l (List.mem_of_getElem? hl)
        have HO := Lib.hid (hown.own _ v l hv hl)
        have HL := Lib.hid hl; clear hl
        have HV := Lib.hid hv; clear hv
        go_wp2
        obtain ⟨W, hW⟩ : ∃ W : World, W = wr.alloc (.cells #[.int .i64 n.kind, .int .i64 n.player, .int .i64 n.info, .slice A3 n.next.length c3, .slice A4 n.weights.length c4, .slice A5 n.pay.length c5] 45) := ⟨_, rfl⟩
        rw [← hW]
        have cx : W.cell? ⟨wr.heap.size, 2, none⟩ = some (.int .i64 n.info) := by rw [hW]; simp
        have HWS := Lib.hid (show LookSt w g (some ⟨b, o, none⟩) c Ai ci bv bp bl bs (lookL g.nodes) vs W by rw [hW]; exact HST.out.alloc _)
        have HWO := Lib.hid (show OwnRows W M 3 vs (setsTo g.nodes g.infos.length k) by rw [hW]; exact hown.alloc _)
        have hWlt : wr.heap.size < W.heap.size := by rw [hW]; simp
        clear hW hown x1 hold e0 e1 e2 e3 e4 e5 HST
        have rv := HWS.out.rs.cell HV.out
        have fv := HWS.out.rs.frozen n.info.toNat
        have y5 := HWS.out.view.cell (i := 5) rfl
        have HOW := Lib.hid (HWO.out.own _ v l HV.out HL.out)
        refine wp_peel2 (fun w' => w'.cell? ⟨wr.heap.size, 2, none⟩ = some (.int .i64 n.info) ∧ w'.cell? ⟨bv, 5, none⟩ = some (.slice (some ⟨bs, 0, none⟩) g.infos.length g.infos.length) ∧ w'.cell? ⟨bs, n.info.toNat, none⟩ = some v) 13 (by kernel_rfl) rfl rfl (by kernel_rfl) (by kernel_rfl) (by kernel_rfl) (by kernel_rfl) ⟨cx, y5, rv⟩ ?_
        have hHeld : (fun w' : World => w'.cell? ⟨wr.heap.size, 2, none⟩ = some (.int .i64 n.info) ∧ w'.cell? ⟨bv, 5, none⟩ = some (.slice (some ⟨bs, 0, none⟩) g.infos.length g.infos.length) ∧ w'.cell? ⟨bs, n.info.toNat, none⟩ = some v) W.drew := ⟨cx, y5, rv⟩
        simp only [List.take_succ_cons, List.take_zero]
        refine wpAnyH_take (i := 0) (v := ?_) rfl (by kernel_rfl) (by kernel_rfl) (by kernel_rfl) (fun _ _ _ h => h) (Or.inl ⟨by rfl, ?_⟩) hHeld ?_
        rotate_left
        ·intro wx hSx; (try dsimp only at hSx); go_split_ands; go_simp; try (with_reducible rfl)
        try simp only [Act.put, lq1, lq2, lq3, lq4, lq5, lq6]
        refine wpAnyH_take (i := 1) (v := ?_) rfl (by kernel_rfl) (by kernel_rfl) (by kernel_rfl) (fun _ _ _ h => h) (Or.inl ⟨by rfl, ?_⟩) hHeld ?_
        rotate_left
        ·intro wx hSx; (try dsimp only at hSx); go_split_ands; go_simp; try (with_reducible rfl)
        try simp only [Act.put, lq1, lq2, lq3, lq4, lq5, lq6]
        refine wpAnyH_take (i := 2) (v := ?_) rfl (by kernel_rfl) (by kernel_rfl) (by kernel_rfl) (fun _ _ _ h => h) (Or.inl ⟨by rfl, ?_⟩) hHeld ?_
        rotate_left
        ·intro wx hSx; (try dsimp only at hSx); go_split_ands; go_simp; try (with_reducible rfl)
        try simp only [Act.put, lq1, lq2, lq3, lq4, lq5, lq6]
        refine wpAnyH_take (i := 3) (v := ?_) rfl (by kernel_rfl) (by kernel_rfl) (by kernel_rfl) (fun _ _ _ h => h) (Or.inl ⟨by rfl, ?_⟩) hHeld ?_
        rotate_left
        ·intro wx hSx; (try dsimp only at hSx); go_split_ands; go_simp; try (with_reducible rfl)
        try simp only [Act.put, lq1, lq2, lq3, lq4, lq5, lq6]
        refine wpAnyH_take (i := 4) (v := ?_) rfl (by kernel_rfl) (by kernel_rfl) (by kernel_rfl) (fun _ _ _ h => h) (Or.inl ⟨by rfl, ?_⟩) hHeld ?_
        rotate_left
        ·intro wx hSx; (try dsimp only at hSx); go_split_ands; go_simp; try (with_reducible rfl)
        try simp only [Act.put, lq1, lq2, lq3, lq4, lq5, lq6]
        refine wpAnyH_take (i := 5) (v := ?_) rfl (by kernel_rfl) (by kernel_rfl) (by kernel_rfl) (fun _ _ _ h => h) (Or.inl ⟨by rfl, ?_⟩) hHeld ?_
        rotate_left
        ·intro wx hSx; (try dsimp only at hSx); go_split_ands; go_simp; try (with_reducible rfl)
        try simp only [Act.put, lq1, lq2, lq3, lq4, lq5, lq6]
        refine wpAnyH_take (i := 6) (v := ?_) rfl (by kernel_rfl) (by kernel_rfl) (by kernel_rfl) (fun _ _ _ h => h) (Or.inl ⟨by rfl, ?_⟩) hHeld ?_
        rotate_left
        ·intro wx hSx; (try dsimp only at hSx); go_split_ands; go_simp; try (with_reducible rfl)
        try simp only [Act.put, lq1, lq2, lq3, lq4, lq5, lq6]
        refine wpAnyH_take (i := 7) (v := ?_) rfl (by kernel_rfl) (by kernel_rfl) (by kernel_rfl) (fun _ _ _ h => h) (Or.inl ⟨by rfl, ?_⟩) hHeld ?_
        rotate_left
        ·intro wx hSx; (try dsimp only at hSx); go_split_ands; go_simp; try (with_reducible rfl)
        try simp only [Act.put, lq1, lq2, lq3, lq4, lq5, lq6]
        refine wpAnyH_take (i := 8) (v := ?_) rfl (by kernel_rfl) (by kernel_rfl) (by kernel_rfl) (fun _ _ _ h => h) (Or.inl ⟨by rfl, ?_⟩) hHeld ?_
        rotate_left
        ·intro wx hSx; (try dsimp only at hSx); go_split_ands; go_simp; try (with_reducible rfl)
        try simp only [Act.put, lq1, lq2, lq3, lq4, lq5, lq6]
        refine wpAnyH_take (i := 9) (v := ?_) rfl (by kernel_rfl) (by kernel_rfl) (by kernel_rfl) (fun _ _ _ h => h) (Or.inl ⟨by rfl, ?_⟩) hHeld ?_
        rotate_left
        ·intro wx hSx; (try dsimp only at hSx); go_split_ands; go_simp; try (with_reducible rfl)
        try simp only [Act.put, lq1, lq2, lq3, lq4, lq5, lq6]
        refine wpAnyH_take (i := 10) (v := ?_) rfl (by kernel_rfl) (by kernel_rfl) (by kernel_rfl) (fun _ _ _ h => h) (Or.inl ⟨by rfl, ?_⟩) hHeld ?_
        rotate_left
        ·intro wx hSx; (try dsimp only at hSx); go_split_ands; go_simp; try (with_reducible rfl)
        try simp only [Act.put, lq1, lq2, lq3, lq4, lq5, lq6]
        refine wpAnyH_ready (rs := [11]) (by kernel_rfl) (by simp) ?_
        refine AllReadyH.cons (o := _) rfl (fun K hK => ?_) AllReadyH.nil
        go_simp
        refine hK.out _ _ ⟨by rw [World.cell?_drew, World.cell?_alloc_lt _ _ _ (by simp; omega)]; exact cx, by rw [World.cell?_drew, World.cell?_alloc_lt _ _ _ (by simp; omega)]; exact y5, by rw [World.cell?_drew, World.cell?_alloc_lt _ _ _ (by simp; omega)]; exact rv⟩ (fun hHeld => ?_)
        clear hK K
        try simp only [Act.put, lq1, lq2, lq3, lq4, lq5, lq6]
        refine wpAnyH_ready (rs := [12]) (by kernel_rfl) (by simp) ?_
        refine AllReadyH.cons (o := _) rfl (fun K hK => ?_) AllReadyH.nil
        refine step_app_int (by rfl) _ _ (by rfl) M v l (by rfl) (HOW.out.alloc _) W.heap.size k (by rfl) (heap_alloc_new W _) (by omega) (by simp; omega) ?_
        intro gg cap w2 hown1 hgrow hat hlt1
        have hnb : ∀ b, v.ownBlock = some b → M ≤ b := fun b hb => (HOW.out.lt b hb).1
        have hHG : ∀ b, b < M → w2.heap[b]? = W.heap[b]? := fun b hb => by
         rw [hgrow.block b (by simp; omega) (fun e => by have := hnb b e.symm; omega)]
         exact Below.heap_alloc W _ b (by omega)
        have k4 : Below w.heap.size w w2 := ((HWS.out.bel.alloc (by omega) _).drew).grown hgrow (by simp; omega) (fun k hk => by have := hnb k hk; omega)
        have k1 : LookSt w g (some ⟨b, o, none⟩) c Ai ci bv bp bl bs (lookL g.nodes) vs w2 := HWS.out.blocks (fun b _ hb => hHG b (by omega)) k4
        have k3 := ((HWO.out.alloc (.cells #[.int .i64 (k : Int)] 3)).drew).put HV.out hown1 hgrow rfl hat
        have rv1 := k1.rs.cell HV.out
        have fv1 := k1.rs.frozen n.info.toNat
        have y51 := k1.view.cell (i := 5) rfl
        have KK := Lib.hid (And.intro k1 k3)
        refine hK.out _ _ ⟨?_, y51, rv1⟩ (fun hHeld => ?_)
        ·rw [hgrow.cell_far _ (by simp; omega) (fun e => by have := (HO.out.lt _ e.symm).2; simp at this), World.cell?_drew, World.cell?_alloc_lt _ _ _ (by simp; omega)]; exact cx
        clear hK K k1 k3 k4 hHG hgrow hown1 hat cx rv fv
        try simp only [Act.put, List.setIfInBounds_toArray, List.set_cons_zero, List.set_cons_succ]
        refine wpAnyH_done (by kernel_rfl) ?_ _
        show wpList _ _ _ _ _ _
        go_wp2
        show wpList _ _ _ _ _ _
        go_wp2
        go_roundw
        case rel =>
         obtain ⟨k1, k3⟩ := KK.out
         (repeat apply Exists.intro)
         refine ⟨⟨k + 1, _, by omega, by go_num, k1.setS hap _ _, ?_⟩, rfl⟩
         rw [setsTo_move HX.out HKD.out HL.out]
         exact k3.setCell (by simp; omega) _
        case measure => simp [intOf] <;> omega
       ·have hd : (n.kind == 2) = false := by simp [hkd]
        have HKD := Lib.hid hkd; clear hkd
        go_wp2
        go_roundw
        case rel =>
         refine ⟨k + 1, vs, by omega, by go_num, HST.out.alloc _, ?_⟩
         rw [setsTo_skip HX.out HKD.out]
         exact hown.alloc _
        case measure => simp [intOf] <;> omega
      ·have hke : k = g.nodes.length := by omega
       subst hke
       have y0 := HST.out.view.cell (i := 0) rfl
       have r0 := HST.out.res.cell (i := 0) rfl
       have f0 := HST.out.res.frozen 0
       have y1 := HST.out.view.cell (i := 1) rfl
       have r1 := HST.out.res.cell (i := 1) rfl
       have f1 := HST.out.res.frozen 1
       have y2 := HST.out.view.cell (i := 2) rfl
       have r2 := HST.out.res.cell (i := 2) rfl
       have f2 := HST.out.res.frozen 2
       have y3 := HST.out.view.cell (i := 3) rfl
       have r3 := HST.out.res.cell (i := 3) rfl
       have f3 := HST.out.res.frozen 3
       have y4 := HST.out.view.cell (i := 4) rfl
       have r4 := HST.out.res.cell (i := 4) rfl
       have f4 := HST.out.res.frozen 4
       have y5 := HST.out.view.cell (i := 5) rfl
       have r5 := HST.out.res.cell (i := 5) rfl
       have f5 := HST.out.res.frozen 5
       go_wp2
       obtain ⟨W, hW, hrw, hww⟩ := set6 HST.out.res (.int .i64 g.players) (.slice (some ⟨b, o, none⟩) g.nodes.length c) (.slice Ai g.infos.length ci) (.slice (some ⟨bp, 0, none⟩) g.nodes.length g.nodes.length) (.slice (some ⟨bl, 0, none⟩) g.nodes.length g.nodes.length) (.slice (some ⟨bs, 0, none⟩) g.infos.length g.infos.length)
       rw [← hW]
       clear hW
       clear r0 f0 y0
       have r0 := hrw.cell (i := 0) rfl
       clear r1 f1 y1
       have r1 := hrw.cell (i := 1) rfl
       clear r2 f2 y2
       have r2 := hrw.cell (i := 2) rfl
       clear r3 f3 y3
       have r3 := hrw.cell (i := 3) rfl
       clear r4 f4 y4
       have r4 := hrw.cell (i := 4) rfl
       clear r5 f5 y5
       have r5 := hrw.cell (i := 5) rfl
       refine bodyPost_ret (v := .tuple #[.agg #[.int .i64 g.players, .slice (some ⟨b, o, none⟩) g.nodes.length c, .slice Ai g.infos.length ci, .slice (some ⟨bp, 0, none⟩) g.nodes.length g.nodes.length, .slice (some ⟨bl, 0, none⟩) g.nodes.length g.nodes.length, .slice (some ⟨bs, 0, none⟩) g.infos.length g.infos.length], .int .i64 0]) ?_ rfl ?_
       ·simp [results, Try.results34, go_sem, r0, r1, r2, r3, r4, r5]
       ·have hst := HST.out
        have hbz := hst.bel.size
        have hap2 := hap.p
        have hap3 := hap.l
        have hlk := lookTo_len g.nodes g.nodes.length
        refine ⟨_, rfl, Wrote.below hst.bel hww (fun k hk => by omega) hbz, _, by rw [HFE.out], fun h => absurd HFE.out h, fun _ => ⟨_, _, _, _, _, rfl, ?_, ?_, ?_, ?_, ?_⟩⟩
        ·have h1 : NodesAt w F (.slice (some ⟨b, o, none⟩) g.nodes.length c) g.nodes := ⟨_, _, rfl, hc, HN.out⟩
         have hB : Below w.heap.size w W := Wrote.below hst.bel hww (fun k hk => by omega) hbz
         exact h1.keep (fun b hb _ => .inl hb) (Below.same' hB F)
        ·have h1 : InfosAt w F (.slice Ai g.infos.length ci) g.infos := ⟨_, _, rfl, hci, HI.out⟩
         have hB : Below w.heap.size w W := Wrote.below hst.bel hww (fun k hk => by omega) hbz
         exact h1.keep (fun b hb _ => .inl hb) (Below.same' hB F)
        ·have h1 := Row.ints (F := fun b => F b ∨ w.heap.size ≤ b) (hst.rp.wrote hww (by omega)) (.inr (by omega)) (c := g.nodes.length) (by unfold lookL; omega)
         rwa [show (lookL g.nodes).1.length = g.nodes.length from hlk.1] at h1
        ·have h1 := Row.ints (F := fun b => F b ∨ w.heap.size ≤ b) (hst.rl.wrote hww (by omega)) (.inr (by omega)) (c := g.nodes.length) (by unfold lookL; omega)
         rwa [show (lookL g.nodes).2.length = g.nodes.length from hlk.2] at h1
        ·have h1 := OwnRows.rows (F := fun b => w.heap.size + 1 < b) hown hst.rs (by omega) (fun k hk => by omega) (c := g.infos.length) (by rw [setsTo_length]; omega)
         rw [setsTo_length] at h1
         exact h1.keep (fun b hb _ => .inr (by omega)) (hww.same (fun b hb => by omega))
 ·have hd : (er != 0) = true := by simp [he]
  have HNZ := Lib.hid he; clear he
  have r0 := hrs.cell (i := 0) rfl
  have f0 := hrs.frozen 0
  have r1 := hrs.cell (i := 1) rfl
  have f1 := hrs.frozen 1
  have r2 := hrs.cell (i := 2) rfl
  have f2 := hrs.frozen 2
  have r3 := hrs.cell (i := 3) rfl
  have f3 := hrs.frozen 3
  have r4 := hrs.cell (i := 4) rfl
  have f4 := hrs.frozen 4
  have r5 := hrs.cell (i := 5) rfl
  have f5 := hrs.frozen 5
  go_wp2
  obtain ⟨W, hW, hrw, hww⟩ := set6 hrs (.int .i64 0) (.slice none 0 0) (.slice none 0 0) (.slice none 0 0) (.slice none 0 0) (.slice none 0 0)
  rw [← hW]
  clear hW
  clear r0 f0
  have r0 := hrw.cell (i := 0) rfl
  clear r1 f1
  have r1 := hrw.cell (i := 1) rfl
  clear r2 f2
  have r2 := hrw.cell (i := 2) rfl
  clear r3 f3
  have r3 := hrw.cell (i := 3) rfl
  clear r4 f4
  have r4 := hrw.cell (i := 4) rfl
  clear r5 f5
  have r5 := hrw.cell (i := 5) rfl
  refine bodyPost_ret (v := .tuple #[noView, .int .i64 er]) ?_ rfl ?_
  ·simp [results, Try.results34, go_sem, r0, r1, r2, r3, r4, r5, noView]
  ·exact ⟨_, rfl, Wrote.below hB hww (fun k hk => by omega) hB.size, noView, by rw [HFE.out], fun _ => rfl, fun h => absurd (HFE.out ▸ h) HNZ.out⟩
end Go.Proofs.Ytafjdoedallnbaa

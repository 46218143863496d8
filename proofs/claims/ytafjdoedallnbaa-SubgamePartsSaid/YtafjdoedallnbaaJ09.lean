/- recall.walked and recall.Form -/
import Derived.Test.YtafjdoedallnbaaJ08
import Derived.Deep.CutRange
namespace Go.Proofs.Ytafjdoedallnbaa
open List renaming getElem_toArray → lq1, getElem_cons_zero → lq2, getElem_cons_succ → lq3, setIfInBounds_toArray → lq4, set_cons_zero → lq5, set_cons_succ → lq6
open Go.RowKit
def walkT (g : Gm) : Int × Tri := walkP g.nodes (g.nodes.length + 1) 0 (-1) 0 ⟨List.replicate g.nodes.length 0, List.replicate g.nodes.length 0, List.replicate g.nodes.length 0⟩
def errP (g : Gm) : Int :=
 if sizeBad g then 2 else if nodesErr g.players g.infos.length g.nodes ≠ 0 then nodesErr g.players g.infos.length g.nodes
 else if (walkT g).1 ≠ g.nodes.length then 9 else if 40 < maxL (walkT g).2.d then 5 else setsErrP g
def WalkedOut (g : Gm) (B : Nat) (v : Value) (w' : World) : Prop := ∃ vp, v = .tuple #[vp, .int .i64 (errP g)] ∧
 (errP g = 0 → ∃ p bp bd bl A c Ai ci, vp = .pointer (some ⟨p, 0, none⟩) ∧ WalkerAt w' p bp bd bl g.players A g.nodes.length c Ai g.infos.length ci (walkT g).2 ∧ B ≤ p ∧ B ≤ bp ∧ B ≤ bd ∧ B ≤ bl)
theorem ifT {c : Bool} {p q : Prop} (h : c = true) (hp : p) : if c = true then p else q := by rw [if_pos h]; exact hp
theorem oper_make {P : Program} (w : World) {o : Oper} {a : Act} {K : Act → World → Prop} {Q : Exit → Act → World → Prop} (l c : Operand) (t : TypeId) (hop : o.op = Op.makeSlice t l c)
  (e : TypeId) (z : Value) (bytes : Nat) (ht : P.underlying t = some (.slice e)) (hinfo : (P.info? e).map (fun i => (i.zero, i.size, i.bytes)) = some (some z, 1, bytes)) (hz1 : z.cells = #[z])
  (n : Nat) (hl : a.eval l = .int .i64 (n : Int)) (hc : a.eval c = .int .i64 (n : Int)) (hn : n ≤ 1000000) (hb : bytes ≤ 1000)
  (hK : ∀ w1, Below w.heap.size w w1 → w1.heap.size = w.heap.size + 1 → Row w1 w.heap.size e (List.replicate n z) → K (a.put o.dst (.slice (some ⟨w.heap.size, 0, none⟩) n n)) w1) :
  Oper.wp P o a w K Q := by
 have hbytes : bytes * n ≤ 281474976710656 := by
  have : bytes * n ≤ 1000 * 1000000 := Nat.mul_le_mul hb hn
  omega
 have hrun := run_make_row' (P := P) t e z bytes ht hinfo hz1 .i64 .i64 n hbytes (by omega) w
 unfold Oper.wp
 simp [execOp, hop, hl, hc, hrun, Result.andThen]
 have hbel : Below w.heap.size w (w.alloc (.cells (madeCells #[z] n) e)) := (Below.refl _ _).alloc (Nat.le_refl _) _
 exact hK _ hbel (by simp) (Row.made w z n e)
set_option maxRecDepth 100000 in
set_option maxHeartbeats 6400000 in
theorem walked_any (w : World) (F : Foot) (u : Value) (g : Gm) (hg : GameAt w F u g) (hsm : Small g) :
  Calls Try.prog 57 #[u] w (Ret w (WalkedOut g w.heap.size)) := by
 have HG := Lib.hid hg
 obtain ⟨vn, vi, rfl, ⟨A, c, rfl, hc, hN⟩, ⟨Ai, ci, rfl, hci, hI⟩⟩ := hg
 have HN := Lib.hid hN; have HI := Lib.hid hI; clear hN hI
 have hn := hsm.nodes
 have hni := hsm.infos
 have HS := Lib.hid hsm; clear hsm
 by_cases q0 : g.players < 1
 ·have HF := Lib.hid (show errP g = 2 by unfold errP; rw [if_pos (by unfold sizeBad; omega)])
  go_enter Try.func57, Try.ntmps57
  go_wp2
  go_ret2
  exact ⟨_, rfl, (Below.refl _ _).alloc (Nat.le_refl _) _, .pointer none, by rw [HF.out]; rfl, by rw [HF.out]; intro h; simp at h⟩
 have d0 : decide (g.players < 1) = false := decide_eq_false (by omega)
 by_cases q1 : 4 < g.players
 ·have HF := Lib.hid (show errP g = 2 by unfold errP; rw [if_pos (by unfold sizeBad; omega)])
  go_enter Try.func57, Try.ntmps57
  go_wp2
  go_ret2
  exact ⟨_, rfl, (Below.refl _ _).alloc (Nat.le_refl _) _, .pointer none, by rw [HF.out]; rfl, by rw [HF.out]; intro h; simp at h⟩
 have d1 : decide ((4 : Int) < g.players) = false := decide_eq_false (by omega)
 by_cases q2 : g.nodes.length < 1
 ·have HF := Lib.hid (show errP g = 2 by unfold errP; rw [if_pos (by unfold sizeBad; omega)])
  go_enter Try.func57, Try.ntmps57
  go_wp2
  go_ret2
  exact ⟨_, rfl, (Below.refl _ _).alloc (Nat.le_refl _) _, .pointer none, by rw [HF.out]; rfl, by rw [HF.out]; intro h; simp at h⟩
 have d2 : decide ((g.nodes.length : Int) < 1) = false := decide_eq_false (by omega)
 have d3 : decide ((2000 : Int) < (g.nodes.length : Int)) = false := decide_eq_false (by omega)
 have d4 : decide ((200 : Int) < (g.infos.length : Int)) = false := decide_eq_false (by omega)
 have HE := Lib.hid (show errP g = if nodesErr g.players g.infos.length g.nodes ≠ 0 then nodesErr g.players g.infos.length g.nodes
   else if (walkT g).1 ≠ g.nodes.length then 9 else if 40 < maxL (walkT g).2.d then 5 else setsErrP g by unfold errP; rw [if_neg (by unfold sizeBad; omega)])
 obtain ⟨b, o, rfl, hbF, hb, hcell⟩ := HN.out (by omega)
 have HC := Lib.hid hcell; clear hcell
 go_enter Try.func57, Try.ntmps57
 go_wp2_with fail
 go_loopw [42] (fun i wr => ∃ k : Nat, k ≤ g.nodes.length ∧ i = .int .i64 k ∧ Row wr w.heap.size 25 [.int .i64 g.players, .slice (some ⟨b, o, none⟩) g.nodes.length c, .slice Ai g.infos.length ci] ∧ Row wr (w.heap.size + 1) 92 [.int .i64 g.players, .slice (some ⟨b, o, none⟩) g.nodes.length c, .slice Ai g.infos.length ci, .slice none 0 0, .slice none 0 0, .slice none 0 0] ∧ Below w.heap.size w wr ∧ nodesErr g.players g.infos.length g.nodes = nodesErr g.players g.infos.length (g.nodes.drop k)) (fun i _ => g.nodes.length - (intOf i).toNat)
 case atStart =>
  refine ⟨0, by omega, rfl, (Row.new w _ _).alloc _, ?_, ?_, rfl⟩
  ·have := Row.new (w.alloc (.cells #[.int .i64 g.players, .slice (some ⟨b, o, none⟩) g.nodes.length c, .slice Ai g.infos.length ci] 25)) 92 #[.int .i64 g.players, .slice (some ⟨b, o, none⟩) g.nodes.length c, .slice Ai g.infos.length ci, .slice none 0 0, .slice none 0 0, .slice none 0 0]
   simpa using this
  ·exact below_two _ _ _ 0
 case round =>
  obtain ⟨k, hk, rfl, hbx, hwk, hbel, hval⟩ := hrel
  have HV := Lib.hid hval; clear hval
  by_cases hlt : k < g.nodes.length
  ·obtain ⟨x, hx⟩ := getSome hlt
   obtain ⟨e0, e1, e2, ⟨v3, e3, i3⟩, ⟨v4, e4, i4⟩, ⟨v5, e5, i5⟩⟩ := HC.out k x hx
   obtain ⟨A3, c3, rfl, hc3, h3⟩ := i3
   obtain ⟨A4, c4, rfl, hc4, h4⟩ := i4
   obtain ⟨A5, c5, rfl, hc5, h5⟩ := i5
   have V := Lib.hid (show NodeV w F _ x from ⟨_, _, _, rfl, ⟨A3, c3, rfl, hc3, h3⟩, ⟨A4, c4, rfl, hc4, h4⟩, ⟨A5, c5, rfl, hc5, h5⟩⟩)
   clear h3 h4 h5
   have M := List.mem_of_getElem? hx
   have HL := Lib.hid (show x.next.length < 1000000 ∧ x.weights.length < 1000000 ∧ x.pay.length < 1000000 from ⟨by have := HS.out.next x M; omega, by have := HS.out.weights x M; omega, by have := HS.out.pay x M; omega⟩)
   clear M
   have HV2 := Lib.hid (HV.out.trans (nodesErr_drop hx)); clear hx
   have hold := below_old hbel
   have hwl := hwk.lt
   go_wp2_with fail
   obtain ⟨W, hW, _, hWb, hWz⟩ := row_of_alloc wr 45 #[.int .i64 x.kind, .int .i64 x.player, .int .i64 x.info, .slice A3 x.next.length c3, .slice A4 x.weights.length c4, .slice A5 x.pay.length c5]
   rw [← hW]
   clear hW
   have hbx1 := hbx.below hWb hbx.lt
   have hwk1 := hwk.below hWb hwk.lt
   have hbel1 := hbel.trans (hWb.mono hbel.size)
   clear hbx hwk hbel hold
   refine (nodeP_any _ F (w.heap.size + 1) _ g.players g.infos.length x ⟨hwk1.cell rfl, _, _, hwk1.cell rfl⟩ (V.out.on (Below.same' hbel1 F)) HL.out (by omega) (by omega) hwk1.lt).mono ?_
   rintro e w1 ⟨_, rfl, hb1, rfl⟩
   have hbx2 := hbx1.below hb1 hbx1.lt
   have hwk2 := hwk1.below hb1 hwk1.lt
   have hbel2 := hbel1.trans (hb1.mono hbel1.size)
   clear hbx1 hwk1 hbel1 hb1 hWb hWz
   dsimp only
   generalize nodeErr g.players g.infos.length x = er at *
   by_cases he : er = 0
   ·subst he
    go_wp2
    go_roundw
    case rel => exact ⟨k + 1, by omega, by go_num, hbx2, hwk2, hbel2, by rw [HV2.out]; simp⟩
    case measure => simp [intOf]; omega
   ·have hd : (er != 0) = true := by simp [he]
    have HF := Lib.hid (show errP g = er by rw [HE.out, HV2.out]; simp [he])
    have HNZ := Lib.hid he
    clear he
    go_wp2
    go_ret2
    exact ⟨_, rfl, hbel2, .pointer none, by rw [HF.out]; rfl, by rw [HF.out]; intro h; exact absurd h HNZ.out⟩
  ·have HE2 := Lib.hid (show errP g = if (walkT g).1 ≠ g.nodes.length then 9 else if 40 < maxL (walkT g).2.d then 5 else setsErrP g by
    rw [HE.out, HV.out, List.drop_eq_nil_of_le (by omega)]; simp [nodesErr])
   have HIN := Lib.hid (infosIn_of (g := g) (by rw [HV.out, List.drop_eq_nil_of_le (by omega)]; rfl))
   have hbl := hbx.lt
   have hwl := hwk.lt
   go_upto_region 11 with fail
   go_cut [] from 53 to 73 (fun wx => ∃ bp bd bl, WalkerAt wx (w.heap.size + 1) bp bd bl g.players (some ⟨b, o, none⟩) g.nodes.length c Ai g.infos.length ci ⟨List.replicate g.nodes.length 0, List.replicate g.nodes.length 0, List.replicate g.nodes.length 0⟩ ∧ Row wx w.heap.size 25 [.int .i64 g.players, .slice (some ⟨b, o, none⟩) g.nodes.length c, .slice Ai g.infos.length ci] ∧ Below w.heap.size w wx ∧ w.heap.size + 1 < bp ∧ w.heap.size + 1 < bd ∧ w.heap.size + 1 < bl ∧ bp ≠ bd ∧ bp ≠ bl ∧ bd ≠ bl)
   case first =>
    refine wp_region_held_drew (S := fun w' => w'.cell? ⟨w.heap.size, 1, none⟩ = some (.slice (some ⟨b, o, none⟩) g.nodes.length c)) (by kernel_rfl) (hbx.cell rfl) (fun hHeld => ?_)
    refine wpAnyH_take (i := 0) (v := ?_) rfl (by kernel_rfl) (by kernel_rfl) (by kernel_rfl) (fun _ _ _ h => h) (Or.inl ⟨by rfl, ?_⟩) hHeld ?_
    rotate_left
    ·intro wx hSx; (try dsimp only at hSx); go_split_ands; go_simp; try (with_reducible rfl)
    try simp only [Act.put, lq1, lq2, lq3, lq4, lq5, lq6]
    refine wpAnyH_take (i := 1) (v := ?_) rfl (by kernel_rfl) (by kernel_rfl) (by kernel_rfl) (fun _ _ _ h => h) (Or.inl ⟨by rfl, ?_⟩) hHeld ?_
    rotate_left
    ·intro wx hSx; (try dsimp only at hSx); go_split_ands; go_simp; try (with_reducible rfl)
    try simp only [Act.put, lq1, lq2, lq3, lq4, lq5, lq6]
    refine wpAnyH_take (i := 2) (v := ?_) rfl (by kernel_rfl) (by kernel_rfl) (by kernel_rfl) (fun _ _ _ h => h) (Or.inl ⟨by rfl, ?_⟩) hHeld ?_
    rotate_left
    ·intro wx hSx; (try dsimp only at hSx); go_split_ands; go_simp; try (with_reducible rfl)
    try simp only [Act.put, lq1, lq2, lq3, lq4, lq5, lq6]
    refine wpAnyH_take (i := 3) (v := ?_) rfl (by kernel_rfl) (by kernel_rfl) (by kernel_rfl) (fun _ _ _ h => h) (Or.inl ⟨by rfl, ?_⟩) hHeld ?_
    rotate_left
    ·intro wx hSx; (try dsimp only at hSx); go_split_ands; go_simp; try (with_reducible rfl)
    try simp only [Act.put, lq1, lq2, lq3, lq4, lq5, lq6]
    refine wpAnyH_take (i := 4) (v := ?_) rfl (by kernel_rfl) (by kernel_rfl) (by kernel_rfl) (fun _ _ _ h => h) (Or.inl ⟨by rfl, ?_⟩) hHeld ?_
    rotate_left
    ·intro wx hSx; (try dsimp only at hSx); go_split_ands; go_simp; try (with_reducible rfl)
    try simp only [Act.put, lq1, lq2, lq3, lq4, lq5, lq6]
    refine wpAnyH_take (i := 5) (v := ?_) rfl (by kernel_rfl) (by kernel_rfl) (by kernel_rfl) (fun _ _ _ h => h) (Or.inl ⟨by rfl, ?_⟩) hHeld ?_
    rotate_left
    ·intro wx hSx; (try dsimp only at hSx); go_split_ands; go_simp; try (with_reducible rfl)
    try simp only [Act.put, lq1, lq2, lq3, lq4, lq5, lq6]
    refine wpAnyH_take (i := 7) (v := ?_) rfl (by kernel_rfl) (by kernel_rfl) (by kernel_rfl) (fun _ _ _ h => h) (Or.inl ⟨by rfl, ?_⟩) hHeld ?_
    rotate_left
    ·intro wx hSx; (try dsimp only at hSx); go_split_ands; go_simp; try (with_reducible rfl)
    try simp only [Act.put, lq1, lq2, lq3, lq4, lq5, lq6]
    refine wpAnyH_take (i := 8) (v := ?_) rfl (by kernel_rfl) (by kernel_rfl) (by kernel_rfl) (fun _ _ _ h => h) (Or.inl ⟨by rfl, ?_⟩) hHeld ?_
    rotate_left
    ·intro wx hSx; (try dsimp only at hSx); go_split_ands; go_simp; try (with_reducible rfl)
    try simp only [Act.put, lq1, lq2, lq3, lq4, lq5, lq6]
    refine wpAnyH_take (i := 9) (v := ?_) rfl (by kernel_rfl) (by kernel_rfl) (by kernel_rfl) (fun _ _ _ h => h) (Or.inl ⟨by rfl, ?_⟩) hHeld ?_
    rotate_left
    ·intro wx hSx; (try dsimp only at hSx); go_split_ands; go_simp; try (with_reducible rfl)
    try simp only [Act.put, lq1, lq2, lq3, lq4, lq5, lq6]
    refine wpAnyH_take (i := 11) (v := ?_) rfl (by kernel_rfl) (by kernel_rfl) (by kernel_rfl) (fun _ _ _ h => h) (Or.inl ⟨by rfl, ?_⟩) hHeld ?_
    rotate_left
    ·intro wx hSx; (try dsimp only at hSx); go_split_ands; go_simp; try (with_reducible rfl)
    try simp only [Act.put, lq1, lq2, lq3, lq4, lq5, lq6]
    refine wpAnyH_take (i := 12) (v := ?_) rfl (by kernel_rfl) (by kernel_rfl) (by kernel_rfl) (fun _ _ _ h => h) (Or.inl ⟨by rfl, ?_⟩) hHeld ?_
    rotate_left
    ·intro wx hSx; (try dsimp only at hSx); go_split_ands; go_simp; try (with_reducible rfl)
    try simp only [Act.put, lq1, lq2, lq3, lq4, lq5, lq6]
    refine wpAnyH_take (i := 13) (v := ?_) rfl (by kernel_rfl) (by kernel_rfl) (by kernel_rfl) (fun _ _ _ h => h) (Or.inl ⟨by rfl, ?_⟩) hHeld ?_
    rotate_left
    ·intro wx hSx; (try dsimp only at hSx); go_split_ands; go_simp; try (with_reducible rfl)
    try simp only [Act.put, lq1, lq2, lq3, lq4, lq5, lq6]
    obtain ⟨w0, hw0⟩ : ∃ W, W = wr.drew := ⟨_, rfl⟩
    have hbx0 : Row w0 _ _ _ := hw0 ▸ hbx.drew
    have hwk0 : Row w0 _ _ _ := hw0 ▸ hwk.drew
    have hB0 : Below w.heap.size w w0 := hw0 ▸ hbel.drew
    rw [← hw0] at hHeld ⊢
    clear hw0 hbx hwk hbel hwl hbl
    refine wpAnyH_ready (rs := [6, 10, 14]) (by decide +kernel) (by simp) ?_
    refine (AllReadyH.cons (o := _) rfl (fun K hK => ?_) (AllReadyH.cons (o := _) rfl (fun K hK => ?_) (AllReadyH.cons (o := _) rfl (fun K hK => ?_) AllReadyH.nil)))
    ·refine ifT rfl ?_
     refine oper_make _ _ _ 26 rfl 3 (.int .i64 0) 8 Try.underlying26 Try.infoInt rfl g.nodes.length rfl rfl (by omega) (by omega) ?_
     intro w1 hb hz hr6_1
     have g6 : w.heap.size + 1 < w0.heap.size := hwk0.lt
     have hbx1 := hbx0.below hb hbx0.lt
     have hwk1 := hwk0.below hb hwk0.lt
     have hB1 : Below w.heap.size w w1 := hB0.trans (hb.mono hB0.size)
     clear hb hz
     refine hK.out _ _ (hbx1.cell rfl) (fun hHeld => ?_)
     clear hK K
     try simp only [Act.put, lq1, lq2, lq3, lq4, lq5, lq6]
     refine wpAnyH_take (i := 15) (v := ?_) rfl (by kernel_rfl) (by kernel_rfl) (by kernel_rfl) (fun _ _ _ h => h) (Or.inl ⟨by rfl, ?_⟩) hHeld ?_
     rotate_left
     ·intro wx hSx; (try dsimp only at hSx); go_split_ands; go_simp; try (with_reducible rfl)
     try simp only [Act.put, lq1, lq2, lq3, lq4, lq5, lq6]
     refine wpAnyH_take (i := 16) (v := ?_) rfl (by kernel_rfl) (by kernel_rfl) (by kernel_rfl) (fun _ _ _ h => h) (Or.inl ⟨by rfl, ?_⟩) hHeld ?_
     rotate_left
     ·intro wx hSx; (try dsimp only at hSx); go_split_ands; go_simp; try (with_reducible rfl)
     try simp only [Act.put, lq1, lq2, lq3, lq4, lq5, lq6]
     refine wpAnyH_ready (rs := [10, 14, 17]) (by decide +kernel) (by simp) ?_
     refine (AllReadyH.cons (o := _) rfl (fun K hK => ?_) (AllReadyH.cons (o := _) rfl (fun K hK => ?_) (AllReadyH.cons (o := _) rfl (fun K hK => ?_) AllReadyH.nil)))
     ·refine ifT rfl ?_
      refine oper_make _ _ _ 26 rfl 3 (.int .i64 0) 8 Try.underlying26 Try.infoInt rfl g.nodes.length rfl rfl (by omega) (by omega) ?_
      intro w2 hb hz hr10_2
      have g10 : w.heap.size + 1 < w1.heap.size := hwk1.lt
      have l6_10 := hr6_1.lt
      have hr6_2 := hr6_1.below hb hr6_1.lt
      have hbx2 := hbx1.below hb hbx1.lt
      have hwk2 := hwk1.below hb hwk1.lt
      have hB2 : Below w.heap.size w w2 := hB1.trans (hb.mono hB1.size)
      clear hb hz
      refine hK.out _ _ (hbx2.cell rfl) (fun hHeld => ?_)
      clear hK K
      try simp only [Act.put, lq1, lq2, lq3, lq4, lq5, lq6]
      refine wpAnyH_ready (rs := [14, 17]) (by decide +kernel) (by simp) ?_
      refine (AllReadyH.cons (o := _) rfl (fun K hK => ?_) (AllReadyH.cons (o := _) rfl (fun K hK => ?_) AllReadyH.nil))
      ·refine ifT rfl ?_
       refine oper_make _ _ _ 26 rfl 3 (.int .i64 0) 8 Try.underlying26 Try.infoInt rfl g.nodes.length rfl rfl (by omega) (by omega) ?_
       intro w3 hb hz hr14_3
       have g14 : w.heap.size + 1 < w2.heap.size := hwk2.lt
       have l6_14 := hr6_2.lt
       have hr6_3 := hr6_2.below hb hr6_2.lt
       have l10_14 := hr10_2.lt
       have hr10_3 := hr10_2.below hb hr10_2.lt
       have hbx3 := hbx2.below hb hbx2.lt
       have hwk3 := hwk2.below hb hwk2.lt
       have hB3 : Below w.heap.size w w3 := hB2.trans (hb.mono hB2.size)
       clear hb hz
       refine hK.out _ _ (hbx3.cell rfl) (fun hHeld => ?_)
       clear hK K
       try simp only [Act.put, lq1, lq2, lq3, lq4, lq5, lq6]
       refine wpAnyH_ready (rs := [17]) (by decide +kernel) (by simp) ?_
       refine (AllReadyH.cons (o := _) rfl (fun K hK => ?_) AllReadyH.nil)
       ·have yy := hwk3.cell (i := 3) rfl
        have ff := hwk3.frozen 3
        go_simp
        obtain ⟨w4, hw⟩ : ∃ W, W = w3.setCell ⟨w.heap.size + 1, 3, none⟩ (.slice (some ⟨w0.heap.size, 0, none⟩) g.nodes.length g.nodes.length) := ⟨_, rfl⟩
        rw [← hw]
        have hbx4 : Row w4 _ _ _ := hw ▸ hbx3.other (a := ⟨w.heap.size + 1, 3, none⟩) (by simp) (.slice (some ⟨w0.heap.size, 0, none⟩) g.nodes.length g.nodes.length)
        have hwk4 : Row w4 _ _ _ := hw ▸ hwk3.set 3 (.slice (some ⟨w0.heap.size, 0, none⟩) g.nodes.length g.nodes.length)
        have hr6_4 : Row w4 _ _ _ := hw ▸ hr6_3.other (a := ⟨w.heap.size + 1, 3, none⟩) (by simp; omega) (.slice (some ⟨w0.heap.size, 0, none⟩) g.nodes.length g.nodes.length)
        have hr10_4 : Row w4 _ _ _ := hw ▸ hr10_3.other (a := ⟨w.heap.size + 1, 3, none⟩) (by simp; omega) (.slice (some ⟨w0.heap.size, 0, none⟩) g.nodes.length g.nodes.length)
        have hr14_4 : Row w4 _ _ _ := hw ▸ hr14_3.other (a := ⟨w.heap.size + 1, 3, none⟩) (by simp; omega) (.slice (some ⟨w0.heap.size, 0, none⟩) g.nodes.length g.nodes.length)
        have hB4 : Below w.heap.size w w4 := hw ▸ hB3.setCell (p := ⟨w.heap.size + 1, 3, none⟩) (by simp) (.slice (some ⟨w0.heap.size, 0, none⟩) g.nodes.length g.nodes.length)
        clear hw yy ff
        refine hK.out _ _ (hbx4.cell rfl) (fun hHeld => ?_)
        clear hK K
        try simp only [Act.put, lq1, lq2, lq3, lq4, lq5, lq6]
        refine wpAnyH_take (i := 18) (v := ?_) rfl (by kernel_rfl) (by kernel_rfl) (by kernel_rfl) (fun _ _ _ h => h) (Or.inl ⟨by rfl, ?_⟩) hHeld ?_
        rotate_left
        ·intro wx hSx; (try dsimp only at hSx); go_split_ands; go_simp; try (with_reducible rfl)
        try simp only [Act.put, lq1, lq2, lq3, lq4, lq5, lq6]
        refine wpAnyH_take (i := 19) (v := ?_) rfl (by kernel_rfl) (by kernel_rfl) (by kernel_rfl) (fun _ _ _ h => h) (Or.inl ⟨by rfl, ?_⟩) hHeld ?_
        rotate_left
        ·intro wx hSx; (try dsimp only at hSx); go_split_ands; go_simp; try (with_reducible rfl)
        try simp only [Act.put, lq1, lq2, lq3, lq4, lq5, lq6]
        refine wpAnyH_ready (rs := [20]) (by decide +kernel) (by simp) ?_
        refine (AllReadyH.cons (o := _) rfl (fun K hK => ?_) AllReadyH.nil)
        ·have yy := hwk4.cell (i := 4) rfl
         have ff := hwk4.frozen 4
         go_simp
         obtain ⟨w5, hw⟩ : ∃ W, W = w4.setCell ⟨w.heap.size + 1, 4, none⟩ (.slice (some ⟨w1.heap.size, 0, none⟩) g.nodes.length g.nodes.length) := ⟨_, rfl⟩
         rw [← hw]
         have hbx5 : Row w5 _ _ _ := hw ▸ hbx4.other (a := ⟨w.heap.size + 1, 4, none⟩) (by simp) (.slice (some ⟨w1.heap.size, 0, none⟩) g.nodes.length g.nodes.length)
         have hwk5 : Row w5 _ _ _ := hw ▸ hwk4.set 4 (.slice (some ⟨w1.heap.size, 0, none⟩) g.nodes.length g.nodes.length)
         have hr6_5 : Row w5 _ _ _ := hw ▸ hr6_4.other (a := ⟨w.heap.size + 1, 4, none⟩) (by simp; omega) (.slice (some ⟨w1.heap.size, 0, none⟩) g.nodes.length g.nodes.length)
         have hr10_5 : Row w5 _ _ _ := hw ▸ hr10_4.other (a := ⟨w.heap.size + 1, 4, none⟩) (by simp; omega) (.slice (some ⟨w1.heap.size, 0, none⟩) g.nodes.length g.nodes.length)
         have hr14_5 : Row w5 _ _ _ := hw ▸ hr14_4.other (a := ⟨w.heap.size + 1, 4, none⟩) (by simp; omega) (.slice (some ⟨w1.heap.size, 0, none⟩) g.nodes.length g.nodes.length)
         have hB5 : Below w.heap.size w w5 := hw ▸ hB4.setCell (p := ⟨w.heap.size + 1, 4, none⟩) (by simp) (.slice (some ⟨w1.heap.size, 0, none⟩) g.nodes.length g.nodes.length)
         clear hw yy ff
         refine hK.out _ _ (hbx5.cell rfl) (fun hHeld => ?_)
         clear hK K
         try simp only [Act.put, lq1, lq2, lq3, lq4, lq5, lq6]
         refine wpAnyH_take (i := 21) (v := ?_) rfl (by kernel_rfl) (by kernel_rfl) (by kernel_rfl) (fun _ _ _ h => h) (Or.inl ⟨by rfl, ?_⟩) hHeld ?_
         rotate_left
         ·intro wx hSx; (try dsimp only at hSx); go_split_ands; go_simp; try (with_reducible rfl)
         try simp only [Act.put, lq1, lq2, lq3, lq4, lq5, lq6]
         refine wpAnyH_take (i := 22) (v := ?_) rfl (by kernel_rfl) (by kernel_rfl) (by kernel_rfl) (fun _ _ _ h => h) (Or.inl ⟨by rfl, ?_⟩) hHeld ?_
         rotate_left
         ·intro wx hSx; (try dsimp only at hSx); go_split_ands; go_simp; try (with_reducible rfl)
         try simp only [Act.put, lq1, lq2, lq3, lq4, lq5, lq6]
         refine wpAnyH_ready (rs := [23]) (by decide +kernel) (by simp) ?_
         refine (AllReadyH.cons (o := _) rfl (fun K hK => ?_) AllReadyH.nil)
         ·have yy := hwk5.cell (i := 5) rfl
          have ff := hwk5.frozen 5
          go_simp
          obtain ⟨w6, hw⟩ : ∃ W, W = w5.setCell ⟨w.heap.size + 1, 5, none⟩ (.slice (some ⟨w2.heap.size, 0, none⟩) g.nodes.length g.nodes.length) := ⟨_, rfl⟩
          rw [← hw]
          have hbx6 : Row w6 _ _ _ := hw ▸ hbx5.other (a := ⟨w.heap.size + 1, 5, none⟩) (by simp) (.slice (some ⟨w2.heap.size, 0, none⟩) g.nodes.length g.nodes.length)
          have hwk6 : Row w6 _ _ _ := hw ▸ hwk5.set 5 (.slice (some ⟨w2.heap.size, 0, none⟩) g.nodes.length g.nodes.length)
          have hr6_6 : Row w6 _ _ _ := hw ▸ hr6_5.other (a := ⟨w.heap.size + 1, 5, none⟩) (by simp; omega) (.slice (some ⟨w2.heap.size, 0, none⟩) g.nodes.length g.nodes.length)
          have hr10_6 : Row w6 _ _ _ := hw ▸ hr10_5.other (a := ⟨w.heap.size + 1, 5, none⟩) (by simp; omega) (.slice (some ⟨w2.heap.size, 0, none⟩) g.nodes.length g.nodes.length)
          have hr14_6 : Row w6 _ _ _ := hw ▸ hr14_5.other (a := ⟨w.heap.size + 1, 5, none⟩) (by simp; omega) (.slice (some ⟨w2.heap.size, 0, none⟩) g.nodes.length g.nodes.length)
          have hB6 : Below w.heap.size w w6 := hw ▸ hB5.setCell (p := ⟨w.heap.size + 1, 5, none⟩) (by simp) (.slice (some ⟨w2.heap.size, 0, none⟩) g.nodes.length g.nodes.length)
          clear hw yy ff
          refine hK.out _ _ (hbx6.cell rfl) (fun hHeld => ?_)
          clear hK K
          try simp only [Act.put, lq1, lq2, lq3, lq4, lq5, lq6]
          refine wpAnyH_done (by kernel_rfl) ?_ _
          clear hHeld
          go_wp2_with fail
          go_meet
          exact ⟨w0.heap.size, w1.heap.size, w2.heap.size, ⟨hwk6, by simpa [intsV] using hr6_6, by simpa [intsV] using hr10_6, by simpa [intsV] using hr14_6⟩, hbx6, hB6, g6, g10, g14, by omega, by omega, by omega⟩
      ·have yy := hwk2.cell (i := 3) rfl
       have ff := hwk2.frozen 3
       go_simp
       obtain ⟨w3, hw⟩ : ∃ W, W = w2.setCell ⟨w.heap.size + 1, 3, none⟩ (.slice (some ⟨w0.heap.size, 0, none⟩) g.nodes.length g.nodes.length) := ⟨_, rfl⟩
       rw [← hw]
       have hbx3 : Row w3 _ _ _ := hw ▸ hbx2.other (a := ⟨w.heap.size + 1, 3, none⟩) (by simp) (.slice (some ⟨w0.heap.size, 0, none⟩) g.nodes.length g.nodes.length)
       have hwk3 : Row w3 _ _ _ := hw ▸ hwk2.set 3 (.slice (some ⟨w0.heap.size, 0, none⟩) g.nodes.length g.nodes.length)
       have hr6_3 : Row w3 _ _ _ := hw ▸ hr6_2.other (a := ⟨w.heap.size + 1, 3, none⟩) (by simp; omega) (.slice (some ⟨w0.heap.size, 0, none⟩) g.nodes.length g.nodes.length)
       have hr10_3 : Row w3 _ _ _ := hw ▸ hr10_2.other (a := ⟨w.heap.size + 1, 3, none⟩) (by simp; omega) (.slice (some ⟨w0.heap.size, 0, none⟩) g.nodes.length g.nodes.length)
       have hB3 : Below w.heap.size w w3 := hw ▸ hB2.setCell (p := ⟨w.heap.size + 1, 3, none⟩) (by simp) (.slice (some ⟨w0.heap.size, 0, none⟩) g.nodes.length g.nodes.length)
       clear hw yy ff
       refine hK.out _ _ (hbx3.cell rfl) (fun hHeld => ?_)
       clear hK K
       try simp only [Act.put, lq1, lq2, lq3, lq4, lq5, lq6]
       refine wpAnyH_take (i := 18) (v := ?_) rfl (by kernel_rfl) (by kernel_rfl) (by kernel_rfl) (fun _ _ _ h => h) (Or.inl ⟨by rfl, ?_⟩) hHeld ?_
       rotate_left
       ·intro wx hSx; (try dsimp only at hSx); go_split_ands; go_simp; try (with_reducible rfl)
       try simp only [Act.put, lq1, lq2, lq3, lq4, lq5, lq6]
       refine wpAnyH_take (i := 19) (v := ?_) rfl (by kernel_rfl) (by kernel_rfl) (by kernel_rfl) (fun _ _ _ h => h) (Or.inl ⟨by rfl, ?_⟩) hHeld ?_
       rotate_left
       ·intro wx hSx; (try dsimp only at hSx); go_split_ands; go_simp; try (with_reducible rfl)
       try simp only [Act.put, lq1, lq2, lq3, lq4, lq5, lq6]
       refine wpAnyH_ready (rs := [14, 20]) (by decide +kernel) (by simp) ?_
       refine (AllReadyH.cons (o := _) rfl (fun K hK => ?_) (AllReadyH.cons (o := _) rfl (fun K hK => ?_) AllReadyH.nil))
       ·refine ifT rfl ?_
        refine oper_make _ _ _ 26 rfl 3 (.int .i64 0) 8 Try.underlying26 Try.infoInt rfl g.nodes.length rfl rfl (by omega) (by omega) ?_
        intro w4 hb hz hr14_4
        have g14 : w.heap.size + 1 < w3.heap.size := hwk3.lt
        have l6_14 := hr6_3.lt
        have hr6_4 := hr6_3.below hb hr6_3.lt
        have l10_14 := hr10_3.lt
        have hr10_4 := hr10_3.below hb hr10_3.lt
        have hbx4 := hbx3.below hb hbx3.lt
        have hwk4 := hwk3.below hb hwk3.lt
        have hB4 : Below w.heap.size w w4 := hB3.trans (hb.mono hB3.size)
        clear hb hz
        refine hK.out _ _ (hbx4.cell rfl) (fun hHeld => ?_)
        clear hK K
        try simp only [Act.put, lq1, lq2, lq3, lq4, lq5, lq6]
        refine wpAnyH_ready (rs := [20]) (by decide +kernel) (by simp) ?_
        refine (AllReadyH.cons (o := _) rfl (fun K hK => ?_) AllReadyH.nil)
        ·have yy := hwk4.cell (i := 4) rfl
         have ff := hwk4.frozen 4
         go_simp
         obtain ⟨w5, hw⟩ : ∃ W, W = w4.setCell ⟨w.heap.size + 1, 4, none⟩ (.slice (some ⟨w1.heap.size, 0, none⟩) g.nodes.length g.nodes.length) := ⟨_, rfl⟩
         rw [← hw]
         have hbx5 : Row w5 _ _ _ := hw ▸ hbx4.other (a := ⟨w.heap.size + 1, 4, none⟩) (by simp) (.slice (some ⟨w1.heap.size, 0, none⟩) g.nodes.length g.nodes.length)
         have hwk5 : Row w5 _ _ _ := hw ▸ hwk4.set 4 (.slice (some ⟨w1.heap.size, 0, none⟩) g.nodes.length g.nodes.length)
         have hr6_5 : Row w5 _ _ _ := hw ▸ hr6_4.other (a := ⟨w.heap.size + 1, 4, none⟩) (by simp; omega) (.slice (some ⟨w1.heap.size, 0, none⟩) g.nodes.length g.nodes.length)
         have hr10_5 : Row w5 _ _ _ := hw ▸ hr10_4.other (a := ⟨w.heap.size + 1, 4, none⟩) (by simp; omega) (.slice (some ⟨w1.heap.size, 0, none⟩) g.nodes.length g.nodes.length)
         have hr14_5 : Row w5 _ _ _ := hw ▸ hr14_4.other (a := ⟨w.heap.size + 1, 4, none⟩) (by simp; omega) (.slice (some ⟨w1.heap.size, 0, none⟩) g.nodes.length g.nodes.length)
         have hB5 : Below w.heap.size w w5 := hw ▸ hB4.setCell (p := ⟨w.heap.size + 1, 4, none⟩) (by simp) (.slice (some ⟨w1.heap.size, 0, none⟩) g.nodes.length g.nodes.length)
         clear hw yy ff
         refine hK.out _ _ (hbx5.cell rfl) (fun hHeld => ?_)
         clear hK K
         try simp only [Act.put, lq1, lq2, lq3, lq4, lq5, lq6]
         refine wpAnyH_take (i := 21) (v := ?_) rfl (by kernel_rfl) (by kernel_rfl) (by kernel_rfl) (fun _ _ _ h => h) (Or.inl ⟨by rfl, ?_⟩) hHeld ?_
         rotate_left
         ·intro wx hSx; (try dsimp only at hSx); go_split_ands; go_simp; try (with_reducible rfl)
         try simp only [Act.put, lq1, lq2, lq3, lq4, lq5, lq6]
         refine wpAnyH_take (i := 22) (v := ?_) rfl (by kernel_rfl) (by kernel_rfl) (by kernel_rfl) (fun _ _ _ h => h) (Or.inl ⟨by rfl, ?_⟩) hHeld ?_
         rotate_left
         ·intro wx hSx; (try dsimp only at hSx); go_split_ands; go_simp; try (with_reducible rfl)
         try simp only [Act.put, lq1, lq2, lq3, lq4, lq5, lq6]
         refine wpAnyH_ready (rs := [23]) (by decide +kernel) (by simp) ?_
         refine (AllReadyH.cons (o := _) rfl (fun K hK => ?_) AllReadyH.nil)
         ·have yy := hwk5.cell (i := 5) rfl
          have ff := hwk5.frozen 5
          go_simp
          obtain ⟨w6, hw⟩ : ∃ W, W = w5.setCell ⟨w.heap.size + 1, 5, none⟩ (.slice (some ⟨w3.heap.size, 0, none⟩) g.nodes.length g.nodes.length) := ⟨_, rfl⟩
          rw [← hw]
          have hbx6 : Row w6 _ _ _ := hw ▸ hbx5.other (a := ⟨w.heap.size + 1, 5, none⟩) (by simp) (.slice (some ⟨w3.heap.size, 0, none⟩) g.nodes.length g.nodes.length)
          have hwk6 : Row w6 _ _ _ := hw ▸ hwk5.set 5 (.slice (some ⟨w3.heap.size, 0, none⟩) g.nodes.length g.nodes.length)
          have hr6_6 : Row w6 _ _ _ := hw ▸ hr6_5.other (a := ⟨w.heap.size + 1, 5, none⟩) (by simp; omega) (.slice (some ⟨w3.heap.size, 0, none⟩) g.nodes.length g.nodes.length)
          have hr10_6 : Row w6 _ _ _ := hw ▸ hr10_5.other (a := ⟨w.heap.size + 1, 5, none⟩) (by simp; omega) (.slice (some ⟨w3.heap.size, 0, none⟩) g.nodes.length g.nodes.length)
          have hr14_6 : Row w6 _ _ _ := hw ▸ hr14_5.other (a := ⟨w.heap.size + 1, 5, none⟩) (by simp; omega) (.slice (some ⟨w3.heap.size, 0, none⟩) g.nodes.length g.nodes.length)
          have hB6 : Below w.heap.size w w6 := hw ▸ hB5.setCell (p := ⟨w.heap.size + 1, 5, none⟩) (by simp) (.slice (some ⟨w3.heap.size, 0, none⟩) g.nodes.length g.nodes.length)
          clear hw yy ff
          refine hK.out _ _ (hbx6.cell rfl) (fun hHeld => ?_)
          clear hK K
          try simp only [Act.put, lq1, lq2, lq3, lq4, lq5, lq6]
          refine wpAnyH_done (by kernel_rfl) ?_ _
          clear hHeld
          go_wp2_with fail
          go_meet
          exact ⟨w0.heap.size, w1.heap.size, w3.heap.size, ⟨hwk6, by simpa [intsV] using hr6_6, by simpa [intsV] using hr10_6, by simpa [intsV] using hr14_6⟩, hbx6, hB6, g6, g10, g14, by omega, by omega, by omega⟩
       ·have yy := hwk3.cell (i := 4) rfl
        have ff := hwk3.frozen 4
        go_simp
        obtain ⟨w4, hw⟩ : ∃ W, W = w3.setCell ⟨w.heap.size + 1, 4, none⟩ (.slice (some ⟨w1.heap.size, 0, none⟩) g.nodes.length g.nodes.length) := ⟨_, rfl⟩
        rw [← hw]
        have hbx4 : Row w4 _ _ _ := hw ▸ hbx3.other (a := ⟨w.heap.size + 1, 4, none⟩) (by simp) (.slice (some ⟨w1.heap.size, 0, none⟩) g.nodes.length g.nodes.length)
        have hwk4 : Row w4 _ _ _ := hw ▸ hwk3.set 4 (.slice (some ⟨w1.heap.size, 0, none⟩) g.nodes.length g.nodes.length)
        have hr6_4 : Row w4 _ _ _ := hw ▸ hr6_3.other (a := ⟨w.heap.size + 1, 4, none⟩) (by simp; omega) (.slice (some ⟨w1.heap.size, 0, none⟩) g.nodes.length g.nodes.length)
        have hr10_4 : Row w4 _ _ _ := hw ▸ hr10_3.other (a := ⟨w.heap.size + 1, 4, none⟩) (by simp; omega) (.slice (some ⟨w1.heap.size, 0, none⟩) g.nodes.length g.nodes.length)
        have hB4 : Below w.heap.size w w4 := hw ▸ hB3.setCell (p := ⟨w.heap.size + 1, 4, none⟩) (by simp) (.slice (some ⟨w1.heap.size, 0, none⟩) g.nodes.length g.nodes.length)
        clear hw yy ff
        refine hK.out _ _ (hbx4.cell rfl) (fun hHeld => ?_)
        clear hK K
        try simp only [Act.put, lq1, lq2, lq3, lq4, lq5, lq6]
        refine wpAnyH_ready (rs := [14]) (by decide +kernel) (by simp) ?_
        refine (AllReadyH.cons (o := _) rfl (fun K hK => ?_) AllReadyH.nil)
        ·refine ifT rfl ?_
         refine oper_make _ _ _ 26 rfl 3 (.int .i64 0) 8 Try.underlying26 Try.infoInt rfl g.nodes.length rfl rfl (by omega) (by omega) ?_
         intro w5 hb hz hr14_5
         have g14 : w.heap.size + 1 < w4.heap.size := hwk4.lt
         have l6_14 := hr6_4.lt
         have hr6_5 := hr6_4.below hb hr6_4.lt
         have l10_14 := hr10_4.lt
         have hr10_5 := hr10_4.below hb hr10_4.lt
         have hbx5 := hbx4.below hb hbx4.lt
         have hwk5 := hwk4.below hb hwk4.lt
         have hB5 : Below w.heap.size w w5 := hB4.trans (hb.mono hB4.size)
         clear hb hz
         refine hK.out _ _ (hbx5.cell rfl) (fun hHeld => ?_)
         clear hK K
         try simp only [Act.put, lq1, lq2, lq3, lq4, lq5, lq6]
         refine wpAnyH_take (i := 21) (v := ?_) rfl (by kernel_rfl) (by kernel_rfl) (by kernel_rfl) (fun _ _ _ h => h) (Or.inl ⟨by rfl, ?_⟩) hHeld ?_
         rotate_left
         ·intro wx hSx; (try dsimp only at hSx); go_split_ands; go_simp; try (with_reducible rfl)
         try simp only [Act.put, lq1, lq2, lq3, lq4, lq5, lq6]
         refine wpAnyH_take (i := 22) (v := ?_) rfl (by kernel_rfl) (by kernel_rfl) (by kernel_rfl) (fun _ _ _ h => h) (Or.inl ⟨by rfl, ?_⟩) hHeld ?_
         rotate_left
         ·intro wx hSx; (try dsimp only at hSx); go_split_ands; go_simp; try (with_reducible rfl)
         try simp only [Act.put, lq1, lq2, lq3, lq4, lq5, lq6]
         refine wpAnyH_ready (rs := [23]) (by decide +kernel) (by simp) ?_
         refine (AllReadyH.cons (o := _) rfl (fun K hK => ?_) AllReadyH.nil)
         ·have yy := hwk5.cell (i := 5) rfl
          have ff := hwk5.frozen 5
          go_simp
          obtain ⟨w6, hw⟩ : ∃ W, W = w5.setCell ⟨w.heap.size + 1, 5, none⟩ (.slice (some ⟨w4.heap.size, 0, none⟩) g.nodes.length g.nodes.length) := ⟨_, rfl⟩
          rw [← hw]
          have hbx6 : Row w6 _ _ _ := hw ▸ hbx5.other (a := ⟨w.heap.size + 1, 5, none⟩) (by simp) (.slice (some ⟨w4.heap.size, 0, none⟩) g.nodes.length g.nodes.length)
          have hwk6 : Row w6 _ _ _ := hw ▸ hwk5.set 5 (.slice (some ⟨w4.heap.size, 0, none⟩) g.nodes.length g.nodes.length)
          have hr6_6 : Row w6 _ _ _ := hw ▸ hr6_5.other (a := ⟨w.heap.size + 1, 5, none⟩) (by simp; omega) (.slice (some ⟨w4.heap.size, 0, none⟩) g.nodes.length g.nodes.length)
          have hr10_6 : Row w6 _ _ _ := hw ▸ hr10_5.other (a := ⟨w.heap.size + 1, 5, none⟩) (by simp; omega) (.slice (some ⟨w4.heap.size, 0, none⟩) g.nodes.length g.nodes.length)
          have hr14_6 : Row w6 _ _ _ := hw ▸ hr14_5.other (a := ⟨w.heap.size + 1, 5, none⟩) (by simp; omega) (.slice (some ⟨w4.heap.size, 0, none⟩) g.nodes.length g.nodes.length)
          have hB6 : Below w.heap.size w w6 := hw ▸ hB5.setCell (p := ⟨w.heap.size + 1, 5, none⟩) (by simp) (.slice (some ⟨w4.heap.size, 0, none⟩) g.nodes.length g.nodes.length)
          clear hw yy ff
          refine hK.out _ _ (hbx6.cell rfl) (fun hHeld => ?_)
          clear hK K
          try simp only [Act.put, lq1, lq2, lq3, lq4, lq5, lq6]
          refine wpAnyH_done (by kernel_rfl) ?_ _
          clear hHeld
          go_wp2_with fail
          go_meet
          exact ⟨w0.heap.size, w1.heap.size, w4.heap.size, ⟨hwk6, by simpa [intsV] using hr6_6, by simpa [intsV] using hr10_6, by simpa [intsV] using hr14_6⟩, hbx6, hB6, g6, g10, g14, by omega, by omega, by omega⟩
     ·refine ifT rfl ?_
      refine oper_make _ _ _ 26 rfl 3 (.int .i64 0) 8 Try.underlying26 Try.infoInt rfl g.nodes.length rfl rfl (by omega) (by omega) ?_
      intro w2 hb hz hr14_2
      have g14 : w.heap.size + 1 < w1.heap.size := hwk1.lt
      have l6_14 := hr6_1.lt
      have hr6_2 := hr6_1.below hb hr6_1.lt
      have hbx2 := hbx1.below hb hbx1.lt
      have hwk2 := hwk1.below hb hwk1.lt
      have hB2 : Below w.heap.size w w2 := hB1.trans (hb.mono hB1.size)
      clear hb hz
      refine hK.out _ _ (hbx2.cell rfl) (fun hHeld => ?_)
      clear hK K
      try simp only [Act.put, lq1, lq2, lq3, lq4, lq5, lq6]
      refine wpAnyH_ready (rs := [10, 17]) (by decide +kernel) (by simp) ?_
      refine (AllReadyH.cons (o := _) rfl (fun K hK => ?_) (AllReadyH.cons (o := _) rfl (fun K hK => ?_) AllReadyH.nil))
      ·refine ifT rfl ?_
       refine oper_make _ _ _ 26 rfl 3 (.int .i64 0) 8 Try.underlying26 Try.infoInt rfl g.nodes.length rfl rfl (by omega) (by omega) ?_
       intro w3 hb hz hr10_3
       have g10 : w.heap.size + 1 < w2.heap.size := hwk2.lt
       have l6_10 := hr6_2.lt
       have hr6_3 := hr6_2.below hb hr6_2.lt
       have l14_10 := hr14_2.lt
       have hr14_3 := hr14_2.below hb hr14_2.lt
       have hbx3 := hbx2.below hb hbx2.lt
       have hwk3 := hwk2.below hb hwk2.lt
       have hB3 : Below w.heap.size w w3 := hB2.trans (hb.mono hB2.size)
       clear hb hz
       refine hK.out _ _ (hbx3.cell rfl) (fun hHeld => ?_)
       clear hK K
       try simp only [Act.put, lq1, lq2, lq3, lq4, lq5, lq6]
       refine wpAnyH_ready (rs := [17]) (by decide +kernel) (by simp) ?_
       refine (AllReadyH.cons (o := _) rfl (fun K hK => ?_) AllReadyH.nil)
       ·have yy := hwk3.cell (i := 3) rfl
        have ff := hwk3.frozen 3
        go_simp
        obtain ⟨w4, hw⟩ : ∃ W, W = w3.setCell ⟨w.heap.size + 1, 3, none⟩ (.slice (some ⟨w0.heap.size, 0, none⟩) g.nodes.length g.nodes.length) := ⟨_, rfl⟩
        rw [← hw]
        have hbx4 : Row w4 _ _ _ := hw ▸ hbx3.other (a := ⟨w.heap.size + 1, 3, none⟩) (by simp) (.slice (some ⟨w0.heap.size, 0, none⟩) g.nodes.length g.nodes.length)
        have hwk4 : Row w4 _ _ _ := hw ▸ hwk3.set 3 (.slice (some ⟨w0.heap.size, 0, none⟩) g.nodes.length g.nodes.length)
        have hr6_4 : Row w4 _ _ _ := hw ▸ hr6_3.other (a := ⟨w.heap.size + 1, 3, none⟩) (by simp; omega) (.slice (some ⟨w0.heap.size, 0, none⟩) g.nodes.length g.nodes.length)
        have hr10_4 : Row w4 _ _ _ := hw ▸ hr10_3.other (a := ⟨w.heap.size + 1, 3, none⟩) (by simp; omega) (.slice (some ⟨w0.heap.size, 0, none⟩) g.nodes.length g.nodes.length)
        have hr14_4 : Row w4 _ _ _ := hw ▸ hr14_3.other (a := ⟨w.heap.size + 1, 3, none⟩) (by simp; omega) (.slice (some ⟨w0.heap.size, 0, none⟩) g.nodes.length g.nodes.length)
        have hB4 : Below w.heap.size w w4 := hw ▸ hB3.setCell (p := ⟨w.heap.size + 1, 3, none⟩) (by simp) (.slice (some ⟨w0.heap.size, 0, none⟩) g.nodes.length g.nodes.length)
        clear hw yy ff
        refine hK.out _ _ (hbx4.cell rfl) (fun hHeld => ?_)
        clear hK K
        try simp only [Act.put, lq1, lq2, lq3, lq4, lq5, lq6]
        refine wpAnyH_take (i := 18) (v := ?_) rfl (by kernel_rfl) (by kernel_rfl) (by kernel_rfl) (fun _ _ _ h => h) (Or.inl ⟨by rfl, ?_⟩) hHeld ?_
        rotate_left
        ·intro wx hSx; (try dsimp only at hSx); go_split_ands; go_simp; try (with_reducible rfl)
        try simp only [Act.put, lq1, lq2, lq3, lq4, lq5, lq6]
        refine wpAnyH_take (i := 19) (v := ?_) rfl (by kernel_rfl) (by kernel_rfl) (by kernel_rfl) (fun _ _ _ h => h) (Or.inl ⟨by rfl, ?_⟩) hHeld ?_
        rotate_left
        ·intro wx hSx; (try dsimp only at hSx); go_split_ands; go_simp; try (with_reducible rfl)
        try simp only [Act.put, lq1, lq2, lq3, lq4, lq5, lq6]
        refine wpAnyH_ready (rs := [20]) (by decide +kernel) (by simp) ?_
        refine (AllReadyH.cons (o := _) rfl (fun K hK => ?_) AllReadyH.nil)
        ·have yy := hwk4.cell (i := 4) rfl
         have ff := hwk4.frozen 4
         go_simp
         obtain ⟨w5, hw⟩ : ∃ W, W = w4.setCell ⟨w.heap.size + 1, 4, none⟩ (.slice (some ⟨w2.heap.size, 0, none⟩) g.nodes.length g.nodes.length) := ⟨_, rfl⟩
         rw [← hw]
         have hbx5 : Row w5 _ _ _ := hw ▸ hbx4.other (a := ⟨w.heap.size + 1, 4, none⟩) (by simp) (.slice (some ⟨w2.heap.size, 0, none⟩) g.nodes.length g.nodes.length)
         have hwk5 : Row w5 _ _ _ := hw ▸ hwk4.set 4 (.slice (some ⟨w2.heap.size, 0, none⟩) g.nodes.length g.nodes.length)
         have hr6_5 : Row w5 _ _ _ := hw ▸ hr6_4.other (a := ⟨w.heap.size + 1, 4, none⟩) (by simp; omega) (.slice (some ⟨w2.heap.size, 0, none⟩) g.nodes.length g.nodes.length)
         have hr10_5 : Row w5 _ _ _ := hw ▸ hr10_4.other (a := ⟨w.heap.size + 1, 4, none⟩) (by simp; omega) (.slice (some ⟨w2.heap.size, 0, none⟩) g.nodes.length g.nodes.length)
         have hr14_5 : Row w5 _ _ _ := hw ▸ hr14_4.other (a := ⟨w.heap.size + 1, 4, none⟩) (by simp; omega) (.slice (some ⟨w2.heap.size, 0, none⟩) g.nodes.length g.nodes.length)
         have hB5 : Below w.heap.size w w5 := hw ▸ hB4.setCell (p := ⟨w.heap.size + 1, 4, none⟩) (by simp) (.slice (some ⟨w2.heap.size, 0, none⟩) g.nodes.length g.nodes.length)
         clear hw yy ff
         refine hK.out _ _ (hbx5.cell rfl) (fun hHeld => ?_)
         clear hK K
         try simp only [Act.put, lq1, lq2, lq3, lq4, lq5, lq6]
         refine wpAnyH_take (i := 21) (v := ?_) rfl (by kernel_rfl) (by kernel_rfl) (by kernel_rfl) (fun _ _ _ h => h) (Or.inl ⟨by rfl, ?_⟩) hHeld ?_
         rotate_left
         ·intro wx hSx; (try dsimp only at hSx); go_split_ands; go_simp; try (with_reducible rfl)
         try simp only [Act.put, lq1, lq2, lq3, lq4, lq5, lq6]
         refine wpAnyH_take (i := 22) (v := ?_) rfl (by kernel_rfl) (by kernel_rfl) (by kernel_rfl) (fun _ _ _ h => h) (Or.inl ⟨by rfl, ?_⟩) hHeld ?_
         rotate_left
         ·intro wx hSx; (try dsimp only at hSx); go_split_ands; go_simp; try (with_reducible rfl)
         try simp only [Act.put, lq1, lq2, lq3, lq4, lq5, lq6]
         refine wpAnyH_ready (rs := [23]) (by decide +kernel) (by simp) ?_
         refine (AllReadyH.cons (o := _) rfl (fun K hK => ?_) AllReadyH.nil)
         ·have yy := hwk5.cell (i := 5) rfl
          have ff := hwk5.frozen 5
          go_simp
          obtain ⟨w6, hw⟩ : ∃ W, W = w5.setCell ⟨w.heap.size + 1, 5, none⟩ (.slice (some ⟨w1.heap.size, 0, none⟩) g.nodes.length g.nodes.length) := ⟨_, rfl⟩
          rw [← hw]
          have hbx6 : Row w6 _ _ _ := hw ▸ hbx5.other (a := ⟨w.heap.size + 1, 5, none⟩) (by simp) (.slice (some ⟨w1.heap.size, 0, none⟩) g.nodes.length g.nodes.length)
          have hwk6 : Row w6 _ _ _ := hw ▸ hwk5.set 5 (.slice (some ⟨w1.heap.size, 0, none⟩) g.nodes.length g.nodes.length)
          have hr6_6 : Row w6 _ _ _ := hw ▸ hr6_5.other (a := ⟨w.heap.size + 1, 5, none⟩) (by simp; omega) (.slice (some ⟨w1.heap.size, 0, none⟩) g.nodes.length g.nodes.length)
          have hr10_6 : Row w6 _ _ _ := hw ▸ hr10_5.other (a := ⟨w.heap.size + 1, 5, none⟩) (by simp; omega) (.slice (some ⟨w1.heap.size, 0, none⟩) g.nodes.length g.nodes.length)
          have hr14_6 : Row w6 _ _ _ := hw ▸ hr14_5.other (a := ⟨w.heap.size + 1, 5, none⟩) (by simp; omega) (.slice (some ⟨w1.heap.size, 0, none⟩) g.nodes.length g.nodes.length)
          have hB6 : Below w.heap.size w w6 := hw ▸ hB5.setCell (p := ⟨w.heap.size + 1, 5, none⟩) (by simp) (.slice (some ⟨w1.heap.size, 0, none⟩) g.nodes.length g.nodes.length)
          clear hw yy ff
          refine hK.out _ _ (hbx6.cell rfl) (fun hHeld => ?_)
          clear hK K
          try simp only [Act.put, lq1, lq2, lq3, lq4, lq5, lq6]
          refine wpAnyH_done (by kernel_rfl) ?_ _
          clear hHeld
          go_wp2_with fail
          go_meet
          exact ⟨w0.heap.size, w2.heap.size, w1.heap.size, ⟨hwk6, by simpa [intsV] using hr6_6, by simpa [intsV] using hr10_6, by simpa [intsV] using hr14_6⟩, hbx6, hB6, g6, g10, g14, by omega, by omega, by omega⟩
      ·have yy := hwk2.cell (i := 3) rfl
       have ff := hwk2.frozen 3
       go_simp
       obtain ⟨w3, hw⟩ : ∃ W, W = w2.setCell ⟨w.heap.size + 1, 3, none⟩ (.slice (some ⟨w0.heap.size, 0, none⟩) g.nodes.length g.nodes.length) := ⟨_, rfl⟩
       rw [← hw]
       have hbx3 : Row w3 _ _ _ := hw ▸ hbx2.other (a := ⟨w.heap.size + 1, 3, none⟩) (by simp) (.slice (some ⟨w0.heap.size, 0, none⟩) g.nodes.length g.nodes.length)
       have hwk3 : Row w3 _ _ _ := hw ▸ hwk2.set 3 (.slice (some ⟨w0.heap.size, 0, none⟩) g.nodes.length g.nodes.length)
       have hr6_3 : Row w3 _ _ _ := hw ▸ hr6_2.other (a := ⟨w.heap.size + 1, 3, none⟩) (by simp; omega) (.slice (some ⟨w0.heap.size, 0, none⟩) g.nodes.length g.nodes.length)
       have hr14_3 : Row w3 _ _ _ := hw ▸ hr14_2.other (a := ⟨w.heap.size + 1, 3, none⟩) (by simp; omega) (.slice (some ⟨w0.heap.size, 0, none⟩) g.nodes.length g.nodes.length)
       have hB3 : Below w.heap.size w w3 := hw ▸ hB2.setCell (p := ⟨w.heap.size + 1, 3, none⟩) (by simp) (.slice (some ⟨w0.heap.size, 0, none⟩) g.nodes.length g.nodes.length)
       clear hw yy ff
       refine hK.out _ _ (hbx3.cell rfl) (fun hHeld => ?_)
       clear hK K
       try simp only [Act.put, lq1, lq2, lq3, lq4, lq5, lq6]
       refine wpAnyH_ready (rs := [10]) (by decide +kernel) (by simp) ?_
       refine (AllReadyH.cons (o := _) rfl (fun K hK => ?_) AllReadyH.nil)
       ·refine ifT rfl ?_
        refine oper_make _ _ _ 26 rfl 3 (.int .i64 0) 8 Try.underlying26 Try.infoInt rfl g.nodes.length rfl rfl (by omega) (by omega) ?_
        intro w4 hb hz hr10_4
        have g10 : w.heap.size + 1 < w3.heap.size := hwk3.lt
        have l6_10 := hr6_3.lt
        have hr6_4 := hr6_3.below hb hr6_3.lt
        have l14_10 := hr14_3.lt
        have hr14_4 := hr14_3.below hb hr14_3.lt
        have hbx4 := hbx3.below hb hbx3.lt
        have hwk4 := hwk3.below hb hwk3.lt
        have hB4 : Below w.heap.size w w4 := hB3.trans (hb.mono hB3.size)
        clear hb hz
        refine hK.out _ _ (hbx4.cell rfl) (fun hHeld => ?_)
        clear hK K
        try simp only [Act.put, lq1, lq2, lq3, lq4, lq5, lq6]
        refine wpAnyH_take (i := 18) (v := ?_) rfl (by kernel_rfl) (by kernel_rfl) (by kernel_rfl) (fun _ _ _ h => h) (Or.inl ⟨by rfl, ?_⟩) hHeld ?_
        rotate_left
        ·intro wx hSx; (try dsimp only at hSx); go_split_ands; go_simp; try (with_reducible rfl)
        try simp only [Act.put, lq1, lq2, lq3, lq4, lq5, lq6]
        refine wpAnyH_take (i := 19) (v := ?_) rfl (by kernel_rfl) (by kernel_rfl) (by kernel_rfl) (fun _ _ _ h => h) (Or.inl ⟨by rfl, ?_⟩) hHeld ?_
        rotate_left
        ·intro wx hSx; (try dsimp only at hSx); go_split_ands; go_simp; try (with_reducible rfl)
        try simp only [Act.put, lq1, lq2, lq3, lq4, lq5, lq6]
        refine wpAnyH_ready (rs := [20]) (by decide +kernel) (by simp) ?_
        refine (AllReadyH.cons (o := _) rfl (fun K hK => ?_) AllReadyH.nil)
        ·have yy := hwk4.cell (i := 4) rfl
         have ff := hwk4.frozen 4
         go_simp
         obtain ⟨w5, hw⟩ : ∃ W, W = w4.setCell ⟨w.heap.size + 1, 4, none⟩ (.slice (some ⟨w3.heap.size, 0, none⟩) g.nodes.length g.nodes.length) := ⟨_, rfl⟩
         rw [← hw]
         have hbx5 : Row w5 _ _ _ := hw ▸ hbx4.other (a := ⟨w.heap.size + 1, 4, none⟩) (by simp) (.slice (some ⟨w3.heap.size, 0, none⟩) g.nodes.length g.nodes.length)
         have hwk5 : Row w5 _ _ _ := hw ▸ hwk4.set 4 (.slice (some ⟨w3.heap.size, 0, none⟩) g.nodes.length g.nodes.length)
         have hr6_5 : Row w5 _ _ _ := hw ▸ hr6_4.other (a := ⟨w.heap.size + 1, 4, none⟩) (by simp; omega) (.slice (some ⟨w3.heap.size, 0, none⟩) g.nodes.length g.nodes.length)
         have hr10_5 : Row w5 _ _ _ := hw ▸ hr10_4.other (a := ⟨w.heap.size + 1, 4, none⟩) (by simp; omega) (.slice (some ⟨w3.heap.size, 0, none⟩) g.nodes.length g.nodes.length)
         have hr14_5 : Row w5 _ _ _ := hw ▸ hr14_4.other (a := ⟨w.heap.size + 1, 4, none⟩) (by simp; omega) (.slice (some ⟨w3.heap.size, 0, none⟩) g.nodes.length g.nodes.length)
         have hB5 : Below w.heap.size w w5 := hw ▸ hB4.setCell (p := ⟨w.heap.size + 1, 4, none⟩) (by simp) (.slice (some ⟨w3.heap.size, 0, none⟩) g.nodes.length g.nodes.length)
         clear hw yy ff
         refine hK.out _ _ (hbx5.cell rfl) (fun hHeld => ?_)
         clear hK K
         try simp only [Act.put, lq1, lq2, lq3, lq4, lq5, lq6]
         refine wpAnyH_take (i := 21) (v := ?_) rfl (by kernel_rfl) (by kernel_rfl) (by kernel_rfl) (fun _ _ _ h => h) (Or.inl ⟨by rfl, ?_⟩) hHeld ?_
         rotate_left
         ·intro wx hSx; (try dsimp only at hSx); go_split_ands; go_simp; try (with_reducible rfl)
         try simp only [Act.put, lq1, lq2, lq3, lq4, lq5, lq6]
         refine wpAnyH_take (i := 22) (v := ?_) rfl (by kernel_rfl) (by kernel_rfl) (by kernel_rfl) (fun _ _ _ h => h) (Or.inl ⟨by rfl, ?_⟩) hHeld ?_
         rotate_left
         ·intro wx hSx; (try dsimp only at hSx); go_split_ands; go_simp; try (with_reducible rfl)
         try simp only [Act.put, lq1, lq2, lq3, lq4, lq5, lq6]
         refine wpAnyH_ready (rs := [23]) (by decide +kernel) (by simp) ?_
         refine (AllReadyH.cons (o := _) rfl (fun K hK => ?_) AllReadyH.nil)
         ·have yy := hwk5.cell (i := 5) rfl
          have ff := hwk5.frozen 5
          go_simp
          obtain ⟨w6, hw⟩ : ∃ W, W = w5.setCell ⟨w.heap.size + 1, 5, none⟩ (.slice (some ⟨w1.heap.size, 0, none⟩) g.nodes.length g.nodes.length) := ⟨_, rfl⟩
          rw [← hw]
          have hbx6 : Row w6 _ _ _ := hw ▸ hbx5.other (a := ⟨w.heap.size + 1, 5, none⟩) (by simp) (.slice (some ⟨w1.heap.size, 0, none⟩) g.nodes.length g.nodes.length)
          have hwk6 : Row w6 _ _ _ := hw ▸ hwk5.set 5 (.slice (some ⟨w1.heap.size, 0, none⟩) g.nodes.length g.nodes.length)
          have hr6_6 : Row w6 _ _ _ := hw ▸ hr6_5.other (a := ⟨w.heap.size + 1, 5, none⟩) (by simp; omega) (.slice (some ⟨w1.heap.size, 0, none⟩) g.nodes.length g.nodes.length)
          have hr10_6 : Row w6 _ _ _ := hw ▸ hr10_5.other (a := ⟨w.heap.size + 1, 5, none⟩) (by simp; omega) (.slice (some ⟨w1.heap.size, 0, none⟩) g.nodes.length g.nodes.length)
          have hr14_6 : Row w6 _ _ _ := hw ▸ hr14_5.other (a := ⟨w.heap.size + 1, 5, none⟩) (by simp; omega) (.slice (some ⟨w1.heap.size, 0, none⟩) g.nodes.length g.nodes.length)
          have hB6 : Below w.heap.size w w6 := hw ▸ hB5.setCell (p := ⟨w.heap.size + 1, 5, none⟩) (by simp) (.slice (some ⟨w1.heap.size, 0, none⟩) g.nodes.length g.nodes.length)
          clear hw yy ff
          refine hK.out _ _ (hbx6.cell rfl) (fun hHeld => ?_)
          clear hK K
          try simp only [Act.put, lq1, lq2, lq3, lq4, lq5, lq6]
          refine wpAnyH_done (by kernel_rfl) ?_ _
          clear hHeld
          go_wp2_with fail
          go_meet
          exact ⟨w0.heap.size, w3.heap.size, w1.heap.size, ⟨hwk6, by simpa [intsV] using hr6_6, by simpa [intsV] using hr10_6, by simpa [intsV] using hr14_6⟩, hbx6, hB6, g6, g10, g14, by omega, by omega, by omega⟩
     ·have yy := hwk1.cell (i := 3) rfl
      have ff := hwk1.frozen 3
      go_simp
      obtain ⟨w2, hw⟩ : ∃ W, W = w1.setCell ⟨w.heap.size + 1, 3, none⟩ (.slice (some ⟨w0.heap.size, 0, none⟩) g.nodes.length g.nodes.length) := ⟨_, rfl⟩
      rw [← hw]
      have hbx2 : Row w2 _ _ _ := hw ▸ hbx1.other (a := ⟨w.heap.size + 1, 3, none⟩) (by simp) (.slice (some ⟨w0.heap.size, 0, none⟩) g.nodes.length g.nodes.length)
      have hwk2 : Row w2 _ _ _ := hw ▸ hwk1.set 3 (.slice (some ⟨w0.heap.size, 0, none⟩) g.nodes.length g.nodes.length)
      have hr6_2 : Row w2 _ _ _ := hw ▸ hr6_1.other (a := ⟨w.heap.size + 1, 3, none⟩) (by simp; omega) (.slice (some ⟨w0.heap.size, 0, none⟩) g.nodes.length g.nodes.length)
      have hB2 : Below w.heap.size w w2 := hw ▸ hB1.setCell (p := ⟨w.heap.size + 1, 3, none⟩) (by simp) (.slice (some ⟨w0.heap.size, 0, none⟩) g.nodes.length g.nodes.length)
      clear hw yy ff
      refine hK.out _ _ (hbx2.cell rfl) (fun hHeld => ?_)
      clear hK K
      try simp only [Act.put, lq1, lq2, lq3, lq4, lq5, lq6]
      refine wpAnyH_ready (rs := [10, 14]) (by decide +kernel) (by simp) ?_
      refine (AllReadyH.cons (o := _) rfl (fun K hK => ?_) (AllReadyH.cons (o := _) rfl (fun K hK => ?_) AllReadyH.nil))
      ·refine ifT rfl ?_
       refine oper_make _ _ _ 26 rfl 3 (.int .i64 0) 8 Try.underlying26 Try.infoInt rfl g.nodes.length rfl rfl (by omega) (by omega) ?_
       intro w3 hb hz hr10_3
       have g10 : w.heap.size + 1 < w2.heap.size := hwk2.lt
       have l6_10 := hr6_2.lt
       have hr6_3 := hr6_2.below hb hr6_2.lt
       have hbx3 := hbx2.below hb hbx2.lt
       have hwk3 := hwk2.below hb hwk2.lt
       have hB3 : Below w.heap.size w w3 := hB2.trans (hb.mono hB2.size)
       clear hb hz
       refine hK.out _ _ (hbx3.cell rfl) (fun hHeld => ?_)
       clear hK K
       try simp only [Act.put, lq1, lq2, lq3, lq4, lq5, lq6]
       refine wpAnyH_take (i := 18) (v := ?_) rfl (by kernel_rfl) (by kernel_rfl) (by kernel_rfl) (fun _ _ _ h => h) (Or.inl ⟨by rfl, ?_⟩) hHeld ?_
       rotate_left
       ·intro wx hSx; (try dsimp only at hSx); go_split_ands; go_simp; try (with_reducible rfl)
       try simp only [Act.put, lq1, lq2, lq3, lq4, lq5, lq6]
       refine wpAnyH_take (i := 19) (v := ?_) rfl (by kernel_rfl) (by kernel_rfl) (by kernel_rfl) (fun _ _ _ h => h) (Or.inl ⟨by rfl, ?_⟩) hHeld ?_
       rotate_left
       ·intro wx hSx; (try dsimp only at hSx); go_split_ands; go_simp; try (with_reducible rfl)
       try simp only [Act.put, lq1, lq2, lq3, lq4, lq5, lq6]
       refine wpAnyH_ready (rs := [14, 20]) (by decide +kernel) (by simp) ?_
       refine (AllReadyH.cons (o := _) rfl (fun K hK => ?_) (AllReadyH.cons (o := _) rfl (fun K hK => ?_) AllReadyH.nil))
       ·refine ifT rfl ?_
        refine oper_make _ _ _ 26 rfl 3 (.int .i64 0) 8 Try.underlying26 Try.infoInt rfl g.nodes.length rfl rfl (by omega) (by omega) ?_
        intro w4 hb hz hr14_4
        have g14 : w.heap.size + 1 < w3.heap.size := hwk3.lt
        have l6_14 := hr6_3.lt
        have hr6_4 := hr6_3.below hb hr6_3.lt
        have l10_14 := hr10_3.lt
        have hr10_4 := hr10_3.below hb hr10_3.lt
        have hbx4 := hbx3.below hb hbx3.lt
        have hwk4 := hwk3.below hb hwk3.lt
        have hB4 : Below w.heap.size w w4 := hB3.trans (hb.mono hB3.size)
        clear hb hz
        refine hK.out _ _ (hbx4.cell rfl) (fun hHeld => ?_)
        clear hK K
        try simp only [Act.put, lq1, lq2, lq3, lq4, lq5, lq6]
        refine wpAnyH_ready (rs := [20]) (by decide +kernel) (by simp) ?_
        refine (AllReadyH.cons (o := _) rfl (fun K hK => ?_) AllReadyH.nil)
        ·have yy := hwk4.cell (i := 4) rfl
         have ff := hwk4.frozen 4
         go_simp
         obtain ⟨w5, hw⟩ : ∃ W, W = w4.setCell ⟨w.heap.size + 1, 4, none⟩ (.slice (some ⟨w2.heap.size, 0, none⟩) g.nodes.length g.nodes.length) := ⟨_, rfl⟩
         rw [← hw]
         have hbx5 : Row w5 _ _ _ := hw ▸ hbx4.other (a := ⟨w.heap.size + 1, 4, none⟩) (by simp) (.slice (some ⟨w2.heap.size, 0, none⟩) g.nodes.length g.nodes.length)
         have hwk5 : Row w5 _ _ _ := hw ▸ hwk4.set 4 (.slice (some ⟨w2.heap.size, 0, none⟩) g.nodes.length g.nodes.length)
         have hr6_5 : Row w5 _ _ _ := hw ▸ hr6_4.other (a := ⟨w.heap.size + 1, 4, none⟩) (by simp; omega) (.slice (some ⟨w2.heap.size, 0, none⟩) g.nodes.length g.nodes.length)
         have hr10_5 : Row w5 _ _ _ := hw ▸ hr10_4.other (a := ⟨w.heap.size + 1, 4, none⟩) (by simp; omega) (.slice (some ⟨w2.heap.size, 0, none⟩) g.nodes.length g.nodes.length)
         have hr14_5 : Row w5 _ _ _ := hw ▸ hr14_4.other (a := ⟨w.heap.size + 1, 4, none⟩) (by simp; omega) (.slice (some ⟨w2.heap.size, 0, none⟩) g.nodes.length g.nodes.length)
         have hB5 : Below w.heap.size w w5 := hw ▸ hB4.setCell (p := ⟨w.heap.size + 1, 4, none⟩) (by simp) (.slice (some ⟨w2.heap.size, 0, none⟩) g.nodes.length g.nodes.length)
         clear hw yy ff
         refine hK.out _ _ (hbx5.cell rfl) (fun hHeld => ?_)
         clear hK K
         try simp only [Act.put, lq1, lq2, lq3, lq4, lq5, lq6]
         refine wpAnyH_take (i := 21) (v := ?_) rfl (by kernel_rfl) (by kernel_rfl) (by kernel_rfl) (fun _ _ _ h => h) (Or.inl ⟨by rfl, ?_⟩) hHeld ?_
         rotate_left
         ·intro wx hSx; (try dsimp only at hSx); go_split_ands; go_simp; try (with_reducible rfl)
         try simp only [Act.put, lq1, lq2, lq3, lq4, lq5, lq6]
         refine wpAnyH_take (i := 22) (v := ?_) rfl (by kernel_rfl) (by kernel_rfl) (by kernel_rfl) (fun _ _ _ h => h) (Or.inl ⟨by rfl, ?_⟩) hHeld ?_
         rotate_left
         ·intro wx hSx; (try dsimp only at hSx); go_split_ands; go_simp; try (with_reducible rfl)
         try simp only [Act.put, lq1, lq2, lq3, lq4, lq5, lq6]
         refine wpAnyH_ready (rs := [23]) (by decide +kernel) (by simp) ?_
         refine (AllReadyH.cons (o := _) rfl (fun K hK => ?_) AllReadyH.nil)
         ·have yy := hwk5.cell (i := 5) rfl
          have ff := hwk5.frozen 5
          go_simp
          obtain ⟨w6, hw⟩ : ∃ W, W = w5.setCell ⟨w.heap.size + 1, 5, none⟩ (.slice (some ⟨w3.heap.size, 0, none⟩) g.nodes.length g.nodes.length) := ⟨_, rfl⟩
          rw [← hw]
          have hbx6 : Row w6 _ _ _ := hw ▸ hbx5.other (a := ⟨w.heap.size + 1, 5, none⟩) (by simp) (.slice (some ⟨w3.heap.size, 0, none⟩) g.nodes.length g.nodes.length)
          have hwk6 : Row w6 _ _ _ := hw ▸ hwk5.set 5 (.slice (some ⟨w3.heap.size, 0, none⟩) g.nodes.length g.nodes.length)
          have hr6_6 : Row w6 _ _ _ := hw ▸ hr6_5.other (a := ⟨w.heap.size + 1, 5, none⟩) (by simp; omega) (.slice (some ⟨w3.heap.size, 0, none⟩) g.nodes.length g.nodes.length)
          have hr10_6 : Row w6 _ _ _ := hw ▸ hr10_5.other (a := ⟨w.heap.size + 1, 5, none⟩) (by simp; omega) (.slice (some ⟨w3.heap.size, 0, none⟩) g.nodes.length g.nodes.length)
          have hr14_6 : Row w6 _ _ _ := hw ▸ hr14_5.other (a := ⟨w.heap.size + 1, 5, none⟩) (by simp; omega) (.slice (some ⟨w3.heap.size, 0, none⟩) g.nodes.length g.nodes.length)
          have hB6 : Below w.heap.size w w6 := hw ▸ hB5.setCell (p := ⟨w.heap.size + 1, 5, none⟩) (by simp) (.slice (some ⟨w3.heap.size, 0, none⟩) g.nodes.length g.nodes.length)
          clear hw yy ff
          refine hK.out _ _ (hbx6.cell rfl) (fun hHeld => ?_)
          clear hK K
          try simp only [Act.put, lq1, lq2, lq3, lq4, lq5, lq6]
          refine wpAnyH_done (by kernel_rfl) ?_ _
          clear hHeld
          go_wp2_with fail
          go_meet
          exact ⟨w0.heap.size, w2.heap.size, w3.heap.size, ⟨hwk6, by simpa [intsV] using hr6_6, by simpa [intsV] using hr10_6, by simpa [intsV] using hr14_6⟩, hbx6, hB6, g6, g10, g14, by omega, by omega, by omega⟩
       ·have yy := hwk3.cell (i := 4) rfl
        have ff := hwk3.frozen 4
        go_simp
        obtain ⟨w4, hw⟩ : ∃ W, W = w3.setCell ⟨w.heap.size + 1, 4, none⟩ (.slice (some ⟨w2.heap.size, 0, none⟩) g.nodes.length g.nodes.length) := ⟨_, rfl⟩
        rw [← hw]
        have hbx4 : Row w4 _ _ _ := hw ▸ hbx3.other (a := ⟨w.heap.size + 1, 4, none⟩) (by simp) (.slice (some ⟨w2.heap.size, 0, none⟩) g.nodes.length g.nodes.length)
        have hwk4 : Row w4 _ _ _ := hw ▸ hwk3.set 4 (.slice (some ⟨w2.heap.size, 0, none⟩) g.nodes.length g.nodes.length)
        have hr6_4 : Row w4 _ _ _ := hw ▸ hr6_3.other (a := ⟨w.heap.size + 1, 4, none⟩) (by simp; omega) (.slice (some ⟨w2.heap.size, 0, none⟩) g.nodes.length g.nodes.length)
        have hr10_4 : Row w4 _ _ _ := hw ▸ hr10_3.other (a := ⟨w.heap.size + 1, 4, none⟩) (by simp; omega) (.slice (some ⟨w2.heap.size, 0, none⟩) g.nodes.length g.nodes.length)
        have hB4 : Below w.heap.size w w4 := hw ▸ hB3.setCell (p := ⟨w.heap.size + 1, 4, none⟩) (by simp) (.slice (some ⟨w2.heap.size, 0, none⟩) g.nodes.length g.nodes.length)
        clear hw yy ff
        refine hK.out _ _ (hbx4.cell rfl) (fun hHeld => ?_)
        clear hK K
        try simp only [Act.put, lq1, lq2, lq3, lq4, lq5, lq6]
        refine wpAnyH_ready (rs := [14]) (by decide +kernel) (by simp) ?_
        refine (AllReadyH.cons (o := _) rfl (fun K hK => ?_) AllReadyH.nil)
        ·refine ifT rfl ?_
         refine oper_make _ _ _ 26 rfl 3 (.int .i64 0) 8 Try.underlying26 Try.infoInt rfl g.nodes.length rfl rfl (by omega) (by omega) ?_
         intro w5 hb hz hr14_5
         have g14 : w.heap.size + 1 < w4.heap.size := hwk4.lt
         have l6_14 := hr6_4.lt
         have hr6_5 := hr6_4.below hb hr6_4.lt
         have l10_14 := hr10_4.lt
         have hr10_5 := hr10_4.below hb hr10_4.lt
         have hbx5 := hbx4.below hb hbx4.lt
         have hwk5 := hwk4.below hb hwk4.lt
         have hB5 : Below w.heap.size w w5 := hB4.trans (hb.mono hB4.size)
         clear hb hz
         refine hK.out _ _ (hbx5.cell rfl) (fun hHeld => ?_)
         clear hK K
         try simp only [Act.put, lq1, lq2, lq3, lq4, lq5, lq6]
         refine wpAnyH_take (i := 21) (v := ?_) rfl (by kernel_rfl) (by kernel_rfl) (by kernel_rfl) (fun _ _ _ h => h) (Or.inl ⟨by rfl, ?_⟩) hHeld ?_
         rotate_left
         ·intro wx hSx; (try dsimp only at hSx); go_split_ands; go_simp; try (with_reducible rfl)
         try simp only [Act.put, lq1, lq2, lq3, lq4, lq5, lq6]
         refine wpAnyH_take (i := 22) (v := ?_) rfl (by kernel_rfl) (by kernel_rfl) (by kernel_rfl) (fun _ _ _ h => h) (Or.inl ⟨by rfl, ?_⟩) hHeld ?_
         rotate_left
         ·intro wx hSx; (try dsimp only at hSx); go_split_ands; go_simp; try (with_reducible rfl)
         try simp only [Act.put, lq1, lq2, lq3, lq4, lq5, lq6]
         refine wpAnyH_ready (rs := [23]) (by decide +kernel) (by simp) ?_
         refine (AllReadyH.cons (o := _) rfl (fun K hK => ?_) AllReadyH.nil)
         ·have yy := hwk5.cell (i := 5) rfl
          have ff := hwk5.frozen 5
          go_simp
          obtain ⟨w6, hw⟩ : ∃ W, W = w5.setCell ⟨w.heap.size + 1, 5, none⟩ (.slice (some ⟨w4.heap.size, 0, none⟩) g.nodes.length g.nodes.length) := ⟨_, rfl⟩
          rw [← hw]
          have hbx6 : Row w6 _ _ _ := hw ▸ hbx5.other (a := ⟨w.heap.size + 1, 5, none⟩) (by simp) (.slice (some ⟨w4.heap.size, 0, none⟩) g.nodes.length g.nodes.length)
          have hwk6 : Row w6 _ _ _ := hw ▸ hwk5.set 5 (.slice (some ⟨w4.heap.size, 0, none⟩) g.nodes.length g.nodes.length)
          have hr6_6 : Row w6 _ _ _ := hw ▸ hr6_5.other (a := ⟨w.heap.size + 1, 5, none⟩) (by simp; omega) (.slice (some ⟨w4.heap.size, 0, none⟩) g.nodes.length g.nodes.length)
          have hr10_6 : Row w6 _ _ _ := hw ▸ hr10_5.other (a := ⟨w.heap.size + 1, 5, none⟩) (by simp; omega) (.slice (some ⟨w4.heap.size, 0, none⟩) g.nodes.length g.nodes.length)
          have hr14_6 : Row w6 _ _ _ := hw ▸ hr14_5.other (a := ⟨w.heap.size + 1, 5, none⟩) (by simp; omega) (.slice (some ⟨w4.heap.size, 0, none⟩) g.nodes.length g.nodes.length)
          have hB6 : Below w.heap.size w w6 := hw ▸ hB5.setCell (p := ⟨w.heap.size + 1, 5, none⟩) (by simp) (.slice (some ⟨w4.heap.size, 0, none⟩) g.nodes.length g.nodes.length)
          clear hw yy ff
          refine hK.out _ _ (hbx6.cell rfl) (fun hHeld => ?_)
          clear hK K
          try simp only [Act.put, lq1, lq2, lq3, lq4, lq5, lq6]
          refine wpAnyH_done (by kernel_rfl) ?_ _
          clear hHeld
          go_wp2_with fail
          go_meet
          exact ⟨w0.heap.size, w2.heap.size, w4.heap.size, ⟨hwk6, by simpa [intsV] using hr6_6, by simpa [intsV] using hr10_6, by simpa [intsV] using hr14_6⟩, hbx6, hB6, g6, g10, g14, by omega, by omega, by omega⟩
      ·refine ifT rfl ?_
       refine oper_make _ _ _ 26 rfl 3 (.int .i64 0) 8 Try.underlying26 Try.infoInt rfl g.nodes.length rfl rfl (by omega) (by omega) ?_
       intro w3 hb hz hr14_3
       have g14 : w.heap.size + 1 < w2.heap.size := hwk2.lt
       have l6_14 := hr6_2.lt
       have hr6_3 := hr6_2.below hb hr6_2.lt
       have hbx3 := hbx2.below hb hbx2.lt
       have hwk3 := hwk2.below hb hwk2.lt
       have hB3 : Below w.heap.size w w3 := hB2.trans (hb.mono hB2.size)
       clear hb hz
       refine hK.out _ _ (hbx3.cell rfl) (fun hHeld => ?_)
       clear hK K
       try simp only [Act.put, lq1, lq2, lq3, lq4, lq5, lq6]
       refine wpAnyH_ready (rs := [10]) (by decide +kernel) (by simp) ?_
       refine (AllReadyH.cons (o := _) rfl (fun K hK => ?_) AllReadyH.nil)
       ·refine ifT rfl ?_
        refine oper_make _ _ _ 26 rfl 3 (.int .i64 0) 8 Try.underlying26 Try.infoInt rfl g.nodes.length rfl rfl (by omega) (by omega) ?_
        intro w4 hb hz hr10_4
        have g10 : w.heap.size + 1 < w3.heap.size := hwk3.lt
        have l6_10 := hr6_3.lt
        have hr6_4 := hr6_3.below hb hr6_3.lt
        have l14_10 := hr14_3.lt
        have hr14_4 := hr14_3.below hb hr14_3.lt
        have hbx4 := hbx3.below hb hbx3.lt
        have hwk4 := hwk3.below hb hwk3.lt
        have hB4 : Below w.heap.size w w4 := hB3.trans (hb.mono hB3.size)
        clear hb hz
        refine hK.out _ _ (hbx4.cell rfl) (fun hHeld => ?_)
        clear hK K
        try simp only [Act.put, lq1, lq2, lq3, lq4, lq5, lq6]
        refine wpAnyH_take (i := 18) (v := ?_) rfl (by kernel_rfl) (by kernel_rfl) (by kernel_rfl) (fun _ _ _ h => h) (Or.inl ⟨by rfl, ?_⟩) hHeld ?_
        rotate_left
        ·intro wx hSx; (try dsimp only at hSx); go_split_ands; go_simp; try (with_reducible rfl)
        try simp only [Act.put, lq1, lq2, lq3, lq4, lq5, lq6]
        refine wpAnyH_take (i := 19) (v := ?_) rfl (by kernel_rfl) (by kernel_rfl) (by kernel_rfl) (fun _ _ _ h => h) (Or.inl ⟨by rfl, ?_⟩) hHeld ?_
        rotate_left
        ·intro wx hSx; (try dsimp only at hSx); go_split_ands; go_simp; try (with_reducible rfl)
        try simp only [Act.put, lq1, lq2, lq3, lq4, lq5, lq6]
        refine wpAnyH_ready (rs := [20]) (by decide +kernel) (by simp) ?_
        refine (AllReadyH.cons (o := _) rfl (fun K hK => ?_) AllReadyH.nil)
        ·have yy := hwk4.cell (i := 4) rfl
         have ff := hwk4.frozen 4
         go_simp
         obtain ⟨w5, hw⟩ : ∃ W, W = w4.setCell ⟨w.heap.size + 1, 4, none⟩ (.slice (some ⟨w3.heap.size, 0, none⟩) g.nodes.length g.nodes.length) := ⟨_, rfl⟩
         rw [← hw]
         have hbx5 : Row w5 _ _ _ := hw ▸ hbx4.other (a := ⟨w.heap.size + 1, 4, none⟩) (by simp) (.slice (some ⟨w3.heap.size, 0, none⟩) g.nodes.length g.nodes.length)
         have hwk5 : Row w5 _ _ _ := hw ▸ hwk4.set 4 (.slice (some ⟨w3.heap.size, 0, none⟩) g.nodes.length g.nodes.length)
         have hr6_5 : Row w5 _ _ _ := hw ▸ hr6_4.other (a := ⟨w.heap.size + 1, 4, none⟩) (by simp; omega) (.slice (some ⟨w3.heap.size, 0, none⟩) g.nodes.length g.nodes.length)
         have hr10_5 : Row w5 _ _ _ := hw ▸ hr10_4.other (a := ⟨w.heap.size + 1, 4, none⟩) (by simp; omega) (.slice (some ⟨w3.heap.size, 0, none⟩) g.nodes.length g.nodes.length)
         have hr14_5 : Row w5 _ _ _ := hw ▸ hr14_4.other (a := ⟨w.heap.size + 1, 4, none⟩) (by simp; omega) (.slice (some ⟨w3.heap.size, 0, none⟩) g.nodes.length g.nodes.length)
         have hB5 : Below w.heap.size w w5 := hw ▸ hB4.setCell (p := ⟨w.heap.size + 1, 4, none⟩) (by simp) (.slice (some ⟨w3.heap.size, 0, none⟩) g.nodes.length g.nodes.length)
         clear hw yy ff
         refine hK.out _ _ (hbx5.cell rfl) (fun hHeld => ?_)
         clear hK K
         try simp only [Act.put, lq1, lq2, lq3, lq4, lq5, lq6]
         refine wpAnyH_take (i := 21) (v := ?_) rfl (by kernel_rfl) (by kernel_rfl) (by kernel_rfl) (fun _ _ _ h => h) (Or.inl ⟨by rfl, ?_⟩) hHeld ?_
         rotate_left
         ·intro wx hSx; (try dsimp only at hSx); go_split_ands; go_simp; try (with_reducible rfl)
         try simp only [Act.put, lq1, lq2, lq3, lq4, lq5, lq6]
         refine wpAnyH_take (i := 22) (v := ?_) rfl (by kernel_rfl) (by kernel_rfl) (by kernel_rfl) (fun _ _ _ h => h) (Or.inl ⟨by rfl, ?_⟩) hHeld ?_
         rotate_left
         ·intro wx hSx; (try dsimp only at hSx); go_split_ands; go_simp; try (with_reducible rfl)
         try simp only [Act.put, lq1, lq2, lq3, lq4, lq5, lq6]
         refine wpAnyH_ready (rs := [23]) (by decide +kernel) (by simp) ?_
         refine (AllReadyH.cons (o := _) rfl (fun K hK => ?_) AllReadyH.nil)
         ·have yy := hwk5.cell (i := 5) rfl
          have ff := hwk5.frozen 5
          go_simp
          obtain ⟨w6, hw⟩ : ∃ W, W = w5.setCell ⟨w.heap.size + 1, 5, none⟩ (.slice (some ⟨w2.heap.size, 0, none⟩) g.nodes.length g.nodes.length) := ⟨_, rfl⟩
          rw [← hw]
          have hbx6 : Row w6 _ _ _ := hw ▸ hbx5.other (a := ⟨w.heap.size + 1, 5, none⟩) (by simp) (.slice (some ⟨w2.heap.size, 0, none⟩) g.nodes.length g.nodes.length)
          have hwk6 : Row w6 _ _ _ := hw ▸ hwk5.set 5 (.slice (some ⟨w2.heap.size, 0, none⟩) g.nodes.length g.nodes.length)
          have hr6_6 : Row w6 _ _ _ := hw ▸ hr6_5.other (a := ⟨w.heap.size + 1, 5, none⟩) (by simp; omega) (.slice (some ⟨w2.heap.size, 0, none⟩) g.nodes.length g.nodes.length)
          have hr10_6 : Row w6 _ _ _ := hw ▸ hr10_5.other (a := ⟨w.heap.size + 1, 5, none⟩) (by simp; omega) (.slice (some ⟨w2.heap.size, 0, none⟩) g.nodes.length g.nodes.length)
          have hr14_6 : Row w6 _ _ _ := hw ▸ hr14_5.other (a := ⟨w.heap.size + 1, 5, none⟩) (by simp; omega) (.slice (some ⟨w2.heap.size, 0, none⟩) g.nodes.length g.nodes.length)
          have hB6 : Below w.heap.size w w6 := hw ▸ hB5.setCell (p := ⟨w.heap.size + 1, 5, none⟩) (by simp) (.slice (some ⟨w2.heap.size, 0, none⟩) g.nodes.length g.nodes.length)
          clear hw yy ff
          refine hK.out _ _ (hbx6.cell rfl) (fun hHeld => ?_)
          clear hK K
          try simp only [Act.put, lq1, lq2, lq3, lq4, lq5, lq6]
          refine wpAnyH_done (by kernel_rfl) ?_ _
          clear hHeld
          go_wp2_with fail
          go_meet
          exact ⟨w0.heap.size, w3.heap.size, w2.heap.size, ⟨hwk6, by simpa [intsV] using hr6_6, by simpa [intsV] using hr10_6, by simpa [intsV] using hr14_6⟩, hbx6, hB6, g6, g10, g14, by omega, by omega, by omega⟩
    ·refine ifT rfl ?_
     refine oper_make _ _ _ 26 rfl 3 (.int .i64 0) 8 Try.underlying26 Try.infoInt rfl g.nodes.length rfl rfl (by omega) (by omega) ?_
     intro w1 hb hz hr10_1
     have g10 : w.heap.size + 1 < w0.heap.size := hwk0.lt
     have hbx1 := hbx0.below hb hbx0.lt
     have hwk1 := hwk0.below hb hwk0.lt
     have hB1 : Below w.heap.size w w1 := hB0.trans (hb.mono hB0.size)
     clear hb hz
     refine hK.out _ _ (hbx1.cell rfl) (fun hHeld => ?_)
     clear hK K
     try simp only [Act.put, lq1, lq2, lq3, lq4, lq5, lq6]
     refine wpAnyH_ready (rs := [6, 14]) (by decide +kernel) (by simp) ?_
     refine (AllReadyH.cons (o := _) rfl (fun K hK => ?_) (AllReadyH.cons (o := _) rfl (fun K hK => ?_) AllReadyH.nil))
     ·refine ifT rfl ?_
      refine oper_make _ _ _ 26 rfl 3 (.int .i64 0) 8 Try.underlying26 Try.infoInt rfl g.nodes.length rfl rfl (by omega) (by omega) ?_
      intro w2 hb hz hr6_2
      have g6 : w.heap.size + 1 < w1.heap.size := hwk1.lt
      have l10_6 := hr10_1.lt
      have hr10_2 := hr10_1.below hb hr10_1.lt
      have hbx2 := hbx1.below hb hbx1.lt
      have hwk2 := hwk1.below hb hwk1.lt
      have hB2 : Below w.heap.size w w2 := hB1.trans (hb.mono hB1.size)
      clear hb hz
      refine hK.out _ _ (hbx2.cell rfl) (fun hHeld => ?_)
      clear hK K
      try simp only [Act.put, lq1, lq2, lq3, lq4, lq5, lq6]
      refine wpAnyH_take (i := 15) (v := ?_) rfl (by kernel_rfl) (by kernel_rfl) (by kernel_rfl) (fun _ _ _ h => h) (Or.inl ⟨by rfl, ?_⟩) hHeld ?_
      rotate_left
      ·intro wx hSx; (try dsimp only at hSx); go_split_ands; go_simp; try (with_reducible rfl)
      try simp only [Act.put, lq1, lq2, lq3, lq4, lq5, lq6]
      refine wpAnyH_take (i := 16) (v := ?_) rfl (by kernel_rfl) (by kernel_rfl) (by kernel_rfl) (fun _ _ _ h => h) (Or.inl ⟨by rfl, ?_⟩) hHeld ?_
      rotate_left
      ·intro wx hSx; (try dsimp only at hSx); go_split_ands; go_simp; try (with_reducible rfl)
      try simp only [Act.put, lq1, lq2, lq3, lq4, lq5, lq6]
      refine wpAnyH_ready (rs := [14, 17]) (by decide +kernel) (by simp) ?_
      refine (AllReadyH.cons (o := _) rfl (fun K hK => ?_) (AllReadyH.cons (o := _) rfl (fun K hK => ?_) AllReadyH.nil))
      ·refine ifT rfl ?_
       refine oper_make _ _ _ 26 rfl 3 (.int .i64 0) 8 Try.underlying26 Try.infoInt rfl g.nodes.length rfl rfl (by omega) (by omega) ?_
       intro w3 hb hz hr14_3
       have g14 : w.heap.size + 1 < w2.heap.size := hwk2.lt
       have l6_14 := hr6_2.lt
       have hr6_3 := hr6_2.below hb hr6_2.lt
       have l10_14 := hr10_2.lt
       have hr10_3 := hr10_2.below hb hr10_2.lt
       have hbx3 := hbx2.below hb hbx2.lt
       have hwk3 := hwk2.below hb hwk2.lt
       have hB3 : Below w.heap.size w w3 := hB2.trans (hb.mono hB2.size)
       clear hb hz
       refine hK.out _ _ (hbx3.cell rfl) (fun hHeld => ?_)
       clear hK K
       try simp only [Act.put, lq1, lq2, lq3, lq4, lq5, lq6]
       refine wpAnyH_ready (rs := [17]) (by decide +kernel) (by simp) ?_
       refine (AllReadyH.cons (o := _) rfl (fun K hK => ?_) AllReadyH.nil)
       ·have yy := hwk3.cell (i := 3) rfl
        have ff := hwk3.frozen 3
        go_simp
        obtain ⟨w4, hw⟩ : ∃ W, W = w3.setCell ⟨w.heap.size + 1, 3, none⟩ (.slice (some ⟨w1.heap.size, 0, none⟩) g.nodes.length g.nodes.length) := ⟨_, rfl⟩
        rw [← hw]
        have hbx4 : Row w4 _ _ _ := hw ▸ hbx3.other (a := ⟨w.heap.size + 1, 3, none⟩) (by simp) (.slice (some ⟨w1.heap.size, 0, none⟩) g.nodes.length g.nodes.length)
        have hwk4 : Row w4 _ _ _ := hw ▸ hwk3.set 3 (.slice (some ⟨w1.heap.size, 0, none⟩) g.nodes.length g.nodes.length)
        have hr6_4 : Row w4 _ _ _ := hw ▸ hr6_3.other (a := ⟨w.heap.size + 1, 3, none⟩) (by simp; omega) (.slice (some ⟨w1.heap.size, 0, none⟩) g.nodes.length g.nodes.length)
        have hr10_4 : Row w4 _ _ _ := hw ▸ hr10_3.other (a := ⟨w.heap.size + 1, 3, none⟩) (by simp; omega) (.slice (some ⟨w1.heap.size, 0, none⟩) g.nodes.length g.nodes.length)
        have hr14_4 : Row w4 _ _ _ := hw ▸ hr14_3.other (a := ⟨w.heap.size + 1, 3, none⟩) (by simp; omega) (.slice (some ⟨w1.heap.size, 0, none⟩) g.nodes.length g.nodes.length)
        have hB4 : Below w.heap.size w w4 := hw ▸ hB3.setCell (p := ⟨w.heap.size + 1, 3, none⟩) (by simp) (.slice (some ⟨w1.heap.size, 0, none⟩) g.nodes.length g.nodes.length)
        clear hw yy ff
        refine hK.out _ _ (hbx4.cell rfl) (fun hHeld => ?_)
        clear hK K
        try simp only [Act.put, lq1, lq2, lq3, lq4, lq5, lq6]
        refine wpAnyH_take (i := 18) (v := ?_) rfl (by kernel_rfl) (by kernel_rfl) (by kernel_rfl) (fun _ _ _ h => h) (Or.inl ⟨by rfl, ?_⟩) hHeld ?_
        rotate_left
        ·intro wx hSx; (try dsimp only at hSx); go_split_ands; go_simp; try (with_reducible rfl)
        try simp only [Act.put, lq1, lq2, lq3, lq4, lq5, lq6]
        refine wpAnyH_take (i := 19) (v := ?_) rfl (by kernel_rfl) (by kernel_rfl) (by kernel_rfl) (fun _ _ _ h => h) (Or.inl ⟨by rfl, ?_⟩) hHeld ?_
        rotate_left
        ·intro wx hSx; (try dsimp only at hSx); go_split_ands; go_simp; try (with_reducible rfl)
        try simp only [Act.put, lq1, lq2, lq3, lq4, lq5, lq6]
        refine wpAnyH_ready (rs := [20]) (by decide +kernel) (by simp) ?_
        refine (AllReadyH.cons (o := _) rfl (fun K hK => ?_) AllReadyH.nil)
        ·have yy := hwk4.cell (i := 4) rfl
         have ff := hwk4.frozen 4
         go_simp
         obtain ⟨w5, hw⟩ : ∃ W, W = w4.setCell ⟨w.heap.size + 1, 4, none⟩ (.slice (some ⟨w0.heap.size, 0, none⟩) g.nodes.length g.nodes.length) := ⟨_, rfl⟩
         rw [← hw]
         have hbx5 : Row w5 _ _ _ := hw ▸ hbx4.other (a := ⟨w.heap.size + 1, 4, none⟩) (by simp) (.slice (some ⟨w0.heap.size, 0, none⟩) g.nodes.length g.nodes.length)
         have hwk5 : Row w5 _ _ _ := hw ▸ hwk4.set 4 (.slice (some ⟨w0.heap.size, 0, none⟩) g.nodes.length g.nodes.length)
         have hr6_5 : Row w5 _ _ _ := hw ▸ hr6_4.other (a := ⟨w.heap.size + 1, 4, none⟩) (by simp; omega) (.slice (some ⟨w0.heap.size, 0, none⟩) g.nodes.length g.nodes.length)
         have hr10_5 : Row w5 _ _ _ := hw ▸ hr10_4.other (a := ⟨w.heap.size + 1, 4, none⟩) (by simp; omega) (.slice (some ⟨w0.heap.size, 0, none⟩) g.nodes.length g.nodes.length)
         have hr14_5 : Row w5 _ _ _ := hw ▸ hr14_4.other (a := ⟨w.heap.size + 1, 4, none⟩) (by simp; omega) (.slice (some ⟨w0.heap.size, 0, none⟩) g.nodes.length g.nodes.length)
         have hB5 : Below w.heap.size w w5 := hw ▸ hB4.setCell (p := ⟨w.heap.size + 1, 4, none⟩) (by simp) (.slice (some ⟨w0.heap.size, 0, none⟩) g.nodes.length g.nodes.length)
         clear hw yy ff
         refine hK.out _ _ (hbx5.cell rfl) (fun hHeld => ?_)
         clear hK K
         try simp only [Act.put, lq1, lq2, lq3, lq4, lq5, lq6]
         refine wpAnyH_take (i := 21) (v := ?_) rfl (by kernel_rfl) (by kernel_rfl) (by kernel_rfl) (fun _ _ _ h => h) (Or.inl ⟨by rfl, ?_⟩) hHeld ?_
         rotate_left
         ·intro wx hSx; (try dsimp only at hSx); go_split_ands; go_simp; try (with_reducible rfl)
         try simp only [Act.put, lq1, lq2, lq3, lq4, lq5, lq6]
         refine wpAnyH_take (i := 22) (v := ?_) rfl (by kernel_rfl) (by kernel_rfl) (by kernel_rfl) (fun _ _ _ h => h) (Or.inl ⟨by rfl, ?_⟩) hHeld ?_
         rotate_left
         ·intro wx hSx; (try dsimp only at hSx); go_split_ands; go_simp; try (with_reducible rfl)
         try simp only [Act.put, lq1, lq2, lq3, lq4, lq5, lq6]
         refine wpAnyH_ready (rs := [23]) (by decide +kernel) (by simp) ?_
         refine (AllReadyH.cons (o := _) rfl (fun K hK => ?_) AllReadyH.nil)
         ·have yy := hwk5.cell (i := 5) rfl
          have ff := hwk5.frozen 5
          go_simp
          obtain ⟨w6, hw⟩ : ∃ W, W = w5.setCell ⟨w.heap.size + 1, 5, none⟩ (.slice (some ⟨w2.heap.size, 0, none⟩) g.nodes.length g.nodes.length) := ⟨_, rfl⟩
          rw [← hw]
          have hbx6 : Row w6 _ _ _ := hw ▸ hbx5.other (a := ⟨w.heap.size + 1, 5, none⟩) (by simp) (.slice (some ⟨w2.heap.size, 0, none⟩) g.nodes.length g.nodes.length)
          have hwk6 : Row w6 _ _ _ := hw ▸ hwk5.set 5 (.slice (some ⟨w2.heap.size, 0, none⟩) g.nodes.length g.nodes.length)
          have hr6_6 : Row w6 _ _ _ := hw ▸ hr6_5.other (a := ⟨w.heap.size + 1, 5, none⟩) (by simp; omega) (.slice (some ⟨w2.heap.size, 0, none⟩) g.nodes.length g.nodes.length)
          have hr10_6 : Row w6 _ _ _ := hw ▸ hr10_5.other (a := ⟨w.heap.size + 1, 5, none⟩) (by simp; omega) (.slice (some ⟨w2.heap.size, 0, none⟩) g.nodes.length g.nodes.length)
          have hr14_6 : Row w6 _ _ _ := hw ▸ hr14_5.other (a := ⟨w.heap.size + 1, 5, none⟩) (by simp; omega) (.slice (some ⟨w2.heap.size, 0, none⟩) g.nodes.length g.nodes.length)
          have hB6 : Below w.heap.size w w6 := hw ▸ hB5.setCell (p := ⟨w.heap.size + 1, 5, none⟩) (by simp) (.slice (some ⟨w2.heap.size, 0, none⟩) g.nodes.length g.nodes.length)
          clear hw yy ff
          refine hK.out _ _ (hbx6.cell rfl) (fun hHeld => ?_)
          clear hK K
          try simp only [Act.put, lq1, lq2, lq3, lq4, lq5, lq6]
          refine wpAnyH_done (by kernel_rfl) ?_ _
          clear hHeld
          go_wp2_with fail
          go_meet
          exact ⟨w1.heap.size, w0.heap.size, w2.heap.size, ⟨hwk6, by simpa [intsV] using hr6_6, by simpa [intsV] using hr10_6, by simpa [intsV] using hr14_6⟩, hbx6, hB6, g6, g10, g14, by omega, by omega, by omega⟩
      ·have yy := hwk2.cell (i := 3) rfl
       have ff := hwk2.frozen 3
       go_simp
       obtain ⟨w3, hw⟩ : ∃ W, W = w2.setCell ⟨w.heap.size + 1, 3, none⟩ (.slice (some ⟨w1.heap.size, 0, none⟩) g.nodes.length g.nodes.length) := ⟨_, rfl⟩
       rw [← hw]
       have hbx3 : Row w3 _ _ _ := hw ▸ hbx2.other (a := ⟨w.heap.size + 1, 3, none⟩) (by simp) (.slice (some ⟨w1.heap.size, 0, none⟩) g.nodes.length g.nodes.length)
       have hwk3 : Row w3 _ _ _ := hw ▸ hwk2.set 3 (.slice (some ⟨w1.heap.size, 0, none⟩) g.nodes.length g.nodes.length)
       have hr6_3 : Row w3 _ _ _ := hw ▸ hr6_2.other (a := ⟨w.heap.size + 1, 3, none⟩) (by simp; omega) (.slice (some ⟨w1.heap.size, 0, none⟩) g.nodes.length g.nodes.length)
       have hr10_3 : Row w3 _ _ _ := hw ▸ hr10_2.other (a := ⟨w.heap.size + 1, 3, none⟩) (by simp; omega) (.slice (some ⟨w1.heap.size, 0, none⟩) g.nodes.length g.nodes.length)
       have hB3 : Below w.heap.size w w3 := hw ▸ hB2.setCell (p := ⟨w.heap.size + 1, 3, none⟩) (by simp) (.slice (some ⟨w1.heap.size, 0, none⟩) g.nodes.length g.nodes.length)
       clear hw yy ff
       refine hK.out _ _ (hbx3.cell rfl) (fun hHeld => ?_)
       clear hK K
       try simp only [Act.put, lq1, lq2, lq3, lq4, lq5, lq6]
       refine wpAnyH_take (i := 18) (v := ?_) rfl (by kernel_rfl) (by kernel_rfl) (by kernel_rfl) (fun _ _ _ h => h) (Or.inl ⟨by rfl, ?_⟩) hHeld ?_
       rotate_left
       ·intro wx hSx; (try dsimp only at hSx); go_split_ands; go_simp; try (with_reducible rfl)
       try simp only [Act.put, lq1, lq2, lq3, lq4, lq5, lq6]
       refine wpAnyH_take (i := 19) (v := ?_) rfl (by kernel_rfl) (by kernel_rfl) (by kernel_rfl) (fun _ _ _ h => h) (Or.inl ⟨by rfl, ?_⟩) hHeld ?_
       rotate_left
       ·intro wx hSx; (try dsimp only at hSx); go_split_ands; go_simp; try (with_reducible rfl)
       try simp only [Act.put, lq1, lq2, lq3, lq4, lq5, lq6]
       refine wpAnyH_ready (rs := [14, 20]) (by decide +kernel) (by simp) ?_
       refine (AllReadyH.cons (o := _) rfl (fun K hK => ?_) (AllReadyH.cons (o := _) rfl (fun K hK => ?_) AllReadyH.nil))
       ·refine ifT rfl ?_
        refine oper_make _ _ _ 26 rfl 3 (.int .i64 0) 8 Try.underlying26 Try.infoInt rfl g.nodes.length rfl rfl (by omega) (by omega) ?_
        intro w4 hb hz hr14_4
        have g14 : w.heap.size + 1 < w3.heap.size := hwk3.lt
        have l6_14 := hr6_3.lt
        have hr6_4 := hr6_3.below hb hr6_3.lt
        have l10_14 := hr10_3.lt
        have hr10_4 := hr10_3.below hb hr10_3.lt
        have hbx4 := hbx3.below hb hbx3.lt
        have hwk4 := hwk3.below hb hwk3.lt
        have hB4 : Below w.heap.size w w4 := hB3.trans (hb.mono hB3.size)
        clear hb hz
        refine hK.out _ _ (hbx4.cell rfl) (fun hHeld => ?_)
        clear hK K
        try simp only [Act.put, lq1, lq2, lq3, lq4, lq5, lq6]
        refine wpAnyH_ready (rs := [20]) (by decide +kernel) (by simp) ?_
        refine (AllReadyH.cons (o := _) rfl (fun K hK => ?_) AllReadyH.nil)
        ·have yy := hwk4.cell (i := 4) rfl
         have ff := hwk4.frozen 4
         go_simp
         obtain ⟨w5, hw⟩ : ∃ W, W = w4.setCell ⟨w.heap.size + 1, 4, none⟩ (.slice (some ⟨w0.heap.size, 0, none⟩) g.nodes.length g.nodes.length) := ⟨_, rfl⟩
         rw [← hw]
         have hbx5 : Row w5 _ _ _ := hw ▸ hbx4.other (a := ⟨w.heap.size + 1, 4, none⟩) (by simp) (.slice (some ⟨w0.heap.size, 0, none⟩) g.nodes.length g.nodes.length)
         have hwk5 : Row w5 _ _ _ := hw ▸ hwk4.set 4 (.slice (some ⟨w0.heap.size, 0, none⟩) g.nodes.length g.nodes.length)
         have hr6_5 : Row w5 _ _ _ := hw ▸ hr6_4.other (a := ⟨w.heap.size + 1, 4, none⟩) (by simp; omega) (.slice (some ⟨w0.heap.size, 0, none⟩) g.nodes.length g.nodes.length)
         have hr10_5 : Row w5 _ _ _ := hw ▸ hr10_4.other (a := ⟨w.heap.size + 1, 4, none⟩) (by simp; omega) (.slice (some ⟨w0.heap.size, 0, none⟩) g.nodes.length g.nodes.length)
         have hr14_5 : Row w5 _ _ _ := hw ▸ hr14_4.other (a := ⟨w.heap.size + 1, 4, none⟩) (by simp; omega) (.slice (some ⟨w0.heap.size, 0, none⟩) g.nodes.length g.nodes.length)
         have hB5 : Below w.heap.size w w5 := hw ▸ hB4.setCell (p := ⟨w.heap.size + 1, 4, none⟩) (by simp) (.slice (some ⟨w0.heap.size, 0, none⟩) g.nodes.length g.nodes.length)
         clear hw yy ff
         refine hK.out _ _ (hbx5.cell rfl) (fun hHeld => ?_)
         clear hK K
         try simp only [Act.put, lq1, lq2, lq3, lq4, lq5, lq6]
         refine wpAnyH_take (i := 21) (v := ?_) rfl (by kernel_rfl) (by kernel_rfl) (by kernel_rfl) (fun _ _ _ h => h) (Or.inl ⟨by rfl, ?_⟩) hHeld ?_
         rotate_left
         ·intro wx hSx; (try dsimp only at hSx); go_split_ands; go_simp; try (with_reducible rfl)
         try simp only [Act.put, lq1, lq2, lq3, lq4, lq5, lq6]
         refine wpAnyH_take (i := 22) (v := ?_) rfl (by kernel_rfl) (by kernel_rfl) (by kernel_rfl) (fun _ _ _ h => h) (Or.inl ⟨by rfl, ?_⟩) hHeld ?_
         rotate_left
         ·intro wx hSx; (try dsimp only at hSx); go_split_ands; go_simp; try (with_reducible rfl)
         try simp only [Act.put, lq1, lq2, lq3, lq4, lq5, lq6]
         refine wpAnyH_ready (rs := [23]) (by decide +kernel) (by simp) ?_
         refine (AllReadyH.cons (o := _) rfl (fun K hK => ?_) AllReadyH.nil)
         ·have yy := hwk5.cell (i := 5) rfl
          have ff := hwk5.frozen 5
          go_simp
          obtain ⟨w6, hw⟩ : ∃ W, W = w5.setCell ⟨w.heap.size + 1, 5, none⟩ (.slice (some ⟨w3.heap.size, 0, none⟩) g.nodes.length g.nodes.length) := ⟨_, rfl⟩
          rw [← hw]
          have hbx6 : Row w6 _ _ _ := hw ▸ hbx5.other (a := ⟨w.heap.size + 1, 5, none⟩) (by simp) (.slice (some ⟨w3.heap.size, 0, none⟩) g.nodes.length g.nodes.length)
          have hwk6 : Row w6 _ _ _ := hw ▸ hwk5.set 5 (.slice (some ⟨w3.heap.size, 0, none⟩) g.nodes.length g.nodes.length)
          have hr6_6 : Row w6 _ _ _ := hw ▸ hr6_5.other (a := ⟨w.heap.size + 1, 5, none⟩) (by simp; omega) (.slice (some ⟨w3.heap.size, 0, none⟩) g.nodes.length g.nodes.length)
          have hr10_6 : Row w6 _ _ _ := hw ▸ hr10_5.other (a := ⟨w.heap.size + 1, 5, none⟩) (by simp; omega) (.slice (some ⟨w3.heap.size, 0, none⟩) g.nodes.length g.nodes.length)
          have hr14_6 : Row w6 _ _ _ := hw ▸ hr14_5.other (a := ⟨w.heap.size + 1, 5, none⟩) (by simp; omega) (.slice (some ⟨w3.heap.size, 0, none⟩) g.nodes.length g.nodes.length)
          have hB6 : Below w.heap.size w w6 := hw ▸ hB5.setCell (p := ⟨w.heap.size + 1, 5, none⟩) (by simp) (.slice (some ⟨w3.heap.size, 0, none⟩) g.nodes.length g.nodes.length)
          clear hw yy ff
          refine hK.out _ _ (hbx6.cell rfl) (fun hHeld => ?_)
          clear hK K
          try simp only [Act.put, lq1, lq2, lq3, lq4, lq5, lq6]
          refine wpAnyH_done (by kernel_rfl) ?_ _
          clear hHeld
          go_wp2_with fail
          go_meet
          exact ⟨w1.heap.size, w0.heap.size, w3.heap.size, ⟨hwk6, by simpa [intsV] using hr6_6, by simpa [intsV] using hr10_6, by simpa [intsV] using hr14_6⟩, hbx6, hB6, g6, g10, g14, by omega, by omega, by omega⟩
       ·have yy := hwk3.cell (i := 4) rfl
        have ff := hwk3.frozen 4
        go_simp
        obtain ⟨w4, hw⟩ : ∃ W, W = w3.setCell ⟨w.heap.size + 1, 4, none⟩ (.slice (some ⟨w0.heap.size, 0, none⟩) g.nodes.length g.nodes.length) := ⟨_, rfl⟩
        rw [← hw]
        have hbx4 : Row w4 _ _ _ := hw ▸ hbx3.other (a := ⟨w.heap.size + 1, 4, none⟩) (by simp) (.slice (some ⟨w0.heap.size, 0, none⟩) g.nodes.length g.nodes.length)
        have hwk4 : Row w4 _ _ _ := hw ▸ hwk3.set 4 (.slice (some ⟨w0.heap.size, 0, none⟩) g.nodes.length g.nodes.length)
        have hr6_4 : Row w4 _ _ _ := hw ▸ hr6_3.other (a := ⟨w.heap.size + 1, 4, none⟩) (by simp; omega) (.slice (some ⟨w0.heap.size, 0, none⟩) g.nodes.length g.nodes.length)
        have hr10_4 : Row w4 _ _ _ := hw ▸ hr10_3.other (a := ⟨w.heap.size + 1, 4, none⟩) (by simp; omega) (.slice (some ⟨w0.heap.size, 0, none⟩) g.nodes.length g.nodes.length)
        have hB4 : Below w.heap.size w w4 := hw ▸ hB3.setCell (p := ⟨w.heap.size + 1, 4, none⟩) (by simp) (.slice (some ⟨w0.heap.size, 0, none⟩) g.nodes.length g.nodes.length)
        clear hw yy ff
        refine hK.out _ _ (hbx4.cell rfl) (fun hHeld => ?_)
        clear hK K
        try simp only [Act.put, lq1, lq2, lq3, lq4, lq5, lq6]
        refine wpAnyH_ready (rs := [14]) (by decide +kernel) (by simp) ?_
        refine (AllReadyH.cons (o := _) rfl (fun K hK => ?_) AllReadyH.nil)
        ·refine ifT rfl ?_
         refine oper_make _ _ _ 26 rfl 3 (.int .i64 0) 8 Try.underlying26 Try.infoInt rfl g.nodes.length rfl rfl (by omega) (by omega) ?_
         intro w5 hb hz hr14_5
         have g14 : w.heap.size + 1 < w4.heap.size := hwk4.lt
         have l6_14 := hr6_4.lt
         have hr6_5 := hr6_4.below hb hr6_4.lt
         have l10_14 := hr10_4.lt
         have hr10_5 := hr10_4.below hb hr10_4.lt
         have hbx5 := hbx4.below hb hbx4.lt
         have hwk5 := hwk4.below hb hwk4.lt
         have hB5 : Below w.heap.size w w5 := hB4.trans (hb.mono hB4.size)
         clear hb hz
         refine hK.out _ _ (hbx5.cell rfl) (fun hHeld => ?_)
         clear hK K
         try simp only [Act.put, lq1, lq2, lq3, lq4, lq5, lq6]
         refine wpAnyH_take (i := 21) (v := ?_) rfl (by kernel_rfl) (by kernel_rfl) (by kernel_rfl) (fun _ _ _ h => h) (Or.inl ⟨by rfl, ?_⟩) hHeld ?_
         rotate_left
         ·intro wx hSx; (try dsimp only at hSx); go_split_ands; go_simp; try (with_reducible rfl)
         try simp only [Act.put, lq1, lq2, lq3, lq4, lq5, lq6]
         refine wpAnyH_take (i := 22) (v := ?_) rfl (by kernel_rfl) (by kernel_rfl) (by kernel_rfl) (fun _ _ _ h => h) (Or.inl ⟨by rfl, ?_⟩) hHeld ?_
         rotate_left
         ·intro wx hSx; (try dsimp only at hSx); go_split_ands; go_simp; try (with_reducible rfl)
         try simp only [Act.put, lq1, lq2, lq3, lq4, lq5, lq6]
         refine wpAnyH_ready (rs := [23]) (by decide +kernel) (by simp) ?_
         refine (AllReadyH.cons (o := _) rfl (fun K hK => ?_) AllReadyH.nil)
         ·have yy := hwk5.cell (i := 5) rfl
          have ff := hwk5.frozen 5
          go_simp
          obtain ⟨w6, hw⟩ : ∃ W, W = w5.setCell ⟨w.heap.size + 1, 5, none⟩ (.slice (some ⟨w4.heap.size, 0, none⟩) g.nodes.length g.nodes.length) := ⟨_, rfl⟩
          rw [← hw]
          have hbx6 : Row w6 _ _ _ := hw ▸ hbx5.other (a := ⟨w.heap.size + 1, 5, none⟩) (by simp) (.slice (some ⟨w4.heap.size, 0, none⟩) g.nodes.length g.nodes.length)
          have hwk6 : Row w6 _ _ _ := hw ▸ hwk5.set 5 (.slice (some ⟨w4.heap.size, 0, none⟩) g.nodes.length g.nodes.length)
          have hr6_6 : Row w6 _ _ _ := hw ▸ hr6_5.other (a := ⟨w.heap.size + 1, 5, none⟩) (by simp; omega) (.slice (some ⟨w4.heap.size, 0, none⟩) g.nodes.length g.nodes.length)
          have hr10_6 : Row w6 _ _ _ := hw ▸ hr10_5.other (a := ⟨w.heap.size + 1, 5, none⟩) (by simp; omega) (.slice (some ⟨w4.heap.size, 0, none⟩) g.nodes.length g.nodes.length)
          have hr14_6 : Row w6 _ _ _ := hw ▸ hr14_5.other (a := ⟨w.heap.size + 1, 5, none⟩) (by simp; omega) (.slice (some ⟨w4.heap.size, 0, none⟩) g.nodes.length g.nodes.length)
          have hB6 : Below w.heap.size w w6 := hw ▸ hB5.setCell (p := ⟨w.heap.size + 1, 5, none⟩) (by simp) (.slice (some ⟨w4.heap.size, 0, none⟩) g.nodes.length g.nodes.length)
          clear hw yy ff
          refine hK.out _ _ (hbx6.cell rfl) (fun hHeld => ?_)
          clear hK K
          try simp only [Act.put, lq1, lq2, lq3, lq4, lq5, lq6]
          refine wpAnyH_done (by kernel_rfl) ?_ _
          clear hHeld
          go_wp2_with fail
          go_meet
          exact ⟨w1.heap.size, w0.heap.size, w4.heap.size, ⟨hwk6, by simpa [intsV] using hr6_6, by simpa [intsV] using hr10_6, by simpa [intsV] using hr14_6⟩, hbx6, hB6, g6, g10, g14, by omega, by omega, by omega⟩
     ·refine ifT rfl ?_
      refine oper_make _ _ _ 26 rfl 3 (.int .i64 0) 8 Try.underlying26 Try.infoInt rfl g.nodes.length rfl rfl (by omega) (by omega) ?_
      intro w2 hb hz hr14_2
      have g14 : w.heap.size + 1 < w1.heap.size := hwk1.lt
      have l10_14 := hr10_1.lt
      have hr10_2 := hr10_1.below hb hr10_1.lt
      have hbx2 := hbx1.below hb hbx1.lt
      have hwk2 := hwk1.below hb hwk1.lt
      have hB2 : Below w.heap.size w w2 := hB1.trans (hb.mono hB1.size)
      clear hb hz
      refine hK.out _ _ (hbx2.cell rfl) (fun hHeld => ?_)
      clear hK K
      try simp only [Act.put, lq1, lq2, lq3, lq4, lq5, lq6]
      refine wpAnyH_ready (rs := [6]) (by decide +kernel) (by simp) ?_
      refine (AllReadyH.cons (o := _) rfl (fun K hK => ?_) AllReadyH.nil)
      ·refine ifT rfl ?_
       refine oper_make _ _ _ 26 rfl 3 (.int .i64 0) 8 Try.underlying26 Try.infoInt rfl g.nodes.length rfl rfl (by omega) (by omega) ?_
       intro w3 hb hz hr6_3
       have g6 : w.heap.size + 1 < w2.heap.size := hwk2.lt
       have l10_6 := hr10_2.lt
       have hr10_3 := hr10_2.below hb hr10_2.lt
       have l14_6 := hr14_2.lt
       have hr14_3 := hr14_2.below hb hr14_2.lt
       have hbx3 := hbx2.below hb hbx2.lt
       have hwk3 := hwk2.below hb hwk2.lt
       have hB3 : Below w.heap.size w w3 := hB2.trans (hb.mono hB2.size)
       clear hb hz
       refine hK.out _ _ (hbx3.cell rfl) (fun hHeld => ?_)
       clear hK K
       try simp only [Act.put, lq1, lq2, lq3, lq4, lq5, lq6]
       refine wpAnyH_take (i := 15) (v := ?_) rfl (by kernel_rfl) (by kernel_rfl) (by kernel_rfl) (fun _ _ _ h => h) (Or.inl ⟨by rfl, ?_⟩) hHeld ?_
       rotate_left
       ·intro wx hSx; (try dsimp only at hSx); go_split_ands; go_simp; try (with_reducible rfl)
       try simp only [Act.put, lq1, lq2, lq3, lq4, lq5, lq6]
       refine wpAnyH_take (i := 16) (v := ?_) rfl (by kernel_rfl) (by kernel_rfl) (by kernel_rfl) (fun _ _ _ h => h) (Or.inl ⟨by rfl, ?_⟩) hHeld ?_
       rotate_left
       ·intro wx hSx; (try dsimp only at hSx); go_split_ands; go_simp; try (with_reducible rfl)
       try simp only [Act.put, lq1, lq2, lq3, lq4, lq5, lq6]
       refine wpAnyH_ready (rs := [17]) (by decide +kernel) (by simp) ?_
       refine (AllReadyH.cons (o := _) rfl (fun K hK => ?_) AllReadyH.nil)
       ·have yy := hwk3.cell (i := 3) rfl
        have ff := hwk3.frozen 3
        go_simp
        obtain ⟨w4, hw⟩ : ∃ W, W = w3.setCell ⟨w.heap.size + 1, 3, none⟩ (.slice (some ⟨w2.heap.size, 0, none⟩) g.nodes.length g.nodes.length) := ⟨_, rfl⟩
        rw [← hw]
        have hbx4 : Row w4 _ _ _ := hw ▸ hbx3.other (a := ⟨w.heap.size + 1, 3, none⟩) (by simp) (.slice (some ⟨w2.heap.size, 0, none⟩) g.nodes.length g.nodes.length)
        have hwk4 : Row w4 _ _ _ := hw ▸ hwk3.set 3 (.slice (some ⟨w2.heap.size, 0, none⟩) g.nodes.length g.nodes.length)
        have hr6_4 : Row w4 _ _ _ := hw ▸ hr6_3.other (a := ⟨w.heap.size + 1, 3, none⟩) (by simp; omega) (.slice (some ⟨w2.heap.size, 0, none⟩) g.nodes.length g.nodes.length)
        have hr10_4 : Row w4 _ _ _ := hw ▸ hr10_3.other (a := ⟨w.heap.size + 1, 3, none⟩) (by simp; omega) (.slice (some ⟨w2.heap.size, 0, none⟩) g.nodes.length g.nodes.length)
        have hr14_4 : Row w4 _ _ _ := hw ▸ hr14_3.other (a := ⟨w.heap.size + 1, 3, none⟩) (by simp; omega) (.slice (some ⟨w2.heap.size, 0, none⟩) g.nodes.length g.nodes.length)
        have hB4 : Below w.heap.size w w4 := hw ▸ hB3.setCell (p := ⟨w.heap.size + 1, 3, none⟩) (by simp) (.slice (some ⟨w2.heap.size, 0, none⟩) g.nodes.length g.nodes.length)
        clear hw yy ff
        refine hK.out _ _ (hbx4.cell rfl) (fun hHeld => ?_)
        clear hK K
        try simp only [Act.put, lq1, lq2, lq3, lq4, lq5, lq6]
        refine wpAnyH_take (i := 18) (v := ?_) rfl (by kernel_rfl) (by kernel_rfl) (by kernel_rfl) (fun _ _ _ h => h) (Or.inl ⟨by rfl, ?_⟩) hHeld ?_
        rotate_left
        ·intro wx hSx; (try dsimp only at hSx); go_split_ands; go_simp; try (with_reducible rfl)
        try simp only [Act.put, lq1, lq2, lq3, lq4, lq5, lq6]
        refine wpAnyH_take (i := 19) (v := ?_) rfl (by kernel_rfl) (by kernel_rfl) (by kernel_rfl) (fun _ _ _ h => h) (Or.inl ⟨by rfl, ?_⟩) hHeld ?_
        rotate_left
        ·intro wx hSx; (try dsimp only at hSx); go_split_ands; go_simp; try (with_reducible rfl)
        try simp only [Act.put, lq1, lq2, lq3, lq4, lq5, lq6]
        refine wpAnyH_ready (rs := [20]) (by decide +kernel) (by simp) ?_
        refine (AllReadyH.cons (o := _) rfl (fun K hK => ?_) AllReadyH.nil)
        ·have yy := hwk4.cell (i := 4) rfl
         have ff := hwk4.frozen 4
         go_simp
         obtain ⟨w5, hw⟩ : ∃ W, W = w4.setCell ⟨w.heap.size + 1, 4, none⟩ (.slice (some ⟨w0.heap.size, 0, none⟩) g.nodes.length g.nodes.length) := ⟨_, rfl⟩
         rw [← hw]
         have hbx5 : Row w5 _ _ _ := hw ▸ hbx4.other (a := ⟨w.heap.size + 1, 4, none⟩) (by simp) (.slice (some ⟨w0.heap.size, 0, none⟩) g.nodes.length g.nodes.length)
         have hwk5 : Row w5 _ _ _ := hw ▸ hwk4.set 4 (.slice (some ⟨w0.heap.size, 0, none⟩) g.nodes.length g.nodes.length)
         have hr6_5 : Row w5 _ _ _ := hw ▸ hr6_4.other (a := ⟨w.heap.size + 1, 4, none⟩) (by simp; omega) (.slice (some ⟨w0.heap.size, 0, none⟩) g.nodes.length g.nodes.length)
         have hr10_5 : Row w5 _ _ _ := hw ▸ hr10_4.other (a := ⟨w.heap.size + 1, 4, none⟩) (by simp; omega) (.slice (some ⟨w0.heap.size, 0, none⟩) g.nodes.length g.nodes.length)
         have hr14_5 : Row w5 _ _ _ := hw ▸ hr14_4.other (a := ⟨w.heap.size + 1, 4, none⟩) (by simp; omega) (.slice (some ⟨w0.heap.size, 0, none⟩) g.nodes.length g.nodes.length)
         have hB5 : Below w.heap.size w w5 := hw ▸ hB4.setCell (p := ⟨w.heap.size + 1, 4, none⟩) (by simp) (.slice (some ⟨w0.heap.size, 0, none⟩) g.nodes.length g.nodes.length)
         clear hw yy ff
         refine hK.out _ _ (hbx5.cell rfl) (fun hHeld => ?_)
         clear hK K
         try simp only [Act.put, lq1, lq2, lq3, lq4, lq5, lq6]
         refine wpAnyH_take (i := 21) (v := ?_) rfl (by kernel_rfl) (by kernel_rfl) (by kernel_rfl) (fun _ _ _ h => h) (Or.inl ⟨by rfl, ?_⟩) hHeld ?_
         rotate_left
         ·intro wx hSx; (try dsimp only at hSx); go_split_ands; go_simp; try (with_reducible rfl)
         try simp only [Act.put, lq1, lq2, lq3, lq4, lq5, lq6]
         refine wpAnyH_take (i := 22) (v := ?_) rfl (by kernel_rfl) (by kernel_rfl) (by kernel_rfl) (fun _ _ _ h => h) (Or.inl ⟨by rfl, ?_⟩) hHeld ?_
         rotate_left
         ·intro wx hSx; (try dsimp only at hSx); go_split_ands; go_simp; try (with_reducible rfl)
         try simp only [Act.put, lq1, lq2, lq3, lq4, lq5, lq6]
         refine wpAnyH_ready (rs := [23]) (by decide +kernel) (by simp) ?_
         refine (AllReadyH.cons (o := _) rfl (fun K hK => ?_) AllReadyH.nil)
         ·have yy := hwk5.cell (i := 5) rfl
          have ff := hwk5.frozen 5
          go_simp
          obtain ⟨w6, hw⟩ : ∃ W, W = w5.setCell ⟨w.heap.size + 1, 5, none⟩ (.slice (some ⟨w1.heap.size, 0, none⟩) g.nodes.length g.nodes.length) := ⟨_, rfl⟩
          rw [← hw]
          have hbx6 : Row w6 _ _ _ := hw ▸ hbx5.other (a := ⟨w.heap.size + 1, 5, none⟩) (by simp) (.slice (some ⟨w1.heap.size, 0, none⟩) g.nodes.length g.nodes.length)
          have hwk6 : Row w6 _ _ _ := hw ▸ hwk5.set 5 (.slice (some ⟨w1.heap.size, 0, none⟩) g.nodes.length g.nodes.length)
          have hr6_6 : Row w6 _ _ _ := hw ▸ hr6_5.other (a := ⟨w.heap.size + 1, 5, none⟩) (by simp; omega) (.slice (some ⟨w1.heap.size, 0, none⟩) g.nodes.length g.nodes.length)
          have hr10_6 : Row w6 _ _ _ := hw ▸ hr10_5.other (a := ⟨w.heap.size + 1, 5, none⟩) (by simp; omega) (.slice (some ⟨w1.heap.size, 0, none⟩) g.nodes.length g.nodes.length)
          have hr14_6 : Row w6 _ _ _ := hw ▸ hr14_5.other (a := ⟨w.heap.size + 1, 5, none⟩) (by simp; omega) (.slice (some ⟨w1.heap.size, 0, none⟩) g.nodes.length g.nodes.length)
          have hB6 : Below w.heap.size w w6 := hw ▸ hB5.setCell (p := ⟨w.heap.size + 1, 5, none⟩) (by simp) (.slice (some ⟨w1.heap.size, 0, none⟩) g.nodes.length g.nodes.length)
          clear hw yy ff
          refine hK.out _ _ (hbx6.cell rfl) (fun hHeld => ?_)
          clear hK K
          try simp only [Act.put, lq1, lq2, lq3, lq4, lq5, lq6]
          refine wpAnyH_done (by kernel_rfl) ?_ _
          clear hHeld
          go_wp2_with fail
          go_meet
          exact ⟨w2.heap.size, w0.heap.size, w1.heap.size, ⟨hwk6, by simpa [intsV] using hr6_6, by simpa [intsV] using hr10_6, by simpa [intsV] using hr14_6⟩, hbx6, hB6, g6, g10, g14, by omega, by omega, by omega⟩
    ·refine ifT rfl ?_
     refine oper_make _ _ _ 26 rfl 3 (.int .i64 0) 8 Try.underlying26 Try.infoInt rfl g.nodes.length rfl rfl (by omega) (by omega) ?_
     intro w1 hb hz hr14_1
     have g14 : w.heap.size + 1 < w0.heap.size := hwk0.lt
     have hbx1 := hbx0.below hb hbx0.lt
     have hwk1 := hwk0.below hb hwk0.lt
     have hB1 : Below w.heap.size w w1 := hB0.trans (hb.mono hB0.size)
     clear hb hz
     refine hK.out _ _ (hbx1.cell rfl) (fun hHeld => ?_)
     clear hK K
     try simp only [Act.put, lq1, lq2, lq3, lq4, lq5, lq6]
     refine wpAnyH_ready (rs := [6, 10]) (by decide +kernel) (by simp) ?_
     refine (AllReadyH.cons (o := _) rfl (fun K hK => ?_) (AllReadyH.cons (o := _) rfl (fun K hK => ?_) AllReadyH.nil))
     ·refine ifT rfl ?_
      refine oper_make _ _ _ 26 rfl 3 (.int .i64 0) 8 Try.underlying26 Try.infoInt rfl g.nodes.length rfl rfl (by omega) (by omega) ?_
      intro w2 hb hz hr6_2
      have g6 : w.heap.size + 1 < w1.heap.size := hwk1.lt
      have l14_6 := hr14_1.lt
      have hr14_2 := hr14_1.below hb hr14_1.lt
      have hbx2 := hbx1.below hb hbx1.lt
      have hwk2 := hwk1.below hb hwk1.lt
      have hB2 : Below w.heap.size w w2 := hB1.trans (hb.mono hB1.size)
      clear hb hz
      refine hK.out _ _ (hbx2.cell rfl) (fun hHeld => ?_)
      clear hK K
      try simp only [Act.put, lq1, lq2, lq3, lq4, lq5, lq6]
      refine wpAnyH_take (i := 15) (v := ?_) rfl (by kernel_rfl) (by kernel_rfl) (by kernel_rfl) (fun _ _ _ h => h) (Or.inl ⟨by rfl, ?_⟩) hHeld ?_
      rotate_left
      ·intro wx hSx; (try dsimp only at hSx); go_split_ands; go_simp; try (with_reducible rfl)
      try simp only [Act.put, lq1, lq2, lq3, lq4, lq5, lq6]
      refine wpAnyH_take (i := 16) (v := ?_) rfl (by kernel_rfl) (by kernel_rfl) (by kernel_rfl) (fun _ _ _ h => h) (Or.inl ⟨by rfl, ?_⟩) hHeld ?_
      rotate_left
      ·intro wx hSx; (try dsimp only at hSx); go_split_ands; go_simp; try (with_reducible rfl)
      try simp only [Act.put, lq1, lq2, lq3, lq4, lq5, lq6]
      refine wpAnyH_ready (rs := [10, 17]) (by decide +kernel) (by simp) ?_
      refine (AllReadyH.cons (o := _) rfl (fun K hK => ?_) (AllReadyH.cons (o := _) rfl (fun K hK => ?_) AllReadyH.nil))
      ·refine ifT rfl ?_
       refine oper_make _ _ _ 26 rfl 3 (.int .i64 0) 8 Try.underlying26 Try.infoInt rfl g.nodes.length rfl rfl (by omega) (by omega) ?_
       intro w3 hb hz hr10_3
       have g10 : w.heap.size + 1 < w2.heap.size := hwk2.lt
       have l6_10 := hr6_2.lt
       have hr6_3 := hr6_2.below hb hr6_2.lt
       have l14_10 := hr14_2.lt
       have hr14_3 := hr14_2.below hb hr14_2.lt
       have hbx3 := hbx2.below hb hbx2.lt
       have hwk3 := hwk2.below hb hwk2.lt
       have hB3 : Below w.heap.size w w3 := hB2.trans (hb.mono hB2.size)
       clear hb hz
       refine hK.out _ _ (hbx3.cell rfl) (fun hHeld => ?_)
       clear hK K
       try simp only [Act.put, lq1, lq2, lq3, lq4, lq5, lq6]
       refine wpAnyH_ready (rs := [17]) (by decide +kernel) (by simp) ?_
       refine (AllReadyH.cons (o := _) rfl (fun K hK => ?_) AllReadyH.nil)
       ·have yy := hwk3.cell (i := 3) rfl
        have ff := hwk3.frozen 3
        go_simp
        obtain ⟨w4, hw⟩ : ∃ W, W = w3.setCell ⟨w.heap.size + 1, 3, none⟩ (.slice (some ⟨w1.heap.size, 0, none⟩) g.nodes.length g.nodes.length) := ⟨_, rfl⟩
        rw [← hw]
        have hbx4 : Row w4 _ _ _ := hw ▸ hbx3.other (a := ⟨w.heap.size + 1, 3, none⟩) (by simp) (.slice (some ⟨w1.heap.size, 0, none⟩) g.nodes.length g.nodes.length)
        have hwk4 : Row w4 _ _ _ := hw ▸ hwk3.set 3 (.slice (some ⟨w1.heap.size, 0, none⟩) g.nodes.length g.nodes.length)
        have hr6_4 : Row w4 _ _ _ := hw ▸ hr6_3.other (a := ⟨w.heap.size + 1, 3, none⟩) (by simp; omega) (.slice (some ⟨w1.heap.size, 0, none⟩) g.nodes.length g.nodes.length)
        have hr10_4 : Row w4 _ _ _ := hw ▸ hr10_3.other (a := ⟨w.heap.size + 1, 3, none⟩) (by simp; omega) (.slice (some ⟨w1.heap.size, 0, none⟩) g.nodes.length g.nodes.length)
        have hr14_4 : Row w4 _ _ _ := hw ▸ hr14_3.other (a := ⟨w.heap.size + 1, 3, none⟩) (by simp; omega) (.slice (some ⟨w1.heap.size, 0, none⟩) g.nodes.length g.nodes.length)
        have hB4 : Below w.heap.size w w4 := hw ▸ hB3.setCell (p := ⟨w.heap.size + 1, 3, none⟩) (by simp) (.slice (some ⟨w1.heap.size, 0, none⟩) g.nodes.length g.nodes.length)
        clear hw yy ff
        refine hK.out _ _ (hbx4.cell rfl) (fun hHeld => ?_)
        clear hK K
        try simp only [Act.put, lq1, lq2, lq3, lq4, lq5, lq6]
        refine wpAnyH_take (i := 18) (v := ?_) rfl (by kernel_rfl) (by kernel_rfl) (by kernel_rfl) (fun _ _ _ h => h) (Or.inl ⟨by rfl, ?_⟩) hHeld ?_
        rotate_left
        ·intro wx hSx; (try dsimp only at hSx); go_split_ands; go_simp; try (with_reducible rfl)
        try simp only [Act.put, lq1, lq2, lq3, lq4, lq5, lq6]
        refine wpAnyH_take (i := 19) (v := ?_) rfl (by kernel_rfl) (by kernel_rfl) (by kernel_rfl) (fun _ _ _ h => h) (Or.inl ⟨by rfl, ?_⟩) hHeld ?_
        rotate_left
        ·intro wx hSx; (try dsimp only at hSx); go_split_ands; go_simp; try (with_reducible rfl)
        try simp only [Act.put, lq1, lq2, lq3, lq4, lq5, lq6]
        refine wpAnyH_ready (rs := [20]) (by decide +kernel) (by simp) ?_
        refine (AllReadyH.cons (o := _) rfl (fun K hK => ?_) AllReadyH.nil)
        ·have yy := hwk4.cell (i := 4) rfl
         have ff := hwk4.frozen 4
         go_simp
         obtain ⟨w5, hw⟩ : ∃ W, W = w4.setCell ⟨w.heap.size + 1, 4, none⟩ (.slice (some ⟨w2.heap.size, 0, none⟩) g.nodes.length g.nodes.length) := ⟨_, rfl⟩
         rw [← hw]
         have hbx5 : Row w5 _ _ _ := hw ▸ hbx4.other (a := ⟨w.heap.size + 1, 4, none⟩) (by simp) (.slice (some ⟨w2.heap.size, 0, none⟩) g.nodes.length g.nodes.length)
         have hwk5 : Row w5 _ _ _ := hw ▸ hwk4.set 4 (.slice (some ⟨w2.heap.size, 0, none⟩) g.nodes.length g.nodes.length)
         have hr6_5 : Row w5 _ _ _ := hw ▸ hr6_4.other (a := ⟨w.heap.size + 1, 4, none⟩) (by simp; omega) (.slice (some ⟨w2.heap.size, 0, none⟩) g.nodes.length g.nodes.length)
         have hr10_5 : Row w5 _ _ _ := hw ▸ hr10_4.other (a := ⟨w.heap.size + 1, 4, none⟩) (by simp; omega) (.slice (some ⟨w2.heap.size, 0, none⟩) g.nodes.length g.nodes.length)
         have hr14_5 : Row w5 _ _ _ := hw ▸ hr14_4.other (a := ⟨w.heap.size + 1, 4, none⟩) (by simp; omega) (.slice (some ⟨w2.heap.size, 0, none⟩) g.nodes.length g.nodes.length)
         have hB5 : Below w.heap.size w w5 := hw ▸ hB4.setCell (p := ⟨w.heap.size + 1, 4, none⟩) (by simp) (.slice (some ⟨w2.heap.size, 0, none⟩) g.nodes.length g.nodes.length)
         clear hw yy ff
         refine hK.out _ _ (hbx5.cell rfl) (fun hHeld => ?_)
         clear hK K
         try simp only [Act.put, lq1, lq2, lq3, lq4, lq5, lq6]
         refine wpAnyH_take (i := 21) (v := ?_) rfl (by kernel_rfl) (by kernel_rfl) (by kernel_rfl) (fun _ _ _ h => h) (Or.inl ⟨by rfl, ?_⟩) hHeld ?_
         rotate_left
         ·intro wx hSx; (try dsimp only at hSx); go_split_ands; go_simp; try (with_reducible rfl)
         try simp only [Act.put, lq1, lq2, lq3, lq4, lq5, lq6]
         refine wpAnyH_take (i := 22) (v := ?_) rfl (by kernel_rfl) (by kernel_rfl) (by kernel_rfl) (fun _ _ _ h => h) (Or.inl ⟨by rfl, ?_⟩) hHeld ?_
         rotate_left
         ·intro wx hSx; (try dsimp only at hSx); go_split_ands; go_simp; try (with_reducible rfl)
         try simp only [Act.put, lq1, lq2, lq3, lq4, lq5, lq6]
         refine wpAnyH_ready (rs := [23]) (by decide +kernel) (by simp) ?_
         refine (AllReadyH.cons (o := _) rfl (fun K hK => ?_) AllReadyH.nil)
         ·have yy := hwk5.cell (i := 5) rfl
          have ff := hwk5.frozen 5
          go_simp
          obtain ⟨w6, hw⟩ : ∃ W, W = w5.setCell ⟨w.heap.size + 1, 5, none⟩ (.slice (some ⟨w0.heap.size, 0, none⟩) g.nodes.length g.nodes.length) := ⟨_, rfl⟩
          rw [← hw]
          have hbx6 : Row w6 _ _ _ := hw ▸ hbx5.other (a := ⟨w.heap.size + 1, 5, none⟩) (by simp) (.slice (some ⟨w0.heap.size, 0, none⟩) g.nodes.length g.nodes.length)
          have hwk6 : Row w6 _ _ _ := hw ▸ hwk5.set 5 (.slice (some ⟨w0.heap.size, 0, none⟩) g.nodes.length g.nodes.length)
          have hr6_6 : Row w6 _ _ _ := hw ▸ hr6_5.other (a := ⟨w.heap.size + 1, 5, none⟩) (by simp; omega) (.slice (some ⟨w0.heap.size, 0, none⟩) g.nodes.length g.nodes.length)
          have hr10_6 : Row w6 _ _ _ := hw ▸ hr10_5.other (a := ⟨w.heap.size + 1, 5, none⟩) (by simp; omega) (.slice (some ⟨w0.heap.size, 0, none⟩) g.nodes.length g.nodes.length)
          have hr14_6 : Row w6 _ _ _ := hw ▸ hr14_5.other (a := ⟨w.heap.size + 1, 5, none⟩) (by simp; omega) (.slice (some ⟨w0.heap.size, 0, none⟩) g.nodes.length g.nodes.length)
          have hB6 : Below w.heap.size w w6 := hw ▸ hB5.setCell (p := ⟨w.heap.size + 1, 5, none⟩) (by simp) (.slice (some ⟨w0.heap.size, 0, none⟩) g.nodes.length g.nodes.length)
          clear hw yy ff
          refine hK.out _ _ (hbx6.cell rfl) (fun hHeld => ?_)
          clear hK K
          try simp only [Act.put, lq1, lq2, lq3, lq4, lq5, lq6]
          refine wpAnyH_done (by kernel_rfl) ?_ _
          clear hHeld
          go_wp2_with fail
          go_meet
          exact ⟨w1.heap.size, w2.heap.size, w0.heap.size, ⟨hwk6, by simpa [intsV] using hr6_6, by simpa [intsV] using hr10_6, by simpa [intsV] using hr14_6⟩, hbx6, hB6, g6, g10, g14, by omega, by omega, by omega⟩
      ·have yy := hwk2.cell (i := 3) rfl
       have ff := hwk2.frozen 3
       go_simp
       obtain ⟨w3, hw⟩ : ∃ W, W = w2.setCell ⟨w.heap.size + 1, 3, none⟩ (.slice (some ⟨w1.heap.size, 0, none⟩) g.nodes.length g.nodes.length) := ⟨_, rfl⟩
       rw [← hw]
       have hbx3 : Row w3 _ _ _ := hw ▸ hbx2.other (a := ⟨w.heap.size + 1, 3, none⟩) (by simp) (.slice (some ⟨w1.heap.size, 0, none⟩) g.nodes.length g.nodes.length)
       have hwk3 : Row w3 _ _ _ := hw ▸ hwk2.set 3 (.slice (some ⟨w1.heap.size, 0, none⟩) g.nodes.length g.nodes.length)
       have hr6_3 : Row w3 _ _ _ := hw ▸ hr6_2.other (a := ⟨w.heap.size + 1, 3, none⟩) (by simp; omega) (.slice (some ⟨w1.heap.size, 0, none⟩) g.nodes.length g.nodes.length)
       have hr14_3 : Row w3 _ _ _ := hw ▸ hr14_2.other (a := ⟨w.heap.size + 1, 3, none⟩) (by simp; omega) (.slice (some ⟨w1.heap.size, 0, none⟩) g.nodes.length g.nodes.length)
       have hB3 : Below w.heap.size w w3 := hw ▸ hB2.setCell (p := ⟨w.heap.size + 1, 3, none⟩) (by simp) (.slice (some ⟨w1.heap.size, 0, none⟩) g.nodes.length g.nodes.length)
       clear hw yy ff
       refine hK.out _ _ (hbx3.cell rfl) (fun hHeld => ?_)
       clear hK K
       try simp only [Act.put, lq1, lq2, lq3, lq4, lq5, lq6]
       refine wpAnyH_ready (rs := [10]) (by decide +kernel) (by simp) ?_
       refine (AllReadyH.cons (o := _) rfl (fun K hK => ?_) AllReadyH.nil)
       ·refine ifT rfl ?_
        refine oper_make _ _ _ 26 rfl 3 (.int .i64 0) 8 Try.underlying26 Try.infoInt rfl g.nodes.length rfl rfl (by omega) (by omega) ?_
        intro w4 hb hz hr10_4
        have g10 : w.heap.size + 1 < w3.heap.size := hwk3.lt
        have l6_10 := hr6_3.lt
        have hr6_4 := hr6_3.below hb hr6_3.lt
        have l14_10 := hr14_3.lt
        have hr14_4 := hr14_3.below hb hr14_3.lt
        have hbx4 := hbx3.below hb hbx3.lt
        have hwk4 := hwk3.below hb hwk3.lt
        have hB4 : Below w.heap.size w w4 := hB3.trans (hb.mono hB3.size)
        clear hb hz
        refine hK.out _ _ (hbx4.cell rfl) (fun hHeld => ?_)
        clear hK K
        try simp only [Act.put, lq1, lq2, lq3, lq4, lq5, lq6]
        refine wpAnyH_take (i := 18) (v := ?_) rfl (by kernel_rfl) (by kernel_rfl) (by kernel_rfl) (fun _ _ _ h => h) (Or.inl ⟨by rfl, ?_⟩) hHeld ?_
        rotate_left
        ·intro wx hSx; (try dsimp only at hSx); go_split_ands; go_simp; try (with_reducible rfl)
        try simp only [Act.put, lq1, lq2, lq3, lq4, lq5, lq6]
        refine wpAnyH_take (i := 19) (v := ?_) rfl (by kernel_rfl) (by kernel_rfl) (by kernel_rfl) (fun _ _ _ h => h) (Or.inl ⟨by rfl, ?_⟩) hHeld ?_
        rotate_left
        ·intro wx hSx; (try dsimp only at hSx); go_split_ands; go_simp; try (with_reducible rfl)
        try simp only [Act.put, lq1, lq2, lq3, lq4, lq5, lq6]
        refine wpAnyH_ready (rs := [20]) (by decide +kernel) (by simp) ?_
        refine (AllReadyH.cons (o := _) rfl (fun K hK => ?_) AllReadyH.nil)
        ·have yy := hwk4.cell (i := 4) rfl
         have ff := hwk4.frozen 4
         go_simp
         obtain ⟨w5, hw⟩ : ∃ W, W = w4.setCell ⟨w.heap.size + 1, 4, none⟩ (.slice (some ⟨w3.heap.size, 0, none⟩) g.nodes.length g.nodes.length) := ⟨_, rfl⟩
         rw [← hw]
         have hbx5 : Row w5 _ _ _ := hw ▸ hbx4.other (a := ⟨w.heap.size + 1, 4, none⟩) (by simp) (.slice (some ⟨w3.heap.size, 0, none⟩) g.nodes.length g.nodes.length)
         have hwk5 : Row w5 _ _ _ := hw ▸ hwk4.set 4 (.slice (some ⟨w3.heap.size, 0, none⟩) g.nodes.length g.nodes.length)
         have hr6_5 : Row w5 _ _ _ := hw ▸ hr6_4.other (a := ⟨w.heap.size + 1, 4, none⟩) (by simp; omega) (.slice (some ⟨w3.heap.size, 0, none⟩) g.nodes.length g.nodes.length)
         have hr10_5 : Row w5 _ _ _ := hw ▸ hr10_4.other (a := ⟨w.heap.size + 1, 4, none⟩) (by simp; omega) (.slice (some ⟨w3.heap.size, 0, none⟩) g.nodes.length g.nodes.length)
         have hr14_5 : Row w5 _ _ _ := hw ▸ hr14_4.other (a := ⟨w.heap.size + 1, 4, none⟩) (by simp; omega) (.slice (some ⟨w3.heap.size, 0, none⟩) g.nodes.length g.nodes.length)
         have hB5 : Below w.heap.size w w5 := hw ▸ hB4.setCell (p := ⟨w.heap.size + 1, 4, none⟩) (by simp) (.slice (some ⟨w3.heap.size, 0, none⟩) g.nodes.length g.nodes.length)
         clear hw yy ff
         refine hK.out _ _ (hbx5.cell rfl) (fun hHeld => ?_)
         clear hK K
         try simp only [Act.put, lq1, lq2, lq3, lq4, lq5, lq6]
         refine wpAnyH_take (i := 21) (v := ?_) rfl (by kernel_rfl) (by kernel_rfl) (by kernel_rfl) (fun _ _ _ h => h) (Or.inl ⟨by rfl, ?_⟩) hHeld ?_
         rotate_left
         ·intro wx hSx; (try dsimp only at hSx); go_split_ands; go_simp; try (with_reducible rfl)
         try simp only [Act.put, lq1, lq2, lq3, lq4, lq5, lq6]
         refine wpAnyH_take (i := 22) (v := ?_) rfl (by kernel_rfl) (by kernel_rfl) (by kernel_rfl) (fun _ _ _ h => h) (Or.inl ⟨by rfl, ?_⟩) hHeld ?_
         rotate_left
         ·intro wx hSx; (try dsimp only at hSx); go_split_ands; go_simp; try (with_reducible rfl)
         try simp only [Act.put, lq1, lq2, lq3, lq4, lq5, lq6]
         refine wpAnyH_ready (rs := [23]) (by decide +kernel) (by simp) ?_
         refine (AllReadyH.cons (o := _) rfl (fun K hK => ?_) AllReadyH.nil)
         ·have yy := hwk5.cell (i := 5) rfl
          have ff := hwk5.frozen 5
          go_simp
          obtain ⟨w6, hw⟩ : ∃ W, W = w5.setCell ⟨w.heap.size + 1, 5, none⟩ (.slice (some ⟨w0.heap.size, 0, none⟩) g.nodes.length g.nodes.length) := ⟨_, rfl⟩
          rw [← hw]
          have hbx6 : Row w6 _ _ _ := hw ▸ hbx5.other (a := ⟨w.heap.size + 1, 5, none⟩) (by simp) (.slice (some ⟨w0.heap.size, 0, none⟩) g.nodes.length g.nodes.length)
          have hwk6 : Row w6 _ _ _ := hw ▸ hwk5.set 5 (.slice (some ⟨w0.heap.size, 0, none⟩) g.nodes.length g.nodes.length)
          have hr6_6 : Row w6 _ _ _ := hw ▸ hr6_5.other (a := ⟨w.heap.size + 1, 5, none⟩) (by simp; omega) (.slice (some ⟨w0.heap.size, 0, none⟩) g.nodes.length g.nodes.length)
          have hr10_6 : Row w6 _ _ _ := hw ▸ hr10_5.other (a := ⟨w.heap.size + 1, 5, none⟩) (by simp; omega) (.slice (some ⟨w0.heap.size, 0, none⟩) g.nodes.length g.nodes.length)
          have hr14_6 : Row w6 _ _ _ := hw ▸ hr14_5.other (a := ⟨w.heap.size + 1, 5, none⟩) (by simp; omega) (.slice (some ⟨w0.heap.size, 0, none⟩) g.nodes.length g.nodes.length)
          have hB6 : Below w.heap.size w w6 := hw ▸ hB5.setCell (p := ⟨w.heap.size + 1, 5, none⟩) (by simp) (.slice (some ⟨w0.heap.size, 0, none⟩) g.nodes.length g.nodes.length)
          clear hw yy ff
          refine hK.out _ _ (hbx6.cell rfl) (fun hHeld => ?_)
          clear hK K
          try simp only [Act.put, lq1, lq2, lq3, lq4, lq5, lq6]
          refine wpAnyH_done (by kernel_rfl) ?_ _
          clear hHeld
          go_wp2_with fail
          go_meet
          exact ⟨w1.heap.size, w3.heap.size, w0.heap.size, ⟨hwk6, by simpa [intsV] using hr6_6, by simpa [intsV] using hr10_6, by simpa [intsV] using hr14_6⟩, hbx6, hB6, g6, g10, g14, by omega, by omega, by omega⟩
     ·refine ifT rfl ?_
      refine oper_make _ _ _ 26 rfl 3 (.int .i64 0) 8 Try.underlying26 Try.infoInt rfl g.nodes.length rfl rfl (by omega) (by omega) ?_
      intro w2 hb hz hr10_2
      have g10 : w.heap.size + 1 < w1.heap.size := hwk1.lt
      have l14_10 := hr14_1.lt
      have hr14_2 := hr14_1.below hb hr14_1.lt
      have hbx2 := hbx1.below hb hbx1.lt
      have hwk2 := hwk1.below hb hwk1.lt
      have hB2 : Below w.heap.size w w2 := hB1.trans (hb.mono hB1.size)
      clear hb hz
      refine hK.out _ _ (hbx2.cell rfl) (fun hHeld => ?_)
      clear hK K
      try simp only [Act.put, lq1, lq2, lq3, lq4, lq5, lq6]
      refine wpAnyH_ready (rs := [6]) (by decide +kernel) (by simp) ?_
      refine (AllReadyH.cons (o := _) rfl (fun K hK => ?_) AllReadyH.nil)
      ·refine ifT rfl ?_
       refine oper_make _ _ _ 26 rfl 3 (.int .i64 0) 8 Try.underlying26 Try.infoInt rfl g.nodes.length rfl rfl (by omega) (by omega) ?_
       intro w3 hb hz hr6_3
       have g6 : w.heap.size + 1 < w2.heap.size := hwk2.lt
       have l10_6 := hr10_2.lt
       have hr10_3 := hr10_2.below hb hr10_2.lt
       have l14_6 := hr14_2.lt
       have hr14_3 := hr14_2.below hb hr14_2.lt
       have hbx3 := hbx2.below hb hbx2.lt
       have hwk3 := hwk2.below hb hwk2.lt
       have hB3 : Below w.heap.size w w3 := hB2.trans (hb.mono hB2.size)
       clear hb hz
       refine hK.out _ _ (hbx3.cell rfl) (fun hHeld => ?_)
       clear hK K
       try simp only [Act.put, lq1, lq2, lq3, lq4, lq5, lq6]
       refine wpAnyH_take (i := 15) (v := ?_) rfl (by kernel_rfl) (by kernel_rfl) (by kernel_rfl) (fun _ _ _ h => h) (Or.inl ⟨by rfl, ?_⟩) hHeld ?_
       rotate_left
       ·intro wx hSx; (try dsimp only at hSx); go_split_ands; go_simp; try (with_reducible rfl)
       try simp only [Act.put, lq1, lq2, lq3, lq4, lq5, lq6]
       refine wpAnyH_take (i := 16) (v := ?_) rfl (by kernel_rfl) (by kernel_rfl) (by kernel_rfl) (fun _ _ _ h => h) (Or.inl ⟨by rfl, ?_⟩) hHeld ?_
       rotate_left
       ·intro wx hSx; (try dsimp only at hSx); go_split_ands; go_simp; try (with_reducible rfl)
       try simp only [Act.put, lq1, lq2, lq3, lq4, lq5, lq6]
       refine wpAnyH_ready (rs := [17]) (by decide +kernel) (by simp) ?_
       refine (AllReadyH.cons (o := _) rfl (fun K hK => ?_) AllReadyH.nil)
       ·have yy := hwk3.cell (i := 3) rfl
        have ff := hwk3.frozen 3
        go_simp
        obtain ⟨w4, hw⟩ : ∃ W, W = w3.setCell ⟨w.heap.size + 1, 3, none⟩ (.slice (some ⟨w2.heap.size, 0, none⟩) g.nodes.length g.nodes.length) := ⟨_, rfl⟩
        rw [← hw]
        have hbx4 : Row w4 _ _ _ := hw ▸ hbx3.other (a := ⟨w.heap.size + 1, 3, none⟩) (by simp) (.slice (some ⟨w2.heap.size, 0, none⟩) g.nodes.length g.nodes.length)
        have hwk4 : Row w4 _ _ _ := hw ▸ hwk3.set 3 (.slice (some ⟨w2.heap.size, 0, none⟩) g.nodes.length g.nodes.length)
        have hr6_4 : Row w4 _ _ _ := hw ▸ hr6_3.other (a := ⟨w.heap.size + 1, 3, none⟩) (by simp; omega) (.slice (some ⟨w2.heap.size, 0, none⟩) g.nodes.length g.nodes.length)
        have hr10_4 : Row w4 _ _ _ := hw ▸ hr10_3.other (a := ⟨w.heap.size + 1, 3, none⟩) (by simp; omega) (.slice (some ⟨w2.heap.size, 0, none⟩) g.nodes.length g.nodes.length)
        have hr14_4 : Row w4 _ _ _ := hw ▸ hr14_3.other (a := ⟨w.heap.size + 1, 3, none⟩) (by simp; omega) (.slice (some ⟨w2.heap.size, 0, none⟩) g.nodes.length g.nodes.length)
        have hB4 : Below w.heap.size w w4 := hw ▸ hB3.setCell (p := ⟨w.heap.size + 1, 3, none⟩) (by simp) (.slice (some ⟨w2.heap.size, 0, none⟩) g.nodes.length g.nodes.length)
        clear hw yy ff
        refine hK.out _ _ (hbx4.cell rfl) (fun hHeld => ?_)
        clear hK K
        try simp only [Act.put, lq1, lq2, lq3, lq4, lq5, lq6]
        refine wpAnyH_take (i := 18) (v := ?_) rfl (by kernel_rfl) (by kernel_rfl) (by kernel_rfl) (fun _ _ _ h => h) (Or.inl ⟨by rfl, ?_⟩) hHeld ?_
        rotate_left
        ·intro wx hSx; (try dsimp only at hSx); go_split_ands; go_simp; try (with_reducible rfl)
        try simp only [Act.put, lq1, lq2, lq3, lq4, lq5, lq6]
        refine wpAnyH_take (i := 19) (v := ?_) rfl (by kernel_rfl) (by kernel_rfl) (by kernel_rfl) (fun _ _ _ h => h) (Or.inl ⟨by rfl, ?_⟩) hHeld ?_
        rotate_left
        ·intro wx hSx; (try dsimp only at hSx); go_split_ands; go_simp; try (with_reducible rfl)
        try simp only [Act.put, lq1, lq2, lq3, lq4, lq5, lq6]
        refine wpAnyH_ready (rs := [20]) (by decide +kernel) (by simp) ?_
        refine (AllReadyH.cons (o := _) rfl (fun K hK => ?_) AllReadyH.nil)
        ·have yy := hwk4.cell (i := 4) rfl
         have ff := hwk4.frozen 4
         go_simp
         obtain ⟨w5, hw⟩ : ∃ W, W = w4.setCell ⟨w.heap.size + 1, 4, none⟩ (.slice (some ⟨w1.heap.size, 0, none⟩) g.nodes.length g.nodes.length) := ⟨_, rfl⟩
         rw [← hw]
         have hbx5 : Row w5 _ _ _ := hw ▸ hbx4.other (a := ⟨w.heap.size + 1, 4, none⟩) (by simp) (.slice (some ⟨w1.heap.size, 0, none⟩) g.nodes.length g.nodes.length)
         have hwk5 : Row w5 _ _ _ := hw ▸ hwk4.set 4 (.slice (some ⟨w1.heap.size, 0, none⟩) g.nodes.length g.nodes.length)
         have hr6_5 : Row w5 _ _ _ := hw ▸ hr6_4.other (a := ⟨w.heap.size + 1, 4, none⟩) (by simp; omega) (.slice (some ⟨w1.heap.size, 0, none⟩) g.nodes.length g.nodes.length)
         have hr10_5 : Row w5 _ _ _ := hw ▸ hr10_4.other (a := ⟨w.heap.size + 1, 4, none⟩) (by simp; omega) (.slice (some ⟨w1.heap.size, 0, none⟩) g.nodes.length g.nodes.length)
         have hr14_5 : Row w5 _ _ _ := hw ▸ hr14_4.other (a := ⟨w.heap.size + 1, 4, none⟩) (by simp; omega) (.slice (some ⟨w1.heap.size, 0, none⟩) g.nodes.length g.nodes.length)
         have hB5 : Below w.heap.size w w5 := hw ▸ hB4.setCell (p := ⟨w.heap.size + 1, 4, none⟩) (by simp) (.slice (some ⟨w1.heap.size, 0, none⟩) g.nodes.length g.nodes.length)
         clear hw yy ff
         refine hK.out _ _ (hbx5.cell rfl) (fun hHeld => ?_)
         clear hK K
         try simp only [Act.put, lq1, lq2, lq3, lq4, lq5, lq6]
         refine wpAnyH_take (i := 21) (v := ?_) rfl (by kernel_rfl) (by kernel_rfl) (by kernel_rfl) (fun _ _ _ h => h) (Or.inl ⟨by rfl, ?_⟩) hHeld ?_
         rotate_left
         ·intro wx hSx; (try dsimp only at hSx); go_split_ands; go_simp; try (with_reducible rfl)
         try simp only [Act.put, lq1, lq2, lq3, lq4, lq5, lq6]
         refine wpAnyH_take (i := 22) (v := ?_) rfl (by kernel_rfl) (by kernel_rfl) (by kernel_rfl) (fun _ _ _ h => h) (Or.inl ⟨by rfl, ?_⟩) hHeld ?_
         rotate_left
         ·intro wx hSx; (try dsimp only at hSx); go_split_ands; go_simp; try (with_reducible rfl)
         try simp only [Act.put, lq1, lq2, lq3, lq4, lq5, lq6]
         refine wpAnyH_ready (rs := [23]) (by decide +kernel) (by simp) ?_
         refine (AllReadyH.cons (o := _) rfl (fun K hK => ?_) AllReadyH.nil)
         ·have yy := hwk5.cell (i := 5) rfl
          have ff := hwk5.frozen 5
          go_simp
          obtain ⟨w6, hw⟩ : ∃ W, W = w5.setCell ⟨w.heap.size + 1, 5, none⟩ (.slice (some ⟨w0.heap.size, 0, none⟩) g.nodes.length g.nodes.length) := ⟨_, rfl⟩
          rw [← hw]
          have hbx6 : Row w6 _ _ _ := hw ▸ hbx5.other (a := ⟨w.heap.size + 1, 5, none⟩) (by simp) (.slice (some ⟨w0.heap.size, 0, none⟩) g.nodes.length g.nodes.length)
          have hwk6 : Row w6 _ _ _ := hw ▸ hwk5.set 5 (.slice (some ⟨w0.heap.size, 0, none⟩) g.nodes.length g.nodes.length)
          have hr6_6 : Row w6 _ _ _ := hw ▸ hr6_5.other (a := ⟨w.heap.size + 1, 5, none⟩) (by simp; omega) (.slice (some ⟨w0.heap.size, 0, none⟩) g.nodes.length g.nodes.length)
          have hr10_6 : Row w6 _ _ _ := hw ▸ hr10_5.other (a := ⟨w.heap.size + 1, 5, none⟩) (by simp; omega) (.slice (some ⟨w0.heap.size, 0, none⟩) g.nodes.length g.nodes.length)
          have hr14_6 : Row w6 _ _ _ := hw ▸ hr14_5.other (a := ⟨w.heap.size + 1, 5, none⟩) (by simp; omega) (.slice (some ⟨w0.heap.size, 0, none⟩) g.nodes.length g.nodes.length)
          have hB6 : Below w.heap.size w w6 := hw ▸ hB5.setCell (p := ⟨w.heap.size + 1, 5, none⟩) (by simp) (.slice (some ⟨w0.heap.size, 0, none⟩) g.nodes.length g.nodes.length)
          clear hw yy ff
          refine hK.out _ _ (hbx6.cell rfl) (fun hHeld => ?_)
          clear hK K
          try simp only [Act.put, lq1, lq2, lq3, lq4, lq5, lq6]
          refine wpAnyH_done (by kernel_rfl) ?_ _
          clear hHeld
          go_wp2_with fail
          go_meet
          exact ⟨w2.heap.size, w1.heap.size, w0.heap.size, ⟨hwk6, by simpa [intsV] using hr6_6, by simpa [intsV] using hr10_6, by simpa [intsV] using hr14_6⟩, hbx6, hB6, g6, g10, g14, by omega, by omega, by omega⟩
   case rest =>
    obtain ⟨bp, bd, bl, hwa, hbx', hbel', z1, z2, z3, z4, z5, z6⟩ := hcut
    clear hbx hwk hbel
    have hbl' := hbx'.lt
    have x1 := hbx'.cell (i := 1) rfl
    have HNO := Lib.hid (show NodesAt w F (.slice (some ⟨b, o, none⟩) g.nodes.length c) g.nodes from ⟨_, _, rfl, hc, HN.out⟩)
    have HIO := Lib.hid (show InfosAt w F (.slice Ai g.infos.length ci) g.infos from ⟨_, _, rfl, hci, HI.out⟩)
    have HWA := Lib.hid hwa; clear hwa
    have HG' := Lib.hid (show ∀ k, (F k ∧ k < w.heap.size) → k ≠ bp ∧ k ≠ bd ∧ k ≠ bl from fun k hk => by omega)
    go_wp2_with fail
    refine (walkP_any g HS.out (w.heap.size + 1) bp bd bl b o c Ai ci ⟨by omega, by omega, by omega, z4, z5, z6⟩ hc (fun k => F k ∧ k < w.heap.size) HG'.out (g.nodes.length + 1) 0 (-1) 0 _ wc _ ⟨some ⟨b, o, none⟩, by simp, fun _ => by simp⟩ ⟨by simp, by simp, by simp⟩ (fun _ => HNO.out.keep (fun k hk hl => ⟨hk, hl⟩) (Below.same' hbel' F)) HWA.out (by omega) (by omega) (by omega) (by omega)).mono ?_
    rintro e w2 ⟨vr, rfl, hrest, hwa2, hwr2⟩
    have hbnd := walkP_bound g.nodes (g.nodes.length + 1) 0 (-1) 0 ⟨List.replicate g.nodes.length 0, List.replicate g.nodes.length 0, List.replicate g.nodes.length 0⟩
    have hlen := walkP_len (N := g.nodes.length) g.nodes (g.nodes.length + 1) 0 (-1) 0 ⟨List.replicate g.nodes.length 0, List.replicate g.nodes.length 0, List.replicate g.nodes.length 0⟩ ⟨by simp, by simp, by simp⟩
    have hT : walkT g = walkP g.nodes (g.nodes.length + 1) 0 (-1) 0 ⟨List.replicate g.nodes.length 0, List.replicate g.nodes.length 0, List.replicate g.nodes.length 0⟩ := rfl
    rw [← hT] at hrest hwa2 hbnd hlen ⊢
    clear hT
    have hB2 : Below w.heap.size w w2 := Wrote.below hbel' hwr2 (fun k hk => by omega) hbel'.size
    have hbx2 := hbx'.wrote hwr2 (by omega)
    clear hbel' hwr2 hbx' x1 HWA
    obtain ⟨T, hTT⟩ : ∃ T, T = walkT g := ⟨_, rfl⟩
    have HT := Lib.hid (show WalkerAt w2 (w.heap.size + 1) bp bd bl g.players (some ⟨b, o, none⟩) g.nodes.length c Ai g.infos.length ci (walkT g).2 from hwa2)
    clear hwa2
    have HLN := Lib.hid hlen; clear hlen
    rw [← hTT] at hrest hbnd HE2 ⊢
    have HTT := Lib.hid hTT; clear hTT
    obtain ⟨rn, td⟩ := T
    dsimp only at hrest hbnd HE2 ⊢
    by_cases hng : rn < 0
    ·have HF := Lib.hid (show errP g = 9 by rw [HE2.out, if_pos (by omega)])
     have hdn : decide (0 ≤ rn) = false := decide_eq_false (by omega)
     clear hrest
     go_wp2
     go_ret2
     exact ⟨_, rfl, hB2, .pointer none, by rw [HF.out]; rfl, by rw [HF.out]; intro h; simp at h⟩
    ·obtain ⟨q, rfl⟩ := Int.eq_ofNat_of_zero_le (show 0 ≤ rn by omega)
     obtain ⟨A', rfl, hA'⟩ := hrest (by omega)
     simp only [Int.toNat_natCast] at hA' ⊢
     have hdn : decide (0 ≤ (q : Int)) = true := decide_eq_true (by omega)
     by_cases hqn : q = g.nodes.length
     ·subst hqn
      have HF := Lib.hid (show errP g = if 40 < maxL td.d then 5 else setsErrP g by rw [HE2.out, if_neg (by simp)])
      have hz : g.nodes.length - g.nodes.length = 0 := by omega
      rw [hz]
      have ht2 : td = (walkT g).2 := by rw [← HTT.out]
      have x4 := HT.out.head.cell (i := 4) rfl
      clear hA' hz
      go_wp2_with fail
      have hdl : td.d.length = g.nodes.length := by rw [ht2]; exact HLN.out.d
      have HID := Lib.hid (show IntsAt w2 (fun k => k = bd) (.slice (some ⟨bd, 0, none⟩) g.nodes.length g.nodes.length) td.d by
       have := Row.ints (F := fun k => k = bd) (show Row w2 bd 3 (td.d.map (Value.int .i64)) by rw [ht2]; exact HT.out.rd) rfl (c := g.nodes.length) (by omega)
       rwa [hdl] at this)
      have HT2 := Lib.hid ht2; clear ht2
      refine (max_any w2 (fun k => k = bd) _ td.d HID.out (by omega) (by omega)).mono ?_
      rintro e w3 ⟨rfl, rfl⟩
      dsimp only
      generalize maxL td.d = mx at *
      by_cases hmx : 40 < mx
      ·have HF2 := Lib.hid (show errP g = 5 by rw [HF.out, if_pos hmx])
       go_wp2
       go_ret2
       exact ⟨_, rfl, hB2, .pointer none, by rw [HF2.out]; rfl, by rw [HF2.out]; intro h; simp at h⟩
      ·have HF2 := Lib.hid (show errP g = setsErrP g by rw [HF.out, if_neg hmx])
       have hdm : decide (40 < mx) = false := decide_eq_false hmx
       clear hmx
       go_wp2_with fail
       refine (setsP_any w3 F (w.heap.size + 1) g _ _ _ _ (HT.out.head.cell rfl) (HT.out.head.cell rfl) HT.out.head.lt (HNO.out.on (Below.same' hB2 F)) (HIO.out.on (Below.same' hB2 F)) HS.out HIN.out (by omega)).mono ?_
       rintro e w4 ⟨_, rfl, hb4, rfl⟩
       dsimp only
       go_wp2
       go_ret2
       refine ⟨_, rfl, hB2.trans (hb4.mono hB2.size), .pointer (some ⟨w.heap.size + 1, 0, none⟩), by rw [HF2.out]; rfl, fun _ => ?_⟩
       have h := HT.out
       exact ⟨w.heap.size + 1, bp, bd, bl, _, _, _, _, rfl, ⟨h.head.below hb4 h.head.lt, h.rp.below hb4 h.rp.lt, h.rd.below hb4 h.rd.lt, h.rl.below hb4 h.rl.lt⟩, by omega, by omega, by omega, by omega⟩
     ·have HF := Lib.hid (show errP g = 9 by rw [HE2.out, if_pos (by omega)])
      have hdg : (0 : Int) < ((g.nodes.length - q : Nat) : Int) := by omega
      clear hqn
      go_wp2
      go_ret2
      exact ⟨_, rfl, hB2, .pointer none, by rw [HF.out]; rfl, by rw [HF.out]; intro h; simp at h⟩
end Go.Proofs.Ytafjdoedallnbaa

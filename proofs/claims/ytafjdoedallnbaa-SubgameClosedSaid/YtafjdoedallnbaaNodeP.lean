/- (*recall.walker).chance, move, end, node: the error of a node by itself, by the program. -/
import Derived.Test.YtafjdoedallnbaaWithin
namespace Go.Proofs.Ytafjdoedallnbaa
open Go.RowKit

/-- what recall's walker holds for the node checks: the players, and the information sets -/
structure WalkerHead (w : World) (p : Nat) (players : Int) (ni : Nat) : Prop where
  players : w.cell? ⟨p, 0, none⟩ = some (.int .i64 players)
  infos : ∃ A c, w.cell? ⟨p, 2, none⟩ = some (.slice A ni c)

set_option maxRecDepth 100000 in
set_option maxHeartbeats 3200000 in
theorem chance_any (w : World) (F : Foot) (u ux : Value) (x : Nd) (hx : NodeV w F ux x) (hl : x.next.length < 1000000 ∧ x.weights.length < 1000000 ∧ x.pay.length < 1000000) :
    Calls Try.prog 63 #[u, ux] w (Ret w fun v _ => v = .int .i64 (chanceErr x)) := by
  obtain ⟨v3, v4, v5, rfl, ⟨A3, c3, rfl, hc3, h3⟩, ⟨A4, c4, rfl, hc4, h4⟩, ⟨A5, c5, rfl, hc5, h5⟩⟩ := hx
  obtain ⟨hl3, hl4, hl5⟩ := hl
  have H4 := Lib.hid (show IntsAt w F (.slice A4 x.weights.length c4) x.weights from ⟨A4, c4, rfl, hc4, h4⟩)
  clear h3 h4 h5
  by_cases q0 : x.player ≠ 0
  · have HF := Lib.hid (show chanceErr x = 3 by unfold chanceErr; rw [if_pos (by omega)])
    have d0 : (x.player != 0) = true := neT (by omega)
    go_enter Try.func63, Try.ntmps63
    go_wp2
    go_ret
    exact ⟨_, rfl, (Below.refl _ _).alloc (Nat.le_refl _) _, by rw [HF.out]; rfl⟩
  have d0 : (x.player != 0) = false := neF (by omega)
  by_cases q1 : x.info ≠ 0
  · have HF := Lib.hid (show chanceErr x = 3 by unfold chanceErr; rw [if_pos (by omega)])
    have d1 : (x.info != 0) = true := neT (by omega)
    go_enter Try.func63, Try.ntmps63
    go_wp2
    go_ret
    exact ⟨_, rfl, (Below.refl _ _).alloc (Nat.le_refl _) _, by rw [HF.out]; rfl⟩
  have d1 : (x.info != 0) = false := neF (by omega)
  by_cases q2 : 0 < x.pay.length
  · have HF := Lib.hid (show chanceErr x = 3 by unfold chanceErr; rw [if_pos (by omega)])
    go_enter Try.func63, Try.ntmps63
    go_wp2
    go_ret
    exact ⟨_, rfl, (Below.refl _ _).alloc (Nat.le_refl _) _, by rw [HF.out]; rfl⟩
  have d2 : decide ((0 : Int) < (x.pay.length : Int)) = false := decide_eq_false (by omega)
  by_cases q3 : x.next.length < 1
  · have HF := Lib.hid (show chanceErr x = 3 by unfold chanceErr; rw [if_pos (by omega)])
    go_enter Try.func63, Try.ntmps63
    go_wp2
    go_ret
    exact ⟨_, rfl, (Below.refl _ _).alloc (Nat.le_refl _) _, by rw [HF.out]; rfl⟩
  have d3 : decide ((x.next.length : Int) < 1) = false := decide_eq_false (by omega)
  by_cases q4 : 60 < x.next.length
  · have HF := Lib.hid (show chanceErr x = 3 by unfold chanceErr; rw [if_pos (by omega)])
    go_enter Try.func63, Try.ntmps63
    go_wp2
    go_ret
    exact ⟨_, rfl, (Below.refl _ _).alloc (Nat.le_refl _) _, by rw [HF.out]; rfl⟩
  have d4 : decide ((60 : Int) < (x.next.length : Int)) = false := decide_eq_false (by omega)
  by_cases q5 : x.weights.length ≠ x.next.length
  · have HF := Lib.hid (show chanceErr x = 3 by unfold chanceErr; rw [if_pos (by omega)])
    have d5 : ((x.weights.length : Int) != (x.next.length : Int)) = true := neT (by omega)
    go_enter Try.func63, Try.ntmps63
    go_wp2
    go_ret
    exact ⟨_, rfl, (Below.refl _ _).alloc (Nat.le_refl _) _, by rw [HF.out]; rfl⟩
  have d5 : ((x.weights.length : Int) != (x.next.length : Int)) = false := neF (by omega)
  have HF := Lib.hid (show chanceErr x = withinErr 1 1000 x.weights by unfold chanceErr; rw [if_neg (by omega)]; rfl)
  clear q0 q1 q5
  go_enter Try.func63, Try.ntmps63
  go_wp2_with fail
  refine (within_any _ F _ 1 1000 x.weights (H4.out.on (Same.alloc _ _ _)) (by omega)).mono ?_
  rintro e w' ⟨v, rfl, hb, rfl⟩
  dsimp only
  go_wp2
  go_ret
  exact ⟨_, rfl, ((Below.refl _ _).alloc (Nat.le_refl _) _).trans (hb.mono (by simp)), by rw [HF.out]; rfl⟩

theorem row_of_alloc (w : World) (t : TypeId) (c : Array Value) : ∃ W : World, W = w.alloc (.cells c t) ∧ Row W w.heap.size t c.toList ∧ Below w.heap.size w W ∧ w.heap.size + 1 = W.heap.size :=
  ⟨_, rfl, Row.new w _ _, (Below.refl _ _).alloc (Nat.le_refl _) _, by simp⟩

theorem moveErr_eq (players : Int) (ni : Nat) (x : Nd) (h : ¬ (0 < x.pay.length ∨ 0 < x.weights.length ∨ x.next.length < 1 ∨ 10 < x.next.length)) :
    moveErr players ni x = if withinErr 0 (players - 1) [x.player] ≠ 0 then withinErr 0 (players - 1) [x.player] else withinErr 0 ((ni : Int) - 1) [x.info] := by
  unfold moveErr withinErr outside
  rw [if_neg h]
  simp only [List.any_cons, List.any_nil, Bool.or_false, Bool.or_eq_true, decide_eq_true_eq]
  repeat' split
  all_goals first | rfl | omega

set_option maxRecDepth 100000 in
set_option maxHeartbeats 3200000 in
theorem move_any (w : World) (F : Foot) (p : Nat) (ux : Value) (players : Int) (ni : Nat) (x : Nd) (hw : WalkerHead w p players ni) (hx : NodeV w F ux x) (hl : x.next.length < 1000000 ∧ x.weights.length < 1000000 ∧ x.pay.length < 1000000)
    (hp : 0 ≤ players ∧ players < 1000000) (hni : ni < 1000000) (hpl : p < w.heap.size) :
    Calls Try.prog 64 #[.pointer (some ⟨p, 0, none⟩), ux] w (Ret w fun v _ => v = .int .i64 (moveErr players ni x)) := by
  obtain ⟨v3, v4, v5, rfl, ⟨A3, c3, rfl, hc3, h3⟩, ⟨A4, c4, rfl, hc4, h4⟩, ⟨A5, c5, rfl, hc5, h5⟩⟩ := hx
  obtain ⟨hl3, hl4, hl5⟩ := hl
  clear h3 h4 h5
  obtain ⟨hwp, Ai, ci, hwi⟩ := hw
  by_cases q0 : 0 < x.weights.length
  · have HF := Lib.hid (show moveErr players ni x = 3 by unfold moveErr; rw [if_pos (by omega)])
    go_enter Try.func64, Try.ntmps64
    go_wp2
    go_ret
    exact ⟨_, rfl, (Below.refl _ _).alloc (Nat.le_refl _) _, by rw [HF.out]; rfl⟩
  have d0 : decide ((0 : Int) < (x.weights.length : Int)) = false := decide_eq_false (by omega)
  by_cases q1 : 0 < x.pay.length
  · have HF := Lib.hid (show moveErr players ni x = 3 by unfold moveErr; rw [if_pos (by omega)])
    go_enter Try.func64, Try.ntmps64
    go_wp2
    go_ret
    exact ⟨_, rfl, (Below.refl _ _).alloc (Nat.le_refl _) _, by rw [HF.out]; rfl⟩
  have d1 : decide ((0 : Int) < (x.pay.length : Int)) = false := decide_eq_false (by omega)
  by_cases q2 : x.next.length < 1
  · have HF := Lib.hid (show moveErr players ni x = 3 by unfold moveErr; rw [if_pos (by omega)])
    go_enter Try.func64, Try.ntmps64
    go_wp2
    go_ret
    exact ⟨_, rfl, (Below.refl _ _).alloc (Nat.le_refl _) _, by rw [HF.out]; rfl⟩
  have d2 : decide ((x.next.length : Int) < 1) = false := decide_eq_false (by omega)
  by_cases q3 : 10 < x.next.length
  · have HF := Lib.hid (show moveErr players ni x = 3 by unfold moveErr; rw [if_pos (by omega)])
    go_enter Try.func64, Try.ntmps64
    go_wp2
    go_ret
    exact ⟨_, rfl, (Below.refl _ _).alloc (Nat.le_refl _) _, by rw [HF.out]; rfl⟩
  have d3 : decide ((10 : Int) < (x.next.length : Int)) = false := decide_eq_false (by omega)
  have HF := Lib.hid (moveErr_eq players ni x (by omega))
  go_enter Try.func64, Try.ntmps64
  go_wp2_with fail
  obtain ⟨W, hW, hbx, hWb, hWz⟩ := row_of_alloc w 45 #[.int .i64 x.kind, .int .i64 x.player, .int .i64 x.info, .slice A3 x.next.length c3, .slice A4 x.weights.length c4, .slice A5 x.pay.length c5]
  rw [← hW]
  clear hW
  have hold := below_old hWb
  have wr1 : IntKind.i64.wrap (players - 1) = players - 1 := IntWalk.i64_in _ (by omega)
  have wr2 : IntKind.i64.wrap ((ni : Int) - 1) = (ni : Int) - 1 := IntWalk.i64_in _ (by omega)
  refine wp_region_held_drew (S := fun w' => w'.cell? ⟨w.heap.size, 1, none⟩ = some (.int .i64 x.player) ∧ w'.cell? ⟨p, 0, none⟩ = some (.int .i64 players)) (by kernel_rfl) ⟨hbx.cell rfl, (hold p 0 hpl).trans hwp⟩ (fun hHeld => ?_)
  refine wpAnyH_take (i := 0) (v := ?_) rfl (by kernel_rfl) (by kernel_rfl) (by kernel_rfl) (fun _ _ _ h => h) (Or.inl ⟨by rfl, ?_⟩) hHeld ?_
  rotate_left
  · intro wx hSx; (try dsimp only at hSx); go_split_ands; go_simp; try (with_reducible rfl)
  try simp only [Act.put, List.getElem_toArray, List.getElem_cons_zero, List.getElem_cons_succ, List.setIfInBounds_toArray, List.set_cons_zero, List.set_cons_succ]
  refine wpAnyH_take (i := 1) (v := ?_) rfl (by kernel_rfl) (by kernel_rfl) (by kernel_rfl) (fun _ _ _ h => h) (Or.inl ⟨by rfl, ?_⟩) hHeld ?_
  rotate_left
  · intro wx hSx; (try dsimp only at hSx); go_split_ands; go_simp; try (with_reducible rfl)
  try simp only [Act.put, List.getElem_toArray, List.getElem_cons_zero, List.getElem_cons_succ, List.setIfInBounds_toArray, List.set_cons_zero, List.set_cons_succ]
  refine wpAnyH_take (i := 2) (v := ?_) rfl (by kernel_rfl) (by kernel_rfl) (by kernel_rfl) (fun _ _ _ h => h) (Or.inl ⟨by rfl, ?_⟩) hHeld ?_
  rotate_left
  · intro wx hSx; (try dsimp only at hSx); go_split_ands; go_simp; try (with_reducible rfl)
  try simp only [Act.put, List.getElem_toArray, List.getElem_cons_zero, List.getElem_cons_succ, List.setIfInBounds_toArray, List.set_cons_zero, List.set_cons_succ]
  refine wpAnyH_take (i := 3) (v := ?_) rfl (by kernel_rfl) (by kernel_rfl) (by kernel_rfl) (fun _ _ _ h => h) (Or.inl ⟨by rfl, ?_⟩) hHeld ?_
  rotate_left
  · intro wx hSx; (try dsimp only at hSx); go_split_ands; go_simp; try (with_reducible rfl)
  try simp only [Act.put, List.getElem_toArray, List.getElem_cons_zero, List.getElem_cons_succ, List.setIfInBounds_toArray, List.set_cons_zero, List.set_cons_succ]
  refine wpAnyH_take (i := 4) (v := ?_) rfl (by kernel_rfl) (by kernel_rfl) (by kernel_rfl) (fun _ _ _ h => h) (Or.inl ⟨by rfl, ?_⟩) hHeld ?_
  rotate_left
  · intro wx hSx; (try dsimp only at hSx); go_split_ands; go_simp; try (with_reducible rfl)
  try simp only [Act.put, List.getElem_toArray, List.getElem_cons_zero, List.getElem_cons_succ, List.setIfInBounds_toArray, List.set_cons_zero, List.set_cons_succ]
  refine wpAnyH_take (i := 5) (v := ?_) rfl (by kernel_rfl) (by kernel_rfl) (by kernel_rfl) (fun _ _ _ h => h) (Or.inl ⟨by rfl, ?_⟩) hHeld ?_
  rotate_left
  · intro wx hSx; (try dsimp only at hSx); go_split_ands; go_simp; try (with_reducible rfl)
  try simp only [Act.put, List.getElem_toArray, List.getElem_cons_zero, List.getElem_cons_succ, List.setIfInBounds_toArray, List.set_cons_zero, List.set_cons_succ]
  refine wpAnyH_take (i := 6) (v := ?_) rfl (by kernel_rfl) (by kernel_rfl) (by kernel_rfl) (fun _ _ _ h => h) (Or.inl ⟨by rfl, ?_⟩) hHeld ?_
  rotate_left
  · intro wx hSx; (try dsimp only at hSx); go_split_ands; go_simp; try (with_reducible rfl)
  try simp only [Act.put, List.getElem_toArray, List.getElem_cons_zero, List.getElem_cons_succ, List.setIfInBounds_toArray, List.set_cons_zero, List.set_cons_succ]
  refine wpAnyH_take (i := 7) (v := ?_) rfl (by kernel_rfl) (by kernel_rfl) (by kernel_rfl) (fun _ _ _ h => h) (Or.inl ⟨by rfl, ?_⟩) hHeld ?_
  rotate_left
  · intro wx hSx; (try dsimp only at hSx); go_split_ands; go_simp; try (with_reducible rfl)
  try simp only [Act.put, List.getElem_toArray, List.getElem_cons_zero, List.getElem_cons_succ, List.setIfInBounds_toArray, List.set_cons_zero, List.set_cons_succ]
  refine wpAnyH_ready (rs := [8]) (by kernel_rfl) (by simp) ?_
  refine AllReadyH.cons (o := _) rfl (fun K hK => ?_) AllReadyH.nil
  go_simp
  obtain ⟨W1, hW1, hbr, hW1b, hW1z⟩ := row_of_alloc W 3 #[.int .i64 x.player]
  rw [← hW1]
  clear hW1
  have hbx1 := hbx.below hW1b (by omega)
  have hB1 : Below w.heap.size w W1 := hWb.trans (hW1b.mono (by omega))
  clear hbx hW1b hWb
  refine hK.out _ _ ⟨hbx1.drew.cell rfl, (below_old hB1.drew p 0 hpl).trans hwp⟩ (fun hHeld => ?_)
  clear hK K
  try simp only [Act.put, List.getElem_toArray, List.getElem_cons_zero, List.getElem_cons_succ, List.setIfInBounds_toArray, List.set_cons_zero, List.set_cons_succ]
  refine wpAnyH_ready (rs := [9]) (by kernel_rfl) (by simp) ?_
  refine AllReadyH.cons (o := _) rfl (fun K hK => ?_) AllReadyH.nil
  go_simp
  refine (within_any _ (fun b => b = W.heap.size) _ 0 (players - 1) [x.player] (Row.ints (l := [x.player]) hbr.drew (F := fun b => b = W.heap.size) rfl (c := 1) (by simp)) (by simp)).mono ?_
  rintro e w1 ⟨_, rfl, hb1, rfl⟩
  have hbx2 := hbx1.drew.below hb1 (by simp; omega)
  have hB2 : Below w.heap.size w w1 := hB1.drew.trans (hb1.mono (by simp; omega))
  clear hbx1 hb1 hB1 hbr
  dsimp only
  refine hK.out _ _ ⟨hbx2.cell rfl, (below_old hB2 p 0 hpl).trans hwp⟩ (fun hHeld => ?_)
  clear hK K
  try simp only [Act.put, List.getElem_toArray, List.getElem_cons_zero, List.getElem_cons_succ, List.setIfInBounds_toArray, List.set_cons_zero, List.set_cons_succ]
  refine wpAnyH_take (i := 10) (v := ?_) rfl (by kernel_rfl) (by kernel_rfl) (by kernel_rfl) (fun _ _ _ h => h) (Or.inl ⟨by rfl, ?_⟩) hHeld ?_
  rotate_left
  · intro wx hSx; (try dsimp only at hSx); go_split_ands; go_simp; try (with_reducible rfl)
  try simp only [Act.put, List.getElem_toArray, List.getElem_cons_zero, List.getElem_cons_succ, List.setIfInBounds_toArray, List.set_cons_zero, List.set_cons_succ]
  refine wpAnyH_done (by kernel_rfl) ?_ _
  have hx1 := hbx2.lt
  generalize withinErr 0 (players - 1) [x.player] = er at *
  by_cases he : er = 0
  · subst he
    have HF2 := Lib.hid (show moveErr players ni x = withinErr 0 ((ni : Int) - 1) [x.info] by rw [HF.out]; simp)
    go_wp2_with fail
    refine wp_region_held_drew (S := fun w' => w'.cell? ⟨w.heap.size, 2, none⟩ = some (.int .i64 x.info) ∧ w'.cell? ⟨p, 2, none⟩ = some (.slice Ai ni ci)) (by kernel_rfl) ⟨hbx2.cell rfl, (below_old hB2 p 2 hpl).trans hwi⟩ (fun hHeld => ?_)
    refine wpAnyH_take (i := 0) (v := ?_) rfl (by kernel_rfl) (by kernel_rfl) (by kernel_rfl) (fun _ _ _ h => h) (Or.inl ⟨by rfl, ?_⟩) hHeld ?_
    rotate_left
    · intro wx hSx; (try dsimp only at hSx); go_split_ands; go_simp; try (with_reducible rfl)
    try simp only [Act.put, List.getElem_toArray, List.getElem_cons_zero, List.getElem_cons_succ, List.setIfInBounds_toArray, List.set_cons_zero, List.set_cons_succ]
    refine wpAnyH_take (i := 1) (v := ?_) rfl (by kernel_rfl) (by kernel_rfl) (by kernel_rfl) (fun _ _ _ h => h) (Or.inl ⟨by rfl, ?_⟩) hHeld ?_
    rotate_left
    · intro wx hSx; (try dsimp only at hSx); go_split_ands; go_simp; try (with_reducible rfl)
    try simp only [Act.put, List.getElem_toArray, List.getElem_cons_zero, List.getElem_cons_succ, List.setIfInBounds_toArray, List.set_cons_zero, List.set_cons_succ]
    refine wpAnyH_take (i := 2) (v := ?_) rfl (by kernel_rfl) (by kernel_rfl) (by kernel_rfl) (fun _ _ _ h => h) (Or.inl ⟨by rfl, ?_⟩) hHeld ?_
    rotate_left
    · intro wx hSx; (try dsimp only at hSx); go_split_ands; go_simp; try (with_reducible rfl)
    try simp only [Act.put, List.getElem_toArray, List.getElem_cons_zero, List.getElem_cons_succ, List.setIfInBounds_toArray, List.set_cons_zero, List.set_cons_succ]
    refine wpAnyH_take (i := 3) (v := ?_) rfl (by kernel_rfl) (by kernel_rfl) (by kernel_rfl) (fun _ _ _ h => h) (Or.inl ⟨by rfl, ?_⟩) hHeld ?_
    rotate_left
    · intro wx hSx; (try dsimp only at hSx); go_split_ands; go_simp; try (with_reducible rfl)
    try simp only [Act.put, List.getElem_toArray, List.getElem_cons_zero, List.getElem_cons_succ, List.setIfInBounds_toArray, List.set_cons_zero, List.set_cons_succ]
    refine wpAnyH_take (i := 4) (v := ?_) rfl (by kernel_rfl) (by kernel_rfl) (by kernel_rfl) (fun _ _ _ h => h) (Or.inl ⟨by rfl, ?_⟩) hHeld ?_
    rotate_left
    · intro wx hSx; (try dsimp only at hSx); go_split_ands; go_simp; try (with_reducible rfl)
    try simp only [Act.put, List.getElem_toArray, List.getElem_cons_zero, List.getElem_cons_succ, List.setIfInBounds_toArray, List.set_cons_zero, List.set_cons_succ]
    refine wpAnyH_take (i := 5) (v := ?_) rfl (by kernel_rfl) (by kernel_rfl) (by kernel_rfl) (fun _ _ _ h => h) (Or.inl ⟨by rfl, ?_⟩) hHeld ?_
    rotate_left
    · intro wx hSx; (try dsimp only at hSx); go_split_ands; go_simp; try (with_reducible rfl)
    try simp only [Act.put, List.getElem_toArray, List.getElem_cons_zero, List.getElem_cons_succ, List.setIfInBounds_toArray, List.set_cons_zero, List.set_cons_succ]
    refine wpAnyH_take (i := 6) (v := ?_) rfl (by kernel_rfl) (by kernel_rfl) (by kernel_rfl) (fun _ _ _ h => h) (Or.inl ⟨by rfl, ?_⟩) hHeld ?_
    rotate_left
    · intro wx hSx; (try dsimp only at hSx); go_split_ands; go_simp; try (with_reducible rfl)
    try simp only [Act.put, List.getElem_toArray, List.getElem_cons_zero, List.getElem_cons_succ, List.setIfInBounds_toArray, List.set_cons_zero, List.set_cons_succ]
    refine wpAnyH_take (i := 7) (v := ?_) rfl (by kernel_rfl) (by kernel_rfl) (by kernel_rfl) (fun _ _ _ h => h) (Or.inl ⟨by rfl, ?_⟩) hHeld ?_
    rotate_left
    · intro wx hSx; (try dsimp only at hSx); go_split_ands; go_simp; try (with_reducible rfl)
    try simp only [Act.put, List.getElem_toArray, List.getElem_cons_zero, List.getElem_cons_succ, List.setIfInBounds_toArray, List.set_cons_zero, List.set_cons_succ]
    refine wpAnyH_take (i := 8) (v := ?_) rfl (by kernel_rfl) (by kernel_rfl) (by kernel_rfl) (fun _ _ _ h => h) (Or.inl ⟨by rfl, ?_⟩) hHeld ?_
    rotate_left
    · intro wx hSx; (try dsimp only at hSx); go_split_ands; go_simp; try (with_reducible rfl)
    try simp only [Act.put, List.getElem_toArray, List.getElem_cons_zero, List.getElem_cons_succ, List.setIfInBounds_toArray, List.set_cons_zero, List.set_cons_succ]
    refine wpAnyH_ready (rs := [9]) (by kernel_rfl) (by simp) ?_
    refine AllReadyH.cons (o := _) rfl (fun K hK => ?_) AllReadyH.nil
    go_simp
    obtain ⟨W3, hW3, hbr, hW3b, hW3z⟩ := row_of_alloc w1 3 #[.int .i64 x.info]
    rw [← hW3]
    clear hW3
    have hbx3 := hbx2.below hW3b (by omega)
    have hB3 : Below w.heap.size w W3 := hB2.trans (hW3b.mono (by omega))
    clear hbx2 hW3b hB2
    refine hK.out _ _ ⟨hbx3.drew.cell rfl, (below_old hB3.drew p 2 hpl).trans hwi⟩ (fun hHeld => ?_)
    clear hK K
    try simp only [Act.put, List.getElem_toArray, List.getElem_cons_zero, List.getElem_cons_succ, List.setIfInBounds_toArray, List.set_cons_zero, List.set_cons_succ]
    refine wpAnyH_ready (rs := [10]) (by kernel_rfl) (by simp) ?_
    refine AllReadyH.cons (o := _) rfl (fun K hK => ?_) AllReadyH.nil
    go_simp
    refine (within_any _ (fun b => b = w1.heap.size) _ 0 ((ni : Int) - 1) [x.info] (Row.ints (l := [x.info]) hbr.drew (F := fun b => b = w1.heap.size) rfl (c := 1) (by simp)) (by simp)).mono ?_
    rintro e w2 ⟨_, rfl, hb2, rfl⟩
    have hbx4 := hbx3.drew.below hb2 (by simp; omega)
    have hB4 : Below w.heap.size w w2 := hB3.drew.trans (hb2.mono (by simp; omega))
    clear hbx3 hb2 hB3 hbr
    dsimp only
    refine hK.out _ _ ⟨hbx4.cell rfl, (below_old hB4 p 2 hpl).trans hwi⟩ (fun hHeld => ?_)
    clear hK K
    try simp only [Act.put, List.getElem_toArray, List.getElem_cons_zero, List.getElem_cons_succ, List.setIfInBounds_toArray, List.set_cons_zero, List.set_cons_succ]
    refine wpAnyH_take (i := 11) (v := ?_) rfl (by kernel_rfl) (by kernel_rfl) (by kernel_rfl) (fun _ _ _ h => h) (Or.inl ⟨by rfl, ?_⟩) hHeld ?_
    rotate_left
    · intro wx hSx; (try dsimp only at hSx); go_split_ands; go_simp; try (with_reducible rfl)
    try simp only [Act.put, List.getElem_toArray, List.getElem_cons_zero, List.getElem_cons_succ, List.setIfInBounds_toArray, List.set_cons_zero, List.set_cons_succ]
    refine wpAnyH_done (by kernel_rfl) ?_ _
    go_wp2
    go_ret
    exact ⟨_, rfl, hB4, by rw [HF2.out]; rfl⟩
  · have hd : (er != 0) = true := by simp [he]
    have HF2 := Lib.hid (show moveErr players ni x = er by rw [HF.out]; simp [he])
    clear he
    go_wp2
    go_ret
    exact ⟨_, rfl, hB2, by rw [HF2.out]; rfl⟩

set_option maxRecDepth 100000 in
set_option maxHeartbeats 3200000 in
theorem end_any (w : World) (F : Foot) (p : Nat) (ux : Value) (players : Int) (ni : Nat) (x : Nd) (hw : WalkerHead w p players ni) (hx : NodeV w F ux x) (hl : x.next.length < 1000000 ∧ x.weights.length < 1000000 ∧ x.pay.length < 1000000) (hpl : p < w.heap.size) :
    Calls Try.prog 65 #[.pointer (some ⟨p, 0, none⟩), ux] w (Ret w fun v _ => v = .int .i64 (endErr players x)) := by
  obtain ⟨v3, v4, v5, rfl, ⟨A3, c3, rfl, hc3, h3⟩, ⟨A4, c4, rfl, hc4, h4⟩, ⟨A5, c5, rfl, hc5, h5⟩⟩ := hx
  obtain ⟨hl3, hl4, hl5⟩ := hl
  have H5 := Lib.hid (show IntsAt w F (.slice A5 x.pay.length c5) x.pay from ⟨A5, c5, rfl, hc5, h5⟩)
  clear h3 h4 h5
  obtain ⟨hwp, Ai, ci, hwi⟩ := hw
  by_cases q0 : x.player ≠ 0
  · have HF := Lib.hid (show endErr players x = 3 by unfold endErr; rw [if_pos (by omega)])
    have d0 : (x.player != 0) = true := neT (by omega)
    go_enter Try.func65, Try.ntmps65
    go_wp2
    go_quiet (fail)
    go_wp2
    go_ret
    exact ⟨_, rfl, below_dN ((Below.refl _ _).alloc (Nat.le_refl _) _) _, by rw [HF.out]; rfl⟩
  have d0 : (x.player != 0) = false := neF (by omega)
  by_cases q1 : x.info ≠ 0
  · have HF := Lib.hid (show endErr players x = 3 by unfold endErr; rw [if_pos (by omega)])
    have d1 : (x.info != 0) = true := neT (by omega)
    go_enter Try.func65, Try.ntmps65
    go_wp2
    go_quiet (fail)
    go_wp2
    go_ret
    exact ⟨_, rfl, below_dN ((Below.refl _ _).alloc (Nat.le_refl _) _) _, by rw [HF.out]; rfl⟩
  have d1 : (x.info != 0) = false := neF (by omega)
  by_cases q2 : 0 < x.next.length
  · have HF := Lib.hid (show endErr players x = 3 by unfold endErr; rw [if_pos (by omega)])
    have d2 : decide ((0 : Int) < (x.next.length : Int)) = true := decide_eq_true (by omega)
    go_enter Try.func65, Try.ntmps65
    go_wp2
    go_quiet (fail)
    go_wp2
    go_ret
    exact ⟨_, rfl, below_dN ((Below.refl _ _).alloc (Nat.le_refl _) _) _, by rw [HF.out]; rfl⟩
  have d2 : decide ((0 : Int) < (x.next.length : Int)) = false := decide_eq_false (by omega)
  by_cases q3 : 0 < x.weights.length
  · have HF := Lib.hid (show endErr players x = 3 by unfold endErr; rw [if_pos (by omega)])
    have d3 : decide ((0 : Int) < (x.weights.length : Int)) = true := decide_eq_true (by omega)
    go_enter Try.func65, Try.ntmps65
    go_wp2
    go_quiet (fail)
    go_wp2
    go_ret
    exact ⟨_, rfl, below_dN ((Below.refl _ _).alloc (Nat.le_refl _) _) _, by rw [HF.out]; rfl⟩
  have d3 : decide ((0 : Int) < (x.weights.length : Int)) = false := decide_eq_false (by omega)
  by_cases q4 : (x.pay.length : Int) ≠ players
  · have HF := Lib.hid (show endErr players x = 3 by unfold endErr; rw [if_pos (by omega)])
    have d4 : ((x.pay.length : Int) != players) = true := neT (by omega)
    go_enter Try.func65, Try.ntmps65
    go_wp2
    go_quiet (fail)
    go_wp2
    go_ret
    exact ⟨_, rfl, below_dN ((Below.refl _ _).alloc (Nat.le_refl _) _) _, by rw [HF.out]; rfl⟩
  have d4 : ((x.pay.length : Int) != players) = false := neF (by omega)
  have HF := Lib.hid (show endErr players x = withinErr (-1000000) 1000000 x.pay by unfold endErr; rw [if_neg (by omega)]; rfl)
  clear q0 q1 q4
  go_enter Try.func65, Try.ntmps65
  go_wp2
  go_quiet (fail)
  go_wp2_with fail
  refine (within_any _ F _ (-1000000) 1000000 x.pay ((H5.out.on (Same.alloc _ _ _)).on (Same.drewN _ _ _)) (by omega)).mono ?_
  rintro e w' ⟨v, rfl, hb, rfl⟩
  dsimp only
  go_wp2
  go_ret
  exact ⟨_, rfl, (below_dN ((Below.refl _ _).alloc (Nat.le_refl _) _) _).trans (hb.mono (by simp)), by rw [HF.out]; rfl⟩
end Go.Proofs.Ytafjdoedallnbaa

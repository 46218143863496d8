/- recall.walker.node -/
import Derived.Test.YtafjdoedallnbaaJ03
import Derived.Laws.EntriesVeiled
import Derived.Test.YtafjdoedallnbaaJ01
namespace Go.Proofs.Ytafjdoedallnbaa
open List renaming getElem_toArray → lq1, getElem_cons_zero → lq2, getElem_cons_succ → lq3, setIfInBounds_toArray → lq4, set_cons_zero → lq5, set_cons_succ → lq6
open Go.RowKit
set_option maxRecDepth 100000 in
set_option maxHeartbeats 3200000 in
theorem nodeP_any (w : World) (F : Foot) (p : Nat) (ux : Value) (players : Int) (ni : Nat) (x : Nd) (hw : WalkerHead w p players ni) (hx : NodeV w F ux x) (hl : x.next.length < 1000000 ∧ x.weights.length < 1000000 ∧ x.pay.length < 1000000)
  (hp : 0 ≤ players ∧ players < 1000000) (hni : ni < 1000000) (hpl : p < w.heap.size) :
  Calls Try.prog 59 #[.pointer (some ⟨p, 0, none⟩), ux] w (Ret w fun v _ => v = .int .i64 (nodeErr players ni x)) := by
 have HX := Lib.hid hx
 obtain ⟨v3, v4, v5, rfl, ⟨A3, c3, rfl, hc3, h3⟩, ⟨A4, c4, rfl, hc4, h4⟩, ⟨A5, c5, rfl, hc5, h5⟩⟩ := hx
 clear h3 h4 h5
 have HW := Lib.hid hw
 have HL := Lib.hid hl
 clear hw hl
 by_cases k1 : x.kind = 1
 ·have HF := Lib.hid (show nodeErr players ni x = chanceErr x by unfold nodeErr; simp [k1])
  rw [k1] at HX ⊢
  clear k1
  go_enter Try.func59, Try.ntmps59
  go_wp2_with fail
  obtain ⟨W, hW, hbx, hWb, hWz⟩ := row_of_alloc w 45 #[.int .i64 1, .int .i64 x.player, .int .i64 x.info, .slice A3 x.next.length c3, .slice A4 x.weights.length c4, .slice A5 x.pay.length c5]
  rw [← hW]; clear hW
  obtain ⟨W1, hW, hbt, hW1b, hW1z⟩ := row_of_alloc W 99 #[.nilFunc, .func (.func 63) #[] #[], .func (.func 64) #[] #[], .func (.func 65) #[] #[]]
  rw [← hW]; clear hW
  have hbx1 := hbx.below hW1b (by omega)
  have hB1 : Below w.heap.size w W1 := hWb.trans (hW1b.mono (by omega))
  clear hbx hWb hW1b
  rw [← hWz] at hbt; have z0 := hbt.lt; clear hWz hW1z
  have hen := enters Try.func63 (by decide +kernel) (by decide +kernel)
  refine wp_region_held_drew (S := fun w' => w'.cell? ⟨w.heap.size + 1, 1, none⟩ = some (.func (.func 63) #[] #[]) ∧ w'.cell? ⟨w.heap.size, 0, none⟩ = some (.int .i64 1) ∧ w'.cell? ⟨w.heap.size, 1, none⟩ = some (.int .i64 x.player) ∧ w'.cell? ⟨w.heap.size, 2, none⟩ = some (.int .i64 x.info) ∧ w'.cell? ⟨w.heap.size, 3, none⟩ = some (.slice A3 x.next.length c3) ∧ w'.cell? ⟨w.heap.size, 4, none⟩ = some (.slice A4 x.weights.length c4) ∧ w'.cell? ⟨w.heap.size, 5, none⟩ = some (.slice A5 x.pay.length c5)) (by kernel_rfl) ⟨hbt.cell rfl, hbx1.cell rfl, hbx1.cell rfl, hbx1.cell rfl, hbx1.cell rfl, hbx1.cell rfl, hbx1.cell rfl⟩ (fun hHeld => ?_)
  refine wpAnyH_take (i := 0) (v := ?_) rfl (by kernel_rfl) (by kernel_rfl) (by kernel_rfl) (fun _ _ _ h => h) (Or.inl ⟨by rfl, ?_⟩) hHeld ?_
  rotate_left
  ·intro wx hSx; (try dsimp only at hSx); go_split_ands; go_simp; try (with_reducible rfl)
  try simp only [Act.put, lq1, lq2, lq3, lq4, lq5, lq6]
  refine wpAnyH_take (i := 1) (v := ?_) rfl (by kernel_rfl) (by kernel_rfl) (by kernel_rfl) (fun _ _ _ h => h) (Or.inl ⟨by rfl, ?_⟩) hHeld ?_
  rotate_left
  ·intro wx hSx; (try dsimp only at hSx); go_split_ands; go_simp; try (with_reducible rfl)
  try simp only [Act.put, lq1, lq2, lq3, lq4, lq5, lq6]
  refine wpAnyH_take (i := 2) (v := ?_) rfl (by kernel_rfl) (by kernel_rfl) (by kernel_rfl) (fun _ _ _ h => h) (Or.inl ⟨by rfl, ?_⟩) hHeld ?_
  rotate_left
  ·intro wx hSx; (try dsimp only at hSx); go_split_ands; go_simp; try (with_reducible rfl)
  try simp only [Act.put, lq1, lq2, lq3, lq4, lq5, lq6]
  refine wpAnyH_take (i := 3) (v := ?_) rfl (by kernel_rfl) (by kernel_rfl) (by kernel_rfl) (fun _ _ _ h => h) (Or.inl ⟨by rfl, ?_⟩) hHeld ?_
  rotate_left
  ·intro wx hSx; (try dsimp only at hSx); go_split_ands; go_simp; try (with_reducible rfl)
  try simp only [Act.put, lq1, lq2, lq3, lq4, lq5, lq6]
  refine wpAnyH_take (i := 4) (v := ?_) rfl (by kernel_rfl) (by kernel_rfl) (by kernel_rfl) (fun _ _ _ h => h) (Or.inl ⟨by rfl, ?_⟩) hHeld ?_
  rotate_left
  ·intro wx hSx; (try dsimp only at hSx); go_split_ands; go_simp; try (with_reducible rfl)
  try simp only [Act.put, lq1, lq2, lq3, lq4, lq5, lq6]
  refine wpAnyH_take (i := 5) (v := ?_) rfl (by kernel_rfl) (by kernel_rfl) (by kernel_rfl) (fun _ _ _ h => h) (Or.inl ⟨by rfl, ?_⟩) hHeld ?_
  rotate_left
  ·intro wx hSx; (try dsimp only at hSx); go_split_ands; go_simp; try (with_reducible rfl)
  try simp only [Act.put, lq1, lq2, lq3, lq4, lq5, lq6]
  refine wpAnyH_ready (rs := [6]) (by kernel_rfl) (by simp) ?_
  refine AllReadyH.cons (o := _) rfl (fun K hK => ?_) AllReadyH.nil
  go_simp
  refine (chance_any _ F _ _ x (HX.out.on (Below.same' hB1.drew F)) HL.out).mono ?_
  rintro e w1 ⟨_, rfl, hb1, rfl⟩
  have hbx2 := hbx1.drew.below hb1 (by simp; omega)
  have hbt2 := hbt.drew.below hb1 (by simp; omega)
  dsimp only
  refine hK.out _ _ ⟨hbt2.cell rfl, hbx2.cell rfl, hbx2.cell rfl, hbx2.cell rfl, hbx2.cell rfl, hbx2.cell rfl, hbx2.cell rfl⟩ (fun hHeld => ?_)
  clear hK K
  try simp only [Act.put, lq1, lq2, lq3, lq4, lq5, lq6]
  refine wpAnyH_take (i := 7) (v := ?_) rfl (by kernel_rfl) (by kernel_rfl) (by kernel_rfl) (fun _ _ _ h => h) (Or.inl ⟨by rfl, ?_⟩) hHeld ?_
  rotate_left
  ·intro wx hSx; (try dsimp only at hSx); go_split_ands; go_simp; try (with_reducible rfl)
  try simp only [Act.put, lq1, lq2, lq3, lq4, lq5, lq6]
  refine wpAnyH_done (by kernel_rfl) ?_ _
  go_wp2
  go_ret
  exact ⟨_, rfl, hB1.drew.trans (hb1.mono (by simp; omega)), by rw [HF.out]; rfl⟩
 by_cases k2 : x.kind = 2
 ·have HF := Lib.hid (show nodeErr players ni x = moveErr players ni x by unfold nodeErr; simp [k2])
  rw [k2] at HX ⊢
  clear k1 k2
  go_enter Try.func59, Try.ntmps59
  go_wp2_with fail
  obtain ⟨W, hW, hbx, hWb, hWz⟩ := row_of_alloc w 45 #[.int .i64 2, .int .i64 x.player, .int .i64 x.info, .slice A3 x.next.length c3, .slice A4 x.weights.length c4, .slice A5 x.pay.length c5]
  rw [← hW]; clear hW
  obtain ⟨W1, hW, hbt, hW1b, hW1z⟩ := row_of_alloc W 99 #[.nilFunc, .func (.func 63) #[] #[], .func (.func 64) #[] #[], .func (.func 65) #[] #[]]
  rw [← hW]; clear hW
  have hbx1 := hbx.below hW1b (by omega)
  have hB1 : Below w.heap.size w W1 := hWb.trans (hW1b.mono (by omega))
  clear hbx hWb hW1b
  rw [← hWz] at hbt; have z0 := hbt.lt; clear hWz hW1z
  have hen := enters Try.func64 (by decide +kernel) (by decide +kernel)
  refine wp_region_held_drew (S := fun w' => w'.cell? ⟨w.heap.size + 1, 2, none⟩ = some (.func (.func 64) #[] #[]) ∧ w'.cell? ⟨w.heap.size, 0, none⟩ = some (.int .i64 2) ∧ w'.cell? ⟨w.heap.size, 1, none⟩ = some (.int .i64 x.player) ∧ w'.cell? ⟨w.heap.size, 2, none⟩ = some (.int .i64 x.info) ∧ w'.cell? ⟨w.heap.size, 3, none⟩ = some (.slice A3 x.next.length c3) ∧ w'.cell? ⟨w.heap.size, 4, none⟩ = some (.slice A4 x.weights.length c4) ∧ w'.cell? ⟨w.heap.size, 5, none⟩ = some (.slice A5 x.pay.length c5)) (by kernel_rfl) ⟨hbt.cell rfl, hbx1.cell rfl, hbx1.cell rfl, hbx1.cell rfl, hbx1.cell rfl, hbx1.cell rfl, hbx1.cell rfl⟩ (fun hHeld => ?_)
  refine wpAnyH_take (i := 0) (v := ?_) rfl (by kernel_rfl) (by kernel_rfl) (by kernel_rfl) (fun _ _ _ h => h) (Or.inl ⟨by rfl, ?_⟩) hHeld ?_
  rotate_left
  ·intro wx hSx; (try dsimp only at hSx); go_split_ands; go_simp; try (with_reducible rfl)
  try simp only [Act.put, lq1, lq2, lq3, lq4, lq5, lq6]
  refine wpAnyH_take (i := 1) (v := ?_) rfl (by kernel_rfl) (by kernel_rfl) (by kernel_rfl) (fun _ _ _ h => h) (Or.inl ⟨by rfl, ?_⟩) hHeld ?_
  rotate_left
  ·intro wx hSx; (try dsimp only at hSx); go_split_ands; go_simp; try (with_reducible rfl)
  try simp only [Act.put, lq1, lq2, lq3, lq4, lq5, lq6]
  refine wpAnyH_take (i := 2) (v := ?_) rfl (by kernel_rfl) (by kernel_rfl) (by kernel_rfl) (fun _ _ _ h => h) (Or.inl ⟨by rfl, ?_⟩) hHeld ?_
  rotate_left
  ·intro wx hSx; (try dsimp only at hSx); go_split_ands; go_simp; try (with_reducible rfl)
  try simp only [Act.put, lq1, lq2, lq3, lq4, lq5, lq6]
  refine wpAnyH_take (i := 3) (v := ?_) rfl (by kernel_rfl) (by kernel_rfl) (by kernel_rfl) (fun _ _ _ h => h) (Or.inl ⟨by rfl, ?_⟩) hHeld ?_
  rotate_left
  ·intro wx hSx; (try dsimp only at hSx); go_split_ands; go_simp; try (with_reducible rfl)
  try simp only [Act.put, lq1, lq2, lq3, lq4, lq5, lq6]
  refine wpAnyH_take (i := 4) (v := ?_) rfl (by kernel_rfl) (by kernel_rfl) (by kernel_rfl) (fun _ _ _ h => h) (Or.inl ⟨by rfl, ?_⟩) hHeld ?_
  rotate_left
  ·intro wx hSx; (try dsimp only at hSx); go_split_ands; go_simp; try (with_reducible rfl)
  try simp only [Act.put, lq1, lq2, lq3, lq4, lq5, lq6]
  refine wpAnyH_take (i := 5) (v := ?_) rfl (by kernel_rfl) (by kernel_rfl) (by kernel_rfl) (fun _ _ _ h => h) (Or.inl ⟨by rfl, ?_⟩) hHeld ?_
  rotate_left
  ·intro wx hSx; (try dsimp only at hSx); go_split_ands; go_simp; try (with_reducible rfl)
  try simp only [Act.put, lq1, lq2, lq3, lq4, lq5, lq6]
  refine wpAnyH_ready (rs := [6]) (by kernel_rfl) (by simp) ?_
  refine AllReadyH.cons (o := _) rfl (fun K hK => ?_) AllReadyH.nil
  go_simp
  refine (move_any _ F p _ players ni x ⟨(below_old hB1.drew p 0 hpl).trans HW.out.players, HW.out.infos.imp fun A h => h.imp fun c h => (below_old hB1.drew p 2 hpl).trans h⟩ (HX.out.on (Below.same' hB1.drew F)) HL.out hp hni (by simp; omega)).mono ?_
  rintro e w1 ⟨_, rfl, hb1, rfl⟩
  have hbx2 := hbx1.drew.below hb1 (by simp; omega)
  have hbt2 := hbt.drew.below hb1 (by simp; omega)
  dsimp only
  refine hK.out _ _ ⟨hbt2.cell rfl, hbx2.cell rfl, hbx2.cell rfl, hbx2.cell rfl, hbx2.cell rfl, hbx2.cell rfl, hbx2.cell rfl⟩ (fun hHeld => ?_)
  clear hK K
  try simp only [Act.put, lq1, lq2, lq3, lq4, lq5, lq6]
  refine wpAnyH_take (i := 7) (v := ?_) rfl (by kernel_rfl) (by kernel_rfl) (by kernel_rfl) (fun _ _ _ h => h) (Or.inl ⟨by rfl, ?_⟩) hHeld ?_
  rotate_left
  ·intro wx hSx; (try dsimp only at hSx); go_split_ands; go_simp; try (with_reducible rfl)
  try simp only [Act.put, lq1, lq2, lq3, lq4, lq5, lq6]
  refine wpAnyH_done (by kernel_rfl) ?_ _
  go_wp2
  go_ret
  exact ⟨_, rfl, hB1.drew.trans (hb1.mono (by simp; omega)), by rw [HF.out]; rfl⟩
 by_cases k3 : x.kind = 3
 ·have HF := Lib.hid (show nodeErr players ni x = endErr players x by unfold nodeErr; simp [k3])
  rw [k3] at HX ⊢
  clear k1 k2 k3
  go_enter Try.func59, Try.ntmps59
  go_wp2_with fail
  obtain ⟨W, hW, hbx, hWb, hWz⟩ := row_of_alloc w 45 #[.int .i64 3, .int .i64 x.player, .int .i64 x.info, .slice A3 x.next.length c3, .slice A4 x.weights.length c4, .slice A5 x.pay.length c5]
  rw [← hW]; clear hW
  obtain ⟨W1, hW, hbt, hW1b, hW1z⟩ := row_of_alloc W 99 #[.nilFunc, .func (.func 63) #[] #[], .func (.func 64) #[] #[], .func (.func 65) #[] #[]]
  rw [← hW]; clear hW
  have hbx1 := hbx.below hW1b (by omega)
  have hB1 : Below w.heap.size w W1 := hWb.trans (hW1b.mono (by omega))
  clear hbx hWb hW1b
  rw [← hWz] at hbt; have z0 := hbt.lt; clear hWz hW1z
  have hen := enters Try.func65 (by decide +kernel) (by decide +kernel)
  refine wp_region_held_drew (S := fun w' => w'.cell? ⟨w.heap.size + 1, 3, none⟩ = some (.func (.func 65) #[] #[]) ∧ w'.cell? ⟨w.heap.size, 0, none⟩ = some (.int .i64 3) ∧ w'.cell? ⟨w.heap.size, 1, none⟩ = some (.int .i64 x.player) ∧ w'.cell? ⟨w.heap.size, 2, none⟩ = some (.int .i64 x.info) ∧ w'.cell? ⟨w.heap.size, 3, none⟩ = some (.slice A3 x.next.length c3) ∧ w'.cell? ⟨w.heap.size, 4, none⟩ = some (.slice A4 x.weights.length c4) ∧ w'.cell? ⟨w.heap.size, 5, none⟩ = some (.slice A5 x.pay.length c5)) (by kernel_rfl) ⟨hbt.cell rfl, hbx1.cell rfl, hbx1.cell rfl, hbx1.cell rfl, hbx1.cell rfl, hbx1.cell rfl, hbx1.cell rfl⟩ (fun hHeld => ?_)
  refine wpAnyH_take (i := 0) (v := ?_) rfl (by kernel_rfl) (by kernel_rfl) (by kernel_rfl) (fun _ _ _ h => h) (Or.inl ⟨by rfl, ?_⟩) hHeld ?_
  rotate_left
  ·intro wx hSx; (try dsimp only at hSx); go_split_ands; go_simp; try (with_reducible rfl)
  try simp only [Act.put, lq1, lq2, lq3, lq4, lq5, lq6]
  refine wpAnyH_take (i := 1) (v := ?_) rfl (by kernel_rfl) (by kernel_rfl) (by kernel_rfl) (fun _ _ _ h => h) (Or.inl ⟨by rfl, ?_⟩) hHeld ?_
  rotate_left
  ·intro wx hSx; (try dsimp only at hSx); go_split_ands; go_simp; try (with_reducible rfl)
  try simp only [Act.put, lq1, lq2, lq3, lq4, lq5, lq6]
  refine wpAnyH_take (i := 2) (v := ?_) rfl (by kernel_rfl) (by kernel_rfl) (by kernel_rfl) (fun _ _ _ h => h) (Or.inl ⟨by rfl, ?_⟩) hHeld ?_
  rotate_left
  ·intro wx hSx; (try dsimp only at hSx); go_split_ands; go_simp; try (with_reducible rfl)
  try simp only [Act.put, lq1, lq2, lq3, lq4, lq5, lq6]
  refine wpAnyH_take (i := 3) (v := ?_) rfl (by kernel_rfl) (by kernel_rfl) (by kernel_rfl) (fun _ _ _ h => h) (Or.inl ⟨by rfl, ?_⟩) hHeld ?_
  rotate_left
  ·intro wx hSx; (try dsimp only at hSx); go_split_ands; go_simp; try (with_reducible rfl)
  try simp only [Act.put, lq1, lq2, lq3, lq4, lq5, lq6]
  refine wpAnyH_take (i := 4) (v := ?_) rfl (by kernel_rfl) (by kernel_rfl) (by kernel_rfl) (fun _ _ _ h => h) (Or.inl ⟨by rfl, ?_⟩) hHeld ?_
  rotate_left
  ·intro wx hSx; (try dsimp only at hSx); go_split_ands; go_simp; try (with_reducible rfl)
  try simp only [Act.put, lq1, lq2, lq3, lq4, lq5, lq6]
  refine wpAnyH_take (i := 5) (v := ?_) rfl (by kernel_rfl) (by kernel_rfl) (by kernel_rfl) (fun _ _ _ h => h) (Or.inl ⟨by rfl, ?_⟩) hHeld ?_
  rotate_left
  ·intro wx hSx; (try dsimp only at hSx); go_split_ands; go_simp; try (with_reducible rfl)
  try simp only [Act.put, lq1, lq2, lq3, lq4, lq5, lq6]
  refine wpAnyH_ready (rs := [6]) (by kernel_rfl) (by simp) ?_
  refine AllReadyH.cons (o := _) rfl (fun K hK => ?_) AllReadyH.nil
  go_simp
  refine (end_any _ F p _ players ni x ⟨(below_old hB1.drew p 0 hpl).trans HW.out.players, HW.out.infos.imp fun A h => h.imp fun c h => (below_old hB1.drew p 2 hpl).trans h⟩ (HX.out.on (Below.same' hB1.drew F)) HL.out (by simp; omega)).mono ?_
  rintro e w1 ⟨_, rfl, hb1, rfl⟩
  have hbx2 := hbx1.drew.below hb1 (by simp; omega)
  have hbt2 := hbt.drew.below hb1 (by simp; omega)
  dsimp only
  refine hK.out _ _ ⟨hbt2.cell rfl, hbx2.cell rfl, hbx2.cell rfl, hbx2.cell rfl, hbx2.cell rfl, hbx2.cell rfl, hbx2.cell rfl⟩ (fun hHeld => ?_)
  clear hK K
  try simp only [Act.put, lq1, lq2, lq3, lq4, lq5, lq6]
  refine wpAnyH_take (i := 7) (v := ?_) rfl (by kernel_rfl) (by kernel_rfl) (by kernel_rfl) (fun _ _ _ h => h) (Or.inl ⟨by rfl, ?_⟩) hHeld ?_
  rotate_left
  ·intro wx hSx; (try dsimp only at hSx); go_split_ands; go_simp; try (with_reducible rfl)
  try simp only [Act.put, lq1, lq2, lq3, lq4, lq5, lq6]
  refine wpAnyH_done (by kernel_rfl) ?_ _
  go_wp2
  go_ret
  exact ⟨_, rfl, hB1.drew.trans (hb1.mono (by simp; omega)), by rw [HF.out]; rfl⟩
 have HF := Lib.hid (show nodeErr players ni x = 3 by unfold nodeErr; simp [k1, k2, k3])
 by_cases q : x.kind < 1
 ·clear k1 k2 k3
  go_enter Try.func59, Try.ntmps59
  go_wp2
  go_ret
  exact ⟨_, rfl, below_two _ _ _ 0, by rw [HF.out]; rfl⟩
 ·have d : decide (x.kind < 1) = false := decide_eq_false q
  have d2 : 3 < x.kind := by omega
  clear k1 k2 k3
  go_enter Try.func59, Try.ntmps59
  go_wp2
  go_ret
  exact ⟨_, rfl, below_two _ _ _ 0, by rw [HF.out]; rfl⟩
end Go.Proofs.Ytafjdoedallnbaa
/- recall.walker.walk: the parents, the depths and the last nodes. -/
namespace Go.Proofs.Ytafjdoedallnbaa
open List renaming getElem_toArray → lq1, getElem_cons_zero → lq2, getElem_cons_succ → lq3, setIfInBounds_toArray → lq4, set_cons_zero → lq5, set_cons_succ → lq6
open Go.RowKit
/-- from w to w' only blocks in K have changed (and new ones have come) -/
structure Wrote (K : Foot) (w w' : World) : Prop where
 os : w'.os = w.os
 tape : w'.tape = w.tape
 output : w'.output = w.output
 size : w.heap.size ≤ w'.heap.size
 block : ∀ i, i < w.heap.size → ¬ K i → w'.heap[i]? = w.heap[i]?
theorem Wrote.refl (K : Foot) (w : World) : Wrote K w w := ⟨rfl, rfl, rfl, Nat.le_refl _, fun _ _ _ => rfl⟩
theorem Wrote.trans {K : Foot} {a b c : World} (h : Wrote K a b) (k : Wrote K b c) : Wrote K a c :=
 ⟨k.os.trans h.os, k.tape.trans h.tape, k.output.trans h.output, Nat.le_trans h.size k.size, fun i hi hn => (k.block i (Nat.lt_of_lt_of_le hi h.size) hn).trans (h.block i hi hn)⟩
theorem Wrote.setCell {K : Foot} {a w : World} (h : Wrote K a w) {p : Addr} (hp : K p.block ∨ a.heap.size ≤ p.block) (u : Value) : Wrote K a (w.setCell p u) :=
 ⟨h.os, h.tape, h.output, by simpa using h.size, fun i hi hn => (Below.heap_setCell w p u i (by
  rintro rfl
  rcases hp with hp | hp
  ·exact hn hp
  ·omega)).trans (h.block i hi hn)⟩
theorem Wrote.alloc {K : Foot} {a w : World} (h : Wrote K a w) (o : Obj) : Wrote K a (w.alloc o) :=
 ⟨h.os, h.tape, h.output, Nat.le_trans h.size (by simp), fun i hi hn => (Below.heap_alloc w o i (Nat.lt_of_lt_of_le hi h.size)).trans (h.block i hi hn)⟩
theorem Wrote.drew {K : Foot} {a w : World} (h : Wrote K a w) : Wrote K a w.drew := ⟨h.os, h.tape, h.output, h.size, h.block⟩
theorem Wrote.dN {K : Foot} {a w : World} (h : Wrote K a w) (n : Nat) : Wrote K a (w.drewN n) := ⟨h.os, h.tape, h.output, h.size, h.block⟩
theorem Wrote.same {K F : Foot} {w w' : World} (h : Wrote K w w') (hF : ∀ b, F b → ¬ K b) : Same F w w' := ⟨h.size, fun k hk hl => h.block k hl (hF k hk)⟩
theorem Wrote.cell {K : Foot} {w w' : World} (h : Wrote K w w') : ∀ b o, b < w.heap.size → ¬ K b → w'.cell? ⟨b, o, none⟩ = w.cell? ⟨b, o, none⟩ := fun b o hb hd => World.cell?_of_block (h.block b hb hd)
theorem Row.wrote {K : Foot} {w w' : World} {b : Nat} {t : TypeId} {vs : List Value} (h : Row w b t vs) (k : Wrote K w w') (hn : ¬ K b) : Row w' b t vs := h.of_block (k.block b h.lt hn)
theorem Wrote.below {K : Foot} {B : Nat} {a w w' : World} (h : Below B a w) (k : Wrote K w w') (hK : ∀ b, K b → B ≤ b) (hB : B ≤ w.heap.size) : Below B a w' :=
 h.trans ⟨k.os, k.tape, k.output, k.size, fun i hi => k.block i (by omega) (fun hk => by have := hK i hk; omega)⟩
structure Tri where
 p : List Int
 d : List Int
 l : List Int
def kidsP (rec : Nat → Tri → Int × Tri) : List Int → Int → Tri → Int × Tri
 | [], next, t => (next, t)
 | c :: cs, next, t => if c ≠ next then (-1, t) else if (rec next.toNat t).1 < 0 then (-1, (rec next.toNat t).2) else kidsP rec cs (rec next.toNat t).1 (rec next.toNat t).2
def walkP (nodes : List Nd) : Nat → Nat → Int → Int → Tri → Int × Tri
 | 0, _, _, _, t => (-1, t)
 | f + 1, a, par, dep, t => match nodes[a]? with
  | none => (-1, t)
  | some n =>
   let r := kidsP (fun a' t => walkP nodes f a' a (dep + 1) t) n.next ((a : Int) + 1) ⟨t.p.set a par, t.d.set a dep, t.l⟩
   if r.1 < 0 then r else (r.1, ⟨r.2.p, r.2.d, r.2.l.set a (r.1 - 1)⟩)
structure Tri.Len (N : Nat) (t : Tri) : Prop where
 p : t.p.length = N
 d : t.d.length = N
 l : t.l.length = N
theorem kidsP_len {N : Nat} {rec : Nat → Tri → Int × Tri} (hrec : ∀ a t, Tri.Len N t → Tri.Len N (rec a t).2) : ∀ (cs : List Int) (next : Int) (t : Tri), Tri.Len N t → Tri.Len N (kidsP rec cs next t).2
 | [], _, t, h => h
 | c :: cs, next, t, h => by
  unfold kidsP
  split
  ·exact h
  ·split
   ·exact hrec _ _ h
   ·exact kidsP_len hrec cs _ _ (hrec _ _ h)
theorem walkP_len {N : Nat} (nodes : List Nd) : ∀ (f a : Nat) (par dep : Int) (t : Tri), Tri.Len N t → Tri.Len N (walkP nodes f a par dep t).2
 | 0, _, _, _, _, h => h
 | f + 1, a, par, dep, t, h => by
  unfold walkP
  split
  ·exact h
  ·rename_i n hn
   have hk := kidsP_len (rec := fun a' t => walkP nodes f a' a (dep + 1) t) (fun a' t h => walkP_len nodes f a' a (dep + 1) t h) n.next ((a : Int) + 1) ⟨t.p.set a par, t.d.set a dep, t.l⟩ ⟨by simp [h.p], by simp [h.d], h.l⟩
   dsimp only
   split
   ·exact hk
   ·exact ⟨hk.p, hk.d, by simp [hk.l]⟩
/-- the two walks find the same next node, whatever they gather -/
theorem kids_same {rec : Nat → Tri → Int × Tri} {rec' : Nat → Int → Int × Int} (h : ∀ a t d, (rec a t).1 = (rec' a d).1) : ∀ (cs : List Int) (next : Int) (t : Tri) (d : Int), (kidsP rec cs next t).1 = (kidsLoop rec' cs next d).1
 | [], _, _, _ => rfl
 | c :: cs, next, t, d => by
  unfold kidsP kidsLoop
  rw [h _ t d]
  split
  ·rfl
  ·split
   ·rfl
   ·exact kids_same h cs _ _ _
theorem walk_same (nodes : List Nd) : ∀ (f a : Nat) (par dep : Int) (t : Tri) (d : Int), (walkP nodes f a par dep t).1 = (walkR nodes f a dep d).1
 | 0, _, _, _, _, _ => rfl
 | f + 1, a, par, dep, t, d => by
  unfold walkP walkR
  cases hn : nodes[a]? with
  | none => rfl
  | some n =>
   have hk := kids_same (rec := fun a' t => walkP nodes f a' a (dep + 1) t) (rec' := fun a' d => walkR nodes f a' (dep + 1) d) (fun a' t d => walk_same nodes f a' a (dep + 1) t d) n.next ((a : Int) + 1) ⟨t.p.set a par, t.d.set a dep, t.l⟩ (max d dep)
   dsimp only
   rw [← hk]
   split <;> rfl
theorem walkP_bound (nodes : List Nd) (f a : Nat) (par dep : Int) (t : Tri) : (walkP nodes f a par dep t).1 = -1 ∨ ((a : Int) < (walkP nodes f a par dep t).1 ∧ (walkP nodes f a par dep t).1 ≤ nodes.length) := by
 rw [walk_same nodes f a par dep t 0]
 exact walkR_bound nodes f a dep 0
def intsV (l : List Int) : List Value := l.map (Value.int .i64)
/-- what recall's walker holds: the game, and three rows -/
structure WalkerAt (w : World) (p bp bd bl : Nat) (players : Int) (A : Option Addr) (N c : Nat) (Ai : Option Addr) (ni ci : Nat) (t : Tri) : Prop where
 head : Row w p 92 [.int .i64 players, .slice A N c, .slice Ai ni ci, .slice (some ⟨bp, 0, none⟩) N N, .slice (some ⟨bd, 0, none⟩) N N, .slice (some ⟨bl, 0, none⟩) N N]
 rp : Row w bp 3 (intsV t.p)
 rd : Row w bd 3 (intsV t.d)
 rl : Row w bl 3 (intsV t.l)
/-- the last nodes of a game, from the a-th on -/
def RestV (v : Value) (b o N c a : Nat) : Prop := ∃ A', v = .slice A' (N - a) (c - a) ∧ (a < N → A' = some ⟨b, o + 6 * a, none⟩)
set_option maxRecDepth 100000 in
set_option maxHeartbeats 3200000 in
theorem walkP_any (g : Gm) (hsm : Small g) (p bp bd bl : Nat) (b o c : Nat) (Ai : Option Addr) (ci : Nat) (hd : p ≠ bp ∧ p ≠ bd ∧ p ≠ bl ∧ bp ≠ bd ∧ bp ≠ bl ∧ bd ≠ bl) (hc : g.nodes.length ≤ c)
  (F : Foot) (hF : ∀ k, F k → k ≠ bp ∧ k ≠ bd ∧ k ≠ bl) : ∀ (f a : Nat) (par dep : Int) (t : Tri) (w : World) (u : Value), RestV u b o g.nodes.length c a → Tri.Len g.nodes.length t →
  (a < g.nodes.length → NodesAt w F (.slice (some ⟨b, o, none⟩) g.nodes.length c) g.nodes) → WalkerAt w p bp bd bl g.players (some ⟨b, o, none⟩) g.nodes.length c Ai g.infos.length ci t → a ≤ g.nodes.length → g.nodes.length < a + f → 0 ≤ dep → dep + f ≤ 100000 →
  Calls Try.prog 60 #[.pointer (some ⟨p, 0, none⟩), .int .i64 par, .int .i64 dep, u] w fun e w' => ∃ vr, e = .returned (.tuple #[vr, .bool (decide (0 ≤ (walkP g.nodes f a par dep t).1))]) ∧
   (0 ≤ (walkP g.nodes f a par dep t).1 → RestV vr b o g.nodes.length c (walkP g.nodes f a par dep t).1.toNat) ∧ WalkerAt w' p bp bd bl g.players (some ⟨b, o, none⟩) g.nodes.length c Ai g.infos.length ci (walkP g.nodes f a par dep t).2 ∧ Wrote (fun k => k = bp ∨ k = bd ∨ k = bl) w w' := by
 intro f
 induction f with
 | zero => intro a par dep t w u hu ht hn hw ha hf hd0 hd1; omega
 | succ f ih =>
  intro a par dep t w u hu ht hn hw ha hf hd0 hd1
  obtain ⟨A', rfl, hA⟩ := hu
  have IH := Lib.hid ih; clear ih
  have hsn := hsm.nodes
  have HSM := Lib.hid hsm; clear hsm
  have HFF := Lib.hid hF; clear hF
  have HW := Lib.hid hw; clear hw
  by_cases hlt : a < g.nodes.length
  ·have hz : ((g.nodes.length - a : Nat) : Int) ≠ 0 := by omega
   have hz' : (((g.nodes.length - a : Nat) : Int) == 0) = false := by simp; omega
   obtain rfl := hA hlt
   have HNA := Lib.hid (hn hlt)
   obtain ⟨A'', c'', hev, _, hnn⟩ := hn hlt
   injection hev with h1 h2 h3
   subst h1 h3
   clear h2 hn
   obtain ⟨b', o', hbo, hFb, hbz, hcell⟩ := hnn (by omega)
   injection hbo with hbo
   injection hbo with h1 h2 h3
   subst h1 h2
   clear h3 hnn hA
   obtain ⟨n, hn'⟩ := getSome hlt
   obtain ⟨v3, e3, A3, c3, rfl, hc3, i3⟩ := (hcell a n hn').c3
   have HX := Lib.hid hn'
   have hl3 := HSM.out.next n (List.mem_of_getElem? hn')
   have H3 := Lib.hid i3; clear i3 hcell hn'
   have x1 := HW.out.head.cell (i := 1) rfl
   have x3 := HW.out.head.cell (i := 3) rfl
   have x4 := HW.out.head.cell (i := 4) rfl
   have hbF := HFF.out b hFb
   have sub1 : ((g.nodes.length : Int) - ((g.nodes.length - a : Nat) : Int)) = (a : Int) := by omega
   go_enter Try.func60, Try.ntmps60
   go_wp2_with fail
   refine wp_region_held_drew (S := fun w' => w'.cell? ⟨p, 3, none⟩ = some (.slice (some ⟨bp, 0, none⟩) g.nodes.length g.nodes.length) ∧ w'.cell? ⟨p, 4, none⟩ = some (.slice (some ⟨bd, 0, none⟩) g.nodes.length g.nodes.length)) (by kernel_rfl) ⟨x3, x4⟩ (fun hHeld => ?_)
   refine wpAnyH_take (i := 0) (v := ?_) rfl (by kernel_rfl) (by kernel_rfl) (by kernel_rfl) (fun _ _ _ h => h) (Or.inl ⟨by rfl, ?_⟩) hHeld ?_
   rotate_left
   ·intro wx hSx; (try dsimp only at hSx); go_split_ands; go_simp; try (with_reducible rfl)
   try simp only [Act.put, lq1, lq2, lq3, lq4, lq5, lq6]
   refine wpAnyH_take (i := 1) (v := ?_) rfl (by kernel_rfl) (by kernel_rfl) (by kernel_rfl) (fun _ _ _ h => h) (Or.inl ⟨by rfl, ?_⟩) hHeld ?_
   rotate_left
   ·intro wx hSx; (try dsimp only at hSx); go_split_ands; go_simp; try (with_reducible rfl)
   try simp only [Act.put, lq1, lq2, lq3, lq4, lq5, lq6]
   refine wpAnyH_take (i := 2) (v := ?_) rfl (by kernel_rfl) (by kernel_rfl) (by kernel_rfl) (fun _ _ _ h => h) (Or.inl ⟨by rfl, ?_⟩) hHeld ?_
   rotate_left
   ·intro wx hSx; (try dsimp only at hSx); go_split_ands; go_simp; try (with_reducible rfl)
   try simp only [Act.put, lq1, lq2, lq3, lq4, lq5, lq6]
   refine wpAnyH_take (i := 3) (v := ?_) rfl (by kernel_rfl) (by kernel_rfl) (by kernel_rfl) (fun _ _ _ h => h) (Or.inl ⟨by rfl, ?_⟩) hHeld ?_
   rotate_left
   ·intro wx hSx; (try dsimp only at hSx); go_split_ands; go_simp; try (with_reducible rfl)
   try simp only [Act.put, lq1, lq2, lq3, lq4, lq5, lq6]
   refine wpAnyH_take (i := 4) (v := ?_) rfl (by kernel_rfl) (by kernel_rfl) (by kernel_rfl) (fun _ _ _ h => h) (Or.inl ⟨by rfl, ?_⟩) hHeld ?_
   rotate_left
   ·intro wx hSx; (try dsimp only at hSx); go_split_ands; go_simp; try (with_reducible rfl)
   try simp only [Act.put, lq1, lq2, lq3, lq4, lq5, lq6]
   refine wpAnyH_take (i := 5) (v := ?_) rfl (by kernel_rfl) (by kernel_rfl) (by kernel_rfl) (fun _ _ _ h => h) (Or.inl ⟨by rfl, ?_⟩) hHeld ?_
   rotate_left
   ·intro wx hSx; (try dsimp only at hSx); go_split_ands; go_simp; try (with_reducible rfl)
   try simp only [Act.put, lq1, lq2, lq3, lq4, lq5, lq6]
   refine wpAnyH_take (i := 6) (v := ?_) rfl (by kernel_rfl) (by kernel_rfl) (by kernel_rfl) (fun _ _ _ h => h) (Or.inl ⟨by rfl, ?_⟩) hHeld ?_
   rotate_left
   ·intro wx hSx; (try dsimp only at hSx); go_split_ands; go_simp; try (with_reducible rfl)
   try simp only [Act.put, lq1, lq2, lq3, lq4, lq5, lq6]
   refine wpAnyH_take (i := 7) (v := ?_) rfl (by kernel_rfl) (by kernel_rfl) (by kernel_rfl) (fun _ _ _ h => h) (Or.inl ⟨by rfl, ?_⟩) hHeld ?_
   rotate_left
   ·intro wx hSx; (try dsimp only at hSx); go_split_ands; go_simp; try (with_reducible rfl)
   try simp only [Act.put, lq1, lq2, lq3, lq4, lq5, lq6]
   refine wpAnyH_take (i := 8) (v := ?_) rfl (by kernel_rfl) (by kernel_rfl) (by kernel_rfl) (fun _ _ _ h => h) (Or.inl ⟨by rfl, ?_⟩) hHeld ?_
   rotate_left
   ·intro wx hSx; (try dsimp only at hSx); go_split_ands; go_simp; try (with_reducible rfl)
   try simp only [Act.put, lq1, lq2, lq3, lq4, lq5, lq6]
   refine wpAnyH_take (i := 9) (v := ?_) rfl (by kernel_rfl) (by kernel_rfl) (by kernel_rfl) (fun _ _ _ h => h) (Or.inl ⟨by rfl, ?_⟩) hHeld ?_
   rotate_left
   ·intro wx hSx; (try dsimp only at hSx); go_split_ands; go_simp; try (with_reducible rfl)
   try simp only [Act.put, lq1, lq2, lq3, lq4, lq5, lq6]
   refine wpAnyH_take (i := 10) (v := ?_) rfl (by kernel_rfl) (by kernel_rfl) (by kernel_rfl) (fun _ _ _ h => h) (Or.inl ⟨by rfl, ?_⟩) hHeld ?_
   rotate_left
   ·intro wx hSx; (try dsimp only at hSx); go_split_ands; go_simp; try (with_reducible rfl)
   try simp only [Act.put, lq1, lq2, lq3, lq4, lq5, lq6]
   refine wpAnyH_take (i := 11) (v := ?_) rfl (by kernel_rfl) (by kernel_rfl) (by kernel_rfl) (fun _ _ _ h => h) (Or.inl ⟨by rfl, ?_⟩) hHeld ?_
   rotate_left
   ·intro wx hSx; (try dsimp only at hSx); go_split_ands; go_simp; try (with_reducible rfl)
   try simp only [Act.put, lq1, lq2, lq3, lq4, lq5, lq6]
   refine wpAnyH_take (i := 12) (v := ?_) rfl (by kernel_rfl) (by kernel_rfl) (by kernel_rfl) (fun _ _ _ h => h) (Or.inl ⟨by rfl, ?_⟩) hHeld ?_
   rotate_left
   ·intro wx hSx; (try dsimp only at hSx); go_split_ands; go_simp; try (with_reducible rfl)
   try simp only [Act.put, lq1, lq2, lq3, lq4, lq5, lq6]
   have fp := HW.out.rp.frozen a
   have fd := HW.out.rd.frozen a
   obtain ⟨d1, d2, d3, d4, d5, d6⟩ := hd
   obtain ⟨yp, hyp⟩ := getSome (show a < t.p.length by rw [ht.p]; exact hlt)
   obtain ⟨yd, hyd⟩ := getSome (show a < t.d.length by rw [ht.d]; exact hlt)
   have sp : w.cell? ⟨bp, a, none⟩ = some (.int .i64 yp) := HW.out.rp.cell (by simp [intsV, hyp])
   have sd : w.cell? ⟨bd, a, none⟩ = some (.int .i64 yd) := HW.out.rd.cell (by simp [intsV, hyd])
   clear hyp hyd
   refine wpAnyH_ready (rs := [13]) (by kernel_rfl) (by simp) ?_
   refine AllReadyH.cons (o := _) rfl (fun K hK => ?_) AllReadyH.nil
   go_simp
   refine hK.out _ _ ⟨(HW.out.head.other (a := ⟨bp, a, none⟩) d1 _).drew.cell rfl, (HW.out.head.other (a := ⟨bp, a, none⟩) d1 _).drew.cell rfl⟩ (fun hHeld => ?_)
   clear hK K
   try simp only [Act.put, lq1, lq2, lq3, lq4, lq5, lq6]
   refine wpAnyH_take (i := 14) (v := ?_) rfl (by kernel_rfl) (by kernel_rfl) (by kernel_rfl) (fun _ _ _ h => h) (Or.inl ⟨by rfl, ?_⟩) hHeld ?_
   rotate_left
   ·intro wx hSx; (try dsimp only at hSx); go_split_ands; go_simp; try (with_reducible rfl)
   try simp only [Act.put, lq1, lq2, lq3, lq4, lq5, lq6]
   refine wpAnyH_ready (rs := [15]) (by kernel_rfl) (by simp) ?_
   refine AllReadyH.cons (o := _) rfl (fun K hK => ?_) AllReadyH.nil
   go_simp
   refine hK.out _ _ ⟨((HW.out.head.other (a := ⟨bp, a, none⟩) d1 _).other (a := ⟨bd, a, none⟩) d2 _).drew.cell rfl, ((HW.out.head.other (a := ⟨bp, a, none⟩) d1 _).other (a := ⟨bd, a, none⟩) d2 _).drew.cell rfl⟩ (fun hHeld => ?_)
   clear hK K
   try simp only [Act.put, lq1, lq2, lq3, lq4, lq5, lq6]
   refine wpAnyH_done (by kernel_rfl) ?_ _
   obtain ⟨W, hWdef⟩ : ∃ W : World, W = ((w.setCell ⟨bp, a, none⟩ (.int .i64 par)).setCell ⟨bd, a, none⟩ (.int .i64 dep)).drew := ⟨_, rfl⟩
   rw [← hWdef]
   have hWW : Wrote (fun k => k = bp ∨ k = bd ∨ k = bl) w W := by
    rw [hWdef]; exact (((Wrote.refl _ _).setCell (.inl (.inl rfl)) _).setCell (.inl (.inr (.inl rfl))) _).drew
   have hWA : WalkerAt W p bp bd bl g.players (some ⟨b, o, none⟩) g.nodes.length c Ai g.infos.length ci ⟨t.p.set a par, t.d.set a dep, t.l⟩ := by
    have h := HW.out
    rw [hWdef]
    refine ⟨((h.head.other d1 _).other d2 _).drew, ?_, ?_, ?_⟩
    ·have := ((h.rp.set a (.int .i64 par)).other (a := ⟨bd, a, none⟩) d4 (.int .i64 dep)).drew
     simpa [intsV, List.map_set] using this
    ·have := ((h.rd.other (a := ⟨bp, a, none⟩) d4.symm (.int .i64 par)).set a (.int .i64 dep)).drew
     simpa [intsV, List.map_set] using this
    ·exact ((h.rl.other (a := ⟨bp, a, none⟩) d5.symm _).other (a := ⟨bd, a, none⟩) d6.symm _).drew
   have HT := Lib.hid (show Tri.Len g.nodes.length ⟨t.p.set a par, t.d.set a dep, t.l⟩ from ⟨by simp [ht.p], by simp [ht.d], ht.l⟩)
   have HR := Lib.hid (show walkP g.nodes (f + 1) a par dep t = if (kidsP (fun a' t => walkP g.nodes f a' a (dep + 1) t) n.next ((a : Int) + 1) ⟨t.p.set a par, t.d.set a dep, t.l⟩).1 < 0 then kidsP (fun a' t => walkP g.nodes f a' a (dep + 1) t) n.next ((a : Int) + 1) ⟨t.p.set a par, t.d.set a dep, t.l⟩
     else ((kidsP (fun a' t => walkP g.nodes f a' a (dep + 1) t) n.next ((a : Int) + 1) ⟨t.p.set a par, t.d.set a dep, t.l⟩).1, ⟨(kidsP (fun a' t => walkP g.nodes f a' a (dep + 1) t) n.next ((a : Int) + 1) ⟨t.p.set a par, t.d.set a dep, t.l⟩).2.p, (kidsP (fun a' t => walkP g.nodes f a' a (dep + 1) t) n.next ((a : Int) + 1) ⟨t.p.set a par, t.d.set a dep, t.l⟩).2.d, (kidsP (fun a' t => walkP g.nodes f a' a (dep + 1) t) n.next ((a : Int) + 1) ⟨t.p.set a par, t.d.set a dep, t.l⟩).2.l.set a ((kidsP (fun a' t => walkP g.nodes f a' a (dep + 1) t) n.next ((a : Int) + 1) ⟨t.p.set a par, t.d.set a dep, t.l⟩).1 - 1)⟩) by
    rw [walkP, HX.out])
   clear hHeld sp sd fp fd x1 x3 x4 ht HW hWdef
   generalize (⟨t.p.set a par, t.d.set a dep, t.l⟩ : Tri) = t0 at *
   have x1 := hWA.head.cell (i := 1) rfl
   have hold := hWW.cell
   have e3' : W.cell? ⟨b, o + 6 * a + 3, none⟩ = some (.slice A3 n.next.length c3) := by
    rw [hold b _ hbz (by rintro (h | h | h) <;> simp_all)]; rw [← e3]; congr 2; omega
   clear hold
   go_wp2_with fail
   ·go_loopw [11, 48] (fun rs i wr => ∃ (j nx : Nat) (t' : Tri), j ≤ n.next.length ∧ i = .int .i64 j ∧ RestV rs b o g.nodes.length c nx ∧ a < nx ∧ nx ≤ g.nodes.length ∧ Tri.Len g.nodes.length t' ∧ WalkerAt wr p bp bd bl g.players (some ⟨b, o, none⟩) g.nodes.length c Ai g.infos.length ci t' ∧ Wrote (fun k => k = bp ∨ k = bd ∨ k = bl) w wr ∧ kidsP (fun a' t => walkP g.nodes f a' a (dep + 1) t) n.next ((a : Int) + 1) t0 = kidsP (fun a' t => walkP g.nodes f a' a (dep + 1) t) (n.next.drop j) (nx : Int) t') (fun _ i _ => n.next.length - (intOf i).toNat)
    case atStart => exact ⟨0, a + 1, t0, by omega, rfl, ⟨_, by congr 1 <;> omega, fun hq => by omega⟩, by omega, by omega, HT.out, hWA, hWW, rfl⟩
    case round =>
     obtain ⟨j, nx, t', hj, rfl, ⟨A', rfl, hA'⟩, hnx0, hnx1, hlen, hwa, hgr, hval⟩ := hrel
     have HV := Lib.hid hval; clear hval
     have HWA := Lib.hid hwa; clear hwa
     clear x1 e3'
     have x1 := HWA.out.head.cell (i := 1) rfl
     have x5 := HWA.out.head.cell (i := 5) rfl
     have sub2 : ((g.nodes.length : Int) - ((g.nodes.length - nx : Nat) : Int)) = (nx : Int) := by omega
     by_cases hjt : j < n.next.length
     ·obtain ⟨ch, hch⟩ := getSome hjt
      obtain ⟨b3, o3, rfl, hb3, hb3l, hx3⟩ := H3.out (by omega)
      have hb3F := HFF.out b3 hb3
      have ec := hx3 j ch hch
      unfold intE at ec; rw [Nat.mul_one] at ec
      rw [← hgr.cell b3 _ hb3l (by rintro (h | h | h) <;> simp_all)] at ec
      have HD := Lib.hid (show n.next.drop j = ch :: n.next.drop (j + 1) by rw [List.drop_eq_getElem_cons hjt]; congr 1; simpa [hjt] using hch)
      clear hch hx3
      by_cases hne : ch = nx
      ·subst hne
       have hnn : ((nx : Int) != (nx : Int)) = false := by simp
       have hbd2 := walkP_bound g.nodes f nx a (dep + 1) t'
       have hlen2 := walkP_len (N := g.nodes.length) g.nodes f nx a (dep + 1) t' hlen
       have HV2 := Lib.hid (show kidsP (fun a' t => walkP g.nodes f a' a (dep + 1) t) n.next ((a : Int) + 1) t0 = if (walkP g.nodes f nx a (dep + 1) t').1 < 0 then (-1, (walkP g.nodes f nx a (dep + 1) t').2) else kidsP (fun a' t => walkP g.nodes f a' a (dep + 1) t) (n.next.drop (j + 1)) (walkP g.nodes f nx a (dep + 1) t').1 (walkP g.nodes f nx a (dep + 1) t').2 by
        rw [HV.out, HD.out]; simp [kidsP])
       have HBD := Lib.hid hbd2; clear hbd2
       have HLN := Lib.hid hlen2; clear hlen2
       go_wp2_with fail
       refine (IH.out nx a (dep + 1) t' wr _ ⟨A', rfl, hA'⟩ hlen (fun _ => HNA.out.on (hgr.same (fun k hk hq => by have := HFF.out k hk; rcases hq with h | h | h <;> simp_all))) HWA.out hnx1 (by omega) (by omega) (by omega)).mono ?_
       rintro e w' ⟨vr, rfl, hrest, hwa', hgr'⟩
       have hgg := hgr.trans hgr'
       have hbb := HBD.out
       have hln := HLN.out
       generalize walkP g.nodes f nx a (dep + 1) t' = rr at *
       obtain ⟨rn, rd⟩ := rr
       dsimp only at hrest hwa' hbb hln HV2 ⊢
       clear HBD HLN x1 x5 hgr hgr' HWA ec
       by_cases hng : rn < 0
       ·have HF := Lib.hid (show walkP g.nodes (f + 1) a par dep t = (-1, rd) by rw [HR.out, HV2.out, if_pos hng]; simp)
        have hdn : decide (0 ≤ rn) = false := decide_eq_false (by omega)
        go_wp2
        go_ret2
        exact ⟨_, by rw [HF.out]; rfl, by rw [HF.out]; intro h; simp at h, by rw [HF.out]; exact hwa', hgg⟩
       ·have hdn : decide (0 ≤ rn) = true := decide_eq_true (by omega)
        obtain ⟨q, rfl⟩ := Int.eq_ofNat_of_zero_le (show 0 ≤ rn by omega)
        have HRS := Lib.hid (hrest (by omega)); clear hrest
        go_wp2
        go_roundw
        case rel => exact ⟨j + 1, q, rd, by omega, by go_num, by simpa using HRS.out, by omega, by omega, hln, hwa', hgg, by rw [HV2.out, if_neg hng]⟩
        case measure => simp [intOf]; omega
      ·have hdd : (ch != (nx : Int)) = true := by simp [hne]
       have HF := Lib.hid (show walkP g.nodes (f + 1) a par dep t = (-1, t') by rw [HR.out, HV.out, HD.out]; simp [kidsP, hne])
       clear hne
       go_wp2
       go_ret2
       exact ⟨_, by rw [HF.out]; rfl, by rw [HF.out]; intro h; simp at h, by rw [HF.out]; exact HWA.out, hgr⟩
     ·have HF := Lib.hid (show walkP g.nodes (f + 1) a par dep t = ((nx : Int), ⟨t'.p, t'.d, t'.l.set a ((nx : Int) - 1)⟩) by
       rw [HR.out, HV.out, List.drop_eq_nil_of_le (by omega), if_neg (by simp only [kidsP]; omega)]; rfl)
      go_wp2_with fail
      have wr0 : IntKind.i64.wrap (nx : Int) = (nx : Int) := IntWalk.i64_in _ (by omega)
      have wr2 : IntKind.i64.wrap ((nx : Int) - 1) = (nx : Int) - 1 := IntWalk.i64_in _ (by omega)
      refine wp_region_held_drew (S := fun w' => w'.cell? ⟨p, 1, none⟩ = some (.slice (some ⟨b, o, none⟩) g.nodes.length c) ∧ w'.cell? ⟨p, 5, none⟩ = some (.slice (some ⟨bl, 0, none⟩) g.nodes.length g.nodes.length)) (by kernel_rfl) ⟨x1, x5⟩ (fun hHeld => ?_)
      refine wpAnyH_take (i := 0) (v := ?_) rfl (by kernel_rfl) (by kernel_rfl) (by kernel_rfl) (fun _ _ _ h => h) (Or.inl ⟨by rfl, ?_⟩) hHeld ?_
      rotate_left
      ·intro wx hSx; (try dsimp only at hSx); go_split_ands; go_simp; try (with_reducible rfl)
      try simp only [Act.put, lq1, lq2, lq3, lq4, lq5, lq6]
      refine wpAnyH_take (i := 1) (v := ?_) rfl (by kernel_rfl) (by kernel_rfl) (by kernel_rfl) (fun _ _ _ h => h) (Or.inl ⟨by rfl, ?_⟩) hHeld ?_
      rotate_left
      ·intro wx hSx; (try dsimp only at hSx); go_split_ands; go_simp; try (with_reducible rfl)
      try simp only [Act.put, lq1, lq2, lq3, lq4, lq5, lq6]
      refine wpAnyH_take (i := 2) (v := ?_) rfl (by kernel_rfl) (by kernel_rfl) (by kernel_rfl) (fun _ _ _ h => h) (Or.inl ⟨by rfl, ?_⟩) hHeld ?_
      rotate_left
      ·intro wx hSx; (try dsimp only at hSx); go_split_ands; go_simp; try (with_reducible rfl)
      try simp only [Act.put, lq1, lq2, lq3, lq4, lq5, lq6]
      refine wpAnyH_take (i := 3) (v := ?_) rfl (by kernel_rfl) (by kernel_rfl) (by kernel_rfl) (fun _ _ _ h => h) (Or.inl ⟨by rfl, ?_⟩) hHeld ?_
      rotate_left
      ·intro wx hSx; (try dsimp only at hSx); go_split_ands; go_simp; try (with_reducible rfl)
      try simp only [Act.put, lq1, lq2, lq3, lq4, lq5, lq6]
      refine wpAnyH_take (i := 4) (v := ?_) rfl (by kernel_rfl) (by kernel_rfl) (by kernel_rfl) (fun _ _ _ h => h) (Or.inl ⟨by rfl, ?_⟩) hHeld ?_
      rotate_left
      ·intro wx hSx; (try dsimp only at hSx); go_split_ands; go_simp; try (with_reducible rfl)
      try simp only [Act.put, lq1, lq2, lq3, lq4, lq5, lq6]
      refine wpAnyH_take (i := 5) (v := ?_) rfl (by kernel_rfl) (by kernel_rfl) (by kernel_rfl) (fun _ _ _ h => h) (Or.inl ⟨by rfl, ?_⟩) hHeld ?_
      rotate_left
      ·intro wx hSx; (try dsimp only at hSx); go_split_ands; go_simp; try (with_reducible rfl)
      try simp only [Act.put, lq1, lq2, lq3, lq4, lq5, lq6]
      refine wpAnyH_take (i := 6) (v := ?_) rfl (by kernel_rfl) (by kernel_rfl) (by kernel_rfl) (fun _ _ _ h => h) (Or.inl ⟨by rfl, ?_⟩) hHeld ?_
      rotate_left
      ·intro wx hSx; (try dsimp only at hSx); go_split_ands; go_simp; try (with_reducible rfl)
      try simp only [Act.put, lq1, lq2, lq3, lq4, lq5, lq6]
      refine wpAnyH_take (i := 7) (v := ?_) rfl (by kernel_rfl) (by kernel_rfl) (by kernel_rfl) (fun _ _ _ h => h) (Or.inl ⟨by rfl, ?_⟩) hHeld ?_
      rotate_left
      ·intro wx hSx; (try dsimp only at hSx); go_split_ands; go_simp; try (with_reducible rfl)
      try simp only [Act.put, lq1, lq2, lq3, lq4, lq5, lq6]
      refine wpAnyH_take (i := 8) (v := ?_) rfl (by kernel_rfl) (by kernel_rfl) (by kernel_rfl) (fun _ _ _ h => h) (Or.inl ⟨by rfl, ?_⟩) hHeld ?_
      rotate_left
      ·intro wx hSx; (try dsimp only at hSx); go_split_ands; go_simp; try (with_reducible rfl)
      try simp only [Act.put, lq1, lq2, lq3, lq4, lq5, lq6]
      refine wpAnyH_take (i := 9) (v := ?_) rfl (by kernel_rfl) (by kernel_rfl) (by kernel_rfl) (fun _ _ _ h => h) (Or.inl ⟨by rfl, ?_⟩) hHeld ?_
      rotate_left
      ·intro wx hSx; (try dsimp only at hSx); go_split_ands; go_simp; try (with_reducible rfl)
      try simp only [Act.put, lq1, lq2, lq3, lq4, lq5, lq6]
      refine wpAnyH_take (i := 10) (v := ?_) rfl (by kernel_rfl) (by kernel_rfl) (by kernel_rfl) (fun _ _ _ h => h) (Or.inl ⟨by rfl, ?_⟩) hHeld ?_
      rotate_left
      ·intro wx hSx; (try dsimp only at hSx); go_split_ands; go_simp; try (with_reducible rfl)
      try simp only [Act.put, lq1, lq2, lq3, lq4, lq5, lq6]
      refine wpAnyH_take (i := 11) (v := ?_) rfl (by kernel_rfl) (by kernel_rfl) (by kernel_rfl) (fun _ _ _ h => h) (Or.inl ⟨by rfl, ?_⟩) hHeld ?_
      rotate_left
      ·intro wx hSx; (try dsimp only at hSx); go_split_ands; go_simp; try (with_reducible rfl)
      try simp only [Act.put, lq1, lq2, lq3, lq4, lq5, lq6]
      refine wpAnyH_take (i := 12) (v := ?_) rfl (by kernel_rfl) (by kernel_rfl) (by kernel_rfl) (fun _ _ _ h => h) (Or.inl ⟨by rfl, ?_⟩) hHeld ?_
      rotate_left
      ·intro wx hSx; (try dsimp only at hSx); go_split_ands; go_simp; try (with_reducible rfl)
      try simp only [Act.put, lq1, lq2, lq3, lq4, lq5, lq6]
      refine wpAnyH_take (i := 13) (v := ?_) rfl (by kernel_rfl) (by kernel_rfl) (by kernel_rfl) (fun _ _ _ h => h) (Or.inl ⟨by rfl, ?_⟩) hHeld ?_
      rotate_left
      ·intro wx hSx; (try dsimp only at hSx); go_split_ands; go_simp; try (with_reducible rfl)
      try simp only [Act.put, lq1, lq2, lq3, lq4, lq5, lq6]
      refine wpAnyH_take (i := 14) (v := ?_) rfl (by kernel_rfl) (by kernel_rfl) (by kernel_rfl) (fun _ _ _ h => h) (Or.inl ⟨by rfl, ?_⟩) hHeld ?_
      rotate_left
      ·intro wx hSx; (try dsimp only at hSx); go_split_ands; go_simp; try (with_reducible rfl)
      try simp only [Act.put, lq1, lq2, lq3, lq4, lq5, lq6]
      refine wpAnyH_take (i := 15) (v := ?_) rfl (by kernel_rfl) (by kernel_rfl) (by kernel_rfl) (fun _ _ _ h => h) (Or.inl ⟨by rfl, ?_⟩) hHeld ?_
      rotate_left
      ·intro wx hSx; (try dsimp only at hSx); go_split_ands; go_simp; try (with_reducible rfl)
      try simp only [Act.put, lq1, lq2, lq3, lq4, lq5, lq6]
      have fl := HWA.out.rl.frozen a
      obtain ⟨yl, hyl⟩ := getSome (show a < t'.l.length by rw [hlen.l]; exact hlt)
      have sl : wr.cell? ⟨bl, a, none⟩ = some (.int .i64 yl) := HWA.out.rl.cell (by simp [intsV, hyl])
      clear hyl
      refine wpAnyH_ready (rs := [16]) (by kernel_rfl) (by simp) ?_
      refine AllReadyH.cons (o := _) rfl (fun K hK => ?_) AllReadyH.nil
      go_simp
      refine hK.out _ _ ⟨(HWA.out.head.other (a := ⟨bl, a, none⟩) d3 _).drew.cell rfl, (HWA.out.head.other (a := ⟨bl, a, none⟩) d3 _).drew.cell rfl⟩ (fun hHeld => ?_)
      clear hK K
      try simp only [Act.put, lq1, lq2, lq3, lq4, lq5, lq6]
      refine wpAnyH_done (by kernel_rfl) ?_ _
      clear hHeld
      go_wp2
      go_ret2
      refine ⟨.slice A' (g.nodes.length - nx) (c - nx), by rw [HF.out]; simp, by rw [HF.out]; intro _; exact ⟨A', by simp, by simpa using hA'⟩, ?_, (hgr.setCell (.inl (.inr (.inr rfl))) _).drew⟩
      rw [HF.out]
      have h := HWA.out
      refine ⟨(h.head.other d3 _).drew, (h.rp.other d5 _).drew, (h.rd.other d6 _).drew, ?_⟩
      have := (h.rl.set a (.int .i64 ((nx : Int) - 1))).drew
      simpa [intsV, List.map_set, wr0, wr2] using this
   ·go_loopw [11, 48] (fun rs i wr => ∃ (j nx : Nat) (t' : Tri), j ≤ n.next.length ∧ i = .int .i64 j ∧ RestV rs b o g.nodes.length c nx ∧ a < nx ∧ nx ≤ g.nodes.length ∧ Tri.Len g.nodes.length t' ∧ WalkerAt wr p bp bd bl g.players (some ⟨b, o, none⟩) g.nodes.length c Ai g.infos.length ci t' ∧ Wrote (fun k => k = bp ∨ k = bd ∨ k = bl) w wr ∧ kidsP (fun a' t => walkP g.nodes f a' a (dep + 1) t) n.next ((a : Int) + 1) t0 = kidsP (fun a' t => walkP g.nodes f a' a (dep + 1) t) (n.next.drop j) (nx : Int) t') (fun _ i _ => n.next.length - (intOf i).toNat)
    case atStart => exact ⟨0, a + 1, t0, by omega, rfl, ⟨_, by congr 1 <;> omega, fun hq => by congr 2 <;> omega⟩, by omega, by omega, HT.out, hWA, hWW, rfl⟩
    case round =>
     obtain ⟨j, nx, t', hj, rfl, ⟨A', rfl, hA'⟩, hnx0, hnx1, hlen, hwa, hgr, hval⟩ := hrel
     have HV := Lib.hid hval; clear hval
     have HWA := Lib.hid hwa; clear hwa
     clear x1 e3'
     have x1 := HWA.out.head.cell (i := 1) rfl
     have x5 := HWA.out.head.cell (i := 5) rfl
     have sub2 : ((g.nodes.length : Int) - ((g.nodes.length - nx : Nat) : Int)) = (nx : Int) := by omega
     by_cases hjt : j < n.next.length
     ·obtain ⟨ch, hch⟩ := getSome hjt
      obtain ⟨b3, o3, rfl, hb3, hb3l, hx3⟩ := H3.out (by omega)
      have hb3F := HFF.out b3 hb3
      have ec := hx3 j ch hch
      unfold intE at ec; rw [Nat.mul_one] at ec
      rw [← hgr.cell b3 _ hb3l (by rintro (h | h | h) <;> simp_all)] at ec
      have HD := Lib.hid (show n.next.drop j = ch :: n.next.drop (j + 1) by rw [List.drop_eq_getElem_cons hjt]; congr 1; simpa [hjt] using hch)
      clear hch hx3
      by_cases hne : ch = nx
      ·subst hne
       have hnn : ((nx : Int) != (nx : Int)) = false := by simp
       have hbd2 := walkP_bound g.nodes f nx a (dep + 1) t'
       have hlen2 := walkP_len (N := g.nodes.length) g.nodes f nx a (dep + 1) t' hlen
       have HV2 := Lib.hid (show kidsP (fun a' t => walkP g.nodes f a' a (dep + 1) t) n.next ((a : Int) + 1) t0 = if (walkP g.nodes f nx a (dep + 1) t').1 < 0 then (-1, (walkP g.nodes f nx a (dep + 1) t').2) else kidsP (fun a' t => walkP g.nodes f a' a (dep + 1) t) (n.next.drop (j + 1)) (walkP g.nodes f nx a (dep + 1) t').1 (walkP g.nodes f nx a (dep + 1) t').2 by
        rw [HV.out, HD.out]; simp [kidsP])
       have HBD := Lib.hid hbd2; clear hbd2
       have HLN := Lib.hid hlen2; clear hlen2
       go_wp2_with fail
       refine (IH.out nx a (dep + 1) t' wr _ ⟨A', rfl, hA'⟩ hlen (fun _ => HNA.out.on (hgr.same (fun k hk hq => by have := HFF.out k hk; rcases hq with h | h | h <;> simp_all))) HWA.out hnx1 (by omega) (by omega) (by omega)).mono ?_
       rintro e w' ⟨vr, rfl, hrest, hwa', hgr'⟩
       have hgg := hgr.trans hgr'
       have hbb := HBD.out
       have hln := HLN.out
       generalize walkP g.nodes f nx a (dep + 1) t' = rr at *
       obtain ⟨rn, rd⟩ := rr
       dsimp only at hrest hwa' hbb hln HV2 ⊢
       clear HBD HLN x1 x5 hgr hgr' HWA ec
       by_cases hng : rn < 0
       ·have HF := Lib.hid (show walkP g.nodes (f + 1) a par dep t = (-1, rd) by rw [HR.out, HV2.out, if_pos hng]; simp)
        have hdn : decide (0 ≤ rn) = false := decide_eq_false (by omega)
        go_wp2
        go_ret2
        exact ⟨_, by rw [HF.out]; rfl, by rw [HF.out]; intro h; simp at h, by rw [HF.out]; exact hwa', hgg⟩
       ·have hdn : decide (0 ≤ rn) = true := decide_eq_true (by omega)
        obtain ⟨q, rfl⟩ := Int.eq_ofNat_of_zero_le (show 0 ≤ rn by omega)
        have HRS := Lib.hid (hrest (by omega)); clear hrest
        go_wp2
        go_roundw
        case rel => exact ⟨j + 1, q, rd, by omega, by go_num, by simpa using HRS.out, by omega, by omega, hln, hwa', hgg, by rw [HV2.out, if_neg hng]⟩
        case measure => simp [intOf]; omega
      ·have hdd : (ch != (nx : Int)) = true := by simp [hne]
       have HF := Lib.hid (show walkP g.nodes (f + 1) a par dep t = (-1, t') by rw [HR.out, HV.out, HD.out]; simp [kidsP, hne])
       clear hne
       go_wp2
       go_ret2
       exact ⟨_, by rw [HF.out]; rfl, by rw [HF.out]; intro h; simp at h, by rw [HF.out]; exact HWA.out, hgr⟩
     ·have HF := Lib.hid (show walkP g.nodes (f + 1) a par dep t = ((nx : Int), ⟨t'.p, t'.d, t'.l.set a ((nx : Int) - 1)⟩) by
       rw [HR.out, HV.out, List.drop_eq_nil_of_le (by omega), if_neg (by simp only [kidsP]; omega)]; rfl)
      go_wp2_with fail
      have wr0 : IntKind.i64.wrap (nx : Int) = (nx : Int) := IntWalk.i64_in _ (by omega)
      have wr2 : IntKind.i64.wrap ((nx : Int) - 1) = (nx : Int) - 1 := IntWalk.i64_in _ (by omega)
      refine wp_region_held_drew (S := fun w' => w'.cell? ⟨p, 1, none⟩ = some (.slice (some ⟨b, o, none⟩) g.nodes.length c) ∧ w'.cell? ⟨p, 5, none⟩ = some (.slice (some ⟨bl, 0, none⟩) g.nodes.length g.nodes.length)) (by kernel_rfl) ⟨x1, x5⟩ (fun hHeld => ?_)
      refine wpAnyH_take (i := 0) (v := ?_) rfl (by kernel_rfl) (by kernel_rfl) (by kernel_rfl) (fun _ _ _ h => h) (Or.inl ⟨by rfl, ?_⟩) hHeld ?_
      rotate_left
      ·intro wx hSx; (try dsimp only at hSx); go_split_ands; go_simp; try (with_reducible rfl)
      try simp only [Act.put, lq1, lq2, lq3, lq4, lq5, lq6]
      refine wpAnyH_take (i := 1) (v := ?_) rfl (by kernel_rfl) (by kernel_rfl) (by kernel_rfl) (fun _ _ _ h => h) (Or.inl ⟨by rfl, ?_⟩) hHeld ?_
      rotate_left
      ·intro wx hSx; (try dsimp only at hSx); go_split_ands; go_simp; try (with_reducible rfl)
      try simp only [Act.put, lq1, lq2, lq3, lq4, lq5, lq6]
      refine wpAnyH_take (i := 2) (v := ?_) rfl (by kernel_rfl) (by kernel_rfl) (by kernel_rfl) (fun _ _ _ h => h) (Or.inl ⟨by rfl, ?_⟩) hHeld ?_
      rotate_left
      ·intro wx hSx; (try dsimp only at hSx); go_split_ands; go_simp; try (with_reducible rfl)
      try simp only [Act.put, lq1, lq2, lq3, lq4, lq5, lq6]
      refine wpAnyH_take (i := 3) (v := ?_) rfl (by kernel_rfl) (by kernel_rfl) (by kernel_rfl) (fun _ _ _ h => h) (Or.inl ⟨by rfl, ?_⟩) hHeld ?_
      rotate_left
      ·intro wx hSx; (try dsimp only at hSx); go_split_ands; go_simp; try (with_reducible rfl)
      try simp only [Act.put, lq1, lq2, lq3, lq4, lq5, lq6]
      refine wpAnyH_take (i := 4) (v := ?_) rfl (by kernel_rfl) (by kernel_rfl) (by kernel_rfl) (fun _ _ _ h => h) (Or.inl ⟨by rfl, ?_⟩) hHeld ?_
      rotate_left
      ·intro wx hSx; (try dsimp only at hSx); go_split_ands; go_simp; try (with_reducible rfl)
      try simp only [Act.put, lq1, lq2, lq3, lq4, lq5, lq6]
      refine wpAnyH_take (i := 5) (v := ?_) rfl (by kernel_rfl) (by kernel_rfl) (by kernel_rfl) (fun _ _ _ h => h) (Or.inl ⟨by rfl, ?_⟩) hHeld ?_
      rotate_left
      ·intro wx hSx; (try dsimp only at hSx); go_split_ands; go_simp; try (with_reducible rfl)
      try simp only [Act.put, lq1, lq2, lq3, lq4, lq5, lq6]
      refine wpAnyH_take (i := 6) (v := ?_) rfl (by kernel_rfl) (by kernel_rfl) (by kernel_rfl) (fun _ _ _ h => h) (Or.inl ⟨by rfl, ?_⟩) hHeld ?_
      rotate_left
      ·intro wx hSx; (try dsimp only at hSx); go_split_ands; go_simp; try (with_reducible rfl)
      try simp only [Act.put, lq1, lq2, lq3, lq4, lq5, lq6]
      refine wpAnyH_take (i := 7) (v := ?_) rfl (by kernel_rfl) (by kernel_rfl) (by kernel_rfl) (fun _ _ _ h => h) (Or.inl ⟨by rfl, ?_⟩) hHeld ?_
      rotate_left
      ·intro wx hSx; (try dsimp only at hSx); go_split_ands; go_simp; try (with_reducible rfl)
      try simp only [Act.put, lq1, lq2, lq3, lq4, lq5, lq6]
      refine wpAnyH_take (i := 8) (v := ?_) rfl (by kernel_rfl) (by kernel_rfl) (by kernel_rfl) (fun _ _ _ h => h) (Or.inl ⟨by rfl, ?_⟩) hHeld ?_
      rotate_left
      ·intro wx hSx; (try dsimp only at hSx); go_split_ands; go_simp; try (with_reducible rfl)
      try simp only [Act.put, lq1, lq2, lq3, lq4, lq5, lq6]
      refine wpAnyH_take (i := 9) (v := ?_) rfl (by kernel_rfl) (by kernel_rfl) (by kernel_rfl) (fun _ _ _ h => h) (Or.inl ⟨by rfl, ?_⟩) hHeld ?_
      rotate_left
      ·intro wx hSx; (try dsimp only at hSx); go_split_ands; go_simp; try (with_reducible rfl)
      try simp only [Act.put, lq1, lq2, lq3, lq4, lq5, lq6]
      refine wpAnyH_take (i := 10) (v := ?_) rfl (by kernel_rfl) (by kernel_rfl) (by kernel_rfl) (fun _ _ _ h => h) (Or.inl ⟨by rfl, ?_⟩) hHeld ?_
      rotate_left
      ·intro wx hSx; (try dsimp only at hSx); go_split_ands; go_simp; try (with_reducible rfl)
      try simp only [Act.put, lq1, lq2, lq3, lq4, lq5, lq6]
      refine wpAnyH_take (i := 11) (v := ?_) rfl (by kernel_rfl) (by kernel_rfl) (by kernel_rfl) (fun _ _ _ h => h) (Or.inl ⟨by rfl, ?_⟩) hHeld ?_
      rotate_left
      ·intro wx hSx; (try dsimp only at hSx); go_split_ands; go_simp; try (with_reducible rfl)
      try simp only [Act.put, lq1, lq2, lq3, lq4, lq5, lq6]
      refine wpAnyH_take (i := 12) (v := ?_) rfl (by kernel_rfl) (by kernel_rfl) (by kernel_rfl) (fun _ _ _ h => h) (Or.inl ⟨by rfl, ?_⟩) hHeld ?_
      rotate_left
      ·intro wx hSx; (try dsimp only at hSx); go_split_ands; go_simp; try (with_reducible rfl)
      try simp only [Act.put, lq1, lq2, lq3, lq4, lq5, lq6]
      refine wpAnyH_take (i := 13) (v := ?_) rfl (by kernel_rfl) (by kernel_rfl) (by kernel_rfl) (fun _ _ _ h => h) (Or.inl ⟨by rfl, ?_⟩) hHeld ?_
      rotate_left
      ·intro wx hSx; (try dsimp only at hSx); go_split_ands; go_simp; try (with_reducible rfl)
      try simp only [Act.put, lq1, lq2, lq3, lq4, lq5, lq6]
      refine wpAnyH_take (i := 14) (v := ?_) rfl (by kernel_rfl) (by kernel_rfl) (by kernel_rfl) (fun _ _ _ h => h) (Or.inl ⟨by rfl, ?_⟩) hHeld ?_
      rotate_left
      ·intro wx hSx; (try dsimp only at hSx); go_split_ands; go_simp; try (with_reducible rfl)
      try simp only [Act.put, lq1, lq2, lq3, lq4, lq5, lq6]
      refine wpAnyH_take (i := 15) (v := ?_) rfl (by kernel_rfl) (by kernel_rfl) (by kernel_rfl) (fun _ _ _ h => h) (Or.inl ⟨by rfl, ?_⟩) hHeld ?_
      rotate_left
      ·intro wx hSx; (try dsimp only at hSx); go_split_ands; go_simp; try (with_reducible rfl)
      try simp only [Act.put, lq1, lq2, lq3, lq4, lq5, lq6]
      have fl := HWA.out.rl.frozen a
      obtain ⟨yl, hyl⟩ := getSome (show a < t'.l.length by rw [hlen.l]; exact hlt)
      have sl : wr.cell? ⟨bl, a, none⟩ = some (.int .i64 yl) := HWA.out.rl.cell (by simp [intsV, hyl])
      clear hyl
      refine wpAnyH_ready (rs := [16]) (by kernel_rfl) (by simp) ?_
      refine AllReadyH.cons (o := _) rfl (fun K hK => ?_) AllReadyH.nil
      go_simp
      refine hK.out _ _ ⟨(HWA.out.head.other (a := ⟨bl, a, none⟩) d3 _).drew.cell rfl, (HWA.out.head.other (a := ⟨bl, a, none⟩) d3 _).drew.cell rfl⟩ (fun hHeld => ?_)
      clear hK K
      try simp only [Act.put, lq1, lq2, lq3, lq4, lq5, lq6]
      refine wpAnyH_done (by kernel_rfl) ?_ _
      clear hHeld
      go_wp2
      go_ret2
      refine ⟨.slice A' (g.nodes.length - nx) (c - nx), by rw [HF.out]; simp, by rw [HF.out]; intro _; exact ⟨A', by simp, by simpa using hA'⟩, ?_, (hgr.setCell (.inl (.inr (.inr rfl))) _).drew⟩
      rw [HF.out]
      have h := HWA.out
      refine ⟨(h.head.other d3 _).drew, (h.rp.other d5 _).drew, (h.rd.other d6 _).drew, ?_⟩
      have := (h.rl.set a (.int .i64 ((nx : Int) - 1))).drew
      simpa [intsV, List.map_set, wr0, wr2] using this
  ·have hz : (((g.nodes.length - a : Nat) : Int) == 0) = true := by simp; omega
   have HF := Lib.hid (show walkP g.nodes (f + 1) a par dep t = (-1, t) by
    rw [walkP]; rw [List.getElem?_eq_none (by omega)])
   clear hA hn
   go_enter Try.func60, Try.ntmps60
   go_wp2
   go_ret2
   refine ⟨_, by rw [HF.out]; rfl, by rw [HF.out]; intro h; simp at h, by rw [HF.out]; exact HW.out, Wrote.refl _ _⟩
end Go.Proofs.Ytafjdoedallnbaa

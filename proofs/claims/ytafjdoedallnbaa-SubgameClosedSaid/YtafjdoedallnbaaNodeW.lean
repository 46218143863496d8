/- recall.walker.node -/
import Derived.Test.YtafjdoedallnbaaNodeP
import Derived.Laws.EntriesVeiled
namespace Go.Proofs.Ytafjdoedallnbaa
open Go.RowKit

set_option maxRecDepth 100000 in
set_option maxHeartbeats 3200000 in
theorem nodeP_any (w : World) (F : Foot) (p : Nat) (ux : Value) (players : Int) (ni : Nat) (x : Nd) (hw : WalkerHead w p players ni) (hx : NodeV w F ux x) (hl : x.next.length < 1000000 ∧ x.weights.length < 1000000 ∧ x.pay.length < 1000000)
    (hp : 0 ≤ players ∧ players < 1000000) (hni : ni < 1000000) (hpl : p < w.heap.size) :
    Calls Try.prog 59 #[.pointer (some ⟨p, 0, none⟩), ux] w (Ret w fun v _ => v = .int .i64 (nodeErr players ni x)) := by
  have HX := Lib.hid hx
  obtain ⟨v3, v4, v5, rfl, ⟨A3, c3, rfl, hc3, h3⟩, ⟨A4, c4, rfl, hc4, h4⟩, ⟨A5, c5, rfl, hc5, h5⟩⟩ := hx
  clear h3 h4 h5
  have HW := Lib.hid hw
  have HL := Lib.hid hl
  clear hw hl
  by_cases k1 : x.kind = 1
  · have HF := Lib.hid (show nodeErr players ni x = chanceErr x by unfold nodeErr; simp [k1])
    rw [k1] at HX ⊢
    clear k1
    go_enter Try.func59, Try.ntmps59
    go_wp2_with fail
    obtain ⟨W, hW, hbx, hWb, hWz⟩ := row_of_alloc w 45 #[.int .i64 1, .int .i64 x.player, .int .i64 x.info, .slice A3 x.next.length c3, .slice A4 x.weights.length c4, .slice A5 x.pay.length c5]
    rw [← hW]; clear hW
    obtain ⟨W1, hW, hbt, hW1b, hW1z⟩ := row_of_alloc W 99 #[.nilFunc, .func (.func 63) #[] #[], .func (.func 64) #[] #[], .func (.func 65) #[] #[]]
    rw [← hW]; clear hW
    have hbx1 := hbx.below hW1b (by omega)
    have hB1 : Below w.heap.size w W1 := hWb.trans (hW1b.mono (by omega))
    clear hbx hWb hW1b
    rw [← hWz] at hbt; have z0 := hbt.lt; clear hWz hW1z
    have hen := enters Try.func63 (by decide +kernel) (by decide +kernel)
    refine wp_region_held_drew (S := fun w' => w'.cell? ⟨w.heap.size + 1, 1, none⟩ = some (.func (.func 63) #[] #[]) ∧ w'.cell? ⟨w.heap.size, 0, none⟩ = some (.int .i64 1) ∧ w'.cell? ⟨w.heap.size, 1, none⟩ = some (.int .i64 x.player) ∧ w'.cell? ⟨w.heap.size, 2, none⟩ = some (.int .i64 x.info) ∧ w'.cell? ⟨w.heap.size, 3, none⟩ = some (.slice A3 x.next.length c3) ∧ w'.cell? ⟨w.heap.size, 4, none⟩ = some (.slice A4 x.weights.length c4) ∧ w'.cell? ⟨w.heap.size, 5, none⟩ = some (.slice A5 x.pay.length c5)) (by kernel_rfl) ⟨hbt.cell rfl, hbx1.cell rfl, hbx1.cell rfl, hbx1.cell rfl, hbx1.cell rfl, hbx1.cell rfl, hbx1.cell rfl⟩ (fun hHeld => ?_)
    refine wpAnyH_take (i := 0) (v := ?_) rfl (by kernel_rfl) (by kernel_rfl) (by kernel_rfl) (fun _ _ _ h => h) (Or.inl ⟨by rfl, ?_⟩) hHeld ?_
    rotate_left
    · intro wx hSx; (try dsimp only at hSx); go_split_ands; go_simp; try (with_reducible rfl)
    try simp only [Act.put, List.getElem_toArray, List.getElem_cons_zero, List.getElem_cons_succ, List.setIfInBounds_toArray, List.set_cons_zero, List.set_cons_succ]
    refine wpAnyH_take (i := 1) (v := ?_) rfl (by kernel_rfl) (by kernel_rfl) (by kernel_rfl) (fun _ _ _ h => h) (Or.inl ⟨by rfl, ?_⟩) hHeld ?_
    rotate_left
    · intro wx hSx; (try dsimp only at hSx); go_split_ands; go_simp; try (with_reducible rfl)
    try simp only [Act.put, List.getElem_toArray, List.getElem_cons_zero, List.getElem_cons_succ, List.setIfInBounds_toArray, List.set_cons_zero, List.set_cons_succ]
    refine wpAnyH_take (i := 2) (v := ?_) rfl (by kernel_rfl) (by kernel_rfl) (by kernel_rfl) (fun _ _ _ h => h) (Or.inl ⟨by rfl, ?_⟩) hHeld ?_
    rotate_left
    · intro wx hSx; (try dsimp only at hSx); go_split_ands; go_simp; try (with_reducible rfl)
    try simp only [Act.put, List.getElem_toArray, List.getElem_cons_zero, List.getElem_cons_succ, List.setIfInBounds_toArray, List.set_cons_zero, List.set_cons_succ]
    refine wpAnyH_take (i := 3) (v := ?_) rfl (by kernel_rfl) (by kernel_rfl) (by kernel_rfl) (fun _ _ _ h => h) (Or.inl ⟨by rfl, ?_⟩) hHeld ?_
    rotate_left
    · intro wx hSx; (try dsimp only at hSx); go_split_ands; go_simp; try (with_reducible rfl)
    try simp only [Act.put, List.getElem_toArray, List.getElem_cons_zero, List.getElem_cons_succ, List.setIfInBounds_toArray, List.set_cons_zero, List.set_cons_succ]
    refine wpAnyH_take (i := 4) (v := ?_) rfl (by kernel_rfl) (by kernel_rfl) (by kernel_rfl) (fun _ _ _ h => h) (Or.inl ⟨by rfl, ?_⟩) hHeld ?_
    rotate_left
    · intro wx hSx; (try dsimp only at hSx); go_split_ands; go_simp; try (with_reducible rfl)
    try simp only [Act.put, List.getElem_toArray, List.getElem_cons_zero, List.getElem_cons_succ, List.setIfInBounds_toArray, List.set_cons_zero, List.set_cons_succ]
    refine wpAnyH_take (i := 5) (v := ?_) rfl (by kernel_rfl) (by kernel_rfl) (by kernel_rfl) (fun _ _ _ h => h) (Or.inl ⟨by rfl, ?_⟩) hHeld ?_
    rotate_left
    · intro wx hSx; (try dsimp only at hSx); go_split_ands; go_simp; try (with_reducible rfl)
    try simp only [Act.put, List.getElem_toArray, List.getElem_cons_zero, List.getElem_cons_succ, List.setIfInBounds_toArray, List.set_cons_zero, List.set_cons_succ]
    refine wpAnyH_ready (rs := [6]) (by kernel_rfl) (by simp) ?_
    refine AllReadyH.cons (o := _) rfl (fun K hK => ?_) AllReadyH.nil
    go_simp
    refine (chance_any _ F _ _ x (HX.out.on (Below.same' hB1.drew F)) HL.out).mono ?_
    rintro e w1 ⟨_, rfl, hb1, rfl⟩
    have hbx2 := hbx1.drew.below hb1 (by simp; omega)
    have hbt2 := hbt.drew.below hb1 (by simp; omega)
    dsimp only
    refine hK.out _ _ ⟨hbt2.cell rfl, hbx2.cell rfl, hbx2.cell rfl, hbx2.cell rfl, hbx2.cell rfl, hbx2.cell rfl, hbx2.cell rfl⟩ (fun hHeld => ?_)
    clear hK K
    try simp only [Act.put, List.getElem_toArray, List.getElem_cons_zero, List.getElem_cons_succ, List.setIfInBounds_toArray, List.set_cons_zero, List.set_cons_succ]
    refine wpAnyH_take (i := 7) (v := ?_) rfl (by kernel_rfl) (by kernel_rfl) (by kernel_rfl) (fun _ _ _ h => h) (Or.inl ⟨by rfl, ?_⟩) hHeld ?_
    rotate_left
    · intro wx hSx; (try dsimp only at hSx); go_split_ands; go_simp; try (with_reducible rfl)
    try simp only [Act.put, List.getElem_toArray, List.getElem_cons_zero, List.getElem_cons_succ, List.setIfInBounds_toArray, List.set_cons_zero, List.set_cons_succ]
    refine wpAnyH_done (by kernel_rfl) ?_ _
    go_wp2
    go_ret
    exact ⟨_, rfl, hB1.drew.trans (hb1.mono (by simp; omega)), by rw [HF.out]; rfl⟩
  by_cases k2 : x.kind = 2
  · have HF := Lib.hid (show nodeErr players ni x = moveErr players ni x by unfold nodeErr; simp [k2])
    rw [k2] at HX ⊢
    clear k1 k2
    go_enter Try.func59, Try.ntmps59
    go_wp2_with fail
    obtain ⟨W, hW, hbx, hWb, hWz⟩ := row_of_alloc w 45 #[.int .i64 2, .int .i64 x.player, .int .i64 x.info, .slice A3 x.next.length c3, .slice A4 x.weights.length c4, .slice A5 x.pay.length c5]
    rw [← hW]; clear hW
    obtain ⟨W1, hW, hbt, hW1b, hW1z⟩ := row_of_alloc W 99 #[.nilFunc, .func (.func 63) #[] #[], .func (.func 64) #[] #[], .func (.func 65) #[] #[]]
    rw [← hW]; clear hW
    have hbx1 := hbx.below hW1b (by omega)
    have hB1 : Below w.heap.size w W1 := hWb.trans (hW1b.mono (by omega))
    clear hbx hWb hW1b
    rw [← hWz] at hbt; have z0 := hbt.lt; clear hWz hW1z
    have hen := enters Try.func64 (by decide +kernel) (by decide +kernel)
    refine wp_region_held_drew (S := fun w' => w'.cell? ⟨w.heap.size + 1, 2, none⟩ = some (.func (.func 64) #[] #[]) ∧ w'.cell? ⟨w.heap.size, 0, none⟩ = some (.int .i64 2) ∧ w'.cell? ⟨w.heap.size, 1, none⟩ = some (.int .i64 x.player) ∧ w'.cell? ⟨w.heap.size, 2, none⟩ = some (.int .i64 x.info) ∧ w'.cell? ⟨w.heap.size, 3, none⟩ = some (.slice A3 x.next.length c3) ∧ w'.cell? ⟨w.heap.size, 4, none⟩ = some (.slice A4 x.weights.length c4) ∧ w'.cell? ⟨w.heap.size, 5, none⟩ = some (.slice A5 x.pay.length c5)) (by kernel_rfl) ⟨hbt.cell rfl, hbx1.cell rfl, hbx1.cell rfl, hbx1.cell rfl, hbx1.cell rfl, hbx1.cell rfl, hbx1.cell rfl⟩ (fun hHeld => ?_)
    refine wpAnyH_take (i := 0) (v := ?_) rfl (by kernel_rfl) (by kernel_rfl) (by kernel_rfl) (fun _ _ _ h => h) (Or.inl ⟨by rfl, ?_⟩) hHeld ?_
    rotate_left
    · intro wx hSx; (try dsimp only at hSx); go_split_ands; go_simp; try (with_reducible rfl)
    try simp only [Act.put, List.getElem_toArray, List.getElem_cons_zero, List.getElem_cons_succ, List.setIfInBounds_toArray, List.set_cons_zero, List.set_cons_succ]
    refine wpAnyH_take (i := 1) (v := ?_) rfl (by kernel_rfl) (by kernel_rfl) (by kernel_rfl) (fun _ _ _ h => h) (Or.inl ⟨by rfl, ?_⟩) hHeld ?_
    rotate_left
    · intro wx hSx; (try dsimp only at hSx); go_split_ands; go_simp; try (with_reducible rfl)
    try simp only [Act.put, List.getElem_toArray, List.getElem_cons_zero, List.getElem_cons_succ, List.setIfInBounds_toArray, List.set_cons_zero, List.set_cons_succ]
    refine wpAnyH_take (i := 2) (v := ?_) rfl (by kernel_rfl) (by kernel_rfl) (by kernel_rfl) (fun _ _ _ h => h) (Or.inl ⟨by rfl, ?_⟩) hHeld ?_
    rotate_left
    · intro wx hSx; (try dsimp only at hSx); go_split_ands; go_simp; try (with_reducible rfl)
    try simp only [Act.put, List.getElem_toArray, List.getElem_cons_zero, List.getElem_cons_succ, List.setIfInBounds_toArray, List.set_cons_zero, List.set_cons_succ]
    refine wpAnyH_take (i := 3) (v := ?_) rfl (by kernel_rfl) (by kernel_rfl) (by kernel_rfl) (fun _ _ _ h => h) (Or.inl ⟨by rfl, ?_⟩) hHeld ?_
    rotate_left
    · intro wx hSx; (try dsimp only at hSx); go_split_ands; go_simp; try (with_reducible rfl)
    try simp only [Act.put, List.getElem_toArray, List.getElem_cons_zero, List.getElem_cons_succ, List.setIfInBounds_toArray, List.set_cons_zero, List.set_cons_succ]
    refine wpAnyH_take (i := 4) (v := ?_) rfl (by kernel_rfl) (by kernel_rfl) (by kernel_rfl) (fun _ _ _ h => h) (Or.inl ⟨by rfl, ?_⟩) hHeld ?_
    rotate_left
    · intro wx hSx; (try dsimp only at hSx); go_split_ands; go_simp; try (with_reducible rfl)
    try simp only [Act.put, List.getElem_toArray, List.getElem_cons_zero, List.getElem_cons_succ, List.setIfInBounds_toArray, List.set_cons_zero, List.set_cons_succ]
    refine wpAnyH_take (i := 5) (v := ?_) rfl (by kernel_rfl) (by kernel_rfl) (by kernel_rfl) (fun _ _ _ h => h) (Or.inl ⟨by rfl, ?_⟩) hHeld ?_
    rotate_left
    · intro wx hSx; (try dsimp only at hSx); go_split_ands; go_simp; try (with_reducible rfl)
    try simp only [Act.put, List.getElem_toArray, List.getElem_cons_zero, List.getElem_cons_succ, List.setIfInBounds_toArray, List.set_cons_zero, List.set_cons_succ]
    refine wpAnyH_ready (rs := [6]) (by kernel_rfl) (by simp) ?_
    refine AllReadyH.cons (o := _) rfl (fun K hK => ?_) AllReadyH.nil
    go_simp
    refine (move_any _ F p _ players ni x ⟨(below_old hB1.drew p 0 hpl).trans HW.out.players, HW.out.infos.imp fun A h => h.imp fun c h => (below_old hB1.drew p 2 hpl).trans h⟩ (HX.out.on (Below.same' hB1.drew F)) HL.out hp hni (by simp; omega)).mono ?_
    rintro e w1 ⟨_, rfl, hb1, rfl⟩
    have hbx2 := hbx1.drew.below hb1 (by simp; omega)
    have hbt2 := hbt.drew.below hb1 (by simp; omega)
    dsimp only
    refine hK.out _ _ ⟨hbt2.cell rfl, hbx2.cell rfl, hbx2.cell rfl, hbx2.cell rfl, hbx2.cell rfl, hbx2.cell rfl, hbx2.cell rfl⟩ (fun hHeld => ?_)
    clear hK K
    try simp only [Act.put, List.getElem_toArray, List.getElem_cons_zero, List.getElem_cons_succ, List.setIfInBounds_toArray, List.set_cons_zero, List.set_cons_succ]
    refine wpAnyH_take (i := 7) (v := ?_) rfl (by kernel_rfl) (by kernel_rfl) (by kernel_rfl) (fun _ _ _ h => h) (Or.inl ⟨by rfl, ?_⟩) hHeld ?_
    rotate_left
    · intro wx hSx; (try dsimp only at hSx); go_split_ands; go_simp; try (with_reducible rfl)
    try simp only [Act.put, List.getElem_toArray, List.getElem_cons_zero, List.getElem_cons_succ, List.setIfInBounds_toArray, List.set_cons_zero, List.set_cons_succ]
    refine wpAnyH_done (by kernel_rfl) ?_ _
    go_wp2
    go_ret
    exact ⟨_, rfl, hB1.drew.trans (hb1.mono (by simp; omega)), by rw [HF.out]; rfl⟩
  by_cases k3 : x.kind = 3
  · have HF := Lib.hid (show nodeErr players ni x = endErr players x by unfold nodeErr; simp [k3])
    rw [k3] at HX ⊢
    clear k1 k2 k3
    go_enter Try.func59, Try.ntmps59
    go_wp2_with fail
    obtain ⟨W, hW, hbx, hWb, hWz⟩ := row_of_alloc w 45 #[.int .i64 3, .int .i64 x.player, .int .i64 x.info, .slice A3 x.next.length c3, .slice A4 x.weights.length c4, .slice A5 x.pay.length c5]
    rw [← hW]; clear hW
    obtain ⟨W1, hW, hbt, hW1b, hW1z⟩ := row_of_alloc W 99 #[.nilFunc, .func (.func 63) #[] #[], .func (.func 64) #[] #[], .func (.func 65) #[] #[]]
    rw [← hW]; clear hW
    have hbx1 := hbx.below hW1b (by omega)
    have hB1 : Below w.heap.size w W1 := hWb.trans (hW1b.mono (by omega))
    clear hbx hWb hW1b
    rw [← hWz] at hbt; have z0 := hbt.lt; clear hWz hW1z
    have hen := enters Try.func65 (by decide +kernel) (by decide +kernel)
    refine wp_region_held_drew (S := fun w' => w'.cell? ⟨w.heap.size + 1, 3, none⟩ = some (.func (.func 65) #[] #[]) ∧ w'.cell? ⟨w.heap.size, 0, none⟩ = some (.int .i64 3) ∧ w'.cell? ⟨w.heap.size, 1, none⟩ = some (.int .i64 x.player) ∧ w'.cell? ⟨w.heap.size, 2, none⟩ = some (.int .i64 x.info) ∧ w'.cell? ⟨w.heap.size, 3, none⟩ = some (.slice A3 x.next.length c3) ∧ w'.cell? ⟨w.heap.size, 4, none⟩ = some (.slice A4 x.weights.length c4) ∧ w'.cell? ⟨w.heap.size, 5, none⟩ = some (.slice A5 x.pay.length c5)) (by kernel_rfl) ⟨hbt.cell rfl, hbx1.cell rfl, hbx1.cell rfl, hbx1.cell rfl, hbx1.cell rfl, hbx1.cell rfl, hbx1.cell rfl⟩ (fun hHeld => ?_)
    refine wpAnyH_take (i := 0) (v := ?_) rfl (by kernel_rfl) (by kernel_rfl) (by kernel_rfl) (fun _ _ _ h => h) (Or.inl ⟨by rfl, ?_⟩) hHeld ?_
    rotate_left
    · intro wx hSx; (try dsimp only at hSx); go_split_ands; go_simp; try (with_reducible rfl)
    try simp only [Act.put, List.getElem_toArray, List.getElem_cons_zero, List.getElem_cons_succ, List.setIfInBounds_toArray, List.set_cons_zero, List.set_cons_succ]
    refine wpAnyH_take (i := 1) (v := ?_) rfl (by kernel_rfl) (by kernel_rfl) (by kernel_rfl) (fun _ _ _ h => h) (Or.inl ⟨by rfl, ?_⟩) hHeld ?_
    rotate_left
    · intro wx hSx; (try dsimp only at hSx); go_split_ands; go_simp; try (with_reducible rfl)
    try simp only [Act.put, List.getElem_toArray, List.getElem_cons_zero, List.getElem_cons_succ, List.setIfInBounds_toArray, List.set_cons_zero, List.set_cons_succ]
    refine wpAnyH_take (i := 2) (v := ?_) rfl (by kernel_rfl) (by kernel_rfl) (by kernel_rfl) (fun _ _ _ h => h) (Or.inl ⟨by rfl, ?_⟩) hHeld ?_
    rotate_left
    · intro wx hSx; (try dsimp only at hSx); go_split_ands; go_simp; try (with_reducible rfl)
    try simp only [Act.put, List.getElem_toArray, List.getElem_cons_zero, List.getElem_cons_succ, List.setIfInBounds_toArray, List.set_cons_zero, List.set_cons_succ]
    refine wpAnyH_take (i := 3) (v := ?_) rfl (by kernel_rfl) (by kernel_rfl) (by kernel_rfl) (fun _ _ _ h => h) (Or.inl ⟨by rfl, ?_⟩) hHeld ?_
    rotate_left
    · intro wx hSx; (try dsimp only at hSx); go_split_ands; go_simp; try (with_reducible rfl)
    try simp only [Act.put, List.getElem_toArray, List.getElem_cons_zero, List.getElem_cons_succ, List.setIfInBounds_toArray, List.set_cons_zero, List.set_cons_succ]
    refine wpAnyH_take (i := 4) (v := ?_) rfl (by kernel_rfl) (by kernel_rfl) (by kernel_rfl) (fun _ _ _ h => h) (Or.inl ⟨by rfl, ?_⟩) hHeld ?_
    rotate_left
    · intro wx hSx; (try dsimp only at hSx); go_split_ands; go_simp; try (with_reducible rfl)
    try simp only [Act.put, List.getElem_toArray, List.getElem_cons_zero, List.getElem_cons_succ, List.setIfInBounds_toArray, List.set_cons_zero, List.set_cons_succ]
    refine wpAnyH_take (i := 5) (v := ?_) rfl (by kernel_rfl) (by kernel_rfl) (by kernel_rfl) (fun _ _ _ h => h) (Or.inl ⟨by rfl, ?_⟩) hHeld ?_
    rotate_left
    · intro wx hSx; (try dsimp only at hSx); go_split_ands; go_simp; try (with_reducible rfl)
    try simp only [Act.put, List.getElem_toArray, List.getElem_cons_zero, List.getElem_cons_succ, List.setIfInBounds_toArray, List.set_cons_zero, List.set_cons_succ]
    refine wpAnyH_ready (rs := [6]) (by kernel_rfl) (by simp) ?_
    refine AllReadyH.cons (o := _) rfl (fun K hK => ?_) AllReadyH.nil
    go_simp
    refine (end_any _ F p _ players ni x ⟨(below_old hB1.drew p 0 hpl).trans HW.out.players, HW.out.infos.imp fun A h => h.imp fun c h => (below_old hB1.drew p 2 hpl).trans h⟩ (HX.out.on (Below.same' hB1.drew F)) HL.out (by simp; omega)).mono ?_
    rintro e w1 ⟨_, rfl, hb1, rfl⟩
    have hbx2 := hbx1.drew.below hb1 (by simp; omega)
    have hbt2 := hbt.drew.below hb1 (by simp; omega)
    dsimp only
    refine hK.out _ _ ⟨hbt2.cell rfl, hbx2.cell rfl, hbx2.cell rfl, hbx2.cell rfl, hbx2.cell rfl, hbx2.cell rfl, hbx2.cell rfl⟩ (fun hHeld => ?_)
    clear hK K
    try simp only [Act.put, List.getElem_toArray, List.getElem_cons_zero, List.getElem_cons_succ, List.setIfInBounds_toArray, List.set_cons_zero, List.set_cons_succ]
    refine wpAnyH_take (i := 7) (v := ?_) rfl (by kernel_rfl) (by kernel_rfl) (by kernel_rfl) (fun _ _ _ h => h) (Or.inl ⟨by rfl, ?_⟩) hHeld ?_
    rotate_left
    · intro wx hSx; (try dsimp only at hSx); go_split_ands; go_simp; try (with_reducible rfl)
    try simp only [Act.put, List.getElem_toArray, List.getElem_cons_zero, List.getElem_cons_succ, List.setIfInBounds_toArray, List.set_cons_zero, List.set_cons_succ]
    refine wpAnyH_done (by kernel_rfl) ?_ _
    go_wp2
    go_ret
    exact ⟨_, rfl, hB1.drew.trans (hb1.mono (by simp; omega)), by rw [HF.out]; rfl⟩
  have HF := Lib.hid (show nodeErr players ni x = 3 by unfold nodeErr; simp [k1, k2, k3])
  by_cases q : x.kind < 1
  · clear k1 k2 k3
    go_enter Try.func59, Try.ntmps59
    go_wp2
    go_ret
    exact ⟨_, rfl, below_two _ _ _ 0, by rw [HF.out]; rfl⟩
  · have d : decide (x.kind < 1) = false := decide_eq_false q
    have d2 : 3 < x.kind := by omega
    clear k1 k2 k3
    go_enter Try.func59, Try.ntmps59
    go_wp2
    go_ret
    exact ⟨_, rfl, below_two _ _ _ 0, by rw [HF.out]; rfl⟩
end Go.Proofs.Ytafjdoedallnbaa

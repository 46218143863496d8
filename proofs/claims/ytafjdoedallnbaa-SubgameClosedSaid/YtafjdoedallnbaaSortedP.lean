/- slices.IsSorted for ints -/
import Derived.Test.YtafjdoedallnbaaSlicesP
namespace Go.Proofs.Ytafjdoedallnbaa
open Go.RowKit

def sortedL : List Int → Bool
  | a :: b :: r => decide (a ≤ b) && sortedL (b :: r)
  | _ => true
theorem sortedL_drop : ∀ (l : List Int) (k : Nat), sortedL l = true → sortedL (l.drop k) = true
  | l, 0, h => h
  | [], k + 1, h => by simp [sortedL]
  | [a], k + 1, h => by simp [sortedL]
  | a :: b :: r, k + 1, h => by
    simp only [sortedL, Bool.and_eq_true] at h
    simp only [List.drop_succ_cons]
    exact sortedL_drop (b :: r) k h.2
theorem sortedL_step {l : List Int} {k : Nat} {x y : Int} (hx : l[k]? = some x) (hy : l[k + 1]? = some y) : sortedL (l.drop k) = (decide (x ≤ y) && sortedL (l.drop (k + 1))) := by
  have h1 := lt_of_get hx
  have h2 := lt_of_get hy
  have e1 : l[k] = x := by simpa [h1] using hx
  have e2 : l[k + 1] = y := by simpa [h2] using hy
  rw [List.drop_eq_getElem_cons h1, List.drop_eq_getElem_cons h2, e1, e2]
  rfl
theorem sortedL_iff (l : List Int) : sortedL l = true ↔ ∀ k x y, l[k]? = some x → l[k + 1]? = some y → x ≤ y := by
  constructor
  · intro h k x y hx hy
    have := sortedL_drop l k h
    rw [sortedL_step hx hy] at this
    simp at this; exact this.1
  · induction l with
    | nil => intro _; rfl
    | cons a r ih => match r with
      | [] => intro _; rfl
      | b :: r => intro h; simp only [sortedL, Bool.and_eq_true, decide_eq_true_eq]; exact ⟨h 0 a b rfl rfl, ih (fun k x y hx hy => h (k + 1) x y (by simpa using hx) (by simpa using hy))⟩

set_option maxRecDepth 100000 in
set_option maxHeartbeats 1600000 in
theorem isSorted_any (w : World) (F : Foot) (v : Value) (l : List Int) (hv : IntsAt w F v l) (hl : l.length ≤ 1000000) :
    Calls Try.prog 67 #[v] w (Ret w fun v _ => v = .bool (sortedL l)) := by
  obtain ⟨A, c, rfl, hc, hN⟩ := hv
  have HN := Lib.hid hN; clear hN
  go_enter Try.func67, Try.ntmps67
  go_wp2
  go_loopw [3] (fun i wr => ∃ k : Nat, k ≤ l.length ∧ i = .int .i64 ((k : Int) - 1) ∧ sortedL (l.drop (k - 1)) = true ∧ ∃ n, wr = w.drewN n) (fun i _ => (intOf i + 1).toNat)
  case atStart => exact ⟨l.length, by omega, rfl, by cases h : l.length with | zero => simp [List.length_eq_zero_iff.1 h, sortedL] | succ m => (have hm : m < l.length := by omega); simp [List.drop_eq_getElem_cons hm, List.drop_eq_nil_of_le (show l.length ≤ m + 1 by omega), sortedL], 0, rfl⟩
  case round =>
    obtain ⟨k, hk, rfl, hp, nn, rfl⟩ := hrel
    have HP := Lib.hid hp; clear hp
    by_cases hlt : 2 ≤ k
    · obtain ⟨b, o, rfl, _, hb, hx⟩ := HN.out (by omega)
      obtain ⟨q, rfl⟩ : ∃ q, k = q + 2 := ⟨k - 2, by omega⟩
      obtain ⟨p, hpq⟩ : ∃ p, p = q + 1 := ⟨_, rfl⟩
      have hpl : p < l.length := by omega
      have hql : q < l.length := by omega
      obtain ⟨x, hx'⟩ := getSome (l := l) (k := q) (by omega)
      obtain ⟨y, hy'⟩ := getSome (l := l) (k := p) (by omega)
      have ex := hx q x hx'
      have ey := hx p y hy'
      unfold intE at ex ey; rw [Nat.mul_one] at ex ey
      have HS := Lib.hid (sortedL_step hx' (by rw [← hpq]; exact hy'))
      clear hx hx' hy'
      have i1 : (((q + 2 : Nat) : Int) - 1) = (p : Int) := by omega
      have i2 : ((p : Int) - 1) = (q : Int) := by omega
      have wr2 : IntKind.i64.wrap (q : Int) = (q : Int) := IntWalk.i64_in _ (by omega)
      have hp0 : (0 : Int) < (p : Int) := by omega
      rw [i1]
      have HPQ := Lib.hid hpq; clear hpq i1
      go_wp2_with fail
      refine wp_region_held_drew (S := fun w' => w'.cell? ⟨b, o + q, none⟩ = some (.int .i64 x) ∧ w'.cell? ⟨b, o + p, none⟩ = some (.int .i64 y)) (by kernel_rfl) ⟨ex, ey⟩ (fun hHeld => ?_)
      refine wpAnyH_take (i := 0) (v := ?_) rfl (by kernel_rfl) (by kernel_rfl) (by kernel_rfl) (fun _ _ _ h => h) (Or.inl ⟨by rfl, ?_⟩) hHeld ?_
      rotate_left
      · intro wx hSx; (try dsimp only at hSx); go_split_ands; go_simp; try (with_reducible rfl)
      try simp only [Act.put, List.getElem_toArray, List.getElem_cons_zero, List.getElem_cons_succ, List.setIfInBounds_toArray, List.set_cons_zero, List.set_cons_succ]
      refine wpAnyH_take (i := 1) (v := ?_) rfl (by kernel_rfl) (by kernel_rfl) (by kernel_rfl) (fun _ _ _ h => h) (Or.inl ⟨by rfl, ?_⟩) hHeld ?_
      rotate_left
      · intro wx hSx; (try dsimp only at hSx); go_split_ands; go_simp; try (with_reducible rfl)
      try simp only [Act.put, List.getElem_toArray, List.getElem_cons_zero, List.getElem_cons_succ, List.setIfInBounds_toArray, List.set_cons_zero, List.set_cons_succ]
      refine wpAnyH_take (i := 2) (v := ?_) rfl (by kernel_rfl) (by kernel_rfl) (by kernel_rfl) (fun _ _ _ h => h) (Or.inl ⟨by rfl, ?_⟩) hHeld ?_
      rotate_left
      · intro wx hSx; (try dsimp only at hSx); go_split_ands; go_simp; try (with_reducible rfl)
      try simp only [Act.put, List.getElem_toArray, List.getElem_cons_zero, List.getElem_cons_succ, List.setIfInBounds_toArray, List.set_cons_zero, List.set_cons_succ]
      refine wpAnyH_take (i := 3) (v := ?_) rfl (by kernel_rfl) (by kernel_rfl) (by kernel_rfl) (fun _ _ _ h => h) (Or.inl ⟨by rfl, ?_⟩) hHeld ?_
      rotate_left
      · intro wx hSx; (try dsimp only at hSx); go_split_ands; go_simp; try (with_reducible rfl)
      try simp only [Act.put, List.getElem_toArray, List.getElem_cons_zero, List.getElem_cons_succ, List.setIfInBounds_toArray, List.set_cons_zero, List.set_cons_succ]
      refine wpAnyH_take (i := 4) (v := ?_) rfl (by kernel_rfl) (by kernel_rfl) (by kernel_rfl) (fun _ _ _ h => h) (Or.inl ⟨by rfl, ?_⟩) hHeld ?_
      rotate_left
      · intro wx hSx; (try dsimp only at hSx); go_split_ands; go_simp; try (with_reducible rfl)
      try simp only [Act.put, List.getElem_toArray, List.getElem_cons_zero, List.getElem_cons_succ, List.setIfInBounds_toArray, List.set_cons_zero, List.set_cons_succ]
      refine wpAnyH_take (i := 5) (v := ?_) rfl (by kernel_rfl) (by kernel_rfl) (by kernel_rfl) (fun _ _ _ h => h) (Or.inl ⟨by rfl, ?_⟩) hHeld ?_
      rotate_left
      · intro wx hSx; (try dsimp only at hSx); go_split_ands; go_simp; try (with_reducible rfl)
      try simp only [Act.put, List.getElem_toArray, List.getElem_cons_zero, List.getElem_cons_succ, List.setIfInBounds_toArray, List.set_cons_zero, List.set_cons_succ]
      refine wpAnyH_take (i := 6) (v := ?_) rfl (by kernel_rfl) (by kernel_rfl) (by kernel_rfl) (fun _ _ _ h => h) (Or.inl ⟨by rfl, ?_⟩) hHeld ?_
      rotate_left
      · intro wx hSx; (try dsimp only at hSx); go_split_ands; go_simp; try (with_reducible rfl)
      try simp only [Act.put, List.getElem_toArray, List.getElem_cons_zero, List.getElem_cons_succ, List.setIfInBounds_toArray, List.set_cons_zero, List.set_cons_succ]
      refine wpAnyH_take (i := 7) (v := ?_) rfl (by kernel_rfl) (by kernel_rfl) (by kernel_rfl) (fun _ _ _ h => h) (Or.inl ⟨by rfl, ?_⟩) hHeld ?_
      rotate_left
      · intro wx hSx; (try dsimp only at hSx); go_split_ands; go_simp; try (with_reducible rfl)
      try simp only [Act.put, List.getElem_toArray, List.getElem_cons_zero, List.getElem_cons_succ, List.setIfInBounds_toArray, List.set_cons_zero, List.set_cons_succ]
      refine wpAnyH_take (i := 8) (v := ?_) rfl (by kernel_rfl) (by kernel_rfl) (by kernel_rfl) (fun _ _ _ h => h) (Or.inl ⟨by rfl, ?_⟩) hHeld ?_
      rotate_left
      · intro wx hSx; (try dsimp only at hSx); go_split_ands; go_simp; try (with_reducible rfl)
      try simp only [Act.put, List.getElem_toArray, List.getElem_cons_zero, List.getElem_cons_succ, List.setIfInBounds_toArray, List.set_cons_zero, List.set_cons_succ]
      refine wpAnyH_ready (rs := [9]) (by kernel_rfl) (by simp) ?_
      refine AllReadyH.cons (o := _) rfl (fun K hK => ?_) AllReadyH.nil
      go_simp
      refine (less_any _ y x).mono ?_
      rintro e w1 ⟨rfl, rfl⟩
      dsimp only
      refine hK.out _ _ ⟨ex, ey⟩ (fun hHeld => ?_)
      clear hK K
      try simp only [Act.put, List.getElem_toArray, List.getElem_cons_zero, List.getElem_cons_succ, List.setIfInBounds_toArray, List.set_cons_zero, List.set_cons_succ]
      refine wpAnyH_done (by kernel_rfl) ?_ _
      clear hHeld ex ey
      by_cases hyx : y < x
      · have HF := Lib.hid (show sortedL l = false by
          cases h : sortedL l with
          | false => rfl
          | true => have := sortedL_drop l q h; rw [HS.out] at this; simp at this; omega)
        go_wp2
        go_ret
        exact ⟨_, rfl, below_dN (Below.refl _ _) _, by first | rfl | (rw [HF.out]; rfl)⟩
      · have hd : decide (y < x) = false := decide_eq_false hyx
        go_wp2
        go_roundw
        case rel =>
          have e := HPQ.out
          refine ⟨q + 1, by omega, by first | rfl | (congr 1; omega), ?_, _, rfl⟩
          have := HP.out
          rw [Nat.add_sub_cancel, HS.out]
          simp only [Bool.and_eq_true, decide_eq_true_eq]
          exact ⟨by omega, this⟩
        case measure => simp [intOf]; omega
    · go_wp2
      go_ret
      refine ⟨_, rfl, below_dN (Below.refl _ _) _, ?_⟩
      have := HP.out
      rw [show k - 1 = 0 by omega] at this
      simp at this
      rw [this]; rfl
end Go.Proofs.Ytafjdoedallnbaa

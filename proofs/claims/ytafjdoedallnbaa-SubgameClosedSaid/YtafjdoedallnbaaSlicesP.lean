/- slices.Max, Index, Contains, IsSorted for ints -/
import Derived.Test.YtafjdoedallnbaaAlikeNode
import Derived.Test.YtafjdoedallnbaaPeel
namespace Go.Proofs.Ytafjdoedallnbaa
open Go.RowKit

def maxL (l : List Int) : Int := match l with | [] => 0 | x :: r => r.foldl max x
theorem foldmax_snoc (l : List Int) (a x : Int) : (l ++ [x]).foldl max a = max (l.foldl max a) x := by simp

set_option maxHeartbeats 1600000 in
theorem max_any (w : World) (F : Foot) (v : Value) (l : List Int) (hv : IntsAt w F v l) (h0 : 0 < l.length) (hl : l.length ≤ 1000000) :
    Calls Try.prog 61 #[v] w fun e w' => e = .returned (.int .i64 (maxL l)) ∧ w' = w := by
  obtain ⟨A, c, rfl, hc, hN⟩ := hv
  obtain ⟨b, o, rfl, hbF, hb, hcell⟩ := hN h0
  clear hN
  obtain ⟨y, hy⟩ := getSome h0
  have e0 := hcell 0 y hy
  unfold intE at e0
  simp only [Nat.zero_mul, Nat.add_zero] at e0
  have HC := Lib.hid hcell; clear hcell
  obtain ⟨r, rfl⟩ : ∃ r, l = y :: r := by cases l with | nil => simp at h0 | cons a r => simp at hy; exact ⟨r, by rw [hy]⟩
  clear hy
  have hd : decide (((y :: r).length : Int) < 1) = false := decide_eq_false (by omega)
  have HM := Lib.hid (show maxL (y :: r) = r.foldl max y from rfl)
  generalize hL : (y :: r).length = L at *
  have HL := Lib.hid hL; clear hL
  go_enter Try.func61, Try.ntmps61
  go_wp2
  go_loopw [3, 4] (fun m i wr => ∃ k : Nat, 1 ≤ k ∧ k ≤ L ∧ i = .int .i64 k ∧ m = .int .i64 ((r.take (k - 1)).foldl max y) ∧ wr = w) (fun _ i _ => L - (intOf i).toNat)
  case atStart => exact ⟨1, by omega, by omega, rfl, rfl, rfl⟩
  case round =>
    obtain ⟨k, hk1, hk, rfl, rfl, rfl⟩ := hrel
    by_cases hlt : k < L
    · obtain ⟨x, hx⟩ := getSome (l := y :: r) (k := k) (by rw [HL.out]; exact hlt)
      have ex := HC.out k x hx
      unfold intE at ex; rw [Nat.mul_one] at ex
      have HS := Lib.hid (show (r.take k).foldl max y = max ((r.take (k - 1)).foldl max y) x by
        rw [← foldmax_snoc]; congr 1
        have : r[k - 1]? = some x := by rw [← hx]; cases k with | zero => omega | succ k => simp
        have h := take_snoc this
        rwa [Nat.sub_add_cancel hk1] at h)
      clear hx e0
      generalize (r.take (k - 1)).foldl max y = m at *
      go_wp2
      go_roundw
      case rel => exact ⟨k + 1, by omega, by omega, by go_num, by rw [Nat.add_sub_cancel, HS.out]; congr 1; rw [Int.max_def]; split <;> split <;> omega, trivial⟩
      case measure => simp [intOf]; omega
    · go_wp2
      go_ret
      refine ⟨?_, rfl⟩
      have : k = L := by omega
      rw [HM.out, List.take_of_length_le (by rw [this, ← HL.out]; simp)]; rfl

set_option maxHeartbeats 1600000 in
theorem index_any (w : World) (F : Foot) (v : Value) (l : List Int) (y : Int) (hv : IntsAt w F v l) (hl : l.length ≤ 1000000) :
    Calls Try.prog 69 #[v, .int .i64 y] w fun e w' => e = .returned (.int .i64 (if y ∈ l then (l.idxOf y : Int) else -1)) ∧ w' = w := by
  obtain ⟨A, c, rfl, hc, hN⟩ := hv
  have HN := Lib.hid hN; clear hN
  obtain ⟨R, hR⟩ : ∃ R : Int, R = (if y ∈ l then (l.idxOf y : Int) else -1) := ⟨_, rfl⟩
  rw [← hR]
  have HR := Lib.hid hR; clear hR
  go_enter Try.func69, Try.ntmps69
  go_wp2
  go_loop [8] (fun i => ∃ k : Nat, k ≤ l.length ∧ i = .int .i64 k ∧ ∀ z ∈ l.take k, z ≠ y) (fun i => l.length - (intOf i).toNat)
  case atStart => exact ⟨0, by omega, rfl, by simp⟩
  case round =>
    obtain ⟨k, hk, rfl, hp⟩ := hrel
    have HP := Lib.hid hp; clear hp
    by_cases hlt : k < l.length
    · obtain ⟨b, o, rfl, _, hb, hx⟩ := HN.out (by omega)
      obtain ⟨x, hx'⟩ := getSome hlt
      have ex := hx k x hx'
      unfold intE at ex; rw [Nat.mul_one] at ex
      have HX := Lib.hid hx'; clear hx hx'
      by_cases he : y = x
      · subst he
        have HF := Lib.hid (show R = (k : Int) by
          rw [HR.out, if_pos (List.mem_of_getElem? HX.out)]
          have h1 : l.idxOf y ≤ k := by
            rcases Nat.lt_or_ge k (l.idxOf y) with h | h
            · exfalso
              have := List.not_of_lt_findIdx (xs := l) (p := (· == y)) (i := k) h
              have hq : l[k]'hlt = y := by have := HX.out; simpa [hlt] using this
              simp [hq] at this
            · exact h
          have h2 : ¬ l.idxOf y < k := by
            intro h
            have hm : y ∈ l := List.mem_of_getElem? HX.out
            have hlt2 := List.idxOf_lt_length_iff.2 hm
            exact HP.out y (List.mem_take_iff_getElem.2 ⟨l.idxOf y, by omega, by simp⟩) rfl
          omega)
        go_wp2
        go_ret
        exact ⟨by first | rfl | (rw [HF.out]; rfl), rfl⟩
      · have hd : (y == x) = false := by simp [he]
        have HE := Lib.hid he; clear he
        go_wp2
        go_round
        case rel =>
          refine ⟨k + 1, by omega, by go_num, fun z hz => ?_⟩
          rw [take_snoc HX.out] at hz
          simp at hz
          rcases hz with hz | rfl
          · exact HP.out z hz
          · exact fun h => HE.out h.symm
        case measure => simp [intOf]; omega
    · have HF := Lib.hid (show R = -1 by
        rw [HR.out, if_neg]; intro hm
        have := HP.out; rw [List.take_of_length_le (by omega)] at this
        exact this y hm rfl)
      go_wp2
      go_ret
      exact ⟨by first | rfl | (rw [HF.out]; rfl), rfl⟩

set_option maxHeartbeats 1600000 in
theorem contains_any (w : World) (F : Foot) (v : Value) (l : List Int) (y : Int) (hv : IntsAt w F v l) (hl : l.length ≤ 1000000) :
    Calls Try.prog 66 #[v, .int .i64 y] w fun e w' => e = .returned (.bool (l.contains y)) ∧ w' = w := by
  have HV := Lib.hid hv; clear hv
  go_enter Try.func66, Try.ntmps66
  go_wp2_with fail
  refine (index_any w F v l y HV.out hl).mono ?_
  rintro e w' ⟨rfl, rfl⟩
  obtain ⟨R, hR⟩ : ∃ R : Int, R = (if y ∈ l then (l.idxOf y : Int) else -1) := ⟨_, rfl⟩
  rw [← hR]
  have HF := Lib.hid (show decide (0 ≤ R) = l.contains y by
    rw [hR]
    by_cases h : y ∈ l
    · simp [h]
    · simp [h])
  clear hR
  go_wp2
  go_ret
  exact ⟨by rw [← HF.out]; rfl, rfl⟩

theorem isNaN_any (w : World) (x : Int) : Calls Try.prog 72 #[.int .i64 x] w fun e w' => e = .returned (.bool false) ∧ w' = w := by
  have h : (x != x) = false := by simp
  go_enter Try.func72, Try.ntmps72
  go_wp2
  go_ret
  exact ⟨rfl, rfl⟩

set_option maxHeartbeats 1600000 in
theorem less_any (w : World) (x y : Int) : Calls Try.prog 70 #[.int .i64 x, .int .i64 y] w fun e w' => e = .returned (.bool (decide (x < y))) ∧ w' = w := by
  go_enter Try.func70, Try.ntmps70
  go_wp2_with fail
  refine (isNaN_any w x).mono ?_
  rintro e w' ⟨rfl, rfl⟩
  go_wp2
  go_ret
  exact ⟨rfl, rfl⟩
end Go.Proofs.Ytafjdoedallnbaa

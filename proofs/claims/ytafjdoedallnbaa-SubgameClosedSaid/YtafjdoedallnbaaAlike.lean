/- parlourkit.Alike at ints: whether two lists are equal. -/
import Derived.Test.YtafjdoedallnbaaPure1
namespace Go.Proofs.Ytafjdoedallnbaa
open Go.RowKit

theorem take_same_snoc {α : Type} {l1 l2 : List α} {k : Nat} {x : α} (h1 : l1[k]? = some x) (h2 : l2[k]? = some x) (h : l1.take k = l2.take k) : l1.take (k+1) = l2.take (k+1) := by
  rw [take_snoc h1, take_snoc h2, h]

set_option maxHeartbeats 400000 in
theorem alikeInt_any (w : World) (F : Foot) (v1 v2 : Value) (l1 l2 : List Int) (h1 : IntsAt w F v1 l1) (h2 : IntsAt w F v2 l2) (hl1 : l1.length < 1000000) (hl2 : l2.length < 1000000) :
    Calls Try.prog 12 #[v1, v2] w fun e w' => e = .returned (.bool (decide (l1 = l2))) ∧ ∃ n, w' = w.drewN n := by
  obtain ⟨A1, c1, rfl, hc1, r1⟩ := h1
  obtain ⟨A2, c2, rfl, hc2, r2⟩ := h2
  by_cases hl : l1.length = l2.length
  · have R1 := Lib.hid r1; clear r1
    have R2 := Lib.hid r2; clear r2
    have HL := Lib.hid hl
    have hb : ((l1.length : Int) != (l2.length : Int)) = false := by simp [hl]
    clear hl
    go_enter Try.func12, Try.ntmps12
    go_wp2
    go_loopw [5] (fun i wr => ∃ k : Nat, k ≤ l1.length ∧ i = .int .i64 k ∧ l1.take k = l2.take k ∧ ∃ n, wr = w.drewN n) (fun i _ => l1.length - (intOf i).toNat)
    case atStart => exact ⟨0, by omega, rfl, by simp, 0, rfl⟩
    case round =>
      obtain ⟨k, hk, rfl, hpre, n, rfl⟩ := hrel
      have HP := Lib.hid hpre; clear hpre
      by_cases hlt : k < l1.length
      · obtain ⟨b1, o1, rfl, hb1, _, hcell1⟩ := R1.out (by omega)
        have hk2 : k < l2.length := by have := HL.out; omega
        obtain ⟨b2, o2, rfl, hb2, _, hcell2⟩ := R2.out (by omega)
        obtain ⟨x, hx⟩ := getSome hlt
        obtain ⟨y, hy⟩ := getSome hk2
        have e1 := hcell1 k x hx
        have e2 := hcell2 k y hy
        unfold intE at e1 e2
        rw [Nat.mul_one] at e1 e2
        clear hcell1 hcell2
        have HX := Lib.hid hx; clear hx
        have HY := Lib.hid hy; clear hy
        by_cases he : x = y
        · subst he
          go_wp2
          go_quiet (fail)
          go_wp2
          go_roundw
          case rel => exact ⟨k+1, by omega, by go_num, take_same_snoc HX.out HY.out HP.out, _, rfl⟩
          case measure => simp [intOf]; omega
        · have hne : (x != y) = true := by simp [he]
          have hfin : decide (l1 = l2) = false := by
            simp only [decide_eq_false_iff_not]; rintro rfl
            have h3 := HX.out; rw [HY.out] at h3; cases h3; exact he rfl
          have HF := Lib.hid hfin; clear hfin he
          go_wp2
          go_quiet (fail)
          go_wp2
          go_ret
          exact ⟨by rw [HF.out]; rfl, n + nq, by rw [World.drewN_drewN]⟩
      · go_wp2
        go_ret
        have : k = l1.length := by omega
        have h3 := HP.out
        have h4 := HL.out
        refine ⟨?_, _, rfl⟩
        have h5 : l1 = l2 := by
          rw [List.take_of_length_le (by omega), List.take_of_length_le (by omega)] at h3; exact h3
        simp [h5]
  · have hb : ((l1.length : Int) != (l2.length : Int)) = true := by simp; omega
    go_enter Try.func12, Try.ntmps12
    go_wp2
    go_ret
    refine ⟨?_, 0, rfl⟩
    have : l1 ≠ l2 := by rintro rfl; exact hl rfl
    simp [this]
end Go.Proofs.Ytafjdoedallnbaa

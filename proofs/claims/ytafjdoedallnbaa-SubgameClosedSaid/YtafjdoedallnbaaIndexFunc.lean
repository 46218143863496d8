/- slices.IndexFunc, ContainsFunc at ints, for a closure that only reads; slices.Index, Contains, Max, IsSorted; cmp.Less. -/
import Derived.Test.YtafjdoedallnbaaPure1
namespace Go.Proofs.Ytafjdoedallnbaa
open Go.RowKit

/-- what a closure of one int does: it answers, and leaves the world as it was but for draws -/
def Answers (w : World) (fid : FuncId) (caps : Array Value) (l : List Int) (p : Int → Bool) : Prop :=
  (∀ (args : Array Value) (w' : World), (callFunc fid args).run Try.prog w' = .ok (.enter fid args) w') ∧
  ∀ (n : Nat) (x : Int), x ∈ l → Calls Try.prog fid (#[.int .i64 x] ++ caps) (w.drewN n) fun e w' => e = .returned (.bool (p x)) ∧ ∃ m, w' = w.drewN m

def idxOf (p : Int → Bool) (l : List Int) : Int := match l.findIdx? p with | some i => (i : Int) | none => -1

theorem idxOf_hit {p : Int → Bool} {l : List Int} {k : Nat} {x : Int} (h : l[k]? = some x) (hp : p x = true) (hn : (l.take k).any p = false) : idxOf p l = k := by
  have hk := lt_of_get h
  have : l.findIdx? p = some k := by
    rw [List.findIdx?_eq_some_iff_getElem]
    refine ⟨hk, ?_, fun j hj => ?_⟩
    · have : l[k] = x := by simpa [hk] using h
      rw [this]; exact hp
    · have h1 := List.any_eq_false.1 hn l[j] (by rw [List.mem_take_iff_getElem]; exact ⟨j, by omega, rfl⟩)
      simpa using h1
  simp [idxOf, this]
theorem idxOf_none {p : Int → Bool} {l : List Int} (hn : l.any p = false) : idxOf p l = -1 := by
  have : l.findIdx? p = none := by
    rw [List.findIdx?_eq_none_iff]
    intro x hx
    have := List.any_eq_false.1 hn x hx
    simpa using this
  simp [idxOf, this]
theorem idxOf_any (p : Int → Bool) (l : List Int) : decide (0 ≤ idxOf p l) = l.any p := by
  cases h : l.any p with
  | false => rw [idxOf_none h]; rfl
  | true =>
    obtain ⟨x, hx, hp⟩ := List.any_eq_true.1 h
    unfold idxOf
    split
    · rw [decide_eq_true_iff]; omega
    · rename_i h1
      rw [List.findIdx?_eq_none_iff] at h1
      have := h1 x hx
      rw [hp] at this; cases this

set_option maxHeartbeats 1600000 in
theorem indexFunc_any (w : World) (F : Foot) (v : Value) (l : List Int) (fid : FuncId) (caps : Array Value) (p : Int → Bool) (hv : IntsAt w F v l) (hl : l.length ≤ 1000000) (ha : Answers w fid caps l p) :
    Calls Try.prog 56 #[v, .func (.func fid) #[] caps] w fun e w' => e = .returned (.int .i64 (idxOf p l)) ∧ ∃ n, w' = w.drewN n := by
  obtain ⟨A, c, rfl, hc, hr⟩ := hv
  have HR := Lib.hid hr; clear hr
  obtain ⟨hcf, hcl⟩ := ha
  have HCL := Lib.hid hcl; clear hcl
  go_enter Try.func56, Try.ntmps56
  go_wp2
  go_loopw [8] (fun i wr => ∃ k n : Nat, k ≤ l.length ∧ i = .int .i64 k ∧ (l.take k).any p = false ∧ wr = w.drewN n) (fun i _ => l.length - (intOf i).toNat)
  case atStart => exact ⟨0, 0, by omega, rfl, rfl, rfl⟩
  case round =>
    obtain ⟨k, n, hk, rfl, hpre, rfl⟩ := hrel
    have HP := Lib.hid hpre; clear hpre
    by_cases hlt : k < l.length
    · obtain ⟨b, o, rfl, _, hb, hx⟩ := HR.out (by omega)
      obtain ⟨x, hxx⟩ := getSome hlt
      have ex := hx k x hxx
      unfold intE at ex
      rw [Nat.mul_one] at ex
      have HX := Lib.hid hxx; clear hxx hx
      go_wp2_with fail
      refine (HCL.out n x (List.mem_of_getElem? HX.out)).mono ?_
      rintro e w' ⟨rfl, m, rfl⟩
      dsimp only
      cases hpx : p x
      · have HPX := Lib.hid hpx; clear hpx
        go_wp2
        go_roundw
        case rel => exact ⟨k + 1, m, by omega, by go_num, any_snoc HX.out HP.out HPX.out, rfl⟩
        case measure => simp [intOf]; omega
      · have HF := Lib.hid (idxOf_hit HX.out hpx HP.out); clear hpx
        go_wp2
        go_ret
        exact ⟨by rw [HF.out]; rfl, m, rfl⟩
    · go_wp2
      go_ret
      have h := HP.out
      rw [List.take_of_length_le (by omega)] at h
      exact ⟨by rw [idxOf_none h]; rfl, n, rfl⟩

set_option maxHeartbeats 1600000 in
theorem containsFunc_any (w : World) (F : Foot) (v : Value) (l : List Int) (fid : FuncId) (caps : Array Value) (p : Int → Bool) (hv : IntsAt w F v l) (hl : l.length ≤ 1000000) (ha : Answers w fid caps l p) :
    Calls Try.prog 47 #[v, .func (.func fid) #[] caps] w fun e w' => e = .returned (.bool (l.any p)) ∧ ∃ n, w' = w.drewN n := by
  have HV := Lib.hid hv; clear hv
  have HA := Lib.hid ha; clear ha
  go_enter Try.func47, Try.ntmps47
  go_wp2_with fail
  refine (indexFunc_any w F v l fid caps p HV.out hl HA.out).mono ?_
  rintro e w' ⟨rfl, n, rfl⟩
  dsimp only
  have HF := Lib.hid (idxOf_any p l)
  generalize idxOf p l = q at *
  go_wp2
  all_goals
    go_ret
    refine ⟨?_, n, rfl⟩
    rw [← HF.out]
    first | rfl | (simp; omega)
end Go.Proofs.Ytafjdoedallnbaa

/- subgame.view: has, check, inside, some, closed -/
import Derived.Test.YtafjdoedallnbaaLookP
import Derived.Test.YtafjdoedallnbaaRight
namespace Go.Proofs.Ytafjdoedallnbaa
open Go.RowKit

def hasB (N : Nat) (r : Int) : Bool := decide (0 ≤ r) && decide (r < (N : Int))
set_option maxRecDepth 100000 in
set_option maxHeartbeats 1600000 in
theorem has_any (w : World) (F : Foot) (u : Value) (r : Int) (g : Gm) (par last : List Int) (sets : List (List Int)) (hv : ViewV w F u g par last sets) :
    Calls Try.prog 35 #[u, .int .i64 r] w (Ret w fun v _ => v = .bool (hasB g.nodes.length r)) := by
  obtain ⟨vn, vi, vp, vl, vs, rfl, ⟨A, c, rfl, hc, hN⟩, _⟩ := hv
  clear hN
  by_cases q0 : 0 ≤ r
  · by_cases q1 : r < (g.nodes.length : Int)
    · have HF := Lib.hid (show hasB g.nodes.length r = true by simp [hasB, q0, q1])
      go_enter Try.func35, Try.ntmps35
      go_wp2
      go_ret
      exact ⟨_, rfl, (Below.refl _ _).alloc (Nat.le_refl _) _, by rw [HF.out]; rfl⟩
    · have HF := Lib.hid (show hasB g.nodes.length r = false by simp [hasB, q1])
      have d1 : decide (r < (g.nodes.length : Int)) = false := decide_eq_false q1
      go_enter Try.func35, Try.ntmps35
      go_wp2
      go_ret
      exact ⟨_, rfl, (Below.refl _ _).alloc (Nat.le_refl _) _, by rw [HF.out]; rfl⟩
  · have HF := Lib.hid (show hasB g.nodes.length r = false by simp [hasB, q0])
    have d0 : decide (0 ≤ r) = false := decide_eq_false q0
    go_enter Try.func35, Try.ntmps35
    go_wp2
    go_ret
    exact ⟨_, rfl, (Below.refl _ _).alloc (Nat.le_refl _) _, by rw [HF.out]; rfl⟩

def laterBad (last roots : List Int) (i : Nat) : Bool := decide (roots.getD i 0 ≤ last.getD (roots.getD (i - 1) 0).toNat 0)
def laterBadTo (last roots : List Int) (m : Nat) : Bool := (List.range' 1 (m - 1)).any (laterBad last roots)
theorem laterBadTo_succ (last roots : List Int) (m : Nat) (h : 1 ≤ m) : laterBadTo last roots (m + 1) = (laterBadTo last roots m || laterBad last roots m) := by
  unfold laterBadTo
  have : m + 1 - 1 = (m - 1) + 1 := by omega
  rw [this, List.range'_concat, List.any_append]
  simp
  rw [show 1 + (m - 1) = m by omega]
theorem laterBadTo_of {last roots : List Int} {m k : Nat} (h : 1 ≤ m) (hm : m < k) (hb : laterBad last roots m = true) : laterBadTo last roots k = true := by
  unfold laterBadTo
  rw [List.any_eq_true]
  exact ⟨m, by rw [List.mem_range'_1]; omega, hb⟩
def checkP (N : Nat) (last roots : List Int) : Int := if roots = [] then 3 else if rangeBad N roots then 2 else if laterBadTo last roots roots.length then 9 else 0

set_option maxRecDepth 100000 in
set_option maxHeartbeats 3200000 in
theorem viewCheck_any (w : World) (F : Foot) (u vr : Value) (g : Gm) (par last : List Int) (sets : List (List Int)) (roots : List Int) (hv : ViewV w F u g par last sets) (hr : IntsAt w F vr roots) (hl : roots.length ≤ 1000) (hN : g.nodes.length ≤ 1000) (hll : last.length = g.nodes.length) :
    Calls Try.prog 44 #[u, vr] w (Ret w fun v _ => v = .int .i64 (checkP g.nodes.length last roots)) := by
  have HVW := Lib.hid hv
  obtain ⟨vn, vi, vp, vl, vs, rfl, ⟨A, c, rfl, hc, hN'⟩, ⟨Ai, ci, rfl, hci, hI⟩, ⟨Ap, cp, rfl, hcp, hP⟩, ⟨Al, cl, rfl, hcl, hL⟩, ⟨As, cs, rfl, hcs, hS⟩⟩ := hv
  clear hN' hI hP hS
  have HL := Lib.hid hL; clear hL
  have HLL := Lib.hid hll; clear hll
  obtain ⟨Ar, cr, rfl, hcr, hRr⟩ := hr
  have HR := Lib.hid hRr; clear hRr
  by_cases hnil : roots = []
  · subst hnil
    go_enter Try.func44, Try.ntmps44
    go_wp2
    go_ret
    exact ⟨_, rfl, (Below.refl _ _).alloc (Nat.le_refl _) _, rfl⟩
  have hpos : 0 < roots.length := List.length_pos_iff.2 hnil
  have hd0 : ((roots.length : Int) == 0) = false := by simp; omega
  have HNIL := Lib.hid hnil; clear hnil
  obtain ⟨br, or, rfl, hbrF, hbr, hxr⟩ := HR.out hpos
  have HX := Lib.hid hxr; clear hxr HR
  go_enter Try.func44, Try.ntmps44
  go_wp2
  obtain ⟨W, hW, hbx, hWb, hWz⟩ := row_of_alloc w 51 #[.int .i64 g.players, .slice A g.nodes.length c, .slice Ai g.infos.length ci, .slice Ap par.length cp, .slice Al last.length cl, .slice As sets.length cs]
  rw [← hW]
  clear hW hWz
  go_loopw [6, 14] (fun _ i wr => ∃ k : Nat, k ≤ roots.length ∧ i = .int .i64 k ∧ rangeBad g.nodes.length (roots.take k) = false ∧ Below W.heap.size W wr) (fun _ i _ => roots.length - (intOf i).toNat)
  case atStart => exact ⟨0, by omega, rfl, rfl, Below.refl _ _⟩
  case round =>
    obtain ⟨k, hk, rfl, hpre, hbel⟩ := hrel
    have HP := Lib.hid hpre; clear hpre
    have hbx' := hbx.below hbel hbx.lt
    have x0 := hbx'.cell (i := 0) rfl
    have x1 := hbx'.cell (i := 1) rfl
    have x2 := hbx'.cell (i := 2) rfl
    have x3 := hbx'.cell (i := 3) rfl
    have x4 := hbx'.cell (i := 4) rfl
    have x5 := hbx'.cell (i := 5) rfl
    by_cases hlt : k < roots.length
    · obtain ⟨r, hr⟩ := getSome hlt
      have er := HX.out k r hr
      unfold intE at er
      rw [Nat.mul_one, ← below_old hWb _ _ hbr, ← below_old hbel _ _ (by have := hWb.size; omega)] at er
      have HXX := Lib.hid hr; clear hr
      go_wp2_with fail
      refine (has_any _ F _ r g par last sets ((HVW.out.on (Below.same' hWb F)).on (Below.same' hbel F))).mono ?_
      rintro e w1 ⟨_, rfl, hb1, rfl⟩
      dsimp only
      have HHB := Lib.hid (show hasB g.nodes.length r = (decide (0 ≤ r) && decide (r < (g.nodes.length : Int))) from rfl)
      generalize hasB g.nodes.length r = hb at *
      have hbel1 := hbel.trans (hb1.mono hbel.size)
      clear er x0 x1 x2 x3 x4 x5
      cases hb
      · have HF := Lib.hid (show checkP g.nodes.length last roots = 2 by
          have : rangeBad g.nodes.length roots = true := List.any_eq_true.2 ⟨r, List.mem_of_getElem? HXX.out, by
            have := HHB.out; simp at this ⊢; omega⟩
          unfold checkP; rw [if_neg HNIL.out, if_pos this])
        go_wp2
        go_ret
        exact ⟨_, rfl, hWb.trans (hbel1.mono hWb.size), by rw [HF.out]; rfl⟩
      · go_wp2
        go_roundw
        case rel => exact ⟨k + 1, by omega, by go_num, any_snoc HXX.out HP.out (by have := HHB.out; simp at this ⊢; omega), hbel1⟩
        case measure => simp [intOf] <;> omega
    · have HRB := Lib.hid (show rangeBad g.nodes.length roots = false by
        have := HP.out; rw [List.take_of_length_le (by omega)] at this; exact this)
      go_wp2
      go_loopw [7, 8, 25] (fun _ _ i wr' => ∃ k n : Nat, k ≤ roots.length ∧ i = .int .i64 k ∧ laterBadTo last roots k = false ∧ wr' = wr.drewN n) (fun _ _ i _ => roots.length - (intOf i).toNat)
      case atStart => exact ⟨0, 0, by omega, rfl, rfl, rfl⟩
      case round =>
        obtain ⟨m, n, hm, rfl, hpre, rfl⟩ := hrel
        have HPM := Lib.hid hpre; clear hpre
        by_cases hmt : m < roots.length
        · obtain ⟨r, hr⟩ := getSome hmt
          have er := HX.out m r hr
          unfold intE at er
          rw [Nat.mul_one, ← below_old hWb _ _ hbr, ← below_old hbel _ _ (by have := hWb.size; omega)] at er
          by_cases hm0 : 0 < m
          · obtain ⟨p, hp⟩ := getSome (l := roots) (k := m - 1) (by omega)
            have ep := HX.out (m - 1) p hp
            unfold intE at ep
            rw [Nat.mul_one, ← below_old hWb _ _ hbr, ← below_old hbel _ _ (by have := hWb.size; omega)] at ep
            obtain ⟨hp0, hp1⟩ := rangeBad_false HRB.out p (List.mem_of_getElem? hp)
            have hll := HLL.out
            obtain ⟨bl, ol, rfl, _, hbl, hxl⟩ := HL.out (by omega)
            obtain ⟨y, hy⟩ := getSome (l := last) (k := p.toNat) (by omega)
            have el := hxl p.toNat y hy
            unfold intE at el
            rw [Nat.mul_one, ← below_old hWb _ _ hbl, ← below_old hbel _ _ (by have := hWb.size; omega)] at el
            have HLB := Lib.hid (show laterBad last roots m = decide (r ≤ y) by unfold laterBad; simp [List.getD_eq_getElem?_getD, hr, hp, hy])
            have hp2 : p < (last.length : Int) := by omega
            clear hr hp hxl hy hll
            have hdm : decide ((0 : Int) < (m : Int)) = true := decide_eq_true (by omega)
            have hm1 : m - 1 < roots.length := by omega
            have hms : IntKind.i64.wrap ((m : Int) - 1) = ((m - 1 : Nat) : Int) := by rw [IntWalk.i64_in _ (by omega)]; omega
            by_cases hle : r ≤ y
            · have HF := Lib.hid (show checkP g.nodes.length last roots = 9 by
                unfold checkP; rw [if_neg HNIL.out, HRB.out, laterBadTo_of (m := m) (by omega) hmt (by rw [HLB.out]; simp [hle])]; rfl)
              have hdl : decide (r ≤ y) = true := decide_eq_true hle
              go_wp2
              go_quiet (fail)
              go_wp2
              go_ret
              exact ⟨_, rfl, below_dN (below_dN (hWb.trans (hbel.mono hWb.size)) _) _, by rw [HF.out]; rfl⟩
            · have HB := Lib.hid (show laterBadTo last roots (m + 1) = false by rw [laterBadTo_succ _ _ _ (by omega), HPM.out, HLB.out]; simp; omega)
              have hdl : decide (r ≤ y) = false := decide_eq_false hle
              go_wp2
              go_quiet (fail)
              go_wp2
              go_roundw
              case rel => exact ⟨m + 1, n + nq, by omega, by go_num, HB.out, rfl⟩
              case measure => simp [intOf] <;> omega
          · obtain rfl : m = 0 := by omega
            clear hr
            rw [Nat.add_zero] at er
            have hdm : decide ((0 : Int) < 0) = false := rfl
            have hdm' : decide ((0 : Int) < ((0 : Nat) : Int)) = false := rfl
            simp only [Int.natCast_zero, Int.cast_ofNat_Int]
            go_wp2
            go_quiet (fail)
            go_wp2
            go_roundw
            case rel => exact ⟨1, n + nq, by omega, by go_num, rfl, rfl⟩
            case measure => simp [intOf] <;> omega
        · have HF := Lib.hid (show checkP g.nodes.length last roots = 0 by
            have h1 := HPM.out
            rw [show m = roots.length by omega] at h1
            unfold checkP; rw [if_neg HNIL.out, HRB.out, h1]; rfl)
          go_wp2
          go_ret
          exact ⟨_, rfl, below_dN (hWb.trans (hbel.mono hWb.size)) _, by rw [HF.out]; rfl⟩
end Go.Proofs.Ytafjdoedallnbaa

/- parlourkit.AlikeNode: whether two nodes are equal. -/
import Derived.Test.YtafjdoedallnbaaAlikeInfo
namespace Go.Proofs.Ytafjdoedallnbaa
open Go.RowKit

theorem nd_eq_iff (a b : Nd) : a = b ↔ a.kind = b.kind ∧ a.player = b.player ∧ a.info = b.info ∧ a.next = b.next ∧ a.weights = b.weights ∧ a.pay = b.pay := by
  cases a; cases b; simp

theorem below_two (w : World) (a b : Obj) (n : Nat) : Below w.heap.size w (((w.alloc a).alloc b).drewN n) := by
  have h := (((Below.refl w.heap.size w).alloc (Nat.le_refl _) a).alloc (by simp) b)
  exact ⟨h.os, h.tape, h.output, h.size, h.block⟩

set_option maxHeartbeats 1600000 in
theorem alikeNode_any (w : World) (F : Foot) (u1 u2 : Value) (n1 n2 : Nd) (h1 : NodeV w F u1 n1) (h2 : NodeV w F u2 n2)
    (hl1 : n1.next.length < 1000000 ∧ n1.weights.length < 1000000 ∧ n1.pay.length < 1000000) (hl2 : n2.next.length < 1000000 ∧ n2.weights.length < 1000000 ∧ n2.pay.length < 1000000) :
    Calls Try.prog 33 #[u1, u2] w (Ret w fun v _ => v = .bool (decide (n1 = n2))) := by
  obtain ⟨v3, v4, v5, rfl, h13, h14, h15⟩ := h1
  obtain ⟨u3, u4, u5, rfl, h23, h24, h25⟩ := h2
  obtain ⟨hl13, hl14, hl15⟩ := hl1
  obtain ⟨hl23, hl24, hl25⟩ := hl2
  have H13 := Lib.hid h13; clear h13
  have H14 := Lib.hid h14; clear h14
  have H15 := Lib.hid h15; clear h15
  have H23 := Lib.hid h23; clear h23
  have H24 := Lib.hid h24; clear h24
  have H25 := Lib.hid h25; clear h25
  have HE := Lib.hid (nd_eq_iff n1 n2)
  by_cases q0 : n1.kind = n2.kind
  case neg =>
    have d0 : (n1.kind == n2.kind) = false := by simp [q0]
    have HF := Lib.hid (show decide (n1 = n2) = false by simp only [decide_eq_false_iff_not]; exact fun h => q0 (HE.out.1 h).1)
    clear q0
    go_enter Try.func33, Try.ntmps33
    go_wp2
    go_ret
    exact ⟨_, rfl, below_two _ _ _ 0, by rw [HF.out]; rfl⟩
  have d0 : (n1.kind == n2.kind) = true := by simp [q0]
  have Q0 := Lib.hid q0; clear q0
  by_cases q1 : n1.player = n2.player
  case neg =>
    have d1 : (n1.player == n2.player) = false := by simp [q1]
    have HF := Lib.hid (show decide (n1 = n2) = false by simp only [decide_eq_false_iff_not]; exact fun h => q1 (HE.out.1 h).2.1)
    clear q1
    go_enter Try.func33, Try.ntmps33
    go_wp2
    go_ret
    exact ⟨_, rfl, below_two _ _ _ 0, by rw [HF.out]; rfl⟩
  have d1 : (n1.player == n2.player) = true := by simp [q1]
  have Q1 := Lib.hid q1; clear q1
  by_cases q2 : n1.info = n2.info
  case neg =>
    have d2 : (n1.info == n2.info) = false := by simp [q2]
    have HF := Lib.hid (show decide (n1 = n2) = false by simp only [decide_eq_false_iff_not]; exact fun h => q2 (HE.out.1 h).2.2.1)
    clear q2
    go_enter Try.func33, Try.ntmps33
    go_wp2
    go_ret
    exact ⟨_, rfl, below_two _ _ _ 0, by rw [HF.out]; rfl⟩
  have d2 : (n1.info == n2.info) = true := by simp [q2]
  have Q2 := Lib.hid q2; clear q2
  by_cases q3 : n1.next = n2.next
  case neg =>
    have d3 : decide (n1.next = n2.next) = false := by simp [q3]
    have HF := Lib.hid (show decide (n1 = n2) = false by simp only [decide_eq_false_iff_not]; exact fun h => q3 (HE.out.1 h).2.2.2.1)
    clear q3
    go_enter Try.func33, Try.ntmps33
    go_wp2_with (first | (go_at_call 12; (with_reducible refine (alikeInt_any _ F _ _ n1.next n2.next (H13.out.on ?_) (H23.out.on ?_) hl13 hl23).mono ?_); exact (by repeat (first | exact Same.refl _ _ | exact Same.drewN _ _ _ | exact Same.alloc _ _ _ | refine Same.trans ?_ (Same.drewN _ _ _) | refine Same.trans ?_ (Same.alloc _ _ _))); exact (by repeat (first | exact Same.refl _ _ | exact Same.drewN _ _ _ | exact Same.alloc _ _ _ | refine Same.trans ?_ (Same.drewN _ _ _) | refine Same.trans ?_ (Same.alloc _ _ _))); rintro e w' ⟨rfl, m, rfl⟩) | (go_at_call 12; (with_reducible refine (alikeInt_any _ F _ _ n1.weights n2.weights (H14.out.on ?_) (H24.out.on ?_) hl14 hl24).mono ?_); exact (by repeat (first | exact Same.refl _ _ | exact Same.drewN _ _ _ | exact Same.alloc _ _ _ | refine Same.trans ?_ (Same.drewN _ _ _) | refine Same.trans ?_ (Same.alloc _ _ _))); exact (by repeat (first | exact Same.refl _ _ | exact Same.drewN _ _ _ | exact Same.alloc _ _ _ | refine Same.trans ?_ (Same.drewN _ _ _) | refine Same.trans ?_ (Same.alloc _ _ _))); rintro e w' ⟨rfl, m, rfl⟩) | (go_at_call 12; (with_reducible refine (alikeInt_any _ F _ _ n1.pay n2.pay (H15.out.on ?_) (H25.out.on ?_) hl15 hl25).mono ?_); exact (by repeat (first | exact Same.refl _ _ | exact Same.drewN _ _ _ | exact Same.alloc _ _ _ | refine Same.trans ?_ (Same.drewN _ _ _) | refine Same.trans ?_ (Same.alloc _ _ _))); exact (by repeat (first | exact Same.refl _ _ | exact Same.drewN _ _ _ | exact Same.alloc _ _ _ | refine Same.trans ?_ (Same.drewN _ _ _) | refine Same.trans ?_ (Same.alloc _ _ _))); rintro e w' ⟨rfl, m, rfl⟩))
    go_ret
    exact ⟨_, rfl, below_two _ _ _ _, by rw [HF.out]; rfl⟩
  have d3 : decide (n1.next = n2.next) = true := by simp [q3]
  have Q3 := Lib.hid q3; clear q3
  by_cases q4 : n1.weights = n2.weights
  case neg =>
    have d4 : decide (n1.weights = n2.weights) = false := by simp [q4]
    have HF := Lib.hid (show decide (n1 = n2) = false by simp only [decide_eq_false_iff_not]; exact fun h => q4 (HE.out.1 h).2.2.2.2.1)
    clear q4
    go_enter Try.func33, Try.ntmps33
    go_wp2_with (first | (go_at_call 12; (with_reducible refine (alikeInt_any _ F _ _ n1.next n2.next (H13.out.on ?_) (H23.out.on ?_) hl13 hl23).mono ?_); exact (by repeat (first | exact Same.refl _ _ | exact Same.drewN _ _ _ | exact Same.alloc _ _ _ | refine Same.trans ?_ (Same.drewN _ _ _) | refine Same.trans ?_ (Same.alloc _ _ _))); exact (by repeat (first | exact Same.refl _ _ | exact Same.drewN _ _ _ | exact Same.alloc _ _ _ | refine Same.trans ?_ (Same.drewN _ _ _) | refine Same.trans ?_ (Same.alloc _ _ _))); rintro e w' ⟨rfl, m, rfl⟩) | (go_at_call 12; (with_reducible refine (alikeInt_any _ F _ _ n1.weights n2.weights (H14.out.on ?_) (H24.out.on ?_) hl14 hl24).mono ?_); exact (by repeat (first | exact Same.refl _ _ | exact Same.drewN _ _ _ | exact Same.alloc _ _ _ | refine Same.trans ?_ (Same.drewN _ _ _) | refine Same.trans ?_ (Same.alloc _ _ _))); exact (by repeat (first | exact Same.refl _ _ | exact Same.drewN _ _ _ | exact Same.alloc _ _ _ | refine Same.trans ?_ (Same.drewN _ _ _) | refine Same.trans ?_ (Same.alloc _ _ _))); rintro e w' ⟨rfl, m, rfl⟩) | (go_at_call 12; (with_reducible refine (alikeInt_any _ F _ _ n1.pay n2.pay (H15.out.on ?_) (H25.out.on ?_) hl15 hl25).mono ?_); exact (by repeat (first | exact Same.refl _ _ | exact Same.drewN _ _ _ | exact Same.alloc _ _ _ | refine Same.trans ?_ (Same.drewN _ _ _) | refine Same.trans ?_ (Same.alloc _ _ _))); exact (by repeat (first | exact Same.refl _ _ | exact Same.drewN _ _ _ | exact Same.alloc _ _ _ | refine Same.trans ?_ (Same.drewN _ _ _) | refine Same.trans ?_ (Same.alloc _ _ _))); rintro e w' ⟨rfl, m, rfl⟩))
    go_ret
    exact ⟨_, rfl, below_two _ _ _ _, by rw [HF.out]; rfl⟩
  have d4 : decide (n1.weights = n2.weights) = true := by simp [q4]
  have Q4 := Lib.hid q4; clear q4
  by_cases q5 : n1.pay = n2.pay
  case neg =>
    have d5 : decide (n1.pay = n2.pay) = false := by simp [q5]
    have HF := Lib.hid (show decide (n1 = n2) = false by simp only [decide_eq_false_iff_not]; exact fun h => q5 (HE.out.1 h).2.2.2.2.2)
    clear q5
    go_enter Try.func33, Try.ntmps33
    go_wp2_with (first | (go_at_call 12; (with_reducible refine (alikeInt_any _ F _ _ n1.next n2.next (H13.out.on ?_) (H23.out.on ?_) hl13 hl23).mono ?_); exact (by repeat (first | exact Same.refl _ _ | exact Same.drewN _ _ _ | exact Same.alloc _ _ _ | refine Same.trans ?_ (Same.drewN _ _ _) | refine Same.trans ?_ (Same.alloc _ _ _))); exact (by repeat (first | exact Same.refl _ _ | exact Same.drewN _ _ _ | exact Same.alloc _ _ _ | refine Same.trans ?_ (Same.drewN _ _ _) | refine Same.trans ?_ (Same.alloc _ _ _))); rintro e w' ⟨rfl, m, rfl⟩) | (go_at_call 12; (with_reducible refine (alikeInt_any _ F _ _ n1.weights n2.weights (H14.out.on ?_) (H24.out.on ?_) hl14 hl24).mono ?_); exact (by repeat (first | exact Same.refl _ _ | exact Same.drewN _ _ _ | exact Same.alloc _ _ _ | refine Same.trans ?_ (Same.drewN _ _ _) | refine Same.trans ?_ (Same.alloc _ _ _))); exact (by repeat (first | exact Same.refl _ _ | exact Same.drewN _ _ _ | exact Same.alloc _ _ _ | refine Same.trans ?_ (Same.drewN _ _ _) | refine Same.trans ?_ (Same.alloc _ _ _))); rintro e w' ⟨rfl, m, rfl⟩) | (go_at_call 12; (with_reducible refine (alikeInt_any _ F _ _ n1.pay n2.pay (H15.out.on ?_) (H25.out.on ?_) hl15 hl25).mono ?_); exact (by repeat (first | exact Same.refl _ _ | exact Same.drewN _ _ _ | exact Same.alloc _ _ _ | refine Same.trans ?_ (Same.drewN _ _ _) | refine Same.trans ?_ (Same.alloc _ _ _))); exact (by repeat (first | exact Same.refl _ _ | exact Same.drewN _ _ _ | exact Same.alloc _ _ _ | refine Same.trans ?_ (Same.drewN _ _ _) | refine Same.trans ?_ (Same.alloc _ _ _))); rintro e w' ⟨rfl, m, rfl⟩))
    go_ret
    exact ⟨_, rfl, below_two _ _ _ _, by rw [HF.out]; rfl⟩
  have d5 : decide (n1.pay = n2.pay) = true := by simp [q5]
  have Q5 := Lib.hid q5; clear q5
  have HF := Lib.hid (show decide (n1 = n2) = true by simp only [decide_eq_true_eq]; exact HE.out.2 ⟨Q0.out, Q1.out, Q2.out, Q3.out, Q4.out, Q5.out⟩)
  go_enter Try.func33, Try.ntmps33
  go_wp2_with (first | (go_at_call 12; (with_reducible refine (alikeInt_any _ F _ _ n1.next n2.next (H13.out.on ?_) (H23.out.on ?_) hl13 hl23).mono ?_); exact (by repeat (first | exact Same.refl _ _ | exact Same.drewN _ _ _ | exact Same.alloc _ _ _ | refine Same.trans ?_ (Same.drewN _ _ _) | refine Same.trans ?_ (Same.alloc _ _ _))); exact (by repeat (first | exact Same.refl _ _ | exact Same.drewN _ _ _ | exact Same.alloc _ _ _ | refine Same.trans ?_ (Same.drewN _ _ _) | refine Same.trans ?_ (Same.alloc _ _ _))); rintro e w' ⟨rfl, m, rfl⟩) | (go_at_call 12; (with_reducible refine (alikeInt_any _ F _ _ n1.weights n2.weights (H14.out.on ?_) (H24.out.on ?_) hl14 hl24).mono ?_); exact (by repeat (first | exact Same.refl _ _ | exact Same.drewN _ _ _ | exact Same.alloc _ _ _ | refine Same.trans ?_ (Same.drewN _ _ _) | refine Same.trans ?_ (Same.alloc _ _ _))); exact (by repeat (first | exact Same.refl _ _ | exact Same.drewN _ _ _ | exact Same.alloc _ _ _ | refine Same.trans ?_ (Same.drewN _ _ _) | refine Same.trans ?_ (Same.alloc _ _ _))); rintro e w' ⟨rfl, m, rfl⟩) | (go_at_call 12; (with_reducible refine (alikeInt_any _ F _ _ n1.pay n2.pay (H15.out.on ?_) (H25.out.on ?_) hl15 hl25).mono ?_); exact (by repeat (first | exact Same.refl _ _ | exact Same.drewN _ _ _ | exact Same.alloc _ _ _ | refine Same.trans ?_ (Same.drewN _ _ _) | refine Same.trans ?_ (Same.alloc _ _ _))); exact (by repeat (first | exact Same.refl _ _ | exact Same.drewN _ _ _ | exact Same.alloc _ _ _ | refine Same.trans ?_ (Same.drewN _ _ _) | refine Same.trans ?_ (Same.alloc _ _ _))); rintro e w' ⟨rfl, m, rfl⟩))
  go_ret
  exact ⟨_, rfl, below_two _ _ _ _, by rw [HF.out]; rfl⟩
end Go.Proofs.Ytafjdoedallnbaa

/- recall.within, and the errors of nodes by the program: chance, move, end, node. -/
import Derived.Test.YtafjdoedallnbaaIndexFunc
import Derived.Test.YtafjdoedallnbaaNodeErr
import Derived.Test.YtafjdoedallnbaaPeel
namespace Go.Proofs.Ytafjdoedallnbaa
open Go.RowKit

theorem enters {f : FuncId} {fn : Func} (hf : Try.prog.funcs[f]? = some fn) (hn : (fn.name == "runtime.NumGoroutine") = false) (hb : fn.body.isNone = false) (args : Array Value) (w : World) : (callFunc f args).run Try.prog w = .ok (.enter f args) w := by
  have h1 : fn.name ≠ "runtime.NumGoroutine" := by simpa using hn
  have h2 : fn.body.isNone = false := hb
  obtain ⟨b, hb⟩ : ∃ b, fn.body = some b := by cases h : fn.body <;> simp_all
  simp [callFunc, hf, h1, hb, Sem.run]

set_option maxHeartbeats 1600000 in
theorem within1_any (w : World) (lo hi x : Int) (b1 b2 : Nat) (h1 : w.cell? ⟨b1, 0, none⟩ = some (.int .i64 lo)) (h2 : w.cell? ⟨b2, 0, none⟩ = some (.int .i64 hi)) :
    Calls Try.prog 71 #[.int .i64 x, .pointer (some ⟨b1, 0, none⟩), .pointer (some ⟨b2, 0, none⟩)] w fun e w' => e = .returned (.bool (decide (x < lo) || decide (hi < x))) ∧ w = w' := by
  by_cases q : x < lo
  · have HF := Lib.hid (show (decide (x < lo) || decide (hi < x)) = true by simp [q])
    go_enter Try.func71, Try.ntmps71
    go_wp2
    go_ret
    exact ⟨by first | rfl | (rw [HF.out]; rfl), rfl⟩
  · have d : decide (x < lo) = false := decide_eq_false q
    by_cases q2 : hi < x
    · have HF := Lib.hid (show (decide (x < lo) || decide (hi < x)) = true by simp [q2])
      go_enter Try.func71, Try.ntmps71
      go_wp2
      go_ret
      exact ⟨by first | rfl | (rw [HF.out]; rfl), rfl⟩
    · have d2 : decide (hi < x) = false := decide_eq_false q2
      have HF := Lib.hid (show (decide (x < lo) || decide (hi < x)) = false by simp [d, d2])
      go_enter Try.func71, Try.ntmps71
      go_wp2
      go_ret
      exact ⟨by first | rfl | (rw [HF.out]; rfl), rfl⟩

def withinErr (lo hi : Int) (l : List Int) : Int := if outside lo hi l then 2 else 0

set_option maxHeartbeats 1600000 in
theorem within_any (w : World) (F : Foot) (v : Value) (lo hi : Int) (l : List Int) (hv : IntsAt w F v l) (hl : l.length ≤ 1000000) :
    Calls Try.prog 68 #[.int .i64 lo, .int .i64 hi, v] w (Ret w fun v _ => v = .int .i64 (withinErr lo hi l)) := by
  have HV := Lib.hid hv; clear hv
  have hmf : ∀ (fn : Fn) (first cap : Array Value) (w : World), (Instr.makeFunc fn first cap).run Try.prog w = .ok (.func fn first cap) w := fun _ _ _ _ => rfl
  go_enter Try.func68, Try.ntmps68
  go_wp2_with fail
  obtain ⟨W, hW⟩ : ∃ W : World, W = (w.alloc (.cells #[.int .i64 lo] 3)).alloc (.cells #[.int .i64 hi] 3) := ⟨_, rfl⟩
  rw [← hW]
  have hb := below_two w (.cells #[.int .i64 lo] 3) (.cells #[.int .i64 hi] 3) 0
  have hsm : Same F w W := by rw [hW]; exact (Same.alloc _ _ _).trans (Same.alloc _ _ _)
  have c1 : W.cell? ⟨w.heap.size, 0, none⟩ = some (.int .i64 lo) := by rw [hW]; simp
  have c2 : W.cell? ⟨w.heap.size + 1, 0, none⟩ = some (.int .i64 hi) := by
    rw [hW]; simp
  have hbW : Below w.heap.size w W := by rw [hW]; exact hb
  clear hb hW
  have ha : Answers W 71 #[.pointer (some ⟨w.heap.size, 0, none⟩), .pointer (some ⟨w.heap.size + 1, 0, none⟩)] l (fun x => decide (x < lo) || decide (hi < x)) := by
    refine ⟨enters Try.func71 (by decide +kernel) (by decide +kernel), fun n x _ => ?_⟩
    exact (within1_any (W.drewN n) lo hi x _ _ c1 c2).mono fun e w' ⟨he, hw⟩ => ⟨he, n, hw.symm⟩
  refine (containsFunc_any W F v l _ _ _ (HV.out.on hsm) hl ha).mono ?_
  rintro e w' ⟨rfl, n, rfl⟩
  clear ha
  have HO := Lib.hid (show withinErr lo hi l = if l.any (fun x => decide (x < lo) || decide (hi < x)) then 2 else 0 from rfl)
  generalize l.any (fun x => decide (x < lo) || decide (hi < x)) = r at *
  dsimp only
  cases r
  · go_wp2
    go_ret
    exact ⟨_, rfl, below_dN hbW _, by rw [HO.out]; rfl⟩
  · go_wp2
    go_ret
    exact ⟨_, rfl, below_dN hbW _, by rw [HO.out]; rfl⟩
end Go.Proofs.Ytafjdoedallnbaa

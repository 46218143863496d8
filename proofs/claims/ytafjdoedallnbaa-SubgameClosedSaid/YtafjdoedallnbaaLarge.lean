/- parlourkit.Large: whether a game is larger than the statements cover. -/
import Derived.Test.YtafjdoedallnbaaPure1
namespace Go.Proofs.Ytafjdoedallnbaa
open Go.RowKit

def longNd (n : Nd) : Bool := decide (100 < n.next.length) || decide (100 < n.weights.length) || decide (100 < n.pay.length)
def largeB (g : Gm) (nodes sets : Int) : Bool := decide (nodes < g.nodes.length) || decide (sets < g.infos.length) || g.nodes.any longNd

set_option maxRecDepth 100000 in
set_option maxHeartbeats 1600000 in
theorem large_any (w : World) (F : Foot) (u : Value) (g : Gm) (h : GameAt w F u g) (nodes sets : Int) (hn0 : nodes ≤ 1000) :
    Calls Try.prog 5 #[u, .int .i64 nodes, .int .i64 sets] w (Ret w fun v _ => v = .bool (largeB g nodes sets)) := by
  obtain ⟨vn, vi, rfl, ⟨A, c, rfl, hc, hN⟩, ⟨Ai, ci, rfl, hci, hI⟩⟩ := h
  have HN := Lib.hid hN; clear hN hI
  by_cases q0 : nodes < g.nodes.length
  · have HF := Lib.hid (show largeB g nodes sets = true by simp [largeB, q0])
    go_enter Try.func5, Try.ntmps5
    go_wp2
    go_ret
    exact ⟨_, rfl, (Below.refl _ _).alloc (Nat.le_refl _) _, by rw [HF.out]; rfl⟩
  have d0 : decide (nodes < (g.nodes.length : Int)) = false := by simp; omega
  by_cases q1 : sets < g.infos.length
  · have HF := Lib.hid (show largeB g nodes sets = true by simp [largeB, q1])
    go_enter Try.func5, Try.ntmps5
    go_wp2
    go_ret
    exact ⟨_, rfl, (Below.refl _ _).alloc (Nat.le_refl _) _, by rw [HF.out]; rfl⟩
  have d1 : decide (sets < (g.infos.length : Int)) = false := by simp; omega
  go_enter Try.func5, Try.ntmps5
  go_wp2
  go_loopw [7] (fun i wr => ∃ k : Nat, k ≤ g.nodes.length ∧ i = .int .i64 k ∧ (g.nodes.take k).any longNd = false ∧ Row wr w.heap.size 25 [.int .i64 g.players, .slice A g.nodes.length c, .slice Ai g.infos.length ci] ∧ Below w.heap.size w wr) (fun i _ => g.nodes.length - (intOf i).toNat)
  case atStart => exact ⟨0, by omega, rfl, by simp, Row.new w _ _, (Below.refl _ _).alloc (Nat.le_refl _) _⟩
  case round =>
    obtain ⟨k, hk, rfl, hpre, hr, hbel⟩ := hrel
    have HP := Lib.hid hpre; clear hpre
    have x1 := hr.cell (i := 1) rfl
    by_cases hlt : k < g.nodes.length
    · obtain ⟨b, o, rfl, _, hb, hcell⟩ := HN.out (by omega)
      obtain ⟨n, hn⟩ := getSome hlt
      obtain ⟨e0, e1, e2, ⟨v3, e3, A3, c3, rfl, hc3, i3⟩, ⟨v4, e4, A4, c4, rfl, hc4, i4⟩, ⟨v5, e5, A5, c5, rfl, hc5, i5⟩⟩ := hcell k n hn
      clear i3 i4 i5 hcell
      have HX := Lib.hid hn; clear hn
      have hold := below_old hbel
      have LT := Lib.hid (show longNd n = true → largeB g nodes sets = true by
        intro h
        unfold largeB
        have : g.nodes.any longNd = true := List.any_eq_true.2 ⟨n, List.mem_of_getElem? HX.out, h⟩
        rw [this]; simp)
      by_cases q3 : 100 < n.next.length
      · have HF := Lib.hid (LT.out (by unfold longNd; simp [q3]))
        go_wp2
        go_ret
        exact ⟨_, rfl, by repeat (first | exact hbel | refine Below.alloc ?_ hbel.size _ | refine Below.setCell ?_ hbel.size _), by rw [HF.out]; rfl⟩
      have d3 : decide ((100 : Int) < (n.next.length : Int)) = false := by simp; omega
      by_cases q4 : 100 < n.weights.length
      · have HF := Lib.hid (LT.out (by unfold longNd; simp [q4]))
        go_wp2
        go_ret
        exact ⟨_, rfl, by repeat (first | exact hbel | refine Below.alloc ?_ hbel.size _ | refine Below.setCell ?_ hbel.size _), by rw [HF.out]; rfl⟩
      have d4 : decide ((100 : Int) < (n.weights.length : Int)) = false := by simp; omega
      by_cases q5 : 100 < n.pay.length
      · have HF := Lib.hid (LT.out (by unfold longNd; simp [q5]))
        go_wp2
        go_ret
        exact ⟨_, rfl, by repeat (first | exact hbel | refine Below.alloc ?_ hbel.size _ | refine Below.setCell ?_ hbel.size _), by rw [HF.out]; rfl⟩
      have d5 : decide ((100 : Int) < (n.pay.length : Int)) = false := by simp; omega
      have LF := Lib.hid (show longNd n = false by unfold longNd; simp; omega)
      go_wp2
      go_roundw
      case rel => exact ⟨k + 1, by omega, by go_num, any_snoc HX.out HP.out LF.out, by repeat (first | exact hr | refine Row.alloc ?_ _ | refine Row.other ?_ (by have := hr.lt; simp; omega) _), by repeat (first | exact hbel | refine Below.alloc ?_ hbel.size _ | refine Below.setCell ?_ hbel.size _)⟩
      case measure => simp [intOf]; omega
    · go_wp2
      go_ret
      refine ⟨_, rfl, hbel, ?_⟩
      have h3 := HP.out
      rw [List.take_of_length_le (by omega)] at h3
      have : largeB g nodes sets = false := by unfold largeB; rw [h3, d0, d1]; rfl
      rw [this]; rfl
end Go.Proofs.Ytafjdoedallnbaa

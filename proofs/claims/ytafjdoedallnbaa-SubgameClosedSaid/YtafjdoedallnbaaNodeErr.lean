/- parlourref11.node: the error of a node by itself. -/
import Derived.Test.YtafjdoedallnbaaAlikeNode
namespace Go.Proofs.Ytafjdoedallnbaa
open Go.RowKit

theorem neF {a b : Int} (h : a = b) : (a != b) = false := by simp [h]
theorem neT {a b : Int} (h : a ≠ b) : (a != b) = true := by simp [h]
theorem eqF {a b : Int} (h : a ≠ b) : (a == b) = false := by simp [h]
theorem eqT {a b : Int} (h : a = b) : (a == b) = true := by simp [h]
def outside (lo hi : Int) (l : List Int) : Bool := l.any fun x => decide (x < lo) || decide (hi < x)
def chanceErr (x : Nd) : Int :=
  if x.player ≠ 0 ∨ x.info ≠ 0 ∨ 0 < x.pay.length ∨ x.next.length < 1 ∨ 60 < x.next.length ∨ x.weights.length ≠ x.next.length then 3 else if outside 1 1000 x.weights then 2 else 0
def moveErr (players : Int) (ni : Nat) (x : Nd) : Int :=
  if 0 < x.pay.length ∨ 0 < x.weights.length ∨ x.next.length < 1 ∨ 10 < x.next.length then 3 else if x.player < 0 ∨ players ≤ x.player ∨ x.info < 0 ∨ (ni : Int) ≤ x.info then 2 else 0
def endErr (players : Int) (x : Nd) : Int :=
  if x.player ≠ 0 ∨ x.info ≠ 0 ∨ 0 < x.next.length ∨ 0 < x.weights.length ∨ (x.pay.length : Int) ≠ players then 3 else if outside (-1000000) 1000000 x.pay then 2 else 0
def nodeErr (players : Int) (ni : Nat) (x : Nd) : Int :=
  if x.kind = 1 then chanceErr x else if x.kind = 2 then moveErr players ni x else if x.kind = 3 then endErr players x else 3

set_option maxRecDepth 100000 in
set_option maxHeartbeats 3200000 in
theorem node_any (w : World) (F : Foot) (u ux : Value) (g : Gm) (x : Nd) (hg : GameAt w F u g) (hx : NodeV w F ux x) (hl : x.next.length < 1000000 ∧ x.weights.length < 1000000 ∧ x.pay.length < 1000000) (hni : g.infos.length < 1000000) :
    Calls Try.prog 51 #[u, ux] w (Ret w fun v _ => v = .int .i64 (nodeErr g.players g.infos.length x)) := by
  obtain ⟨vn, vi, rfl, ⟨A, c, rfl, hc, hN⟩, ⟨Ai, ci, rfl, hci, hI⟩⟩ := hg
  clear hN hI
  obtain ⟨v3, v4, v5, rfl, ⟨A3, c3, rfl, hc3, h3⟩, ⟨A4, c4, rfl, hc4, h4⟩, ⟨A5, c5, rfl, hc5, h5⟩⟩ := hx
  obtain ⟨hl3, hl4, hl5⟩ := hl
  have H4 := Lib.hid h4; clear h4
  have H5 := Lib.hid h5; clear h5 h3
  by_cases k1 : x.kind = 1
  · have e1 : (x.kind == 1) = true := by simp [k1]
    by_cases q0 : x.player ≠ 0
    · have HF := Lib.hid (show nodeErr g.players g.infos.length x = 3 by unfold nodeErr chanceErr; rw [if_pos k1, if_pos (by omega)])
      have d0 : (x.player != 0) = true := neT (by omega)
      clear k1
      go_enter Try.func51, Try.ntmps51
      go_wp2
      go_ret
      exact ⟨_, rfl, below_two _ _ _ 0, by rw [HF.out]; rfl⟩
    have d0 : (x.player != 0) = false := neF (by omega)
    by_cases q1 : x.info ≠ 0
    · have HF := Lib.hid (show nodeErr g.players g.infos.length x = 3 by unfold nodeErr chanceErr; rw [if_pos k1, if_pos (by omega)])
      have d1 : (x.info != 0) = true := neT (by omega)
      clear k1
      go_enter Try.func51, Try.ntmps51
      go_wp2
      go_ret
      exact ⟨_, rfl, below_two _ _ _ 0, by rw [HF.out]; rfl⟩
    have d1 : (x.info != 0) = false := neF (by omega)
    by_cases q2 : 0 < x.pay.length
    · have HF := Lib.hid (show nodeErr g.players g.infos.length x = 3 by unfold nodeErr chanceErr; rw [if_pos k1, if_pos (by omega)])
      clear k1
      go_enter Try.func51, Try.ntmps51
      go_wp2
      go_ret
      exact ⟨_, rfl, below_two _ _ _ 0, by rw [HF.out]; rfl⟩
    have d2 : decide ((0 : Int) < (x.pay.length : Int)) = false := decide_eq_false (by omega)
    by_cases q3 : x.next.length < 1
    · have HF := Lib.hid (show nodeErr g.players g.infos.length x = 3 by unfold nodeErr chanceErr; rw [if_pos k1, if_pos (by omega)])
      clear k1
      go_enter Try.func51, Try.ntmps51
      go_wp2
      go_ret
      exact ⟨_, rfl, below_two _ _ _ 0, by rw [HF.out]; rfl⟩
    have d3 : decide ((x.next.length : Int) < 1) = false := decide_eq_false (by omega)
    by_cases q4 : 60 < x.next.length
    · have HF := Lib.hid (show nodeErr g.players g.infos.length x = 3 by unfold nodeErr chanceErr; rw [if_pos k1, if_pos (by omega)])
      clear k1
      go_enter Try.func51, Try.ntmps51
      go_wp2
      go_ret
      exact ⟨_, rfl, below_two _ _ _ 0, by rw [HF.out]; rfl⟩
    have d4 : decide ((60 : Int) < (x.next.length : Int)) = false := decide_eq_false (by omega)
    by_cases q5 : x.weights.length ≠ x.next.length
    · have HF := Lib.hid (show nodeErr g.players g.infos.length x = 3 by unfold nodeErr chanceErr; rw [if_pos k1, if_pos (by omega)])
      have d5 : ((x.weights.length : Int) != (x.next.length : Int)) = true := neT (by omega)
      clear k1
      go_enter Try.func51, Try.ntmps51
      go_wp2
      go_ret
      exact ⟨_, rfl, below_two _ _ _ 0, by rw [HF.out]; rfl⟩
    have d5 : ((x.weights.length : Int) != (x.next.length : Int)) = false := neF (by omega)
    have HV := Lib.hid (show nodeErr g.players g.infos.length x = if outside 1 1000 x.weights then 2 else 0 by unfold nodeErr chanceErr; rw [if_pos k1, if_neg (by omega)])
    clear k1 q0 q1 q5
    go_enter Try.func51, Try.ntmps51
    go_wp2
    go_loop [5] (fun i => ∃ k : Nat, k ≤ x.weights.length ∧ i = .int .i64 k ∧ outside 1 1000 (x.weights.take k) = false) (fun i => x.weights.length - (intOf i).toNat)
    case atStart => exact ⟨0, by omega, rfl, rfl⟩
    case round =>
      obtain ⟨k, hk, rfl, hpre⟩ := hrel
      have HP := Lib.hid hpre; clear hpre
      by_cases hlt : k < x.weights.length
      · obtain ⟨b, o, rfl, _, hb, hx⟩ := H4.out (by omega)
        obtain ⟨y, hy⟩ := getSome hlt
        have ey := hx k y hy
        unfold intE at ey; rw [Nat.mul_one] at ey
        have BAD := Lib.hid (show (y < 1 ∨ 1000 < y) → nodeErr g.players g.infos.length x = 2 by
          intro hb; rw [HV.out, if_pos (show outside _ _ _ = true from List.any_eq_true.2 ⟨y, List.mem_of_getElem? hy, by simpa using hb⟩)])
        have HX := Lib.hid hy; clear hx hy
        by_cases pl : y < 1
        · have HF := Lib.hid (BAD.out (.inl pl))
          go_wp2
          go_ret
          exact ⟨_, rfl, below_two _ _ _ 0, by rw [HF.out]; rfl⟩
        have fl : decide (y < 1) = false := decide_eq_false (by omega)
        by_cases pr : 1000 < y
        · have HF := Lib.hid (BAD.out (.inr pr))
          go_wp2
          go_ret
          exact ⟨_, rfl, below_two _ _ _ 0, by rw [HF.out]; rfl⟩
        have fr : decide ((1000 : Int) < y) = false := decide_eq_false (by omega)
        go_wp2
        go_round
        case rel => exact ⟨k + 1, by omega, by go_num, any_snoc HX.out HP.out (by simp; omega)⟩
        case measure => simp [intOf]; omega
      · go_wp2
        go_ret
        refine ⟨_, rfl, below_two _ _ _ 0, ?_⟩
        have h := HP.out; rw [List.take_of_length_le (by omega)] at h
        rw [HV.out, h]; rfl
  have e1 : (x.kind == 1) = false := by simp [k1]
  by_cases k2 : x.kind = 2
  · have e2 : (x.kind == 2) = true := by simp [k2]
    by_cases q0 : 0 < x.pay.length
    · have HF := Lib.hid (show nodeErr g.players g.infos.length x = 3 by unfold nodeErr moveErr; rw [if_neg k1, if_pos k2, if_pos (by omega)])
      clear k1 k2
      go_enter Try.func51, Try.ntmps51
      go_wp2
      go_ret
      exact ⟨_, rfl, below_two _ _ _ 0, by rw [HF.out]; rfl⟩
    have d0 : decide ((0 : Int) < (x.pay.length : Int)) = false := decide_eq_false (by omega)
    by_cases q1 : 0 < x.weights.length
    · have HF := Lib.hid (show nodeErr g.players g.infos.length x = 3 by unfold nodeErr moveErr; rw [if_neg k1, if_pos k2, if_pos (by omega)])
      clear k1 k2
      go_enter Try.func51, Try.ntmps51
      go_wp2
      go_ret
      exact ⟨_, rfl, below_two _ _ _ 0, by rw [HF.out]; rfl⟩
    have d1 : decide ((0 : Int) < (x.weights.length : Int)) = false := decide_eq_false (by omega)
    by_cases q2 : x.next.length < 1
    · have HF := Lib.hid (show nodeErr g.players g.infos.length x = 3 by unfold nodeErr moveErr; rw [if_neg k1, if_pos k2, if_pos (by omega)])
      clear k1 k2
      go_enter Try.func51, Try.ntmps51
      go_wp2
      go_ret
      exact ⟨_, rfl, below_two _ _ _ 0, by rw [HF.out]; rfl⟩
    have d2 : decide ((x.next.length : Int) < 1) = false := decide_eq_false (by omega)
    by_cases q3 : 10 < x.next.length
    · have HF := Lib.hid (show nodeErr g.players g.infos.length x = 3 by unfold nodeErr moveErr; rw [if_neg k1, if_pos k2, if_pos (by omega)])
      clear k1 k2
      go_enter Try.func51, Try.ntmps51
      go_wp2
      go_ret
      exact ⟨_, rfl, below_two _ _ _ 0, by rw [HF.out]; rfl⟩
    have d3 : decide ((10 : Int) < (x.next.length : Int)) = false := decide_eq_false (by omega)
    by_cases r0 : x.player < 0
    · have HF := Lib.hid (show nodeErr g.players g.infos.length x = 2 by unfold nodeErr moveErr; rw [if_neg k1, if_pos k2, if_neg (by omega), if_pos (by omega)])
      clear k1 k2
      go_enter Try.func51, Try.ntmps51
      go_wp2
      go_ret
      exact ⟨_, rfl, below_two _ _ _ 0, by rw [HF.out]; rfl⟩
    have s0 : decide (x.player < 0) = false := decide_eq_false (by omega)
    by_cases r1 : g.players ≤ x.player
    · have HF := Lib.hid (show nodeErr g.players g.infos.length x = 2 by unfold nodeErr moveErr; rw [if_neg k1, if_pos k2, if_neg (by omega), if_pos (by omega)])
      clear k1 k2
      go_enter Try.func51, Try.ntmps51
      go_wp2
      go_ret
      exact ⟨_, rfl, below_two _ _ _ 0, by rw [HF.out]; rfl⟩
    have s1 : decide (g.players ≤ x.player) = false := decide_eq_false (by omega)
    by_cases r2 : x.info < 0
    · have HF := Lib.hid (show nodeErr g.players g.infos.length x = 2 by unfold nodeErr moveErr; rw [if_neg k1, if_pos k2, if_neg (by omega), if_pos (by omega)])
      clear k1 k2
      go_enter Try.func51, Try.ntmps51
      go_wp2
      go_ret
      exact ⟨_, rfl, below_two _ _ _ 0, by rw [HF.out]; rfl⟩
    have s2 : decide (x.info < 0) = false := decide_eq_false (by omega)
    by_cases r3 : (g.infos.length : Int) ≤ x.info
    · have HF := Lib.hid (show nodeErr g.players g.infos.length x = 2 by unfold nodeErr moveErr; rw [if_neg k1, if_pos k2, if_neg (by omega), if_pos (by omega)])
      clear k1 k2
      go_enter Try.func51, Try.ntmps51
      go_wp2
      go_ret
      exact ⟨_, rfl, below_two _ _ _ 0, by rw [HF.out]; rfl⟩
    have s3 : decide ((g.infos.length : Int) ≤ x.info) = false := decide_eq_false (by omega)
    have HF := Lib.hid (show nodeErr g.players g.infos.length x = 0 by unfold nodeErr moveErr; rw [if_neg k1, if_pos k2, if_neg (by omega), if_neg (by omega)])
    clear k1 k2
    go_enter Try.func51, Try.ntmps51
    go_wp2
    go_ret
    exact ⟨_, rfl, below_two _ _ _ 0, by rw [HF.out]; rfl⟩
  have e2 : (x.kind == 2) = false := by simp [k2]
  by_cases k3 : x.kind = 3
  · have e3 : (x.kind == 3) = true := by simp [k3]
    by_cases q0 : x.player ≠ 0
    · have HF := Lib.hid (show nodeErr g.players g.infos.length x = 3 by unfold nodeErr endErr; rw [if_neg k1, if_neg k2, if_pos k3, if_pos (by omega)])
      have d0 : (x.player != 0) = true := neT (by omega)
      clear k1 k2 k3
      go_enter Try.func51, Try.ntmps51
      go_wp2
      go_ret
      exact ⟨_, rfl, below_two _ _ _ 0, by rw [HF.out]; rfl⟩
    have d0 : (x.player != 0) = false := neF (by omega)
    by_cases q1 : x.info ≠ 0
    · have HF := Lib.hid (show nodeErr g.players g.infos.length x = 3 by unfold nodeErr endErr; rw [if_neg k1, if_neg k2, if_pos k3, if_pos (by omega)])
      have d1 : (x.info != 0) = true := neT (by omega)
      clear k1 k2 k3
      go_enter Try.func51, Try.ntmps51
      go_wp2
      go_ret
      exact ⟨_, rfl, below_two _ _ _ 0, by rw [HF.out]; rfl⟩
    have d1 : (x.info != 0) = false := neF (by omega)
    by_cases q2 : 0 < x.next.length
    · have HF := Lib.hid (show nodeErr g.players g.infos.length x = 3 by unfold nodeErr endErr; rw [if_neg k1, if_neg k2, if_pos k3, if_pos (by omega)])
      clear k1 k2 k3
      go_enter Try.func51, Try.ntmps51
      go_wp2
      go_ret
      exact ⟨_, rfl, below_two _ _ _ 0, by rw [HF.out]; rfl⟩
    have d2 : decide ((0 : Int) < (x.next.length : Int)) = false := decide_eq_false (by omega)
    by_cases q3 : 0 < x.weights.length
    · have HF := Lib.hid (show nodeErr g.players g.infos.length x = 3 by unfold nodeErr endErr; rw [if_neg k1, if_neg k2, if_pos k3, if_pos (by omega)])
      clear k1 k2 k3
      go_enter Try.func51, Try.ntmps51
      go_wp2
      go_ret
      exact ⟨_, rfl, below_two _ _ _ 0, by rw [HF.out]; rfl⟩
    have d3 : decide ((0 : Int) < (x.weights.length : Int)) = false := decide_eq_false (by omega)
    by_cases q4 : (x.pay.length : Int) ≠ g.players
    · have HF := Lib.hid (show nodeErr g.players g.infos.length x = 3 by unfold nodeErr endErr; rw [if_neg k1, if_neg k2, if_pos k3, if_pos (by omega)])
      have d4 : ((x.pay.length : Int) != g.players) = true := neT (by omega)
      clear k1 k2 k3
      go_enter Try.func51, Try.ntmps51
      go_wp2
      go_ret
      exact ⟨_, rfl, below_two _ _ _ 0, by rw [HF.out]; rfl⟩
    have d4 : ((x.pay.length : Int) != g.players) = false := neF (by omega)
    have HV := Lib.hid (show nodeErr g.players g.infos.length x = if outside (-1000000) 1000000 x.pay then 2 else 0 by unfold nodeErr endErr; rw [if_neg k1, if_neg k2, if_pos k3, if_neg (by omega)])
    clear k1 k2 k3 q0 q1 q4
    go_enter Try.func51, Try.ntmps51
    go_wp2
    go_loop [6] (fun i => ∃ k : Nat, k ≤ x.pay.length ∧ i = .int .i64 k ∧ outside (-1000000) 1000000 (x.pay.take k) = false) (fun i => x.pay.length - (intOf i).toNat)
    case atStart => exact ⟨0, by omega, rfl, rfl⟩
    case round =>
      obtain ⟨k, hk, rfl, hpre⟩ := hrel
      have HP := Lib.hid hpre; clear hpre
      by_cases hlt : k < x.pay.length
      · obtain ⟨b, o, rfl, _, hb, hx⟩ := H5.out (by omega)
        obtain ⟨y, hy⟩ := getSome hlt
        have ey := hx k y hy
        unfold intE at ey; rw [Nat.mul_one] at ey
        have BAD := Lib.hid (show (y < (-1000000) ∨ 1000000 < y) → nodeErr g.players g.infos.length x = 2 by
          intro hb; rw [HV.out, if_pos (show outside _ _ _ = true from List.any_eq_true.2 ⟨y, List.mem_of_getElem? hy, by simpa using hb⟩)])
        have HX := Lib.hid hy; clear hx hy
        by_cases pl : y < (-1000000)
        · have HF := Lib.hid (BAD.out (.inl pl))
          go_wp2
          go_ret
          exact ⟨_, rfl, below_two _ _ _ 0, by rw [HF.out]; rfl⟩
        have fl : decide (y < (-1000000)) = false := decide_eq_false (by omega)
        by_cases pr : 1000000 < y
        · have HF := Lib.hid (BAD.out (.inr pr))
          go_wp2
          go_ret
          exact ⟨_, rfl, below_two _ _ _ 0, by rw [HF.out]; rfl⟩
        have fr : decide ((1000000 : Int) < y) = false := decide_eq_false (by omega)
        go_wp2
        go_round
        case rel => exact ⟨k + 1, by omega, by go_num, any_snoc HX.out HP.out (by simp; omega)⟩
        case measure => simp [intOf]; omega
      · go_wp2
        go_ret
        refine ⟨_, rfl, below_two _ _ _ 0, ?_⟩
        have h := HP.out; rw [List.take_of_length_le (by omega)] at h
        rw [HV.out, h]; rfl
  have e3 : (x.kind == 3) = false := by simp [k3]
  have HF := Lib.hid (show nodeErr g.players g.infos.length x = 3 by unfold nodeErr; rw [if_neg k1, if_neg k2, if_neg k3])
  clear k1 k2 k3
  go_enter Try.func51, Try.ntmps51
  go_wp2
  go_ret
  exact ⟨_, rfl, below_two _ _ _ 0, by rw [HF.out]; rfl⟩
end Go.Proofs.Ytafjdoedallnbaa

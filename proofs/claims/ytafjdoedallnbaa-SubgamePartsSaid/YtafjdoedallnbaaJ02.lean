/- parlourref11.node: the error of a node by itself. -/
import Derived.Test.YtafjdoedallnbaaJ01
namespace Go.Proofs.Ytafjdoedallnbaa
open Go.RowKit
theorem neF {a b : Int} (h : a = b) : (a != b) = false := by simp [h]
theorem neT {a b : Int} (h : a ≠ b) : (a != b) = true := by simp [h]
theorem eqF {a b : Int} (h : a ≠ b) : (a == b) = false := by simp [h]
theorem eqT {a b : Int} (h : a = b) : (a == b) = true := by simp [h]
def outside (lo hi : Int) (l : List Int) : Bool := l.any fun x => decide (x < lo) || decide (hi < x)
def chanceErr (x : Nd) : Int :=
 if x.player ≠ 0 ∨ x.info ≠ 0 ∨ 0 < x.pay.length ∨ x.next.length < 1 ∨ 60 < x.next.length ∨ x.weights.length ≠ x.next.length then 3 else if outside 1 1000 x.weights then 2 else 0
def moveErr (players : Int) (ni : Nat) (x : Nd) : Int :=
 if 0 < x.pay.length ∨ 0 < x.weights.length ∨ x.next.length < 1 ∨ 10 < x.next.length then 3 else if x.player < 0 ∨ players ≤ x.player ∨ x.info < 0 ∨ (ni : Int) ≤ x.info then 2 else 0
def endErr (players : Int) (x : Nd) : Int :=
 if x.player ≠ 0 ∨ x.info ≠ 0 ∨ 0 < x.next.length ∨ 0 < x.weights.length ∨ (x.pay.length : Int) ≠ players then 3 else if outside (-1000000) 1000000 x.pay then 2 else 0
def nodeErr (players : Int) (ni : Nat) (x : Nd) : Int :=
 if x.kind = 1 then chanceErr x else if x.kind = 2 then moveErr players ni x else if x.kind = 3 then endErr players x else 3
set_option maxRecDepth 100000 in
set_option maxHeartbeats 3200000 in
theorem node_any (w : World) (F : Foot) (u ux : Value) (g : Gm) (x : Nd) (hg : GameAt w F u g) (hx : NodeV w F ux x) (hl : x.next.length < 1000000 ∧ x.weights.length < 1000000 ∧ x.pay.length < 1000000) (hni : g.infos.length < 1000000) :
  Calls Try.prog 51 #[u, ux] w (Ret w fun v _ => v = .int .i64 (nodeErr g.players g.infos.length x)) := by
 obtain ⟨vn, vi, rfl, ⟨A, c, rfl, hc, hN⟩, ⟨Ai, ci, rfl, hci, hI⟩⟩ := hg
 clear hN hI
 obtain ⟨v3, v4, v5, rfl, ⟨A3, c3, rfl, hc3, h3⟩, ⟨A4, c4, rfl, hc4, h4⟩, ⟨A5, c5, rfl, hc5, h5⟩⟩ := hx
 obtain ⟨hl3, hl4, hl5⟩ := hl
 have H4 := Lib.hid h4; clear h4
 have H5 := Lib.hid h5; clear h5 h3
 by_cases k1 : x.kind = 1
 ·have e1 : (x.kind == 1) = true := by simp [k1]
  by_cases q0 : x.player ≠ 0
  ·have HF := Lib.hid (show nodeErr g.players g.infos.length x = 3 by unfold nodeErr chanceErr; rw [if_pos k1, if_pos (by omega)])
   have d0 : (x.player != 0) = true := neT (by omega)
   clear k1
   go_enter Try.func51, Try.ntmps51
   go_wp2
   go_ret
   exact ⟨_, rfl, below_two _ _ _ 0, by rw [HF.out]; rfl⟩
  have d0 : (x.player != 0) = false := neF (by omega)
  by_cases q1 : x.info ≠ 0
  ·have HF := Lib.hid (show nodeErr g.players g.infos.length x = 3 by unfold nodeErr chanceErr; rw [if_pos k1, if_pos (by omega)])
   have d1 : (x.info != 0) = true := neT (by omega)
   clear k1
   go_enter Try.func51, Try.ntmps51
   go_wp2
   go_ret
   exact ⟨_, rfl, below_two _ _ _ 0, by rw [HF.out]; rfl⟩
  have d1 : (x.info != 0) = false := neF (by omega)
  by_cases q2 : 0 < x.pay.length
  ·have HF := Lib.hid (show nodeErr g.players g.infos.length x = 3 by unfold nodeErr chanceErr; rw [if_pos k1, if_pos (by omega)])
   clear k1
   go_enter Try.func51, Try.ntmps51
   go_wp2
   go_ret
   exact ⟨_, rfl, below_two _ _ _ 0, by rw [HF.out]; rfl⟩
  have d2 : decide ((0 : Int) < (x.pay.length : Int)) = false := decide_eq_false (by omega)
  by_cases q3 : x.next.length < 1
  ·have HF := Lib.hid (show nodeErr g.players g.infos.length x = 3 by unfold nodeErr chanceErr; rw [if_pos k1, if_pos (by omega)])
   clear k1
   go_enter Try.func51, Try.ntmps51
   go_wp2
   go_ret
   exact ⟨_, rfl, below_two _ _ _ 0, by rw [HF.out]; rfl⟩
  have d3 : decide ((x.next.length : Int) < 1) = false := decide_eq_false (by omega)
  by_cases q4 : 60 < x.next.length
  ·have HF := Lib.hid (show nodeErr g.players g.infos.length x = 3 by unfold nodeErr chanceErr; rw [if_pos k1, if_pos (by omega)])
   clear k1
   go_enter Try.func51, Try.ntmps51
   go_wp2
   go_ret
   exact ⟨_, rfl, below_two _ _ _ 0, by rw [HF.out]; rfl⟩
  have d4 : decide ((60 : Int) < (x.next.length : Int)) = false := decide_eq_false (by omega)
  by_cases q5 : x.weights.length ≠ x.next.length
  ·have HF := Lib.hid (show nodeErr g.players g.infos.length x = 3 by unfold nodeErr chanceErr; rw [if_pos k1, if_pos (by omega)])
   have d5 : ((x.weights.length : Int) != (x.next.length : Int)) = true := neT (by omega)
   clear k1
   go_enter Try.func51, Try.ntmps51
   go_wp2
   go_ret
   exact ⟨_, rfl, below_two _ _ _ 0, by rw [HF.out]; rfl⟩
  have d5 : ((x.weights.length : Int) != (x.next.length : Int)) = false := neF (by omega)
  have HV := Lib.hid (show nodeErr g.players g.infos.length x = if outside 1 1000 x.weights then 2 else 0 by unfold nodeErr chanceErr; rw [if_pos k1, if_neg (by omega)])
  clear k1 q0 q1 q5
  go_enter Try.func51, Try.ntmps51
  go_wp2
  go_loop [5] (fun i => ∃ k : Nat, k ≤ x.weights.length ∧ i = .int .i64 k ∧ outside 1 1000 (x.weights.take k) = false) (fun i => x.weights.length - (intOf i).toNat)
  case atStart => exact ⟨0, by omega, rfl, rfl⟩
  case round =>
   obtain ⟨k, hk, rfl, hpre⟩ := hrel
   have HP := Lib.hid hpre; clear hpre
   by_cases hlt : k < x.weights.length
   ·obtain ⟨b, o, rfl, _, hb, hx⟩ := H4.out (by omega)
    obtain ⟨y, hy⟩ := getSome hlt
    have ey := hx k y hy
    unfold intE at ey; rw [Nat.mul_one] at ey
    have BAD := Lib.hid (show (y < 1 ∨ 1000 < y) → nodeErr g.players g.infos.length x = 2 by
     intro hb; rw [HV.out, if_pos (show outside _ _ _ = true from List.any_eq_true.2 ⟨y, List.mem_of_getElem? hy, by simpa using hb⟩)])
    have HX := Lib.hid hy; clear hx hy
    by_cases pl : y < 1
    ·have HF := Lib.hid (BAD.out (.inl pl))
     go_wp2
     go_ret
     exact ⟨_, rfl, below_two _ _ _ 0, by rw [HF.out]; rfl⟩
    have fl : decide (y < 1) = false := decide_eq_false (by omega)
    by_cases pr : 1000 < y
    ·have HF := Lib.hid (BAD.out (.inr pr))
     go_wp2
     go_ret
     exact ⟨_, rfl, below_two _ _ _ 0, by rw [HF.out]; rfl⟩
    have fr : decide ((1000 : Int) < y) = false := decide_eq_false (by omega)
    go_wp2
    go_round
    case rel => exact ⟨k + 1, by omega, by go_num, any_snoc HX.out HP.out (by simp; omega)⟩
    case measure => simp [intOf]; omega
   ·go_wp2
    go_ret
    refine ⟨_, rfl, below_two _ _ _ 0, ?_⟩
    have h := HP.out; rw [List.take_of_length_le (by omega)] at h
    rw [HV.out, h]; rfl
 have e1 : (x.kind == 1) = false := by simp [k1]
 by_cases k2 : x.kind = 2
 ·have e2 : (x.kind == 2) = true := by simp [k2]
  by_cases q0 : 0 < x.pay.length
  ·have HF := Lib.hid (show nodeErr g.players g.infos.length x = 3 by unfold nodeErr moveErr; rw [if_neg k1, if_pos k2, if_pos (by omega)])
   clear k1 k2
   go_enter Try.func51, Try.ntmps51
   go_wp2
   go_ret
   exact ⟨_, rfl, below_two _ _ _ 0, by rw [HF.out]; rfl⟩
  have d0 : decide ((0 : Int) < (x.pay.length : Int)) = false := decide_eq_false (by omega)
  by_cases q1 : 0 < x.weights.length
  ·have HF := Lib.hid (show nodeErr g.players g.infos.length x = 3 by unfold nodeErr moveErr; rw [if_neg k1, if_pos k2, if_pos (by omega)])
   clear k1 k2
   go_enter Try.func51, Try.ntmps51
   go_wp2
   go_ret
   exact ⟨_, rfl, below_two _ _ _ 0, by rw [HF.out]; rfl⟩
  have d1 : decide ((0 : Int) < (x.weights.length : Int)) = false := decide_eq_false (by omega)
  by_cases q2 : x.next.length < 1
  ·have HF := Lib.hid (show nodeErr g.players g.infos.length x = 3 by unfold nodeErr moveErr; rw [if_neg k1, if_pos k2, if_pos (by omega)])
   clear k1 k2
   go_enter Try.func51, Try.ntmps51
   go_wp2
   go_ret
   exact ⟨_, rfl, below_two _ _ _ 0, by rw [HF.out]; rfl⟩
  have d2 : decide ((x.next.length : Int) < 1) = false := decide_eq_false (by omega)
  by_cases q3 : 10 < x.next.length
  ·have HF := Lib.hid (show nodeErr g.players g.infos.length x = 3 by unfold nodeErr moveErr; rw [if_neg k1, if_pos k2, if_pos (by omega)])
   clear k1 k2
   go_enter Try.func51, Try.ntmps51
   go_wp2
   go_ret
   exact ⟨_, rfl, below_two _ _ _ 0, by rw [HF.out]; rfl⟩
  have d3 : decide ((10 : Int) < (x.next.length : Int)) = false := decide_eq_false (by omega)
  by_cases r0 : x.player < 0
  ·have HF := Lib.hid (show nodeErr g.players g.infos.length x = 2 by unfold nodeErr moveErr; rw [if_neg k1, if_pos k2, if_neg (by omega), if_pos (by omega)])
   clear k1 k2
   go_enter Try.func51, Try.ntmps51
   go_wp2
   go_ret
   exact ⟨_, rfl, below_two _ _ _ 0, by rw [HF.out]; rfl⟩
  have s0 : decide (x.player < 0) = false := decide_eq_false (by omega)
  by_cases r1 : g.players ≤ x.player
  ·have HF := Lib.hid (show nodeErr g.players g.infos.length x = 2 by unfold nodeErr moveErr; rw [if_neg k1, if_pos k2, if_neg (by omega), if_pos (by omega)])
   clear k1 k2
   go_enter Try.func51, Try.ntmps51
   go_wp2
   go_ret
   exact ⟨_, rfl, below_two _ _ _ 0, by rw [HF.out]; rfl⟩
  have s1 : decide (g.players ≤ x.player) = false := decide_eq_false (by omega)
  by_cases r2 : x.info < 0
  ·have HF := Lib.hid (show nodeErr g.players g.infos.length x = 2 by unfold nodeErr moveErr; rw [if_neg k1, if_pos k2, if_neg (by omega), if_pos (by omega)])
   clear k1 k2
   go_enter Try.func51, Try.ntmps51
   go_wp2
   go_ret
   exact ⟨_, rfl, below_two _ _ _ 0, by rw [HF.out]; rfl⟩
  have s2 : decide (x.info < 0) = false := decide_eq_false (by omega)
  by_cases r3 : (g.infos.length : Int) ≤ x.info
  ·have HF := Lib.hid (show nodeErr g.players g.infos.length x = 2 by unfold nodeErr moveErr; rw [if_neg k1, if_pos k2, if_neg (by omega), if_pos (by omega)])
   clear k1 k2
   go_enter Try.func51, Try.ntmps51
   go_wp2
   go_ret
   exact ⟨_, rfl, below_two _ _ _ 0, by rw [HF.out]; rfl⟩
  have s3 : decide ((g.infos.length : Int) ≤ x.info) = false := decide_eq_false (by omega)
  have HF := Lib.hid (show nodeErr g.players g.infos.length x = 0 by unfold nodeErr moveErr; rw [if_neg k1, if_pos k2, if_neg (by omega), if_neg (by omega)])
  clear k1 k2
  go_enter Try.func51, Try.ntmps51
  go_wp2
  go_ret
  exact ⟨_, rfl, below_two _ _ _ 0, by rw [HF.out]; rfl⟩
 have e2 : (x.kind == 2) = false := by simp [k2]
 by_cases k3 : x.kind = 3
 ·have e3 : (x.kind == 3) = true := by simp [k3]
  by_cases q0 : x.player ≠ 0
  ·have HF := Lib.hid (show nodeErr g.players g.infos.length x = 3 by unfold nodeErr endErr; rw [if_neg k1, if_neg k2, if_pos k3, if_pos (by omega)])
   have d0 : (x.player != 0) = true := neT (by omega)
   clear k1 k2 k3
   go_enter Try.func51, Try.ntmps51
   go_wp2
   go_ret
   exact ⟨_, rfl, below_two _ _ _ 0, by rw [HF.out]; rfl⟩
  have d0 : (x.player != 0) = false := neF (by omega)
  by_cases q1 : x.info ≠ 0
  ·have HF := Lib.hid (show nodeErr g.players g.infos.length x = 3 by unfold nodeErr endErr; rw [if_neg k1, if_neg k2, if_pos k3, if_pos (by omega)])
   have d1 : (x.info != 0) = true := neT (by omega)
   clear k1 k2 k3
   go_enter Try.func51, Try.ntmps51
   go_wp2
   go_ret
   exact ⟨_, rfl, below_two _ _ _ 0, by rw [HF.out]; rfl⟩
  have d1 : (x.info != 0) = false := neF (by omega)
  by_cases q2 : 0 < x.next.length
  ·have HF := Lib.hid (show nodeErr g.players g.infos.length x = 3 by unfold nodeErr endErr; rw [if_neg k1, if_neg k2, if_pos k3, if_pos (by omega)])
   clear k1 k2 k3
   go_enter Try.func51, Try.ntmps51
   go_wp2
   go_ret
   exact ⟨_, rfl, below_two _ _ _ 0, by rw [HF.out]; rfl⟩
  have d2 : decide ((0 : Int) < (x.next.length : Int)) = false := decide_eq_false (by omega)
  by_cases q3 : 0 < x.weights.length
  ·have HF := Lib.hid (show nodeErr g.players g.infos.length x = 3 by unfold nodeErr endErr; rw [if_neg k1, if_neg k2, if_pos k3, if_pos (by omega)])
   clear k1 k2 k3
   go_enter Try.func51, Try.ntmps51
   go_wp2
   go_ret
   exact ⟨_, rfl, below_two _ _ _ 0, by rw [HF.out]; rfl⟩
  have d3 : decide ((0 : Int) < (x.weights.length : Int)) = false := decide_eq_false (by omega)
  by_cases q4 : (x.pay.length : Int) ≠ g.players
  ·have HF := Lib.hid (show nodeErr g.players g.infos.length x = 3 by unfold nodeErr endErr; rw [if_neg k1, if_neg k2, if_pos k3, if_pos (by omega)])
   have d4 : ((x.pay.length : Int) != g.players) = true := neT (by omega)
   clear k1 k2 k3
   go_enter Try.func51, Try.ntmps51
   go_wp2
   go_ret
   exact ⟨_, rfl, below_two _ _ _ 0, by rw [HF.out]; rfl⟩
  have d4 : ((x.pay.length : Int) != g.players) = false := neF (by omega)
  have HV := Lib.hid (show nodeErr g.players g.infos.length x = if outside (-1000000) 1000000 x.pay then 2 else 0 by unfold nodeErr endErr; rw [if_neg k1, if_neg k2, if_pos k3, if_neg (by omega)])
  clear k1 k2 k3 q0 q1 q4
  go_enter Try.func51, Try.ntmps51
  go_wp2
  go_loop [6] (fun i => ∃ k : Nat, k ≤ x.pay.length ∧ i = .int .i64 k ∧ outside (-1000000) 1000000 (x.pay.take k) = false) (fun i => x.pay.length - (intOf i).toNat)
  case atStart => exact ⟨0, by omega, rfl, rfl⟩
  case round =>
   obtain ⟨k, hk, rfl, hpre⟩ := hrel
   have HP := Lib.hid hpre; clear hpre
   by_cases hlt : k < x.pay.length
   ·obtain ⟨b, o, rfl, _, hb, hx⟩ := H5.out (by omega)
    obtain ⟨y, hy⟩ := getSome hlt
    have ey := hx k y hy
    unfold intE at ey; rw [Nat.mul_one] at ey
    have BAD := Lib.hid (show (y < (-1000000) ∨ 1000000 < y) → nodeErr g.players g.infos.length x = 2 by
     intro hb; rw [HV.out, if_pos (show outside _ _ _ = true from List.any_eq_true.2 ⟨y, List.mem_of_getElem? hy, by simpa using hb⟩)])
    have HX := Lib.hid hy; clear hx hy
    by_cases pl : y < (-1000000)
    ·have HF := Lib.hid (BAD.out (.inl pl))
     go_wp2
     go_ret
     exact ⟨_, rfl, below_two _ _ _ 0, by rw [HF.out]; rfl⟩
    have fl : decide (y < (-1000000)) = false := decide_eq_false (by omega)
    by_cases pr : 1000000 < y
    ·have HF := Lib.hid (BAD.out (.inr pr))
     go_wp2
     go_ret
     exact ⟨_, rfl, below_two _ _ _ 0, by rw [HF.out]; rfl⟩
    have fr : decide ((1000000 : Int) < y) = false := decide_eq_false (by omega)
    go_wp2
    go_round
    case rel => exact ⟨k + 1, by omega, by go_num, any_snoc HX.out HP.out (by simp; omega)⟩
    case measure => simp [intOf]; omega
   ·go_wp2
    go_ret
    refine ⟨_, rfl, below_two _ _ _ 0, ?_⟩
    have h := HP.out; rw [List.take_of_length_le (by omega)] at h
    rw [HV.out, h]; rfl
 have e3 : (x.kind == 3) = false := by simp [k3]
 have HF := Lib.hid (show nodeErr g.players g.infos.length x = 3 by unfold nodeErr; rw [if_neg k1, if_neg k2, if_neg k3])
 clear k1 k2 k3
 go_enter Try.func51, Try.ntmps51
 go_wp2
 go_ret
 exact ⟨_, rfl, below_two _ _ _ 0, by rw [HF.out]; rfl⟩
end Go.Proofs.Ytafjdoedallnbaa
/- parlourref11.ParentsOf returns the parents of a game whose children are nodes. -/
namespace Go.Proofs.Ytafjdoedallnbaa
open Go.RowKit
set_option maxHeartbeats 400000 in
theorem parentsOf_any (w : World) (F : Foot) (v : Value) (g : Gm) (hg : GameAt w F v g) (hsm : Small g) (h0 : 0 < g.nodes.length) (hk : KidsIn g.nodes) :
  Calls Try.prog 48 #[v] w (Ret w fun v w' => IntsAt w' (fun b => w.heap.size ≤ b) v (parentsL g.nodes)) := by
 obtain ⟨vn, vi, rfl, ⟨A, c, rfl, hc, hN⟩, hI⟩ := hg
 obtain ⟨b, o, rfl, hbF, hbB, hN⟩ := hN h0
 have HN := Lib.hid hN; clear hN
 have HK := Lib.hid hk; clear hk
 have hn := hsm.nodes
 have HS := Lib.hid hsm; clear hsm
 go_enter Try.func48, Try.ntmps48
 go_wp2_with (at_make; refine wpl_make _ rfl _ _ 26 rfl 3 (.int .i64 0) 8 Try.underlying26 Try.infoInt rfl g.nodes.length rfl rfl (by omega) (by omega) ?_; intro w1 hbel1 hsz1 hrow1; have r0 := hrow1.cell (i := 0) (v := .int .i64 0) (by simp [h0]); have f0 := hrow1.frozen 0; simp at r0 f0)
 go_loopw [4] (fun i wr => ∃ k : Nat, k ≤ g.nodes.length ∧ i = .int .i64 k ∧ wr.cell? ⟨w.heap.size, 1, none⟩ = some (.slice (some ⟨b, o, none⟩) g.nodes.length c) ∧ Row wr (w.heap.size + 1) 3 ((parTo g.nodes k).map (Value.int .i64)) ∧ Below w.heap.size w wr) (fun i _ => g.nodes.length - (intOf i).toNat)
 case atStart =>
  refine ⟨0, by omega, rfl, ?_, ?_, ?_⟩
  ·rw [World.cell?_setCell_other _ _ _ _ (by simp), below_old hbel1 _ _ (by simp)]; simp
  ·have := hrow1.set 0 (.int .i64 (-1))
   simp only [World.size_alloc] at this
   simpa [parTo, List.map_set] using this
  ·exact (((Below.refl _ _).alloc (Nat.le_refl _) _).trans (hbel1.mono (by simp))).setCell (by simp) _
 case round =>
  obtain ⟨k, hk, rfl, hbox, hrow, hbel⟩ := hrel
  by_cases hlt : k < g.nodes.length
  ·obtain ⟨n, hn'⟩ := getSome hlt
   have hnode := HN.out k n hn'
   obtain ⟨v3, e3, A3, c3, rfl, hc3, hN3⟩ := hnode.c3
   have hl3 := HS.out.next n (List.mem_of_getElem? hn')
   have HN3 := Lib.hid hN3; clear hN3 hnode
   have HN' := Lib.hid hn'; clear hn'
   have hold := below_old hbel
   go_wp2
   go_loopw [5] (fun i wi => ∃ j : Nat, j ≤ n.next.length ∧ i = .int .i64 j ∧ wi.cell? ⟨w.heap.size, 1, none⟩ = some (.slice (some ⟨b, o, none⟩) g.nodes.length c) ∧ Row wi (w.heap.size + 1) 3 ((parKids (n.next.take j) k (parTo g.nodes k)).map (Value.int .i64)) ∧ Below w.heap.size w wi) (fun i _ => n.next.length - (intOf i).toNat)
   case atStart => exact ⟨0, by omega, rfl, hbox, by simpa [parKids] using hrow, hbel⟩
   case round =>
    clear hbox hrow hold
    obtain ⟨j, hj, rfl, hbox, hrow, hbel2⟩ := hrel
    have hold := below_old hbel2
    by_cases hjt : j < n.next.length
    ·obtain ⟨ch, hch⟩ := getSome hjt
     obtain ⟨b3, o3, rfl, hb3, hb3B, hx3⟩ := HN3.out (by omega)
     have ec := hx3 j ch hch
     unfold intE at ec
     rw [Nat.mul_one] at ec
     obtain ⟨hch0, hch1⟩ := HK.out n (List.mem_of_getElem? HN'.out) ch (List.mem_of_getElem? hch)
     have HCH := Lib.hid hch; clear hch hx3
     obtain ⟨x, hx⟩ := getSome (l := parKids (n.next.take j) k (parTo g.nodes k)) (k := ch.toNat) (by rw [parKids_length, parTo_length]; omega)
     have rc := hrow.cell (i := ch.toNat) (v := .int .i64 x) (by simp [hx])
     have fc := hrow.frozen ch.toNat
     clear hx
     go_wp2
     go_roundw
     case rel =>
      refine ⟨j + 1, by omega, by go_num, ?_, ?_, hbel2.setCell (by simp) _⟩
      ·rw [World.cell?_setCell_other _ _ _ _ (by simp)]; exact hbox
      ·have := hrow.set ch.toNat (.int .i64 k)
       rw [parKids_snoc HCH.out]
       simpa [List.map_set] using this
     case measure => simp [intOf]; omega
    ·go_wp2
     go_roundw
     case rel =>
      have : j = n.next.length := by omega
      subst this
      refine ⟨k + 1, by omega, by go_num, hbox, ?_, hbel2⟩
      rw [parTo_succ HN'.out]
      simpa using hrow
     case measure => simp [intOf]; omega
  ·go_wp2
   go_ret
   have : k = g.nodes.length := by omega
   subst this
   refine ⟨_, rfl, hbel, ?_⟩
   have hl : (parentsL g.nodes).length = g.nodes.length := parTo_length _ _
   have := hrow.ints (F := fun b => w.heap.size ≤ b) (by omega) (c := g.nodes.length) (by rw [parTo_length]; omega)
   rw [parTo_length] at this
   exact this
end Go.Proofs.Ytafjdoedallnbaa
/- parlourref26.under: which nodes lie in the subtree of one of some nodes. -/
namespace Go.Proofs.Ytafjdoedallnbaa
open Go.RowKit
set_option maxRecDepth 100000 in
set_option maxHeartbeats 1600000 in
theorem under_any (w : World) (F : Foot) (u vr : Value) (g : Gm) (roots : List Int) (hg : GameAt w F u g) (hr : IntsAt w F vr roots) (hsm : Small g) (h0 : 0 < g.nodes.length) (hk : KidsIn g.nodes)
  (hl : roots.length ≤ 1000) (hin : ∀ r ∈ roots, 0 ≤ r ∧ r < (g.nodes.length : Int)) :
  Calls Try.prog 31 #[u, vr] w (Ret w fun v w' => BoolsAt w' (fun b => w.heap.size ≤ b) v (underL g.nodes roots)) := by
 have HG := Lib.hid hg
 obtain ⟨vn, vi, rfl, ⟨A, c, rfl, hc, hN⟩, hI⟩ := hg
 clear hN hI
 have HR := Lib.hid hr; clear hr
 have HK := Lib.hid hk; clear hk
 have hn := hsm.nodes
 have HS := Lib.hid hsm; clear hsm
 have HIN := Lib.hid hin; clear hin
 go_enter Try.func31, Try.ntmps31
 go_wp2_with fail
 refine (parentsOf_any _ F _ g (HG.out.on (Same.alloc _ _ _)) HS.out h0 HK.out).mono ?_
 rintro e w1 ⟨vp, rfl, hb1, hpar⟩
 have hbx := (Row.new w 25 #[.int .i64 g.players, .slice A g.nodes.length c, vi]).below hb1 (by simp)
 have x1 := hbx.cell (i := 1) rfl
 have hz1 := hb1.size
 simp only [World.size_alloc] at hz1
 have HP := Lib.hid hpar; clear hpar
 go_wp2_with (at_make; refine wpl_make _ rfl _ _ 58 rfl 4 (.bool false) 1 Try.underlying58 Try.infoBool rfl g.nodes.length rfl rfl (by omega) (by omega) ?_; intro w2 hb2 hz2 hrow2)
 obtain ⟨Ar, cr, rfl, hcr, hRr⟩ := (HR.out.on (Same.alloc _ _ _)).on (Below.same' hb1 F)
 have HRr := Lib.hid hRr; clear hRr
 go_loopw [7] (fun i wr => ∃ k : Nat, k ≤ roots.length ∧ i = .int .i64 k ∧ Row wr w1.heap.size 4 ((markL (roots.take k) (List.replicate g.nodes.length false)).map Value.bool) ∧ Below w1.heap.size w1 wr) (fun i _ => roots.length - (intOf i).toNat)
 case atStart => exact ⟨0, by omega, rfl, by simpa [markL] using hrow2, hb2⟩
 case round =>
  obtain ⟨k, hk, rfl, hrow, hbel⟩ := hrel
  have hold := below_old hbel
  by_cases hlt : k < roots.length
  ·obtain ⟨b, o, rfl, _, hb, hx⟩ := HRr.out (by omega)
   obtain ⟨r, hr⟩ := getSome hlt
   have er := hx k r hr
   unfold intE at er
   rw [Nat.mul_one] at er
   obtain ⟨hr0, hr1⟩ := HIN.out r (List.mem_of_getElem? hr)
   have HX := Lib.hid hr; clear hr hx
   obtain ⟨y, hy⟩ := getSome (l := markL (roots.take k) (List.replicate g.nodes.length false)) (k := r.toNat) (by rw [markL_length]; simp; omega)
   have rc := hrow.cell (i := r.toNat) (v := .bool y) (by simp [hy])
   have fc := hrow.frozen r.toNat
   clear hy
   go_wp2
   go_roundw
   case rel =>
    refine ⟨k + 1, by omega, by go_num, ?_, hbel.setCell (Nat.le_refl _) _⟩
    have := hrow.set r.toNat (.bool true)
    rw [markL_snoc HX.out]
    simpa [List.map_set] using this
   case measure => simp [intOf]; omega
  ·have hke : k = roots.length := by omega
   have hrow' : Row wr w1.heap.size 4 ((spTo (parentsL g.nodes) (markL roots (List.replicate g.nodes.length false)) 1).map Value.bool) := by
    subst hke; simpa [spTo] using hrow
   clear hrow hke
   have x1' := hbx.below hbel hbx.lt
   go_wp2
   go_loopw [8] (fun i wi => ∃ m : Nat, 1 ≤ m ∧ m ≤ g.nodes.length ∧ i = .int .i64 m ∧ Row wi w1.heap.size 4 ((spTo (parentsL g.nodes) (markL roots (List.replicate g.nodes.length false)) m).map Value.bool) ∧ Below w1.heap.size w1 wi) (fun i _ => g.nodes.length - (intOf i).toNat)
   case atStart => exact ⟨1, by omega, by omega, rfl, hrow', hbel⟩
   case round =>
    clear hrow' hold x1'
    obtain ⟨m, hm1, hm, rfl, hrow, hbel2⟩ := hrel
    have hold := below_old hbel2
    have hx1 := hbx.lt
    by_cases hmt : m < g.nodes.length
    ·obtain ⟨Ap, cp, rfl, hcp, hPp⟩ := HP.out
     have hpl : (parentsL g.nodes).length = g.nodes.length := parTo_length _ _
     obtain ⟨bp, op, rfl, _, hbp, hxp⟩ := hPp (by omega)
     obtain ⟨p, hp⟩ := getSome (l := parentsL g.nodes) (k := m) (by omega)
     have ep := hxp m p hp
     unfold intE at ep
     rw [Nat.mul_one] at ep
     obtain ⟨hp0, hp1⟩ := parTo_range g.nodes g.nodes.length (Nat.le_refl _) m p hp (by omega)
     generalize hll : spTo (parentsL g.nodes) (markL roots (List.replicate g.nodes.length false)) m = ll at *
     have hlen : ll.length = g.nodes.length := by rw [← hll, spTo_length, markL_length]; simp
     obtain ⟨y, hy⟩ := getSome (l := ll) (k := m) (by omega)
     obtain ⟨z, hz⟩ := getSome (l := ll) (k := p.toNat) (by omega)
     have ry := hrow.cell (i := m) (v := .bool y) (by simp [hy])
     have rz := hrow.cell (i := p.toNat) (v := .bool z) (by simp [hz])
     have fc := hrow.frozen m
     have HL := Lib.hid hll; clear hll
     have hpm : m < (parentsL g.nodes).length := by omega
     clear hpl hlen
     have HST := Lib.hid (show spTo (parentsL g.nodes) (markL roots (List.replicate g.nodes.length false)) (m + 1) = ll.set m (y || z) by
      rw [spTo_succ _ _ _ hm1, HL.out]; unfold spStep
      simp [List.getD_eq_getElem?_getD, hy, hz, hp])
     clear hy hz hp hxp hPp
     cases y
     ·go_wp2
      go_roundw
      case rel =>
       refine ⟨m + 1, by omega, by omega, by go_num, ?_, hbel2.setCell (Nat.le_refl _) _⟩
       have := hrow.set m (.bool z)
       rw [HST.out]
       simpa [List.map_set] using this
      case measure => simp [intOf]; omega
     ·go_wp2
      go_roundw
      case rel =>
       refine ⟨m + 1, by omega, by omega, by go_num, ?_, hbel2.setCell (Nat.le_refl _) _⟩
       have := hrow.set m (.bool true)
       rw [HST.out]
       simpa [List.map_set] using this
      case measure => simp [intOf]; omega
    ·go_wp2
     go_ret
     have hme : m = g.nodes.length := by omega
     subst hme
     refine ⟨_, rfl, ?_, ?_⟩
     ·exact ((Below.refl w.heap.size w).alloc (Nat.le_refl _) _).trans ((hb1.mono (by simp)).trans (hbel2.mono (by omega)))
     ·have hlen : (underL g.nodes roots).length = g.nodes.length := by unfold underL; rw [spTo_length, markL_length]; simp
      have := Row.bools (l := underL g.nodes roots) hrow (F := fun b => w.heap.size ≤ b) (by omega) (c := g.nodes.length) (by omega)
      rw [hlen] at this
      exact this
end Go.Proofs.Ytafjdoedallnbaa
/- parlourkit.Large: whether a game is larger than the statements cover. -/
namespace Go.Proofs.Ytafjdoedallnbaa
open Go.RowKit
def longNd (n : Nd) : Bool := decide (100 < n.next.length) || decide (100 < n.weights.length) || decide (100 < n.pay.length)
def largeB (g : Gm) (nodes sets : Int) : Bool := decide (nodes < g.nodes.length) || decide (sets < g.infos.length) || g.nodes.any longNd
set_option maxRecDepth 100000 in
set_option maxHeartbeats 1600000 in
theorem large_any (w : World) (F : Foot) (u : Value) (g : Gm) (h : GameAt w F u g) (nodes sets : Int) (hn0 : nodes ≤ 1000) :
  Calls Try.prog 5 #[u, .int .i64 nodes, .int .i64 sets] w (Ret w fun v _ => v = .bool (largeB g nodes sets)) := by
 obtain ⟨vn, vi, rfl, ⟨A, c, rfl, hc, hN⟩, ⟨Ai, ci, rfl, hci, hI⟩⟩ := h
 have HN := Lib.hid hN; clear hN hI
 by_cases q0 : nodes < g.nodes.length
 ·have HF := Lib.hid (show largeB g nodes sets = true by simp [largeB, q0])
  go_enter Try.func5, Try.ntmps5
  go_wp2
  go_ret
  exact ⟨_, rfl, (Below.refl _ _).alloc (Nat.le_refl _) _, by rw [HF.out]; rfl⟩
 have d0 : decide (nodes < (g.nodes.length : Int)) = false := by simp; omega
 by_cases q1 : sets < g.infos.length
 ·have HF := Lib.hid (show largeB g nodes sets = true by simp [largeB, q1])
  go_enter Try.func5, Try.ntmps5
  go_wp2
  go_ret
  exact ⟨_, rfl, (Below.refl _ _).alloc (Nat.le_refl _) _, by rw [HF.out]; rfl⟩
 have d1 : decide (sets < (g.infos.length : Int)) = false := by simp; omega
 go_enter Try.func5, Try.ntmps5
 go_wp2
 go_loopw [7] (fun i wr => ∃ k : Nat, k ≤ g.nodes.length ∧ i = .int .i64 k ∧ (g.nodes.take k).any longNd = false ∧ Row wr w.heap.size 25 [.int .i64 g.players, .slice A g.nodes.length c, .slice Ai g.infos.length ci] ∧ Below w.heap.size w wr) (fun i _ => g.nodes.length - (intOf i).toNat)
 case atStart => exact ⟨0, by omega, rfl, by simp, Row.new w _ _, (Below.refl _ _).alloc (Nat.le_refl _) _⟩
 case round =>
  obtain ⟨k, hk, rfl, hpre, hr, hbel⟩ := hrel
  have HP := Lib.hid hpre; clear hpre
  have x1 := hr.cell (i := 1) rfl
  by_cases hlt : k < g.nodes.length
  ·obtain ⟨b, o, rfl, _, hb, hcell⟩ := HN.out (by omega)
   obtain ⟨n, hn⟩ := getSome hlt
   obtain ⟨e0, e1, e2, ⟨v3, e3, A3, c3, rfl, hc3, i3⟩, ⟨v4, e4, A4, c4, rfl, hc4, i4⟩, ⟨v5, e5, A5, c5, rfl, hc5, i5⟩⟩ := hcell k n hn
   clear i3 i4 i5 hcell
   have HX := Lib.hid hn; clear hn
   have hold := below_old hbel
   have LT := Lib.hid (show longNd n = true → largeB g nodes sets = true by
    intro h
    unfold largeB
    have : g.nodes.any longNd = true := List.any_eq_true.2 ⟨n, List.mem_of_getElem? HX.out, h⟩
    rw [this]; simp)
   by_cases q3 : 100 < n.next.length
   ·have HF := Lib.hid (LT.out (by unfold longNd; simp [q3]))
    go_wp2
    go_ret
    exact ⟨_, rfl, by repeat (first | exact hbel | refine Below.alloc ?_ hbel.size _ | refine Below.setCell ?_ hbel.size _), by rw [HF.out]; rfl⟩
   have d3 : decide ((100 : Int) < (n.next.length : Int)) = false := by simp; omega
   by_cases q4 : 100 < n.weights.length
   ·have HF := Lib.hid (LT.out (by unfold longNd; simp [q4]))
    go_wp2
    go_ret
    exact ⟨_, rfl, by repeat (first | exact hbel | refine Below.alloc ?_ hbel.size _ | refine Below.setCell ?_ hbel.size _), by rw [HF.out]; rfl⟩
   have d4 : decide ((100 : Int) < (n.weights.length : Int)) = false := by simp; omega
   by_cases q5 : 100 < n.pay.length
   ·have HF := Lib.hid (LT.out (by unfold longNd; simp [q5]))
    go_wp2
    go_ret
    exact ⟨_, rfl, by repeat (first | exact hbel | refine Below.alloc ?_ hbel.size _ | refine Below.setCell ?_ hbel.size _), by rw [HF.out]; rfl⟩
   have d5 : decide ((100 : Int) < (n.pay.length : Int)) = false := by simp; omega
   have LF := Lib.hid (show longNd n = false by unfold longNd; simp; omega)
   go_wp2
   go_roundw
   case rel => exact ⟨k + 1, by omega, by go_num, any_snoc HX.out HP.out LF.out, by repeat (first | exact hr | refine Row.alloc ?_ _ | refine Row.other ?_ (by have := hr.lt; simp; omega) _), by repeat (first | exact hbel | refine Below.alloc ?_ hbel.size _ | refine Below.setCell ?_ hbel.size _)⟩
   case measure => simp [intOf]; omega
  ·go_wp2
   go_ret
   refine ⟨_, rfl, hbel, ?_⟩
   have h3 := HP.out
   rw [List.take_of_length_le (by omega)] at h3
   have : largeB g nodes sets = false := by unfold largeB; rw [h3, d0, d1]; rfl
   rw [this]; rfl
end Go.Proofs.Ytafjdoedallnbaa

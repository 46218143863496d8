/- (*recall.ahg).chance, move, end, node: the error of a node by itself, by the program. -/
import Derived.Test.YtkcheepafifjaaaGreatDoorS24
import Derived.Test.YtkcheepafifjaaaGreatDoorS05
set_option linter.all false
namespace Go.Proofs.YtkcheepafifjaaaGreatDoor
open List renaming getElem_toArray → lq1, getElem_cons_zero → lq2, getElem_cons_succ → lq3, setIfInBounds_toArray → lq4, set_cons_zero → lq5, set_cons_succ → lq6
open Go.RowKit
structure BG (w : World) (p : Nat) (ak : Int) (ni : Nat) : Prop where
 ak : w.cell? ⟨p, 0, none⟩ = some (.int .i64 ak)
 infos : ∃ A c, w.cell? ⟨p, 2, none⟩ = some (.slice A ni c)
set_option maxRecDepth 100000 in
set_option maxHeartbeats 3200000 in
theorem acM (w : World) (F : Ac) (u ux : Value) (x : Nd) (hx : AL w F ux x) (hl : x.next.length < 1000000 ∧ x.weights.length < 1000000 ∧ x.pay.length < 1000000) :
  Calls Tryz.prog 165 #[u, ux] w (Ret w fun v _ => v = .int .i64 (bK x)) := by
 obtain ⟨v3, v4, v5, rfl, ⟨A3, c3, rfl, hc3, h3⟩, ⟨A4, c4, rfl, hc4, h4⟩, ⟨A5, c5, rfl, hc5, h5⟩⟩ := hx;obtain ⟨hl3, hl4, hl5⟩ := hl;have H4 := Lib.hid (show Aw w F (.slice A4 x.weights.length c4) x.weights from ⟨A4, c4, rfl, hc4, h4⟩);clear h3 h4 h5;by_cases q0 : x.aG ≠ 0
 ·have HF := Lib.hid (show bK x = 3 by unfold bK; rw [if_pos (by omega)]);have d0 : (x.aG != 0) = true := neT (by omega);go_enter Tryz.func165, Tryz.ntmps165;go_wp2
  go_ret;exact ⟨_, rfl, (Below.refl _ _).alloc (Nat.le_refl _) _, by rw [HF.out]; rfl⟩
 have d0 : (x.aG != 0) = false := neF (by omega);by_cases q1 : x.info ≠ 0
 ·have HF := Lib.hid (show bK x = 3 by unfold bK; rw [if_pos (by omega)]);have d1 : (x.info != 0) = true := neT (by omega);go_enter Tryz.func165, Tryz.ntmps165;go_wp2
  go_ret;exact ⟨_, rfl, (Below.refl _ _).alloc (Nat.le_refl _) _, by rw [HF.out]; rfl⟩
 have d1 : (x.info != 0) = false := neF (by omega);by_cases q2 : 0 < x.pay.length
 ·have HF := Lib.hid (show bK x = 3 by unfold bK; rw [if_pos (by omega)]);go_enter Tryz.func165, Tryz.ntmps165;go_wp2
  go_ret;exact ⟨_, rfl, (Below.refl _ _).alloc (Nat.le_refl _) _, by rw [HF.out]; rfl⟩
 have d2 : decide ((0 : Int) < (x.pay.length : Int)) = false := decide_eq_false (by omega);by_cases q3 : x.next.length < 1
 ·have HF := Lib.hid (show bK x = 3 by unfold bK; rw [if_pos (by omega)]);go_enter Tryz.func165, Tryz.ntmps165;go_wp2
  go_ret;exact ⟨_, rfl, (Below.refl _ _).alloc (Nat.le_refl _) _, by rw [HF.out]; rfl⟩
 have d3 : decide ((x.next.length : Int) < 1) = false := decide_eq_false (by omega);by_cases q4 : 60 < x.next.length
 ·have HF := Lib.hid (show bK x = 3 by unfold bK; rw [if_pos (by omega)]);go_enter Tryz.func165, Tryz.ntmps165;go_wp2
  go_ret;exact ⟨_, rfl, (Below.refl _ _).alloc (Nat.le_refl _) _, by rw [HF.out]; rfl⟩
 have d4 : decide ((60 : Int) < (x.next.length : Int)) = false := decide_eq_false (by omega);by_cases q5 : x.weights.length ≠ x.next.length
 ·have HF := Lib.hid (show bK x = 3 by unfold bK; rw [if_pos (by omega)]);have d5 : ((x.weights.length : Int) != (x.next.length : Int)) = true := neT (by omega);go_enter Tryz.func165, Tryz.ntmps165;go_wp2
  go_ret;exact ⟨_, rfl, (Below.refl _ _).alloc (Nat.le_refl _) _, by rw [HF.out]; rfl⟩
 have d5 : ((x.weights.length : Int) != (x.next.length : Int)) = false := neF (by omega);have HF := Lib.hid (show bK x = iP 1 1000 x.weights by unfold bK; rw [if_neg (by omega)]; rfl);clear q0 q1 q5;go_enter Tryz.func165, Tryz.ntmps165;go_wp2_with fail
 refine (oG _ F _ 1 1000 x.weights (H4.out.on (Same.alloc _ _ _)) (by omega)).mono ?_;rintro e w' ⟨v, rfl, hb, rfl⟩;dsimp only;go_wp2
 go_ret;exact ⟨_, rfl, ((Below.refl _ _).alloc (Nat.le_refl _) _).trans (hb.mono (by simp)), by rw [HF.out]; rfl⟩
theorem eP (w : World) (t : TypeId) (c : Array Value) : ∃ W : World, W = w.alloc (.cells c t) ∧ Row W w.heap.size t c.toList ∧ Below w.heap.size w W ∧ w.heap.size + 1 = W.heap.size :=
 ⟨_, rfl, Row.new w _ _, (Below.refl _ _).alloc (Nat.le_refl _) _, by simp⟩
theorem acN (ak : Int) (ni : Nat) (x : Nd) (h : ¬ (0 < x.pay.length ∨ 0 < x.weights.length ∨ x.next.length < 1 ∨ 10 < x.next.length)) :
  dB ak ni x = if iP 0 (ak - 1) [x.aG] ≠ 0 then iP 0 (ak - 1) [x.aG] else iP 0 ((ni : Int) - 1) [x.info] := by
 unfold dB iP outside;rw [if_neg h];simp only [List.any_cons, List.any_nil, Bool.or_false, Bool.or_eq_true, decide_eq_true_eq];repeat' split
 all_goals first | rfl | omega
set_option maxRecDepth 100000 in
set_option maxHeartbeats 3200000 in
theorem move_any (w : World) (F : Ac) (p : Nat) (ux : Value) (ak : Int) (ni : Nat) (x : Nd) (hw : BG w p ak ni) (hx : AL w F ux x) (hl : x.next.length < 1000000 ∧ x.weights.length < 1000000 ∧ x.pay.length < 1000000)
  (hp : 0 ≤ ak ∧ ak < 1000000) (hni : ni < 1000000) (hpl : p < w.heap.size) :
  Calls Tryz.prog 166 #[.pointer (some ⟨p, 0, none⟩), ux] w (Ret w fun v _ => v = .int .i64 (dB ak ni x)) := by
 obtain ⟨v3, v4, v5, rfl, ⟨A3, c3, rfl, hc3, h3⟩, ⟨A4, c4, rfl, hc4, h4⟩, ⟨A5, c5, rfl, hc5, h5⟩⟩ := hx;obtain ⟨hl3, hl4, hl5⟩ := hl;clear h3 h4 h5;obtain ⟨hwp, Ai, ci, hwi⟩ := hw;by_cases q0 : 0 < x.weights.length
 ·have HF := Lib.hid (show dB ak ni x = 3 by unfold dB; rw [if_pos (by omega)]);go_enter Tryz.func166, Tryz.ntmps166;go_wp2
  go_ret;exact ⟨_, rfl, (Below.refl _ _).alloc (Nat.le_refl _) _, by rw [HF.out]; rfl⟩
 have d0 : decide ((0 : Int) < (x.weights.length : Int)) = false := decide_eq_false (by omega);by_cases q1 : 0 < x.pay.length
 ·have HF := Lib.hid (show dB ak ni x = 3 by unfold dB; rw [if_pos (by omega)]);go_enter Tryz.func166, Tryz.ntmps166;go_wp2
  go_ret;exact ⟨_, rfl, (Below.refl _ _).alloc (Nat.le_refl _) _, by rw [HF.out]; rfl⟩
 have d1 : decide ((0 : Int) < (x.pay.length : Int)) = false := decide_eq_false (by omega);by_cases q2 : x.next.length < 1
 ·have HF := Lib.hid (show dB ak ni x = 3 by unfold dB; rw [if_pos (by omega)]);go_enter Tryz.func166, Tryz.ntmps166;go_wp2
  go_ret;exact ⟨_, rfl, (Below.refl _ _).alloc (Nat.le_refl _) _, by rw [HF.out]; rfl⟩
 have d2 : decide ((x.next.length : Int) < 1) = false := decide_eq_false (by omega);by_cases q3 : 10 < x.next.length
 ·have HF := Lib.hid (show dB ak ni x = 3 by unfold dB; rw [if_pos (by omega)]);go_enter Tryz.func166, Tryz.ntmps166;go_wp2
  go_ret;exact ⟨_, rfl, (Below.refl _ _).alloc (Nat.le_refl _) _, by rw [HF.out]; rfl⟩
 have d3 : decide ((10 : Int) < (x.next.length : Int)) = false := decide_eq_false (by omega);have HF := Lib.hid (acN ak ni x (by omega));go_enter Tryz.func166, Tryz.ntmps166;go_wp2_with fail
 obtain ⟨W, hW, hbx, hWb, hWz⟩ := eP w 67 #[.int .i64 x.kind, .int .i64 x.aG, .int .i64 x.info, .slice A3 x.next.length c3, .slice A4 x.weights.length c4, .slice A5 x.pay.length c5];rw [← hW];clear hW;have hold := aJ hWb;have wr1 : IntKind.i64.wrap (ak - 1) = ak - 1 := IntWalk.i64_in _ (by omega);have wr2 : IntKind.i64.wrap ((ni : Int) - 1) = (ni : Int) - 1 := IntWalk.i64_in _ (by omega);refine wp_region_held_drew (S := fun w' => w'.cell? ⟨w.heap.size, 1, none⟩ = some (.int .i64 x.aG) ∧ w'.cell? ⟨p, 0, none⟩ = some (.int .i64 ak)) (by kernel_rfl) ⟨hbx.cell rfl, (hold p 0 hpl).trans hwp⟩ (fun hHeld => ?_);refine tk0 [0,1,2,3,4,5,6,7] ?_;iterate 8 (refine tk (v := ?_) rfl (by kernel_rfl) (by kernel_rfl) (by kernel_rfl) (fun _ _ _ h => h) (Or.inl ⟨by rfl, ?_⟩) hHeld ?_;rotate_left;(focus intro wx hSx;(try dsimp only at hSx);go_split_ands;go_simp;try with_reducible rfl);try simp only [Act.put, lq1, lq2, lq3, lq4, lq5, lq6])
 refine tk1 ?_;refine tk2 8 (by kernel_rfl) rfl fun K hK => ?_
 go_simp;obtain ⟨W1, hW1, hbr, su, aed⟩ := eP W 3 #[.int .i64 x.aG];rw [← hW1];clear hW1;have dG := hbx.below su (by omega);have hB1 : Below w.heap.size w W1 := hWb.trans (su.mono (by omega));clear hbx su hWb;refine hK.out _ _ ⟨dG.drew.cell rfl, (aJ hB1.drew p 0 hpl).trans hwp⟩ (fun hHeld => ?_);clear hK K;try simp only [Act.put, lq1, lq2, lq3, lq4, lq5, lq6]
 refine tk2 9 (by kernel_rfl) rfl fun K hK => ?_
 go_simp;refine (oG _ (fun b => b = W.heap.size) _ 0 (ak - 1) [x.aG] (Row.ints (l := [x.aG]) hbr.drew (F := fun b => b = W.heap.size) rfl (c := 1) (by simp)) (by simp)).mono ?_;rintro e w1 ⟨_, rfl, hb1, rfl⟩;have hbx2 := dG.drew.below hb1 (by simp; omega);have hB2 : Below w.heap.size w w1 := hB1.drew.trans (hb1.mono (by simp; omega));clear dG hb1 hB1 hbr;dsimp only;refine hK.out _ _ ⟨hbx2.cell rfl, (aJ hB2 p 0 hpl).trans hwp⟩ (fun hHeld => ?_);clear hK K;try simp only [Act.put, lq1, lq2, lq3, lq4, lq5, lq6]
 refine tk0 [10] ?_;(refine tk (v := ?_) rfl (by kernel_rfl) (by kernel_rfl) (by kernel_rfl) (fun _ _ _ h => h) (Or.inl ⟨by rfl, ?_⟩) hHeld ?_;rotate_left;(focus intro wx hSx;(try dsimp only at hSx);go_split_ands;go_simp;try with_reducible rfl);try simp only [Act.put, lq1, lq2, lq3, lq4, lq5, lq6])
 refine tk1 ?_;refine wpAnyH_done (by kernel_rfl) ?_ _;have hx1 := hbx2.lt;generalize iP 0 (ak - 1) [x.aG] = er at *;by_cases he : er = 0
 ·subst he;have HF2 := Lib.hid (show dB ak ni x = iP 0 ((ni : Int) - 1) [x.info] by rw [HF.out]; simp);go_wp2_with fail
  refine wp_region_held_drew (S := fun w' => w'.cell? ⟨w.heap.size, 2, none⟩ = some (.int .i64 x.info) ∧ w'.cell? ⟨p, 2, none⟩ = some (.slice Ai ni ci)) (by kernel_rfl) ⟨hbx2.cell rfl, (aJ hB2 p 2 hpl).trans hwi⟩ (fun hHeld => ?_);refine tk0 [0,1,2,3,4,5,6,7,8] ?_;iterate 9 (refine tk (v := ?_) rfl (by kernel_rfl) (by kernel_rfl) (by kernel_rfl) (fun _ _ _ h => h) (Or.inl ⟨by rfl, ?_⟩) hHeld ?_;rotate_left;(focus intro wx hSx;(try dsimp only at hSx);go_split_ands;go_simp;try with_reducible rfl);try simp only [Act.put, lq1, lq2, lq3, lq4, lq5, lq6])
  refine tk1 ?_;refine tk2 9 (by kernel_rfl) rfl fun K hK => ?_
  go_simp;obtain ⟨W3, hW3, hbr, ahh, hW3z⟩ := eP w1 3 #[.int .i64 x.info];rw [← hW3];clear hW3;have eH := hbx2.below ahh (by omega);have hB3 : Below w.heap.size w W3 := hB2.trans (ahh.mono (by omega));clear hbx2 ahh hB2;refine hK.out _ _ ⟨eH.drew.cell rfl, (aJ hB3.drew p 2 hpl).trans hwi⟩ (fun hHeld => ?_);clear hK K;try simp only [Act.put, lq1, lq2, lq3, lq4, lq5, lq6]
  refine tk2 10 (by kernel_rfl) rfl fun K hK => ?_
  go_simp;refine (oG _ (fun b => b = w1.heap.size) _ 0 ((ni : Int) - 1) [x.info] (Row.ints (l := [x.info]) hbr.drew (F := fun b => b = w1.heap.size) rfl (c := 1) (by simp)) (by simp)).mono ?_;rintro e w2 ⟨_, rfl, hb2, rfl⟩;have fG := eH.drew.below hb2 (by simp; omega);have hB4 : Below w.heap.size w w2 := hB3.drew.trans (hb2.mono (by simp; omega));clear eH hb2 hB3 hbr;dsimp only;refine hK.out _ _ ⟨fG.cell rfl, (aJ hB4 p 2 hpl).trans hwi⟩ (fun hHeld => ?_);clear hK K;try simp only [Act.put, lq1, lq2, lq3, lq4, lq5, lq6]
  refine tk0 [11] ?_;(refine tk (v := ?_) rfl (by kernel_rfl) (by kernel_rfl) (by kernel_rfl) (fun _ _ _ h => h) (Or.inl ⟨by rfl, ?_⟩) hHeld ?_;rotate_left;(focus intro wx hSx;(try dsimp only at hSx);go_split_ands;go_simp;try with_reducible rfl);try simp only [Act.put, lq1, lq2, lq3, lq4, lq5, lq6])
  refine tk1 ?_;refine wpAnyH_done (by kernel_rfl) ?_ _;go_wp2
  go_ret;exact ⟨_, rfl, hB4, by rw [HF2.out]; rfl⟩
 ·have hd : (er != 0) = true := by simp [he]
  have HF2 := Lib.hid (show dB ak ni x = er by rw [HF.out]; simp [he]);clear he;go_wp2
  go_ret;exact ⟨_, rfl, hB2, by rw [HF2.out]; rfl⟩
set_option maxRecDepth 100000 in
set_option maxHeartbeats 3200000 in
theorem agu (w : World) (F : Ac) (p : Nat) (ux : Value) (ak : Int) (ni : Nat) (x : Nd) (hw : BG w p ak ni) (hx : AL w F ux x) (hl : x.next.length < 1000000 ∧ x.weights.length < 1000000 ∧ x.pay.length < 1000000) (hpl : p < w.heap.size) :
  Calls Tryz.prog 167 #[.pointer (some ⟨p, 0, none⟩), ux] w (Ret w fun v _ => v = .int .i64 (gy ak x)) := by
 obtain ⟨v3, v4, v5, rfl, ⟨A3, c3, rfl, hc3, h3⟩, ⟨A4, c4, rfl, hc4, h4⟩, ⟨A5, c5, rfl, hc5, h5⟩⟩ := hx;obtain ⟨hl3, hl4, hl5⟩ := hl;have H5 := Lib.hid (show Aw w F (.slice A5 x.pay.length c5) x.pay from ⟨A5, c5, rfl, hc5, h5⟩);clear h3 h4 h5;obtain ⟨hwp, Ai, ci, hwi⟩ := hw;by_cases q0 : x.aG ≠ 0
 ·have HF := Lib.hid (show gy ak x = 3 by unfold gy; rw [if_pos (by omega)]);have d0 : (x.aG != 0) = true := neT (by omega);go_enter Tryz.func167, Tryz.ntmps167;go_wp2
  go_quiet (fail)
  go_wp2
  go_ret;exact ⟨_, rfl, aB ((Below.refl _ _).alloc (Nat.le_refl _) _) _, by rw [HF.out]; rfl⟩
 have d0 : (x.aG != 0) = false := neF (by omega);by_cases q1 : x.info ≠ 0
 ·have HF := Lib.hid (show gy ak x = 3 by unfold gy; rw [if_pos (by omega)]);have d1 : (x.info != 0) = true := neT (by omega);go_enter Tryz.func167, Tryz.ntmps167;go_wp2
  go_quiet (fail)
  go_wp2
  go_ret;exact ⟨_, rfl, aB ((Below.refl _ _).alloc (Nat.le_refl _) _) _, by rw [HF.out]; rfl⟩
 have d1 : (x.info != 0) = false := neF (by omega);by_cases q2 : 0 < x.next.length
 ·have HF := Lib.hid (show gy ak x = 3 by unfold gy; rw [if_pos (by omega)]);have d2 : decide ((0 : Int) < (x.next.length : Int)) = true := decide_eq_true (by omega);go_enter Tryz.func167, Tryz.ntmps167;go_wp2
  go_quiet (fail)
  go_wp2
  go_ret;exact ⟨_, rfl, aB ((Below.refl _ _).alloc (Nat.le_refl _) _) _, by rw [HF.out]; rfl⟩
 have d2 : decide ((0 : Int) < (x.next.length : Int)) = false := decide_eq_false (by omega);by_cases q3 : 0 < x.weights.length
 ·have HF := Lib.hid (show gy ak x = 3 by unfold gy; rw [if_pos (by omega)]);have d3 : decide ((0 : Int) < (x.weights.length : Int)) = true := decide_eq_true (by omega);go_enter Tryz.func167, Tryz.ntmps167;go_wp2
  go_quiet (fail)
  go_wp2
  go_ret;exact ⟨_, rfl, aB ((Below.refl _ _).alloc (Nat.le_refl _) _) _, by rw [HF.out]; rfl⟩
 have d3 : decide ((0 : Int) < (x.weights.length : Int)) = false := decide_eq_false (by omega);by_cases q4 : (x.pay.length : Int) ≠ ak
 ·have HF := Lib.hid (show gy ak x = 3 by unfold gy; rw [if_pos (by omega)]);have d4 : ((x.pay.length : Int) != ak) = true := neT (by omega);go_enter Tryz.func167, Tryz.ntmps167;go_wp2
  go_quiet (fail)
  go_wp2
  go_ret;exact ⟨_, rfl, aB ((Below.refl _ _).alloc (Nat.le_refl _) _) _, by rw [HF.out]; rfl⟩
 have d4 : ((x.pay.length : Int) != ak) = false := neF (by omega);have HF := Lib.hid (show gy ak x = iP (-1000000) 1000000 x.pay by unfold gy; rw [if_neg (by omega)]; rfl);clear q0 q1 q4;go_enter Tryz.func167, Tryz.ntmps167;go_wp2
 go_quiet (fail)
 go_wp2_with fail
 refine (oG _ F _ (-1000000) 1000000 x.pay ((H5.out.on (Same.alloc _ _ _)).on (Same.drewN _ _ _)) (by omega)).mono ?_;rintro e w' ⟨v, rfl, hb, rfl⟩;dsimp only;go_wp2
 go_ret;exact ⟨_, rfl, (aB ((Below.refl _ _).alloc (Nat.le_refl _) _) _).trans (hb.mono (by simp)), by rw [HF.out]; rfl⟩
def fD : List Int → Bool
 | a :: b :: r => decide (a ≤ b) && fD (b :: r)
 | _ => true
theorem oQ : ∀ (l : List Int) (k : Nat), fD l = true → fD (l.drop k) = true
 | l, 0, h => h
 | [], k + 1, h => by simp [fD]
 | [a], k + 1, h => by simp [fD]
 | a :: b :: r, k + 1, h => by
  simp only [fD, Bool.and_eq_true] at h;simp only [List.drop_succ_cons];exact oQ (b :: r) k h.2
theorem tH {l : List Int} {k : Nat} {x y : Int} (hx : l[k]? = some x) (hy : l[k + 1]? = some y) : fD (l.drop k) = (decide (x ≤ y) && fD (l.drop (k + 1))) := by
 have h1 := aH hx;have h2 := aH hy;have e1 : l[k] = x := by simpa [h1] using hx
 have e2 : l[k + 1] = y := by simpa [h2] using hy
 rw [List.drop_eq_getElem_cons h1, List.drop_eq_getElem_cons h2, e1, e2];rfl
theorem abI (l : List Int) : fD l = true ↔ ∀ k x y, l[k]? = some x → l[k + 1]? = some y → x ≤ y := by
 constructor
 ·intro h k x y hx hy;have := oQ l k h;rw [tH hx hy] at this;simp at this; exact this.1
 ·induction l with
  | nil => intro _; rfl
  | cons a r ih => match r with
   | [] => intro _; rfl
   | b :: r => intro h; simp only [fD, Bool.and_eq_true, decide_eq_true_eq]; exact ⟨h 0 a b rfl rfl, ih (fun k x y hx hy => h (k + 1) x y (by simpa using hx) (by simpa using hy))⟩
set_option maxRecDepth 100000 in
set_option maxHeartbeats 1600000 in
theorem aaC (w : World) (F : Ac) (v : Value) (l : List Int) (hv : Aw w F v l) (hl : l.length ≤ 1000000) :
  Calls Tryz.prog 169 #[v] w (Ret w fun v _ => v = .bool (fD l)) := by
 obtain ⟨A, c, rfl, hc, hN⟩ := hv;have HN := Lib.hid hN; clear hN;go_enter Tryz.func169, Tryz.ntmps169;go_wp2
 go_loopw [3] (fun i wr => ∃ k : Nat, k ≤ l.length ∧ i = .int .i64 ((k : Int) - 1) ∧ fD (l.drop (k - 1)) = true ∧ ∃ n, wr = w.drewN n) (fun i _ => (intOf i + 1).toNat)
 case atStart => exact ⟨l.length, by omega, rfl, by cases h : l.length with | zero => simp [List.length_eq_zero_iff.1 h, fD] | succ m => (have hm : m < l.length := by omega); simp [List.drop_eq_getElem_cons hm, List.drop_eq_nil_of_le (show l.length ≤ m + 1 by omega), fD], 0, rfl⟩
 case round =>
  obtain ⟨k, hk, rfl, hp, nn, rfl⟩ := hrel;have HP := Lib.hid hp; clear hp;by_cases hlt : 2 ≤ k
  ·obtain ⟨b, o, rfl, _, hb, hx⟩ := HN.out (by omega);obtain ⟨q, rfl⟩ : ∃ q, k = q + 2 := ⟨k - 2, by omega⟩;obtain ⟨p, hpq⟩ : ∃ p, p = q + 1 := ⟨_, rfl⟩;have hpl : p < l.length := by omega
   have hql : q < l.length := by omega
   obtain ⟨x, hx'⟩ := aA (l := l) (k := q) (by omega);obtain ⟨y, hy'⟩ := aA (l := l) (k := p) (by omega);have ex := hx q x hx';have ey := hx p y hy';unfold jE at ex ey; rw [Nat.mul_one] at ex ey;have HS := Lib.hid (tH hx' (by rw [← hpq]; exact hy'));clear hx hx' hy';have i1 : (((q + 2 : Nat) : Int) - 1) = (p : Int) := by omega
   have i2 : ((p : Int) - 1) = (q : Int) := by omega
   have wr2 : IntKind.i64.wrap (q : Int) = (q : Int) := IntWalk.i64_in _ (by omega);have hp0 : (0 : Int) < (p : Int) := by omega
   rw [i1];have HPQ := Lib.hid hpq; clear hpq i1;go_wp2_with fail
   refine wp_region_held_drew (S := fun w' => w'.cell? ⟨b, o + q, none⟩ = some (.int .i64 x) ∧ w'.cell? ⟨b, o + p, none⟩ = some (.int .i64 y)) (by kernel_rfl) ⟨ex, ey⟩ (fun hHeld => ?_);refine tk0 [0,1,2,3,4,5,6,7,8] ?_;iterate 9 (refine tk (v := ?_) rfl (by kernel_rfl) (by kernel_rfl) (by kernel_rfl) (fun _ _ _ h => h) (Or.inl ⟨by rfl, ?_⟩) hHeld ?_;rotate_left;(focus intro wx hSx;(try dsimp only at hSx);go_split_ands;go_simp;try with_reducible rfl);try simp only [Act.put, lq1, lq2, lq3, lq4, lq5, lq6])
   refine tk1 ?_;refine tk2 9 (by kernel_rfl) rfl fun K hK => ?_
   go_simp;refine (ae1 _ y x).mono ?_;rintro e w1 ⟨rfl, rfl⟩;dsimp only;refine hK.out _ _ ⟨ex, ey⟩ (fun hHeld => ?_);clear hK K;try simp only [Act.put, lq1, lq2, lq3, lq4, lq5, lq6]
   refine wpAnyH_done (by kernel_rfl) ?_ _;clear hHeld ex ey;by_cases hyx : y < x
   ·have HF := Lib.hid (show fD l = false by
     cases h : fD l with
     | false => rfl
     | true => have := oQ l q h; rw [HS.out] at this; simp at this; omega)
    go_wp2
    go_ret;exact ⟨_, rfl, aB (Below.refl _ _) _, by first | rfl | (rw [HF.out]; rfl)⟩
   ·have hd : decide (y < x) = false := decide_eq_false hyx;go_wp2
    go_roundw
    case rel =>
     have e := HPQ.out;refine ⟨q + 1, by omega, by first | rfl | (congr 1; omega), ?_, _, rfl⟩;have := HP.out;rw [Nat.add_sub_cancel, HS.out];simp only [Bool.and_eq_true, decide_eq_true_eq];exact ⟨by omega, this⟩
    case measure => simp [intOf]; omega
  ·go_wp2
   go_ret;refine ⟨_, rfl, aB (Below.refl _ _) _, ?_⟩;have := HP.out;rw [show k - 1 = 0 by omega] at this;simp at this;rw [this]; rfl
end Go.Proofs.YtkcheepafifjaaaGreatDoor

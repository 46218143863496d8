/- The ahC game and strategy: what it is worth. -/
import Derived.Test.YtkcheepafifjaaaGreatDoorS27
import Derived.Test.YtkcheepafifjaaaGreatDoorS05
import Derived.Test.YtkcheepafifjaaaGreatDoorS43
import Derived.Test.YtkcheepafifjaaaGreatDoorS23
set_option linter.all false
namespace Go.Proofs.YtkcheepafifjaaaGreatDoor
open Go.RowKit
def zX : List (List Raw) := [[⟨false, [1], [2]⟩, ⟨false, [1], [2]⟩], [⟨false, [1], [2]⟩, ⟨false, [1], [2]⟩], [⟨false, [1], [3]⟩, ⟨false, [1], [3]⟩, ⟨false, [1], [3]⟩]]
theorem afT : au (mkRat 1 2) = ⟨false, [1], [2]⟩ := by
 have h := ny false 1 2 (by decide);rw [show Nat.gcd 1 2 = 1 by decide, Nat.div_one, Nat.div_one, gJ, iV (n := 2) (by decide) (by decide)] at h;exact h
theorem aeI : au (mkRat 1 3) = ⟨false, [1], [3]⟩ := by
 have h := ny false 1 3 (by decide);rw [show Nat.gcd 1 3 = 1 by decide, Nat.div_one, Nat.div_one, gJ, iV (n := 3) (by decide) (by decide)] at h;exact h
theorem qN : oW.map (List.map au) = zX := by
 unfold oW zX;simp only [List.map_cons, List.map_nil, afT, aeI]
theorem sF : bn kZ zX = 0 := by decide +kernel
theorem adf : Ci zX := by
 intro l hl r hr;unfold zX at hl;simp only [List.mem_cons, List.not_mem_nil, or_false] at hl;rcases hl with rfl | rfl | rfl <;> (simp only [List.mem_cons, List.not_mem_nil, or_false] at hr; rcases hr with rfl | rfl | rfl <;> decide)
theorem abY : ∀ {a b : List (List Rat)}, a.map (List.map au) = b.map (List.map au) → a = b
 | [], [], _ => rfl
 | [], _ :: _, h => by cases h
 | _ :: _, [], h => by cases h
 | x :: a, y :: b, h => by
  rw [List.map_cons, List.map_cons, List.cons.injEq] at h;rw [xw h.1, abY h.2]
theorem ug : Fit kZ oW := by
 obtain ⟨m, h, hf, _⟩ := afF sF adf;have e : m = oW := abY (by rw [← h, qN]);rw [← e]; exact hf
theorem sG : eY kZ oW 0 = [5, -5].map fun x => mkRat x 6 := by decide +kernel
theorem sH : gG gB kZ oW = [12, 6, 6, 3, 3, 1, 1, 1].map fun x => mkRat x 12 := by decide +kernel
theorem uh {xs : List Rat} (h : ∀ x ∈ xs, rl x ≤ 1024) : lq xs = 0 := by
 unfold lq;rw [if_neg];simp only [List.any_eq_true, not_exists, not_and, decide_eq_true_eq];intro x hx;have := h x hx; omega
theorem qw {xs : List Rat} (h : ∀ x ∈ xs, rl x ≤ 1024) (hl : xs.length ≤ 1000) : AY (xs.map au) := by
 refine ⟨by rw [List.length_map]; omega, fun r hr => ?_⟩;obtain ⟨x, hx, rfl⟩ := List.mem_map.1 hr;have := h x hx;unfold rl at this;show (dig x.num.natAbs).length ≤ 500000 ∧ (dig x.den).length ≤ 500000;omega
theorem zY : AA (oW.map (List.map au)) := by
 rw [qN];intro l hl;unfold zX at hl;simp only [List.mem_cons, List.not_mem_nil, or_false] at hl;rcases hl with rfl | rfl | rfl
 all_goals
  refine ⟨by decide, fun r hr => ?_⟩;simp only [List.mem_cons, List.not_mem_nil, or_false] at hr;rcases hr with rfl | rfl | rfl
 all_goals exact ⟨by unfold U32; decide, by decide, by decide⟩
theorem vX : Small kZ := ⟨by decide, by decide, by decide, by decide, by decide⟩
theorem uj : ∀ x ∈ [5, -5].map (fun x : Int => mkRat x 6), rl x ≤ 1024 := by
 rw [← sG];intro x hx;have h := ug.acL (i := 0) (by decide) x hx;have e : kZ.nodes.length = 8 := rfl;omega
theorem um : ∀ x ∈ [12, 6, 6, 3, 3, 1, 1, 1].map (fun x : Int => mkRat x 12), rl x ≤ 1024 := by
 rw [← sH];intro x hx;have h := kM ug kN x hx;have e : kZ.nodes.length = 8 := rfl;omega
theorem abZ (w : World) (F : Ac) (vg vm : Value) (hg : Aj w F vg kZ) (hm : AB w F vm oW) (hT : AO w) :
  Calls Tryz.prog 22 #[vg, vm] w (Ret w fun u w' => ∃ t, u = .tuple #[t, .int .i64 0] ∧ Bl w' (Ext F w.heap.size) t ([5, -5].map fun x => mkRat x 6)) := by
 refine (aeH w F vg vm kZ oW hg vX hm hT (by decide) zY (by rw [qN]; exact sF) ug).mono ?_;rintro e w' ⟨u, rfl, hb, t, rfl, ht⟩;rw [sG] at ht;rw [sG, uh uj];refine ⟨_, rfl, hb, t, rfl, ?_⟩;unfold fitsV at ht;rw [uh uj] at ht;exact ht
theorem ab1 (w : World) (F : Ac) (vg vm : Value) (hg : Aj w F vg kZ) (hm : AB w F vm oW) (hT : AO w) :
  Calls Tryz.prog 11 #[vg, vm] w (Ret w fun u w' => ∃ t, u = .tuple #[t, .int .i64 0] ∧ Bl w' (Ext F w.heap.size) t ([12, 6, 6, 3, 3, 1, 1, 1].map fun x => mkRat x 12)) := by
 refine (uX w F vg vm kZ oW hg vX hm hT (by decide) zY (by rw [qN]; exact sF) ug).mono ?_;rintro e w' ⟨u, rfl, hb, t, rfl, ht⟩;rw [sH] at ht;rw [sH, uh um];refine ⟨_, rfl, hb, t, rfl, ?_⟩;unfold fitsV at ht;rw [uh um] at ht;exact ht
set_option maxRecDepth 100000 in
set_option maxHeartbeats 3200000 in
theorem vY (w : World) (hT : AO w) : Calls Tryz.prog 10 #[] w (Ret w fun v _ => v = .bool true) := by
 have HT := Lib.hid hT;clear hT;go_enter Tryz.func10, Tryz.ntmps10;have hB := Below.refl w.heap.size w;go_wp2_with fail
 refine (xq w).mono ?_;rintro e w1 ⟨vg1, rfl, hb, hu⟩;replace HT := Lib.hid (HT.out.on hb);replace hB := hB.trans (hb.mono hB.size);have hz1 := hB.size;have G1 := Lib.hid (hu.keep (G := (fun b => w.heap.size ≤ b)) (fun b hb _ => by omega) (Same.refl _ _));clear hu;clear hb;dsimp only;go_wp2_with fail
 refine (abC w1).mono ?_;rintro e w2 ⟨vm2, rfl, hb, hu⟩;replace G1 := Lib.hid (G1.out.on (Below.same' hb _));replace HT := Lib.hid (HT.out.on hb);replace hB := hB.trans (hb.mono hB.size);have hz2 := hB.size;have M2 := Lib.hid (Ae.keep (G := (fun b => w.heap.size ≤ b)) hu (fun b hb _ => by omega) (Same.refl _ _));clear hu;clear hb;dsimp only;go_wp2_with fail
 refine (abZ w2 (fun b => w.heap.size ≤ b) _ _ G1.out M2.out HT.out).mono ?_;rintro e w3 ⟨u, rfl, hb, t3, rfl, hu⟩;replace G1 := Lib.hid (G1.out.on (Below.same' hb _));replace M2 := Lib.hid (Ae.on M2.out (Below.same' hb _));replace HT := Lib.hid (HT.out.on hb);replace hB := hB.trans (hb.mono hB.size);have hz3 := hB.size;have R3 := Lib.hid (Ag.keep (G := (fun b => w.heap.size ≤ b)) hu (fun b hb _ => hb.elim id fun h => by omega) (Same.refl _ _));clear hu G1 M2;clear hb;dsimp only;go_wp2_with fail
 refine (xq w3).mono ?_;rintro e w4 ⟨vg4, rfl, hb, hu⟩;replace R3 := Lib.hid (Ag.on R3.out (Below.same' hb _));replace HT := Lib.hid (HT.out.on hb);replace hB := hB.trans (hb.mono hB.size);have hz4 := hB.size;have G4 := Lib.hid (hu.keep (G := (fun b => w.heap.size ≤ b)) (fun b hb _ => by omega) (Same.refl _ _));clear hu;clear hb;dsimp only;go_wp2_with fail
 refine (abC w4).mono ?_;rintro e w5 ⟨vm5, rfl, hb, hu⟩;replace R3 := Lib.hid (Ag.on R3.out (Below.same' hb _));replace G4 := Lib.hid (G4.out.on (Below.same' hb _));replace HT := Lib.hid (HT.out.on hb);replace hB := hB.trans (hb.mono hB.size);have hz5 := hB.size;have M5 := Lib.hid (Ae.keep (G := (fun b => w.heap.size ≤ b)) hu (fun b hb _ => by omega) (Same.refl _ _));clear hu;clear hb;dsimp only;go_wp2_with fail
 refine (ab1 w5 (fun b => w.heap.size ≤ b) _ _ G4.out M5.out HT.out).mono ?_;rintro e w6 ⟨u, rfl, hb, t6, rfl, hu⟩;replace R3 := Lib.hid (Ag.on R3.out (Below.same' hb _));replace G4 := Lib.hid (G4.out.on (Below.same' hb _));replace M5 := Lib.hid (Ae.on M5.out (Below.same' hb _));replace HT := Lib.hid (HT.out.on hb);replace hB := hB.trans (hb.mono hB.size);have hz6 := hB.size;have R6 := Lib.hid (Ag.keep (G := (fun b => w.heap.size ≤ b)) hu (fun b hb _ => hb.elim id fun h => by omega) (Same.refl _ _));clear hu G4 M5;clear hb;dsimp only;have rr := R3.out; have r6 := R6.out;obtain ⟨Aa, ca, rfl, _, _⟩ := rr;obtain ⟨Ab, cb, rfl, _, _⟩ := r6;go_wp2_with fail
 obtain ⟨wa7, hwa, hr, hb, hz'⟩ := aC w6 3 #[.int .i64 5, .int .i64 (-5)];rw [← hwa];have hi := Row.xY (l := [5, -5]) (F := fun _ => True) hr trivial;clear hwa hr hz';replace R3 := Lib.hid (Ag.on R3.out (Below.same' hb _));replace R6 := Lib.hid (Ag.on R6.out (Below.same' hb _));replace hB := hB.trans (hb.mono hB.size);have hza7 := hB.size;clear hb;refine (kX wa7 _ _ [5, -5] 6 hi (by decide) (by decide) (by decide) (by decide)).mono ?_;rintro e wb7 ⟨v7, rfl, hb, hu⟩;replace R3 := Lib.hid (Ag.on R3.out (Below.same' hb _));replace R6 := Lib.hid (Ag.on R6.out (Below.same' hb _));replace hB := hB.trans (hb.mono hB.size);have hzb7 := hB.size;have HU7 := Lib.hid (Ag.keep (G := (fun b => w.heap.size ≤ b)) hu (fun b hb _ => by omega) (Same.refl _ _));clear hu hb hi;dsimp only;go_wp2_with fail
 refine (kW wb7 (fun b => w.heap.size ≤ b) _ _ _ _ R3.out HU7.out (qw uj (by decide)) (qw uj (by decide))).mono ?_;rintro e wc7 ⟨u, rfl, hb, rfl⟩;rw [decide_eq_true rfl];replace R3 := Lib.hid (Ag.on R3.out (Below.same' hb _));replace R6 := Lib.hid (Ag.on R6.out (Below.same' hb _));replace hB := hB.trans (hb.mono hB.size);have hzc7 := hB.size;clear hb HU7;dsimp only;go_wp2_with fail
 obtain ⟨wa8, hwa, hr, hb, hz'⟩ := aC wc7 3 #[.int .i64 12, .int .i64 6, .int .i64 6, .int .i64 3, .int .i64 3, .int .i64 1, .int .i64 1, .int .i64 1];rw [← hwa];have hi := Row.xY (l := [12, 6, 6, 3, 3, 1, 1, 1]) (F := fun _ => True) hr trivial;clear hwa hr hz';replace R3 := Lib.hid (Ag.on R3.out (Below.same' hb _));replace R6 := Lib.hid (Ag.on R6.out (Below.same' hb _));replace hB := hB.trans (hb.mono hB.size);have hza8 := hB.size;clear hb;refine (kX wa8 _ _ [12, 6, 6, 3, 3, 1, 1, 1] 12 hi (by decide) (by decide) (by decide) (by decide)).mono ?_;rintro e wb8 ⟨v8, rfl, hb, hu⟩;replace R3 := Lib.hid (Ag.on R3.out (Below.same' hb _));replace R6 := Lib.hid (Ag.on R6.out (Below.same' hb _));replace hB := hB.trans (hb.mono hB.size);have hzb8 := hB.size;have HU8 := Lib.hid (Ag.keep (G := (fun b => w.heap.size ≤ b)) hu (fun b hb _ => by omega) (Same.refl _ _));clear hu hb hi;dsimp only;go_wp2_with fail
 refine (kW wb8 (fun b => w.heap.size ≤ b) _ _ _ _ R6.out HU8.out (qw um (by decide)) (qw um (by decide))).mono ?_;rintro e wc8 ⟨u, rfl, hb, rfl⟩;rw [decide_eq_true rfl];replace R3 := Lib.hid (Ag.on R3.out (Below.same' hb _));replace R6 := Lib.hid (Ag.on R6.out (Below.same' hb _));replace hB := hB.trans (hb.mono hB.size);have hzc8 := hB.size;clear hb HU8;dsimp only;go_wp2; go_ret
 exact ⟨_, rfl, hB, rfl⟩
end Go.Proofs.YtkcheepafifjaaaGreatDoor

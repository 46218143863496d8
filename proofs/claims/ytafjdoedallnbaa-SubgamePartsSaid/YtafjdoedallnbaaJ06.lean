/- The two games of the examples: parlourkit.Shown, parlourlaw26.pennies. -/
import Derived.Test.YtafjdoedallnbaaJ03
namespace Go.Proofs.Ytafjdoedallnbaa
open Go.RowKit
theorem Row.atNew {A : World} {t : TypeId} {c : Array Value} {cs : List Value} {b : Nat} (hb : A.heap.size = b) (hc : c.toList = cs) : Row (A.alloc (.cells c t)) b t cs := by
 subst hb hc; exact Row.new A t c
def shownG : Gm := ⟨2, [⟨2, 0, 0, [1, 2], [], []⟩, ⟨3, 0, 0, [], [], [1, -1]⟩, ⟨2, 1, 1, [3, 4], [], []⟩, ⟨3, 0, 0, [], [], [0, 0]⟩, ⟨2, 0, 2, [5, 6, 7], [], []⟩, ⟨3, 0, 0, [], [], [2, -2]⟩, ⟨3, 0, 0, [], [], [-1, 1]⟩, ⟨3, 0, 0, [], [], [3, -3]⟩], [⟨0, 2⟩, ⟨1, 2⟩, ⟨0, 3⟩]⟩
def shownGRows (w : World) : List NV := [⟨⟨2, 0, 0, [1, 2], [], []⟩, .slice (some ⟨w.heap.size + 2, 0, none⟩) 2 2, .slice none 0 0, .slice none 0 0⟩, ⟨⟨3, 0, 0, [], [], [1, -1]⟩, .slice none 0 0, .slice none 0 0, .slice (some ⟨w.heap.size + 3, 0, none⟩) 2 2⟩, ⟨⟨2, 1, 1, [3, 4], [], []⟩, .slice (some ⟨w.heap.size + 4, 0, none⟩) 2 2, .slice none 0 0, .slice none 0 0⟩, ⟨⟨3, 0, 0, [], [], [0, 0]⟩, .slice none 0 0, .slice none 0 0, .slice (some ⟨w.heap.size + 5, 0, none⟩) 2 2⟩, ⟨⟨2, 0, 2, [5, 6, 7], [], []⟩, .slice (some ⟨w.heap.size + 6, 0, none⟩) 3 3, .slice none 0 0, .slice none 0 0⟩, ⟨⟨3, 0, 0, [], [], [2, -2]⟩, .slice none 0 0, .slice none 0 0, .slice (some ⟨w.heap.size + 7, 0, none⟩) 2 2⟩, ⟨⟨3, 0, 0, [], [], [-1, 1]⟩, .slice none 0 0, .slice none 0 0, .slice (some ⟨w.heap.size + 8, 0, none⟩) 2 2⟩, ⟨⟨3, 0, 0, [], [], [3, -3]⟩, .slice none 0 0, .slice none 0 0, .slice (some ⟨w.heap.size + 9, 0, none⟩) 2 2⟩]
set_option maxRecDepth 100000 in
set_option maxHeartbeats 3200000 in
theorem shownG_any (w : World) : Calls Try.prog 20 #[] w (Ret w fun v w' => GameAt w' (fun b => w.heap.size ≤ b) v shownG) := by
 go_enter Try.func20, Try.ntmps20
 go_wp2
 refine bodyPost_ret (v := .agg #[.int .i64 2, .slice (some ⟨w.heap.size + 10, 0, none⟩) 8 8, .slice (some ⟨w.heap.size + 1, 0, none⟩) 3 3]) (by simp [results, Try.results20, go_sem]) rfl ?_
 generalize hW : World.alloc _ _ = W
 have hB : Below w.heap.size w W := by rw [← hW]; repeat (first | exact Below.refl _ _ | refine Below.alloc ?_ (by simp <;> omega) _)
 have r1 : Row W (w.heap.size + 1) 65 [Value.int .i64 0, Value.int .i64 2, Value.int .i64 1, Value.int .i64 2, Value.int .i64 0, Value.int .i64 3] := by
  rw [← hW]
  refine Row.alloc ?_ _
  refine Row.alloc ?_ _
  refine Row.alloc ?_ _
  refine Row.alloc ?_ _
  refine Row.alloc ?_ _
  refine Row.alloc ?_ _
  refine Row.alloc ?_ _
  refine Row.alloc ?_ _
  refine Row.alloc ?_ _
  exact Row.atNew (by simp) rfl
 have r2 : Row W (w.heap.size + 2) 3 [Value.int .i64 1, Value.int .i64 2] := by
  rw [← hW]
  refine Row.alloc ?_ _
  refine Row.alloc ?_ _
  refine Row.alloc ?_ _
  refine Row.alloc ?_ _
  refine Row.alloc ?_ _
  refine Row.alloc ?_ _
  refine Row.alloc ?_ _
  refine Row.alloc ?_ _
  exact Row.atNew (by simp) rfl
 have r3 : Row W (w.heap.size + 3) 3 [Value.int .i64 1, Value.int .i64 (-1)] := by
  rw [← hW]
  refine Row.alloc ?_ _
  refine Row.alloc ?_ _
  refine Row.alloc ?_ _
  refine Row.alloc ?_ _
  refine Row.alloc ?_ _
  refine Row.alloc ?_ _
  refine Row.alloc ?_ _
  exact Row.atNew (by simp) rfl
 have r4 : Row W (w.heap.size + 4) 3 [Value.int .i64 3, Value.int .i64 4] := by
  rw [← hW]
  refine Row.alloc ?_ _
  refine Row.alloc ?_ _
  refine Row.alloc ?_ _
  refine Row.alloc ?_ _
  refine Row.alloc ?_ _
  refine Row.alloc ?_ _
  exact Row.atNew (by simp) rfl
 have r5 : Row W (w.heap.size + 5) 3 [Value.int .i64 0, Value.int .i64 0] := by
  rw [← hW]
  refine Row.alloc ?_ _
  refine Row.alloc ?_ _
  refine Row.alloc ?_ _
  refine Row.alloc ?_ _
  refine Row.alloc ?_ _
  exact Row.atNew (by simp) rfl
 have r6 : Row W (w.heap.size + 6) 3 [Value.int .i64 5, Value.int .i64 6, Value.int .i64 7] := by
  rw [← hW]
  refine Row.alloc ?_ _
  refine Row.alloc ?_ _
  refine Row.alloc ?_ _
  refine Row.alloc ?_ _
  exact Row.atNew (by simp) rfl
 have r7 : Row W (w.heap.size + 7) 3 [Value.int .i64 2, Value.int .i64 (-2)] := by
  rw [← hW]
  refine Row.alloc ?_ _
  refine Row.alloc ?_ _
  refine Row.alloc ?_ _
  exact Row.atNew (by simp) rfl
 have r8 : Row W (w.heap.size + 8) 3 [Value.int .i64 (-1), Value.int .i64 1] := by
  rw [← hW]
  refine Row.alloc ?_ _
  refine Row.alloc ?_ _
  exact Row.atNew (by simp) rfl
 have r9 : Row W (w.heap.size + 9) 3 [Value.int .i64 3, Value.int .i64 (-3)] := by
  rw [← hW]
  refine Row.alloc ?_ _
  exact Row.atNew (by simp) rfl
 have rn : Row W (w.heap.size + 10) 45 ((shownGRows w).flatMap NV.cells) := by
  rw [← hW]
  exact Row.atNew (by simp) rfl
 clear hW
 refine ⟨_, rfl, hB, _, _, rfl, ?_, ?_⟩
 ·refine (Row.lies rn).nodes (F := fun b => w.heap.size ≤ b) (c := 8) (by omega) ?_ (by simp [shownGRows])
  intro q hq
  simp only [shownGRows, List.mem_cons, List.not_mem_nil, or_false] at hq
  have nil : IntsAt W (fun b => w.heap.size ≤ b) (.slice none 0 0) [] := ⟨none, 0, rfl, Nat.le_refl _, fun h => absurd h (by simp)⟩
  rcases hq with rfl | rfl | rfl | rfl | rfl | rfl | rfl | rfl
  ·exact ⟨Row.ints (l := [1, 2]) (F := fun b => w.heap.size ≤ b) r2 (by omega) (c := 2) (by simp), nil, nil⟩
  ·exact ⟨nil, nil, Row.ints (l := [1, -1]) (F := fun b => w.heap.size ≤ b) r3 (by omega) (c := 2) (by simp)⟩
  ·exact ⟨Row.ints (l := [3, 4]) (F := fun b => w.heap.size ≤ b) r4 (by omega) (c := 2) (by simp), nil, nil⟩
  ·exact ⟨nil, nil, Row.ints (l := [0, 0]) (F := fun b => w.heap.size ≤ b) r5 (by omega) (c := 2) (by simp)⟩
  ·exact ⟨Row.ints (l := [5, 6, 7]) (F := fun b => w.heap.size ≤ b) r6 (by omega) (c := 3) (by simp), nil, nil⟩
  ·exact ⟨nil, nil, Row.ints (l := [2, -2]) (F := fun b => w.heap.size ≤ b) r7 (by omega) (c := 2) (by simp)⟩
  ·exact ⟨nil, nil, Row.ints (l := [-1, 1]) (F := fun b => w.heap.size ≤ b) r8 (by omega) (c := 2) (by simp)⟩
  ·exact ⟨nil, nil, Row.ints (l := [3, -3]) (F := fun b => w.heap.size ≤ b) r9 (by omega) (c := 2) (by simp)⟩
 ·exact (Row.lies r1).infos (L := [⟨0, 2⟩, ⟨1, 2⟩, ⟨0, 3⟩]) (F := fun b => w.heap.size ≤ b) (by omega) (by simp)
def penniesG : Gm := ⟨2, [⟨2, 0, 0, [1, 4], [], []⟩, ⟨2, 1, 1, [2, 3], [], []⟩, ⟨3, 0, 0, [], [], [1, -1]⟩, ⟨3, 0, 0, [], [], [-1, 1]⟩, ⟨2, 1, 1, [5, 6], [], []⟩, ⟨3, 0, 0, [], [], [-1, 1]⟩, ⟨3, 0, 0, [], [], [1, -1]⟩], [⟨0, 2⟩, ⟨1, 2⟩]⟩
def penniesGRows (w : World) : List NV := [⟨⟨2, 0, 0, [1, 4], [], []⟩, .slice (some ⟨w.heap.size + 2, 0, none⟩) 2 2, .slice none 0 0, .slice none 0 0⟩, ⟨⟨2, 1, 1, [2, 3], [], []⟩, .slice (some ⟨w.heap.size + 3, 0, none⟩) 2 2, .slice none 0 0, .slice none 0 0⟩, ⟨⟨3, 0, 0, [], [], [1, -1]⟩, .slice none 0 0, .slice none 0 0, .slice (some ⟨w.heap.size + 4, 0, none⟩) 2 2⟩, ⟨⟨3, 0, 0, [], [], [-1, 1]⟩, .slice none 0 0, .slice none 0 0, .slice (some ⟨w.heap.size + 5, 0, none⟩) 2 2⟩, ⟨⟨2, 1, 1, [5, 6], [], []⟩, .slice (some ⟨w.heap.size + 6, 0, none⟩) 2 2, .slice none 0 0, .slice none 0 0⟩, ⟨⟨3, 0, 0, [], [], [-1, 1]⟩, .slice none 0 0, .slice none 0 0, .slice (some ⟨w.heap.size + 7, 0, none⟩) 2 2⟩, ⟨⟨3, 0, 0, [], [], [1, -1]⟩, .slice none 0 0, .slice none 0 0, .slice (some ⟨w.heap.size + 8, 0, none⟩) 2 2⟩]
set_option maxRecDepth 100000 in
set_option maxHeartbeats 3200000 in
theorem penniesG_any (w : World) : Calls Try.prog 22 #[] w (Ret w fun v w' => GameAt w' (fun b => w.heap.size ≤ b) v penniesG) := by
 go_enter Try.func22, Try.ntmps22
 go_wp2
 refine bodyPost_ret (v := .agg #[.int .i64 2, .slice (some ⟨w.heap.size + 9, 0, none⟩) 7 7, .slice (some ⟨w.heap.size + 1, 0, none⟩) 2 2]) (by simp [results, Try.results22, go_sem]) rfl ?_
 generalize hW : World.alloc _ _ = W
 have hB : Below w.heap.size w W := by rw [← hW]; repeat (first | exact Below.refl _ _ | refine Below.alloc ?_ (by simp <;> omega) _)
 have r1 : Row W (w.heap.size + 1) 65 [Value.int .i64 0, Value.int .i64 2, Value.int .i64 1, Value.int .i64 2] := by
  rw [← hW]
  refine Row.alloc ?_ _
  refine Row.alloc ?_ _
  refine Row.alloc ?_ _
  refine Row.alloc ?_ _
  refine Row.alloc ?_ _
  refine Row.alloc ?_ _
  refine Row.alloc ?_ _
  refine Row.alloc ?_ _
  exact Row.atNew (by simp) rfl
 have r2 : Row W (w.heap.size + 2) 3 [Value.int .i64 1, Value.int .i64 4] := by
  rw [← hW]
  refine Row.alloc ?_ _
  refine Row.alloc ?_ _
  refine Row.alloc ?_ _
  refine Row.alloc ?_ _
  refine Row.alloc ?_ _
  refine Row.alloc ?_ _
  refine Row.alloc ?_ _
  exact Row.atNew (by simp) rfl
 have r3 : Row W (w.heap.size + 3) 3 [Value.int .i64 2, Value.int .i64 3] := by
  rw [← hW]
  refine Row.alloc ?_ _
  refine Row.alloc ?_ _
  refine Row.alloc ?_ _
  refine Row.alloc ?_ _
  refine Row.alloc ?_ _
  refine Row.alloc ?_ _
  exact Row.atNew (by simp) rfl
 have r4 : Row W (w.heap.size + 4) 3 [Value.int .i64 1, Value.int .i64 (-1)] := by
  rw [← hW]
  refine Row.alloc ?_ _
  refine Row.alloc ?_ _
  refine Row.alloc ?_ _
  refine Row.alloc ?_ _
  refine Row.alloc ?_ _
  exact Row.atNew (by simp) rfl
 have r5 : Row W (w.heap.size + 5) 3 [Value.int .i64 (-1), Value.int .i64 1] := by
  rw [← hW]
  refine Row.alloc ?_ _
  refine Row.alloc ?_ _
  refine Row.alloc ?_ _
  refine Row.alloc ?_ _
  exact Row.atNew (by simp) rfl
 have r6 : Row W (w.heap.size + 6) 3 [Value.int .i64 5, Value.int .i64 6] := by
  rw [← hW]
  refine Row.alloc ?_ _
  refine Row.alloc ?_ _
  refine Row.alloc ?_ _
  exact Row.atNew (by simp) rfl
 have r7 : Row W (w.heap.size + 7) 3 [Value.int .i64 (-1), Value.int .i64 1] := by
  rw [← hW]
  refine Row.alloc ?_ _
  refine Row.alloc ?_ _
  exact Row.atNew (by simp) rfl
 have r8 : Row W (w.heap.size + 8) 3 [Value.int .i64 1, Value.int .i64 (-1)] := by
  rw [← hW]
  refine Row.alloc ?_ _
  exact Row.atNew (by simp) rfl
 have rn : Row W (w.heap.size + 9) 45 ((penniesGRows w).flatMap NV.cells) := by
  rw [← hW]
  exact Row.atNew (by simp) rfl
 clear hW
 refine ⟨_, rfl, hB, _, _, rfl, ?_, ?_⟩
 ·refine (Row.lies rn).nodes (F := fun b => w.heap.size ≤ b) (c := 7) (by omega) ?_ (by simp [penniesGRows])
  intro q hq
  simp only [penniesGRows, List.mem_cons, List.not_mem_nil, or_false] at hq
  have nil : IntsAt W (fun b => w.heap.size ≤ b) (.slice none 0 0) [] := ⟨none, 0, rfl, Nat.le_refl _, fun h => absurd h (by simp)⟩
  rcases hq with rfl | rfl | rfl | rfl | rfl | rfl | rfl
  ·exact ⟨Row.ints (l := [1, 4]) (F := fun b => w.heap.size ≤ b) r2 (by omega) (c := 2) (by simp), nil, nil⟩
  ·exact ⟨Row.ints (l := [2, 3]) (F := fun b => w.heap.size ≤ b) r3 (by omega) (c := 2) (by simp), nil, nil⟩
  ·exact ⟨nil, nil, Row.ints (l := [1, -1]) (F := fun b => w.heap.size ≤ b) r4 (by omega) (c := 2) (by simp)⟩
  ·exact ⟨nil, nil, Row.ints (l := [-1, 1]) (F := fun b => w.heap.size ≤ b) r5 (by omega) (c := 2) (by simp)⟩
  ·exact ⟨Row.ints (l := [5, 6]) (F := fun b => w.heap.size ≤ b) r6 (by omega) (c := 2) (by simp), nil, nil⟩
  ·exact ⟨nil, nil, Row.ints (l := [-1, 1]) (F := fun b => w.heap.size ≤ b) r7 (by omega) (c := 2) (by simp)⟩
  ·exact ⟨nil, nil, Row.ints (l := [1, -1]) (F := fun b => w.heap.size ≤ b) r8 (by omega) (c := 2) (by simp)⟩
 ·exact (Row.lies r1).infos (L := [⟨0, 2⟩, ⟨1, 2⟩]) (F := fun b => w.heap.size ≤ b) (by omega) (by simp)
end Go.Proofs.Ytafjdoedallnbaa

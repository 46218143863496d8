/- Rows of rational numbers of one's own: append of one. -/
import Derived.Test.YtkcheepafifjaaaGreatDoorS05
import Derived.Test.YtkcheepafifjaaaGreatDoorS06
set_option linter.all false
namespace Go.Proofs.YtkcheepafifjaaaGreatDoor
open Go.RowKit
structure RV where
 r : Raw
 vn : Value
 vd : Value
def RV.cells (q : RV) : List Value := [.bool q.r.neg, q.vn, q.vd]
def RV.fine (w : World) (F : Ac) (q : RV) : Prop := Ah w F q.vn q.r.num ∧ Ah w F q.vd q.r.den
theorem RV.fine.keep {w w' : World} {F G : Ac} {q : RV} (h : q.fine w F) (hFG : ∀ b, F b → b < w.heap.size → G b) (hs : Same F w w') : q.fine w' G := ⟨h.1.keep hFG hs, h.2.keep hFG hs⟩
theorem RV.fine.below {w w' : World} {F : Ac} {q : RV} (h : q.fine w F) (hb : Below w.heap.size w w') : q.fine w' F := h.keep (fun _ h _ => h) (Below.same' hb F)
theorem Ah.oneCell {w : World} {F : Ac} {v : Value} {l : List Nat} (h : Ah w F v l) : v.oneCell' = true := by
 obtain ⟨A, c, rfl, _⟩ := h; rfl
theorem Ak.rv {w : World} {F : Ac} {v : Value} {r : Raw} (h : Ak w F v r) : ∃ q : RV, q.r = r ∧ v = .agg q.cells.toArray ∧ q.fine w F := by
 obtain ⟨vn, vd, rfl, h1, h2⟩ := h;exact ⟨⟨r, vn, vd⟩, rfl, rfl, h1, h2⟩
theorem Lies.wu {w : World} {b : Nat} {L : List RV} (h : Lies w b (L.flatMap RV.cells)) {F : Ac} (hb : F b) (hL : ∀ q ∈ L, q.fine w F) {c : Nat} (hc : L.length ≤ c) : Ag w F (.slice (some ⟨b, 0, none⟩) L.length c) (L.map RV.r) := by
 refine ⟨_, c, by rw [List.length_map], by rw [List.length_map]; exact hc, fun _ => ⟨b, 0, rfl, hb, h.1, fun k x hk => ?_⟩⟩;rw [List.getElem?_map] at hk;obtain ⟨q, hq, rfl⟩ := Option.map_eq_some_iff.1 hk;obtain ⟨f1, f2⟩ := hL q (List.mem_of_getElem? hq);have g : ∀ j v, j < 3 → q.cells[j]? = some v → w.cell? ⟨b, 0 + k * 3 + j, none⟩ = some v := fun j v hj hv => by
  rw [Nat.zero_add]; exact h.2 _ _ (by rw [nP (f := RV.cells) (s := 3) (fun _ => rfl) L k j q hq hj]; exact hv)
 exact ⟨g 0 _ (by omega) rfl, ⟨_, g 1 _ (by omega) rfl, f1⟩, ⟨_, g 2 _ (by omega) rfl, f2⟩⟩
theorem adT (L : List RV) : (L.flatMap RV.cells).length = L.length * 3 := by
 induction L with
 | nil => rfl
 | cons q L ih => rw [List.flatMap_cons, List.length_append, ih]; simp [RV.cells]; omega
theorem Tryz.infoNum : (Tryz.prog.info? 97).map (fun i => (i.zero, i.size, i.bytes)) = some (some (.agg #[.bool false, .slice none 0 0, .slice none 0 0]), 3, 56) := by kernel_rfl
theorem Tryz.infoRat : (Tryz.prog.info? 53).map (fun i => (i.zero, i.size, i.bytes)) = some (some (.agg #[.bool false, .slice none 0 0, .slice none 0 0]), 3, 56) := by kernel_rfl
theorem aa5 {w : World} {ops : Array Oper} {rest : List Oper} {o : Oper} {a : Act} {Q : Exit → Act → World → Prop} (hgd : o.guard = none) (s x : Operand) (t et : TypeId) (ht : Tryz.prog.underlying t = some (.slice et))
  (hi0 : (Tryz.prog.info? et).map (fun i => (i.zero, i.size, i.bytes)) = some (some (.agg #[.bool false, .slice none 0 0, .slice none 0 0]), 3, 56))
  (ho : o.op = .call { callee := .builtin .append, args := #[s, x], argTypes := #[t, t] })
  (base : Nat) (v : Value) (L : List RV) (hs : a.eval s = v) (hown : w.ownsRow base et 3 v L.length (L.flatMap RV.cells))
  (B : Nat) (q : RV) (hx : a.eval x = .slice (some ⟨B, 0, none⟩) 1 1) (hB : w.heap[B]? = some (.cells q.cells.toArray et (0, 0))) (hone : q.vn.oneCell' = true ∧ q.vd.oneCell' = true) (hlen : L.length ≤ 1000000) (hbase : base ≤ w.heap.size)
  (h : ∀ g cap w', w'.ownsRow base et 3 (.slice (some ⟨g, 0, none⟩) (L.length + 1) cap) (L ++ [q]).length ((L ++ [q]).flatMap RV.cells) → w.grownBy w' v.ownBlock → (v.ownBlock = some g ∨ w.heap.size ≤ g) → g < w'.heap.size →
   wpList Tryz.prog ops Q rest (a.put o.dst (.slice (some ⟨g, 0, none⟩) (L.length + 1) cap)) w') :
  wpList Tryz.prog ops Q (o :: rest) a w := by
 obtain ⟨i0, hi, hz0, hz1, hz2⟩ := info_parts hi0;refine wpList_append_lies w hgd s x _ ho base _ i0 _ 3 56 ht hi hz0 hz1 hz2 rfl (by omega) v L.length _ hs hown ⟨B, 0, none⟩ 1 1 q.cells hx rfl (World.news_of_block hB) ?_ (by omega) (by unfold maxLen; omega) (by omega) hbase w.heap.size rfl ?_
 ·intro u hu;simp only [RV.cells, List.mem_cons, List.not_mem_nil, or_false] at hu;rcases hu with rfl | rfl | rfl
  ·rfl
  ·exact hone.1
  ·exact hone.2
 ·intro g cap w' h1 h2 h3 h4;refine h g cap w' ?_ h2 (h3.imp id fun e => by omega) h4;have e1 : (L ++ [q]).length = L.length + 1 := by simp
  have e2 : (L ++ [q]).flatMap RV.cells = L.flatMap RV.cells ++ q.cells := by simp [List.flatMap_append]
  rw [e1, e2];exact h1
theorem adU {w : World} {base : Nat} {t : TypeId} {v : Value} {L : List RV} (h : w.ownsRow base t 3 v L.length (L.flatMap RV.cells)) {F : Ac} (hF : ∀ b, v.ownBlock = some b → F b) (hL : ∀ q ∈ L, q.fine w F) : Ag w F v (L.map RV.r) := by
 rcases h.2 with ⟨rfl, h0⟩ | ⟨g, cap, cur, rfl, hb, hg, hnc, _, hsz, htake⟩
 ·have : L = [] := List.eq_nil_of_length_eq_zero h0;subst this;exact ⟨none, 0, rfl, Nat.le_refl _, fun h => absurd h (by simp)⟩
 ·refine Lies.wu ⟨(Array.getElem?_eq_some_iff.1 hg).1, fun i u hi => ?_⟩ (hF g rfl) hL hnc;rw [← htake, List.getElem?_take] at hi;split at hi
  ·simp [World.cell?, hg]; simpa using hi
  ·cases hi
def Apart (F : Ac) (v : Value) : Ac := fun b => F b ∧ v.ownBlock ≠ some b
structure AX (w : World) (base : Nat) (et : TypeId) (F : Ac) (v : Value) (L : List RV) : Prop where
 row : w.ownsRow base et 3 v L.length (L.flatMap RV.cells)
 fine : ∀ q ∈ L, q.fine w (Apart F v)
theorem AX.nil (w : World) (base : Nat) (et : TypeId) (F : Ac) : AX w base et F (.slice none 0 0) [] := ⟨World.ownsRow_nil _ _ _ _, fun q h => by cases h⟩
theorem AX.below {w w' : World} {base : Nat} {et : TypeId} {F : Ac} {v : Value} {L : List RV} (h : AX w base et F v L) (hb : Below w.heap.size w w') : AX w' base et F v L := by
 refine ⟨⟨h.row.1, ?_⟩, fun q hq => (h.fine q hq).below hb⟩;rcases h.row.2 with hn | ⟨g, cap, cur, rfl, hg, hc, r⟩
 ·exact .inl hn
 ·exact .inr ⟨g, cap, cur, rfl, hg, by rw [hb.block g (Array.getElem?_eq_some_iff.1 hc).1]; exact hc, r⟩
theorem AX.wu {w : World} {base : Nat} {et : TypeId} {F G : Ac} {v : Value} {L : List RV} (h : AX w base et F v L) (hF : ∀ b, F b → G b) (hG : ∀ b, base ≤ b → G b) : Ag w G v (L.map RV.r) :=
 adU h.row (fun b hb => hG b (h.row.lt b hb).1) fun q hq => (h.fine q hq).keep (fun b hb _ => hF b hb.1) (Same.refl _ _)
theorem vI {w W : World} {F : Ac} {ops : Array Oper} {rest : List Oper} {o : Oper} {a : Act} {Q : Exit → Act → World → Prop} (hgd : o.guard = none) (s x : Operand) (t et : TypeId) (ht : Tryz.prog.underlying t = some (.slice et))
  (hi0 : (Tryz.prog.info? et).map (fun i => (i.zero, i.size, i.bytes)) = some (some (.agg #[.bool false, .slice none 0 0, .slice none 0 0]), 3, 56))
  (ho : o.op = .call { callee := .builtin .append, args := #[s, x], argTypes := #[t, t] })
  (base : Nat) (hbase : base ≤ W.heap.size) (v : Value) (L : List RV) (hs : a.eval s = v) (q : RV) (hlen : L.length ≤ 1000000)
  (hx : a.eval x = .slice (some ⟨w.heap.size, 0, none⟩) 1 1) (hown : AX w base et F v L) (hq : q.fine w (Apart F v)) (hbel : Below base W w)
  (h : ∀ g cap w', AX w' base et F (.slice (some ⟨g, 0, none⟩) (L.length + 1) cap) (L ++ [q]) → Below base W w' → w.heap.size < w'.heap.size →
   wpList Tryz.prog ops Q rest (a.put o.dst (.slice (some ⟨g, 0, none⟩) (L.length + 1) cap)) w') :
  wpList Tryz.prog ops Q (o :: rest) a (w.alloc (.cells #[.bool q.r.neg, q.vn, q.vd] et)) := by
 have hz := hbel.size;refine aa5 hgd s x t et ht hi0 ho base v L hs (hown.row.alloc _) w.heap.size q hx (heap_alloc_new _ _) ⟨hq.1.oneCell, hq.2.oneCell⟩ hlen (by simp; omega) ?_;intro g cap w' h1 h2 h3 h4;have h5 := h2.size;simp only [World.size_alloc] at h5 h3;have hsame : Same (Apart F v) w w' := ⟨by omega, fun b hb hl => (h2.block b (by simp; omega) (fun e => hb.2 e.symm)).trans (Below.heap_alloc _ _ _ hl)⟩;refine h g cap w' ⟨h1, fun p hp => ?_⟩ ((hbel.alloc (by omega) _).grown h2 (by simp; omega) (fun k hk => (hown.row.lt k hk).1)) (by omega);have hp' : p.fine w (Apart F v) := by
  rcases List.mem_append.1 hp with hp | hp
  ·exact hown.fine p hp
  ·rw [List.mem_singleton.1 hp]; exact hq
 refine hp'.keep (fun b hb hl => ⟨hb.1, fun e => ?_⟩) hsame;have e : some g = some b := e;cases e
 rcases h3 with h3 | h3
 ·exact hb.2 h3
 ·omega
end Go.Proofs.YtkcheepafifjaaaGreatDoor

/- Nodes and sets that lie in one row of cells. -/
import Derived.Test.YtafjdoedallnbaaOwn
namespace Go.Proofs.Ytafjdoedallnbaa
open Go.RowKit

/-- a node and the three values of its slices -/
structure NV where
  n : Nd
  v3 : Value
  v4 : Value
  v5 : Value
def NV.cells (q : NV) : List Value := [.int .i64 q.n.kind, .int .i64 q.n.player, .int .i64 q.n.info, q.v3, q.v4, q.v5]
def NV.fine (w : World) (F : Foot) (q : NV) : Prop := IntsAt w F q.v3 q.n.next ∧ IntsAt w F q.v4 q.n.weights ∧ IntsAt w F q.v5 q.n.pay
theorem get_flat {α : Type} {f : α → List Value} {s : Nat} (hf : ∀ x, (f x).length = s) : ∀ (L : List α) (k j : Nat) (x : α), L[k]? = some x → j < s → (L.flatMap f)[k * s + j]? = (f x)[j]?
  | [], k, j, x, h, _ => by cases h
  | y :: L, 0, j, x, h, hj => by
    simp at h; subst h
    rw [List.flatMap_cons, Nat.zero_mul, Nat.zero_add, List.getElem?_append_left (by rw [hf]; exact hj)]
  | y :: L, k + 1, j, x, h, hj => by
    rw [List.flatMap_cons, List.getElem?_append_right (by rw [hf, Nat.add_mul, Nat.one_mul]; omega), hf]
    rw [show (k + 1) * s + j - s = k * s + j by rw [Nat.add_mul, Nat.one_mul]; omega]
    exact get_flat hf L k j x (by simpa using h) hj
/-- cells that lie somewhere, one behind the other -/
def Lies (w : World) (b : Nat) (cs : List Value) : Prop := b < w.heap.size ∧ ∀ i v, cs[i]? = some v → w.cell? ⟨b, i, none⟩ = some v
theorem Row.lies {w : World} {b : Nat} {t : TypeId} {cs : List Value} (h : Row w b t cs) : Lies w b cs := ⟨h.lt, fun i v hi => h.cell hi⟩
theorem Lies.nodes {w : World} {b : Nat} {L : List NV} (h : Lies w b (L.flatMap NV.cells)) {F : Foot} (hb : F b) (hL : ∀ q ∈ L, q.fine w F) {c : Nat} (hc : L.length ≤ c) : NodesAt w F (.slice (some ⟨b, 0, none⟩) L.length c) (L.map NV.n) := by
  refine ⟨_, c, by rw [List.length_map], by rw [List.length_map]; exact hc, fun _ => ⟨b, 0, rfl, hb, h.1, fun k x hk => ?_⟩⟩
  rw [List.getElem?_map] at hk
  obtain ⟨q, hq, rfl⟩ := Option.map_eq_some_iff.1 hk
  obtain ⟨f3, f4, f5⟩ := hL q (List.mem_of_getElem? hq)
  have g : ∀ j v, j < 6 → q.cells[j]? = some v → w.cell? ⟨b, 0 + k * 6 + j, none⟩ = some v := fun j v hj hv => by
    rw [Nat.zero_add]; exact h.2 _ _ (by rw [get_flat (f := NV.cells) (s := 6) (fun _ => rfl) L k j q hq hj]; exact hv)
  exact ⟨g 0 _ (by omega) rfl, g 1 _ (by omega) rfl, g 2 _ (by omega) rfl, ⟨_, g 3 _ (by omega) rfl, f3⟩, ⟨_, g 4 _ (by omega) rfl, f4⟩, ⟨_, g 5 _ (by omega) rfl, f5⟩⟩
def infCells (x : Inf) : List Value := [.int .i64 x.player, .int .i64 x.actions]
theorem Lies.infos {w : World} {b : Nat} {L : List Inf} (h : Lies w b (L.flatMap infCells)) {F : Foot} (hb : F b) {c : Nat} (hc : L.length ≤ c) : InfosAt w F (.slice (some ⟨b, 0, none⟩) L.length c) L := by
  refine ⟨_, c, rfl, hc, fun _ => ⟨b, 0, rfl, hb, h.1, fun k x hk => ?_⟩⟩
  have g : ∀ j v, j < 2 → (infCells x)[j]? = some v → w.cell? ⟨b, 0 + k * 2 + j, none⟩ = some v := fun j v hj hv => by
    rw [Nat.zero_add]; exact h.2 _ _ (by rw [get_flat (f := infCells) (s := 2) (fun _ => rfl) L k j x hk hj]; exact hv)
  exact ⟨g 0 _ (by omega) rfl, g 1 _ (by omega) rfl⟩
theorem NV.fine.keep {w w' : World} {F G : Foot} {q : NV} (h : q.fine w F) (hFG : ∀ b, F b → b < w.heap.size → G b) (hs : Same F w w') : q.fine w' G := ⟨h.1.keep hFG hs, h.2.1.keep hFG hs, h.2.2.keep hFG hs⟩
end Go.Proofs.Ytafjdoedallnbaa

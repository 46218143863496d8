/- Plain functions on games that the walks of this seat compute: parents, sets, what lies under roots. -/
import Derived.Test.YtafjdoedallnbaaBase
namespace Go.Proofs.Ytafjdoedallnbaa
open Go.RowKit

theorem any_snoc {α : Type} {l : List α} {p : α → Bool} {k : Nat} {x : α} (h : l[k]? = some x) (hn : (l.take k).any p = false) (hx : p x = false) : (l.take (k + 1)).any p = false := by
  rw [take_snoc h, List.any_append]; simp [hn, hx]

def parKids (l : List Int) (i : Int) (p : List Int) : List Int := l.foldl (fun p c => p.set c.toNat i) p
def parTo (nodes : List Nd) : Nat → List Int
  | 0 => (List.replicate nodes.length 0).set 0 (-1)
  | k + 1 => match nodes[k]? with
    | some n => parKids n.next k (parTo nodes k)
    | none => parTo nodes k
def parentsL (nodes : List Nd) : List Int := parTo nodes nodes.length
theorem parKids_snoc {l : List Int} {i : Int} {p : List Int} {k : Nat} {c : Int} (h : l[k]? = some c) : parKids (l.take (k + 1)) i p = (parKids (l.take k) i p).set c.toNat i := by
  rw [take_snoc h]; simp [parKids, List.foldl_append]
theorem parKids_length (l : List Int) (i : Int) (p : List Int) : (parKids l i p).length = p.length := by
  unfold parKids
  induction l generalizing p with
  | nil => rfl
  | cons c l ih => simp only [List.foldl_cons]; rw [ih]; simp
theorem parTo_length (nodes : List Nd) (k : Nat) : (parTo nodes k).length = nodes.length := by
  induction k with
  | zero => simp [parTo]
  | succ k ih =>
    unfold parTo
    split
    · rw [parKids_length, ih]
    · exact ih
theorem parTo_succ {nodes : List Nd} {k : Nat} {n : Nd} (h : nodes[k]? = some n) : parTo nodes (k + 1) = parKids n.next k (parTo nodes k) := by
  simp [parTo, h]

theorem parKids_range {l : List Int} {i : Int} {p : List Int} {n : Nat} (hi : 0 ≤ i ∧ i < n) (hp : ∀ k x, p[k]? = some x → k ≠ 0 → 0 ≤ x ∧ x < (n : Int)) : ∀ k x, (parKids l i p)[k]? = some x → k ≠ 0 → 0 ≤ x ∧ x < (n : Int) := by
  unfold parKids
  induction l generalizing p with
  | nil => exact hp
  | cons c l ih =>
    simp only [List.foldl_cons]
    refine ih fun k x hk h0 => ?_
    rw [List.getElem?_set] at hk
    split at hk
    · split at hk
      · cases hk; exact hi
      · cases hk
    · exact hp k x hk h0
theorem parTo_range (nodes : List Nd) (k : Nat) (hk : k ≤ nodes.length) : ∀ i x, (parTo nodes k)[i]? = some x → i ≠ 0 → 0 ≤ x ∧ x < (nodes.length : Int) := by
  induction k with
  | zero =>
    intro i x hi h0
    unfold parTo at hi
    rw [List.getElem?_set_ne (by omega)] at hi
    have := lt_of_get hi
    simp at this
    simp [this] at hi
    omega
  | succ k ih =>
    obtain ⟨n, hn⟩ := getSome (l := nodes) (k := k) (by omega)
    rw [parTo_succ hn]
    exact parKids_range ⟨by omega, by omega⟩ (ih (by omega))

def markL (roots : List Int) (l : List Bool) : List Bool := roots.foldl (fun l r => l.set r.toNat true) l
def spStep (par : List Int) (l : List Bool) (i : Nat) : List Bool := l.set i (l.getD i false || l.getD (par.getD i 0).toNat false)
def spTo (par : List Int) (l : List Bool) (m : Nat) : List Bool := (List.range' 1 (m - 1)).foldl (spStep par) l
def underL (nodes : List Nd) (roots : List Int) : List Bool := spTo (parentsL nodes) (markL roots (List.replicate nodes.length false)) nodes.length
theorem markL_snoc {l : List Int} {p : List Bool} {k : Nat} {c : Int} (h : l[k]? = some c) : markL (l.take (k + 1)) p = (markL (l.take k) p).set c.toNat true := by
  rw [take_snoc h]; simp [markL, List.foldl_append]
theorem markL_length (l : List Int) (p : List Bool) : (markL l p).length = p.length := by
  unfold markL
  induction l generalizing p with
  | nil => rfl
  | cons c l ih => simp only [List.foldl_cons]; rw [ih]; simp
theorem spTo_succ (par : List Int) (l : List Bool) (m : Nat) (h : 1 ≤ m) : spTo par l (m + 1) = spStep par (spTo par l m) m := by
  unfold spTo
  have : m + 1 - 1 = (m - 1) + 1 := by omega
  rw [this, List.range'_concat, List.foldl_append]
  simp
  rw [show 1 + (m - 1) = m by omega]
theorem spTo_length (par : List Int) (l : List Bool) (m : Nat) : (spTo par l m).length = l.length := by
  unfold spTo
  generalize List.range' 1 (m - 1) = r
  induction r generalizing l with
  | nil => rfl
  | cons c r ih => simp only [List.foldl_cons]; rw [ih]; simp [spStep]

/-- children are nodes -/
def KidsIn (nodes : List Nd) : Prop := ∀ n ∈ nodes, ∀ c ∈ n.next, 0 ≤ c ∧ c < (nodes.length : Int)
/-- sizes that the statements let in -/
structure Small (g : Gm) : Prop where
  nodes : g.nodes.length ≤ 100
  infos : g.infos.length ≤ 100
  next : ∀ n ∈ g.nodes, n.next.length ≤ 100
  weights : ∀ n ∈ g.nodes, n.weights.length ≤ 100
  pay : ∀ n ∈ g.nodes, n.pay.length ≤ 100
end Go.Proofs.Ytafjdoedallnbaa

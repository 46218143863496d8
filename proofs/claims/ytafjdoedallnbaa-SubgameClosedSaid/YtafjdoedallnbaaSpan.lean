/- Games in preorder: a list of children spans the nodes from one number to another; what follows for children and parents. -/
import Derived.Test.YtafjdoedallnbaaFormR
namespace Go.Proofs.Ytafjdoedallnbaa
open Go.RowKit

/-- the subtrees of the nodes cs, which stand one behind the other, are just the nodes from a to b - 1 -/
inductive Span (nodes : List Nd) : List Int → Nat → Nat → Prop
  | nil (a : Nat) : Span nodes [] a a
  | cons {a m b : Nat} {n : Nd} {cs : List Int} : nodes[a]? = some n → Span nodes n.next (a + 1) m → Span nodes cs m b → Span nodes ((a : Int) :: cs) a b

theorem Span.le {nodes : List Nd} {cs : List Int} {a b : Nat} (h : Span nodes cs a b) : a ≤ b := by
  induction h with
  | nil a => exact Nat.le_refl _
  | cons _ _ _ ih1 ih2 => omega
theorem Span.bound {nodes : List Nd} {cs : List Int} {a b : Nat} (h : Span nodes cs a b) (ha : a ≤ nodes.length) : b ≤ nodes.length := by
  induction h with
  | nil a => exact ha
  | cons hn _ _ ih1 ih2 => exact ih2 (ih1 (lt_of_get hn))
theorem Span.mem {nodes : List Nd} {cs : List Int} {a b : Nat} (h : Span nodes cs a b) : ∀ c ∈ cs, (a : Int) ≤ c ∧ c < b := by
  induction h with
  | nil a => intro c hc; cases hc
  | cons hn h1 h2 ih1 ih2 =>
    intro c hc
    have l1 := h1.le
    have l2 := h2.le
    rcases List.mem_cons.1 hc with rfl | hc
    · omega
    · have := ih2 c hc; omega
/-- children stand behind their parent, inside the span -/
theorem Span.kids {nodes : List Nd} {cs : List Int} {a b : Nat} (h : Span nodes cs a b) : ∀ p n, a ≤ p → p < b → nodes[p]? = some n → ∀ c ∈ n.next, (p : Int) < c ∧ c < b := by
  induction h with
  | nil a => intro p n h1 h2; omega
  | @cons a m b n cs hn h1 h2 ih1 ih2 =>
    intro p n' ha hb hp c hc
    have l1 := h1.le
    have l2 := h2.le
    by_cases e : p = a
    · subst e
      rw [hn] at hp; cases hp
      have := h1.mem c hc
      omega
    · by_cases hm : p < m
      · have := ih1 p n' (by omega) hm hp c hc; omega
      · exact ih2 p n' (by omega) hb hp c hc
/-- every node of the span is one of cs, or the child of a node of the span -/
theorem Span.parent {nodes : List Nd} {cs : List Int} {a b : Nat} (h : Span nodes cs a b) : ∀ j : Nat, a ≤ j → j < b → (j : Int) ∈ cs ∨ ∃ p n, a ≤ p ∧ p < j ∧ nodes[p]? = some n ∧ (j : Int) ∈ n.next := by
  induction h with
  | nil a => intro j h1 h2; omega
  | @cons a m b n cs hn h1 h2 ih1 ih2 =>
    intro j ha hb
    by_cases e : j = a
    · subst e; exact .inl (by simp)
    · by_cases hm : j < m
      · rcases ih1 j (by omega) hm with h | ⟨p, n', hp1, hp2, hp3, hp4⟩
        · exact .inr ⟨a, n, Nat.le_refl _, by omega, hn, h⟩
        · exact .inr ⟨p, n', by omega, hp2, hp3, hp4⟩
      · rcases ih2 j (by omega) hb with h | ⟨p, n', hp1, hp2, hp3, hp4⟩
        · exact .inl (by simp [h])
        · have := h1.le
          exact .inr ⟨p, n', by omega, hp2, hp3, hp4⟩
/-- no node of cs is the child of a node of the span; a child has one parent -/
theorem Span.once {nodes : List Nd} {cs : List Int} {a b : Nat} (h : Span nodes cs a b) : (∀ c ∈ cs, ∀ p n, a ≤ p → p < b → nodes[p]? = some n → c ∉ n.next) ∧
    (∀ c p q n n', a ≤ p → p < b → a ≤ q → q < b → nodes[p]? = some n → nodes[q]? = some n' → c ∈ n.next → c ∈ n'.next → p = q) := by
  induction h with
  | nil a => exact ⟨(fun c hc => (by cases hc)), (fun c p q n n' h1 h2 => (by omega))⟩
  | @cons a m b n cs hn h1 h2 ih1 ih2 =>
    have l1 := h1.le
    have l2 := h2.le
    have k1 := h1.kids
    have k2 := h2.kids
    have m1 := h1.mem
    have m2 := h2.mem
    constructor
    · intro c hc p n' hp1 hp2 hp3 hp4
      rcases List.mem_cons.1 hc with rfl | hc'
      · by_cases e : p = a
        · subst e; rw [hn] at hp3; cases hp3; have := m1 _ hp4; omega
        · by_cases hm : p < m
          · have := k1 p n' (by omega) hm hp3 _ hp4; omega
          · have := k2 p n' (by omega) hp2 hp3 _ hp4; omega
      · by_cases e : p = a
        · subst e; rw [hn] at hp3; cases hp3; have := m1 _ hp4; have := m2 _ hc'; omega
        · by_cases hm : p < m
          · have := k1 p n' (by omega) hm hp3 _ hp4; have := m2 _ hc'; omega
          · exact ih2.1 c hc' p n' (by omega) hp2 hp3 hp4
    · have key : ∀ c p q n1 n2, a ≤ p → p < q → q < b → nodes[p]? = some n1 → nodes[q]? = some n2 → c ∈ n1.next → c ∈ n2.next → False := by
        intro c p q n1 n2 hp1 hpq hq hn1 hn2 hc1 hc2
        by_cases e : p = a
        · subst e; rw [hn] at hn1; cases hn1
          by_cases hm : q < m
          · exact ih1.1 c hc1 q n2 (by omega) hm hn2 hc2
          · have := m1 c hc1; have := k2 q n2 (by omega) hq hn2 c hc2; omega
        · by_cases hm : q < m
          · have := ih1.2 c p q n1 n2 (by omega) (by omega) (by omega) hm hn1 hn2 hc1 hc2; omega
          · by_cases hmp : p < m
            · have := k1 p n1 (by omega) hmp hn1 c hc1; have := k2 q n2 (by omega) hq hn2 c hc2; omega
            · have := ih2.2 c p q n1 n2 (by omega) (by omega) (by omega) hq hn1 hn2 hc1 hc2; omega
      intro c p q n1 n2 hp1 hp2 hq1 hq2 hn1 hn2 hc1 hc2
      rcases Nat.lt_trichotomy p q with h | h | h
      · exact (key c p q n1 n2 hp1 h hq2 hn1 hn2 hc1 hc2).elim
      · exact h
      · exact (key c q p n2 n1 hq1 h hp2 hn2 hn1 hc2 hc1).elim
/-- each node has a subtree of its own, inside the span -/
theorem Span.sub {nodes : List Nd} {cs : List Int} {a b : Nat} (h : Span nodes cs a b) : ∀ i : Nat, a ≤ i → i < b → ∃ e, Span nodes [(i : Int)] i e ∧ i < e ∧ e ≤ b := by
  induction h with
  | nil a => intro i h1 h2; omega
  | @cons a m b n cs hn h1 h2 ih1 ih2 =>
    intro i ha hb
    have l1 := h1.le
    have l2 := h2.le
    by_cases e : i = a
    · subst e; exact ⟨m, .cons hn h1 (.nil m), by omega, by omega⟩
    · by_cases hm : i < m
      · obtain ⟨e, h, h3, h4⟩ := ih1 i (by omega) hm; exact ⟨e, h, h3, by omega⟩
      · obtain ⟨e, h, h3, h4⟩ := ih2 i (by omega) hb; exact ⟨e, h, h3, h4⟩
theorem Span.unique {nodes : List Nd} {cs : List Int} {a b : Nat} (h : Span nodes cs a b) : ∀ {b'}, Span nodes cs a b' → b = b' := by
  induction h with
  | nil a => intro b' h; cases h; rfl
  | cons hn h1 h2 ih1 ih2 =>
    intro b' h
    generalize hx : ((_ : Int) :: _) = l at h
    cases h with
    | nil => cases hx
    | cons hn' h1' h2' =>
      injection hx with e1 e2
      rw [hn] at hn'; cases hn'
      have := ih1 h1'
      subst this
      subst e2
      exact ih2 h2'

theorem kidsLoop_span {nodes : List Nd} {rec : Nat → Int → Int × Int} (hrec : ∀ a d, (rec a d).1 ≠ -1 → ∃ b : Nat, (rec a d).1 = b ∧ Span nodes [(a : Int)] a b) :
    ∀ (cs : List Int) (x : Nat) (deep : Int), (kidsLoop rec cs x deep).1 ≠ -1 → ∃ b : Nat, (kidsLoop rec cs x deep).1 = b ∧ Span nodes cs x b
  | [], x, deep, _ => ⟨x, rfl, .nil x⟩
  | c :: cs, x, deep, h => by
    unfold kidsLoop at h ⊢
    by_cases hc : c = x
    · subst hc
      simp only [ne_eq, not_true_eq_false, ↓reduceIte, Int.toNat_natCast] at h ⊢
      by_cases hng : (rec x deep).1 < 0
      · rw [if_pos hng] at h; exact absurd rfl h
      · rw [if_neg hng] at h ⊢
        obtain ⟨m, hm, hs⟩ := hrec x deep (by omega)
        rw [hm] at h ⊢
        obtain ⟨b, hb, hs2⟩ := kidsLoop_span hrec cs m _ h
        refine ⟨b, hb, ?_⟩
        generalize hl : [(x : Int)] = l at hs
        cases hs with
        | nil => cases hl
        | cons hn h1 h2 =>
          injection hl with e1 e2
          subst e2
          cases h2
          exact .cons hn h1 hs2
    · rw [if_pos hc] at h; exact absurd rfl h
theorem walkR_span (nodes : List Nd) : ∀ (f a : Nat) (depth deep : Int), (walkR nodes f a depth deep).1 ≠ -1 → ∃ b : Nat, (walkR nodes f a depth deep).1 = b ∧ Span nodes [(a : Int)] a b
  | 0, _, _, _, h => absurd rfl h
  | f + 1, a, depth, deep, h => by
    unfold walkR at h ⊢
    cases hn : nodes[a]? with
    | none => rw [hn] at h; exact absurd rfl h
    | some n =>
      rw [hn] at h
      simp only at h ⊢
      have := kidsLoop_span (nodes := nodes) (rec := fun a d => walkR nodes f a (depth + 1) d) (fun a' d h' => walkR_span nodes f a' (depth + 1) d h') n.next (a + 1) (max deep depth) h
      obtain ⟨b, hb, hs⟩ := this
      exact ⟨b, hb, .cons hn hs (.nil b)⟩

/-- a well formed game -/
structure Good (g : Gm) : Prop where
  pos : 0 < g.nodes.length
  span : Span g.nodes [(0 : Int)] 0 g.nodes.length
  infos : InfosIn g
theorem good_of {g : Gm} (h : formL g = 0) : Good g := by
  unfold formL at h
  split at h
  · omega
  · rename_i h1
    split at h
    · rename_i h2; exact absurd h h2
    · rename_i h2
      split at h
      · omega
      · rename_i h3
        have hp : 0 < g.nodes.length := by unfold sizeBad at h1; omega
        have h3' : (walkR g.nodes (g.nodes.length + 1) 0 0 0).1 = (g.nodes.length : Int) := by simpa using h3
        obtain ⟨b, hb, hs⟩ := walkR_span g.nodes (g.nodes.length + 1) 0 0 0 (by omega)
        have : b = g.nodes.length := by omega
        subst this
        exact ⟨hp, hs, infosIn_of (by simpa using h2)⟩
theorem Good.kidsIn {g : Gm} (h : Good g) : KidsIn g.nodes := by
  intro n hn c hc
  obtain ⟨i, hi⟩ := List.getElem?_of_mem hn
  have := h.span.kids i n (Nat.zero_le _) (lt_of_get hi) hi c hc
  omega
end Go.Proofs.Ytafjdoedallnbaa

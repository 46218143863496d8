/- Games in preorder: a list of children spans the nodes from one number to another; what follows for children and parents. -/
import Derived.Test.YtafjdoedallnbaaJ04
import Derived.Test.YtafjdoedallnbaaJ03
namespace Go.Proofs.Ytafjdoedallnbaa
open Go.RowKit
/-- the subtrees of the nodes cs, which stand one behind the other, are just the nodes from a to b - 1 -/
inductive Span (nodes : List Nd) : List Int → Nat → Nat → Prop
 | nil (a : Nat) : Span nodes [] a a
 | cons {a m b : Nat} {n : Nd} {cs : List Int} : nodes[a]? = some n → Span nodes n.next (a + 1) m → Span nodes cs m b → Span nodes ((a : Int) :: cs) a b
theorem Span.le {nodes : List Nd} {cs : List Int} {a b : Nat} (h : Span nodes cs a b) : a ≤ b := by
 induction h with
 | nil a => exact Nat.le_refl _
 | cons _ _ _ ih1 ih2 => omega
theorem Span.bound {nodes : List Nd} {cs : List Int} {a b : Nat} (h : Span nodes cs a b) (ha : a ≤ nodes.length) : b ≤ nodes.length := by
 induction h with
 | nil a => exact ha
 | cons hn _ _ ih1 ih2 => exact ih2 (ih1 (lt_of_get hn))
theorem Span.mem {nodes : List Nd} {cs : List Int} {a b : Nat} (h : Span nodes cs a b) : ∀ c ∈ cs, (a : Int) ≤ c ∧ c < b := by
 induction h with
 | nil a => intro c hc; cases hc
 | cons hn h1 h2 ih1 ih2 =>
  intro c hc
  have l1 := h1.le
  have l2 := h2.le
  rcases List.mem_cons.1 hc with rfl | hc
  ·omega
  ·have := ih2 c hc; omega
/-- children stand behind their parent, inside the span -/
theorem Span.kids {nodes : List Nd} {cs : List Int} {a b : Nat} (h : Span nodes cs a b) : ∀ p n, a ≤ p → p < b → nodes[p]? = some n → ∀ c ∈ n.next, (p : Int) < c ∧ c < b := by
 induction h with
 | nil a => intro p n h1 h2; omega
 | @cons a m b n cs hn h1 h2 ih1 ih2 =>
  intro p n' ha hb hp c hc
  have l1 := h1.le
  have l2 := h2.le
  by_cases e : p = a
  ·subst e
   rw [hn] at hp; cases hp
   have := h1.mem c hc
   omega
  ·by_cases hm : p < m
   ·have := ih1 p n' (by omega) hm hp c hc; omega
   ·exact ih2 p n' (by omega) hb hp c hc
/-- every node of the span is one of cs, or the child of a node of the span -/
theorem Span.parent {nodes : List Nd} {cs : List Int} {a b : Nat} (h : Span nodes cs a b) : ∀ j : Nat, a ≤ j → j < b → (j : Int) ∈ cs ∨ ∃ p n, a ≤ p ∧ p < j ∧ nodes[p]? = some n ∧ (j : Int) ∈ n.next := by
 induction h with
 | nil a => intro j h1 h2; omega
 | @cons a m b n cs hn h1 h2 ih1 ih2 =>
  intro j ha hb
  by_cases e : j = a
  ·subst e; exact .inl (by simp)
  ·by_cases hm : j < m
   ·rcases ih1 j (by omega) hm with h | ⟨p, n', hp1, hp2, hp3, hp4⟩
    ·exact .inr ⟨a, n, Nat.le_refl _, by omega, hn, h⟩
    ·exact .inr ⟨p, n', by omega, hp2, hp3, hp4⟩
   ·rcases ih2 j (by omega) hb with h | ⟨p, n', hp1, hp2, hp3, hp4⟩
    ·exact .inl (by simp [h])
    ·have := h1.le
     exact .inr ⟨p, n', by omega, hp2, hp3, hp4⟩
/-- no node of cs is the child of a node of the span; a child has one parent -/
theorem Span.once {nodes : List Nd} {cs : List Int} {a b : Nat} (h : Span nodes cs a b) : (∀ c ∈ cs, ∀ p n, a ≤ p → p < b → nodes[p]? = some n → c ∉ n.next) ∧
  (∀ c p q n n', a ≤ p → p < b → a ≤ q → q < b → nodes[p]? = some n → nodes[q]? = some n' → c ∈ n.next → c ∈ n'.next → p = q) := by
 induction h with
 | nil a => exact ⟨(fun c hc => (by cases hc)), (fun c p q n n' h1 h2 => (by omega))⟩
 | @cons a m b n cs hn h1 h2 ih1 ih2 =>
  have l1 := h1.le
  have l2 := h2.le
  have k1 := h1.kids
  have k2 := h2.kids
  have m1 := h1.mem
  have m2 := h2.mem
  constructor
  ·intro c hc p n' hp1 hp2 hp3 hp4
   rcases List.mem_cons.1 hc with rfl | hc'
   ·by_cases e : p = a
    ·subst e; rw [hn] at hp3; cases hp3; have := m1 _ hp4; omega
    ·by_cases hm : p < m
     ·have := k1 p n' (by omega) hm hp3 _ hp4; omega
     ·have := k2 p n' (by omega) hp2 hp3 _ hp4; omega
   ·by_cases e : p = a
    ·subst e; rw [hn] at hp3; cases hp3; have := m1 _ hp4; have := m2 _ hc'; omega
    ·by_cases hm : p < m
     ·have := k1 p n' (by omega) hm hp3 _ hp4; have := m2 _ hc'; omega
     ·exact ih2.1 c hc' p n' (by omega) hp2 hp3 hp4
  ·have key : ∀ c p q n1 n2, a ≤ p → p < q → q < b → nodes[p]? = some n1 → nodes[q]? = some n2 → c ∈ n1.next → c ∈ n2.next → False := by
    intro c p q n1 n2 hp1 hpq hq hn1 hn2 hc1 hc2
    by_cases e : p = a
    ·subst e; rw [hn] at hn1; cases hn1
     by_cases hm : q < m
     ·exact ih1.1 c hc1 q n2 (by omega) hm hn2 hc2
     ·have := m1 c hc1; have := k2 q n2 (by omega) hq hn2 c hc2; omega
    ·by_cases hm : q < m
     ·have := ih1.2 c p q n1 n2 (by omega) (by omega) (by omega) hm hn1 hn2 hc1 hc2; omega
     ·by_cases hmp : p < m
      ·have := k1 p n1 (by omega) hmp hn1 c hc1; have := k2 q n2 (by omega) hq hn2 c hc2; omega
      ·have := ih2.2 c p q n1 n2 (by omega) (by omega) (by omega) hq hn1 hn2 hc1 hc2; omega
   intro c p q n1 n2 hp1 hp2 hq1 hq2 hn1 hn2 hc1 hc2
   rcases Nat.lt_trichotomy p q with h | h | h
   ·exact (key c p q n1 n2 hp1 h hq2 hn1 hn2 hc1 hc2).elim
   ·exact h
   ·exact (key c q p n2 n1 hq1 h hp2 hn2 hn1 hc2 hc1).elim
/-- each node has a subtree of its own, inside the span -/
theorem Span.sub {nodes : List Nd} {cs : List Int} {a b : Nat} (h : Span nodes cs a b) : ∀ i : Nat, a ≤ i → i < b → ∃ e, Span nodes [(i : Int)] i e ∧ i < e ∧ e ≤ b := by
 induction h with
 | nil a => intro i h1 h2; omega
 | @cons a m b n cs hn h1 h2 ih1 ih2 =>
  intro i ha hb
  have l1 := h1.le
  have l2 := h2.le
  by_cases e : i = a
  ·subst e; exact ⟨m, .cons hn h1 (.nil m), by omega, by omega⟩
  ·by_cases hm : i < m
   ·obtain ⟨e, h, h3, h4⟩ := ih1 i (by omega) hm; exact ⟨e, h, h3, by omega⟩
   ·obtain ⟨e, h, h3, h4⟩ := ih2 i (by omega) hb; exact ⟨e, h, h3, h4⟩
theorem Span.unique {nodes : List Nd} {cs : List Int} {a b : Nat} (h : Span nodes cs a b) : ∀ {b'}, Span nodes cs a b' → b = b' := by
 induction h with
 | nil a => intro b' h; cases h; rfl
 | cons hn h1 h2 ih1 ih2 =>
  intro b' h
  generalize hx : ((_ : Int) :: _) = l at h
  cases h with
  | nil => cases hx
  | cons hn' h1' h2' =>
   injection hx with e1 e2
   rw [hn] at hn'; cases hn'
   have := ih1 h1'
   subst this
   subst e2
   exact ih2 h2'
theorem kidsLoop_span {nodes : List Nd} {rec : Nat → Int → Int × Int} (hrec : ∀ a d, (rec a d).1 ≠ -1 → ∃ b : Nat, (rec a d).1 = b ∧ Span nodes [(a : Int)] a b) :
  ∀ (cs : List Int) (x : Nat) (deep : Int), (kidsLoop rec cs x deep).1 ≠ -1 → ∃ b : Nat, (kidsLoop rec cs x deep).1 = b ∧ Span nodes cs x b
 | [], x, deep, _ => ⟨x, rfl, .nil x⟩
 | c :: cs, x, deep, h => by
  unfold kidsLoop at h ⊢
  by_cases hc : c = x
  ·subst hc
   simp only [ne_eq, not_true_eq_false, ↓reduceIte, Int.toNat_natCast] at h ⊢
   by_cases hng : (rec x deep).1 < 0
   ·rw [if_pos hng] at h; exact absurd rfl h
   ·rw [if_neg hng] at h ⊢
    obtain ⟨m, hm, hs⟩ := hrec x deep (by omega)
    rw [hm] at h ⊢
    obtain ⟨b, hb, hs2⟩ := kidsLoop_span hrec cs m _ h
    refine ⟨b, hb, ?_⟩
    generalize hl : [(x : Int)] = l at hs
    cases hs with
    | nil => cases hl
    | cons hn h1 h2 =>
     injection hl with e1 e2
     subst e2
     cases h2
     exact .cons hn h1 hs2
  ·rw [if_pos hc] at h; exact absurd rfl h
theorem walkR_span (nodes : List Nd) : ∀ (f a : Nat) (depth deep : Int), (walkR nodes f a depth deep).1 ≠ -1 → ∃ b : Nat, (walkR nodes f a depth deep).1 = b ∧ Span nodes [(a : Int)] a b
 | 0, _, _, _, h => absurd rfl h
 | f + 1, a, depth, deep, h => by
  unfold walkR at h ⊢
  cases hn : nodes[a]? with
  | none => rw [hn] at h; exact absurd rfl h
  | some n =>
   rw [hn] at h
   simp only at h ⊢
   have := kidsLoop_span (nodes := nodes) (rec := fun a d => walkR nodes f a (depth + 1) d) (fun a' d h' => walkR_span nodes f a' (depth + 1) d h') n.next (a + 1) (max deep depth) h
   obtain ⟨b, hb, hs⟩ := this
   exact ⟨b, hb, .cons hn hs (.nil b)⟩
/-- a well formed game -/
structure Good (g : Gm) : Prop where
 pos : 0 < g.nodes.length
 span : Span g.nodes [(0 : Int)] 0 g.nodes.length
 infos : InfosIn g
theorem good_of {g : Gm} (h : formL g = 0) : Good g := by
 unfold formL at h
 split at h
 ·omega
 ·rename_i h1
  split at h
  ·rename_i h2; exact absurd h h2
  ·rename_i h2
   split at h
   ·omega
   ·rename_i h3
    have hp : 0 < g.nodes.length := by unfold sizeBad at h1; omega
    have h3' : (walkR g.nodes (g.nodes.length + 1) 0 0 0).1 = (g.nodes.length : Int) := by simpa using h3
    obtain ⟨b, hb, hs⟩ := walkR_span g.nodes (g.nodes.length + 1) 0 0 0 (by omega)
    have : b = g.nodes.length := by omega
    subst this
    exact ⟨hp, hs, infosIn_of (by simpa using h2)⟩
theorem Good.kidsIn {g : Gm} (h : Good g) : KidsIn g.nodes := by
 intro n hn c hc
 obtain ⟨i, hi⟩ := List.getElem?_of_mem hn
 have := h.span.kids i n (Nat.zero_le _) (lt_of_get hi) hi c hc
 omega
end Go.Proofs.Ytafjdoedallnbaa
/- A region that draws its order: operations at its end that wait, directly or through others, for all that stand before them, are taken off, as many as one likes. -/
namespace Go.Proofs.Ytafjdoedallnbaa
open Go.RowKit
section
variable {P : Program} {md : Region.Mode}
def needs (md : Region.Mode) (ops : Array Oper) : Nat → Oper → Nat → Bool
 | 0, o, i => o.after.any fun e => Region.binds md e && e.on == i
 | f + 1, o, i => o.after.any fun e => Region.binds md e && (e.on == i || match ops[e.on]? with | some o' => needs md ops f o' i | none => false)
/-- what has come up waits for nothing that has not -/
def Down (md : Region.Mode) (ops : Array Oper) (listed : Array Bool) : Prop := ∀ i o, ops[i]? = some o → listed.getD i false = true → ∀ e ∈ o.after, Region.binds md e = true → listed.getD e.on false = true
theorem needs_listed {ops : Array Oper} {listed : Array Bool} (hd : Down md ops listed) : ∀ (f : Nat) (o : Oper) (i : Nat), (∀ e ∈ o.after, Region.binds md e = true → listed.getD e.on false = true) → needs md ops f o i = true → listed.getD i false = true
 | 0, o, i, h, hn => by
  obtain ⟨e, he, hb⟩ := Array.any_eq_true'.1 hn
  simp only [Bool.and_eq_true, beq_iff_eq] at hb
  rw [← hb.2]; exact h e he hb.1
 | f + 1, o, i, h, hn => by
  obtain ⟨e, he, hb⟩ := Array.any_eq_true'.1 hn
  simp only [Bool.and_eq_true, Bool.or_eq_true, beq_iff_eq] at hb
  have h1 := h e he hb.1
  rcases hb.2 with h2 | h2
  ·rw [← h2]; exact h1
  ·cases ho : ops[e.on]? with
   | none => rw [ho] at h2; cases h2
   | some o' =>
    rw [ho] at h2
    exact needs_listed hd f o' i (fun e' he' hb' => hd e.on o' ho h1 e' he' hb') h2
def lastC (md : Region.Mode) (ops : Array Oper) (o : Oper) : Bool := o.after.all (fun e => decide (e.on < ops.size)) && (List.range ops.size).all fun i => needs md ops ops.size o i
theorem ready_down {ops : Array Oper} {listed : Array Bool} (hs : listed.size = ops.size) (hd : Down md ops listed) {i : Nat} (hi : i ∈ Region.ready md ops listed) : Down md ops (listed.setIfInBounds i true) := by
 obtain ⟨_, oi, hoi, hall⟩ := mem_ready.1 hi
 have mono : ∀ k, listed.getD k false = true → (listed.setIfInBounds i true).getD k false = true := by
  intro k hk
  simp only [Array.getD_eq_getD_getElem?, Array.getElem?_setIfInBounds] at hk ⊢
  by_cases hik : i = k
  ·subst hik
   rw [if_pos rfl]
   by_cases hlt : i < listed.size
   ·simp [hlt]
   ·simp [hlt] at hk
  ·rw [if_neg hik]; exact hk
 intro j o ho hj e he hb
 by_cases hij : i = j
 ·subst hij
  rw [hoi] at ho; cases ho
  exact mono _ (hall e he hb)
 ·refine mono _ (hd j o ho ?_ e he hb)
  simp only [Array.getD_eq_getD_getElem?, Array.getElem?_setIfInBounds] at hj ⊢
  rw [if_neg hij] at hj; exact hj
variable {Q : Exit → Act → World → Prop}
theorem wpAny_peelC {ops : Array Oper} {o : Oper} (hb : backB ops = true) (hl : lastC md ops o = true) :
  ∀ (fuel : Nat) (listed : Array Bool) (a : Act) (w : World), listed.size = ops.size → Down md ops listed → wpAny P md ops (LastQ P Q (ops.push o) o) fuel listed a w → wpAny P md (ops.push o) Q (fuel + 1) (listed.push false) a w := by
 have hl1 := ((Bool.and_eq_true _ _).mp hl).1
 have hl2 := ((Bool.and_eq_true _ _).mp hl).2
 have waits : ∀ (listed : Array Bool), listed.size = ops.size → Down md ops listed → ops.size ∈ Region.ready md (ops.push o) (listed.push false) → ∀ j, j < ops.size → listed.getD j false = true := by
  intro listed hs hd hi j hj
  obtain ⟨_, oi, ho, h2⟩ := mem_ready.1 hi
  have : oi = o := by simpa using ho.symm
  subst this
  refine needs_listed hd ops.size oi j (fun e he hbd => ?_) (List.all_eq_true.1 hl2 j (List.mem_range.2 hj))
  have h3 := h2 e he hbd
  have hlt : e.on < ops.size := by simpa using Array.all_eq_true'.1 hl1 e he
  simp only [Array.getD_eq_getD_getElem?, Array.getElem?_push] at h3 ⊢
  rw [if_neg (by omega)] at h3
  exact h3
 have fin : ∀ (fuel : Nat) (listed : Array Bool) (a : Act) (w : World), listed.size = ops.size → Region.ready md ops listed = [] → wpList P (ops.push o) Q [o] a w → wpAny P md (ops.push o) Q (fuel + 1) (listed.push false) a w := by
  intro fuel listed a w hs hr h
  have hall := all_of_not_ready hs hb hr
  have hmem : ∀ i, i ∈ Region.ready md (ops.push o) (listed.push false) ↔ i = ops.size := by
   intro i
   constructor
   ·intro hi
    rcases Nat.lt_trichotomy i ops.size with h1 | h1 | h1
    ·rw [ready_push_lt hs hb h1, hr] at hi; cases hi
    ·exact h1
    ·obtain ⟨_, oi, ho, _⟩ := mem_ready.1 hi
     rw [Array.getElem?_eq_none (by simp; omega)] at ho
     cases ho
   ·rintro rfl
    rw [mem_ready]
    refine ⟨by rw [← hs]; simp [Array.getD_eq_getD_getElem?], o, by simp, fun e he hbd => ?_⟩
    have hlt : e.on < ops.size := by simpa using Array.all_eq_true'.1 hl1 e he
    have := hall e.on hlt
    simp only [Array.getD_eq_getD_getElem?, Array.getElem?_push]
    rw [if_neg (by omega)]
    simpa [Array.getD_eq_getD_getElem?] using this
  refine ⟨fun h0 => absurd ((hmem ops.size).2 rfl) (by rw [h0]; simp), fun i hi => ?_⟩
  have := (hmem i).1 hi
  subst this
  unfold wpList at h
  unfold wpOp
  simp only [Array.getElem?_push_size]
  have hend : ∀ a w, wpList P (ops.push o) Q [] a w → wpAny P md (ops.push o) Q fuel ((listed.push false).setIfInBounds ops.size true) a w := by
   intro a w hq
   refine wpAny_done ?_ hq fuel
   cases hrr : Region.ready md (ops.push o) ((listed.push false).setIfInBounds ops.size true) with
   | nil => rfl
   | cons k ks =>
    have hk : k ∈ Region.ready md (ops.push o) ((listed.push false).setIfInBounds ops.size true) := by rw [hrr]; simp
    obtain ⟨h1, oi, ho, _⟩ := mem_ready.1 hk
    have hlt := (Array.getElem?_eq_some_iff.1 ho).1
    simp only [Array.size_push] at hlt
    exfalso
    rcases Nat.lt_or_ge k ops.size with h2 | h2
    ·have h3 := hall k h2
     have hk' : k < listed.size := by omega
     simp only [Array.getD_eq_getD_getElem?, Array.getElem?_setIfInBounds, Array.getElem?_push] at h1 h3
     rw [if_neg (by omega), if_neg (by omega)] at h1
     simp [hk'] at h1 h3
     rw [h1] at h3; cases h3
    ·have : k = ops.size := by omega
     subst this
     rw [← hs] at h1
     simp [Array.getD_eq_getD_getElem?] at h1
  split
  ·rename_i hw
   rw [if_pos hw] at h
   rcases h with h | h
   ·exact .inl (Oper.wp_mono hend h)
   ·exact .inr h
  ·rename_i hw
   rw [if_neg hw] at h
   exact hend _ _ h
 intro fuel
 induction fuel with
 | zero =>
  intro listed a w hs _ h
  exact fin 0 listed a w hs h.1 h.2
 | succ fuel ih =>
  intro listed a w hs hd h
  by_cases hr : Region.ready md ops listed = []
  ·exact fin _ listed a w hs hr (h.1 hr)
  ·refine ⟨fun h0 => ?_, fun i hi => ?_⟩
   ·exfalso
    obtain ⟨i, hi⟩ := List.exists_mem_of_ne_nil _ hr
    have hlt : i < ops.size := by
     obtain ⟨_, oi, ho, _⟩ := mem_ready.1 hi
     exact (Array.getElem?_eq_some_iff.1 ho).1
    rw [← ready_push_lt (o := o) hs hb hlt, h0] at hi
    cases hi
   ·have hlt : i < ops.size := by
     rcases Nat.lt_trichotomy i ops.size with h1 | h1 | h1
     ·exact h1
     ·subst h1
      exfalso
      apply hr
      have hall := waits listed hs hd hi
      cases hrr : Region.ready md ops listed with
      | nil => rfl
      | cons k ks =>
       have hk : k ∈ Region.ready md ops listed := by rw [hrr]; simp
       obtain ⟨h1, oi, ho, _⟩ := mem_ready.1 hk
       have hkl := (Array.getElem?_eq_some_iff.1 ho).1
       have h3 := hall k hkl
       have hk' : k < listed.size := by omega
       simp [hk'] at h1 h3
       rw [h1] at h3; cases h3
     ·obtain ⟨_, oi, ho, _⟩ := mem_ready.1 hi
      rw [Array.getElem?_eq_none (by simp; omega)] at ho
      cases ho
    have hi' := (ready_push_lt (o := o) hs hb hlt).1 hi
    have hd' := ready_down hs hd hi'
    have hop := h.2 i hi'
    have e1 : (ops.push o)[i]? = ops[i]? := by rw [Array.getElem?_push, if_neg (by omega)]
    have hset : (listed.push false).setIfInBounds i true = (listed.setIfInBounds i true).push false := by
     apply Array.ext_getElem?
     intro j
     rw [Array.getElem?_setIfInBounds, Array.getElem?_push, Array.getElem?_push, Array.getElem?_setIfInBounds]
     simp only [Array.size_push, Array.size_setIfInBounds]
     by_cases h1 : i = j
     ·subst h1
      rw [if_pos rfl, if_pos (by omega), if_neg (by omega), if_pos rfl, if_pos (by omega)]
     ·rw [if_neg h1, if_neg h1]
    unfold wpOp at hop ⊢
    rw [e1]
    cases ho : ops[i]? with
    | none => rw [ho] at hop; simp only at hop ⊢; rw [hset]; exact ih _ _ _ (by simp [hs]) hd' hop
    | some oi =>
     rw [ho] at hop
     simp only at hop ⊢
     have hg : Region.wanted oi (yielded (ops.push o) a.tmps) = Region.wanted oi (yielded ops a.tmps) := by
      unfold Region.wanted
      have hbi := List.all_eq_true.1 hb i (List.mem_range.2 hlt)
      rw [ho] at hbi
      simp only [Bool.and_eq_true] at hbi
      cases hgd : oi.guard with
      | none => rfl
      | some jw =>
       obtain ⟨j, want⟩ := jw
       rw [hgd] at hbi
       have hj : j < i := by simpa using hbi.2
       simp only [yielded]
       rw [Array.getElem?_push, if_neg (by omega)]
     rw [hg]
     split
     ·rename_i hw
      rw [if_pos hw] at hop
      rcases hop with hop | hop
      ·refine .inl ?_
       have := Oper.wp_mono (K' := wpAny P md (ops.push o) Q (fuel + 1) ((listed.push false).setIfInBounds i true)) (fun a' w' h' => by rw [hset]; exact ih _ _ _ (by simp [hs]) hd' h') hop
       exact upon_last this
      ·exact .inr hop
     ·rename_i hw
      rw [if_neg hw] at hop
      rw [hset]
      exact ih _ _ _ (by simp [hs]) hd' hop
theorem down_none (ops : Array Oper) (n : Nat) : Down md ops (Array.replicate n false) := by
 intro i o _ h
 simp only [Array.getD_eq_getD_getElem?, Array.getElem?_replicate] at h
 split at h <;> simp at h
theorem wpAny_peelCL {L : List Oper} {o : Oper} (n : Nat) (hn : L.drop n = [o]) (hb : backB (L.take n).toArray = true) (hl : lastC md (L.take n).toArray o = true) {a : Act} {w : World}
  (h : wpAny P md (L.take n).toArray (LastQ P Q L.toArray o) n (Array.replicate n false) a w) : wpAny P md L.toArray Q (n + 1) (Array.replicate (n + 1) false) a w := by
 have hlen : L.length = n + 1 := by
  have := congrArg List.length hn
  simp at this; omega
 have hL : L.toArray = (L.take n).toArray.push o := by
  rw [List.push_toArray, ← hn, List.take_append_drop]
 have hs : (L.take n).toArray.size = n := by simp; omega
 rw [hL] at h ⊢
 rw [Array.replicate_succ]
 exact wpAny_peelC hb hl n _ a w (by simp [hs]) (down_none _ _) h
/-- what is asked behind the first n operations: the others, one behind the other -/
def PeelQ (P : Program) (Q : Exit → Act → World → Prop) (L : List Oper) : Nat → Exit → Act → World → Prop
 | 0 => Q
 | k + 1 => LastQ P (PeelQ P Q L k) (L.take (L.length - k)).toArray (L.getD (L.length - (k + 1)) default)
theorem wpAny_peelMany {L : List Oper} (n : Nat) : ∀ (k : Nat), L.length = n + k → (∀ j, j < k → backB (L.take (n + j)).toArray = true ∧ lastC md (L.take (n + j)).toArray (L.getD (n + j) default) = true) → ∀ {a : Act} {w : World},
  wpAny P md (L.take n).toArray (PeelQ P Q L k) n (Array.replicate n false) a w → wpAny P md L.toArray Q (n + k) (Array.replicate (n + k) false) a w := by
 have key : ∀ (k : Nat), k ≤ L.length - n → n ≤ L.length → (∀ j, n + j < L.length → backB (L.take (n + j)).toArray = true ∧ lastC md (L.take (n + j)).toArray (L.getD (n + j) default) = true) → ∀ {a : Act} {w : World},
   wpAny P md (L.take (L.length - k)).toArray (PeelQ P Q L k) (L.length - k) (Array.replicate (L.length - k) false) a w → wpAny P md L.toArray Q L.length (Array.replicate L.length false) a w := by
  intro k
  induction k with
  | zero => intro _ _ _ a w h; simpa [PeelQ] using h
  | succ k ih =>
   intro hk hn hc a w h
   refine ih (by omega) hn hc ?_
   have e : L.length - k = (L.length - (k + 1)) + 1 := by omega
   have ht : (L.take (L.length - k)).take (L.length - (k + 1)) = L.take (L.length - (k + 1)) := by rw [List.take_take]; congr 1; omega
   have hd : (L.take (L.length - k)).drop (L.length - (k + 1)) = [L.getD (L.length - (k + 1)) default] := by
    rw [List.drop_take, show L.length - k - (L.length - (k + 1)) = 1 by omega, List.drop_eq_getElem_cons (by omega), List.take_succ_cons, List.take_zero]
    congr 1
    simp [List.getD_eq_getElem?_getD, show L.length - (k + 1) < L.length by omega]
   have hcc := hc (L.length - (k + 1) - n) (by omega)
   rw [show n + (L.length - (k + 1) - n) = L.length - (k + 1) by omega] at hcc
   have := wpAny_peelCL (P := P) (md := md) (Q := PeelQ P Q L k) (L := L.take (L.length - k)) (o := L.getD (L.length - (k + 1)) default) (L.length - (k + 1)) hd (by rw [ht]; exact hcc.1) (by rw [ht]; exact hcc.2) (a := a) (w := w) (by rw [ht]; exact h)
   rw [← e] at this; exact this
 intro k hL hc a w h
 have := key k (by omega) (by omega) (fun j hj => hc j (by omega)) (a := a) (w := w) (by rw [show L.length - k = n by omega]; exact h)
 rwa [hL] at this
/-- the last k operations are taken off -/
theorem wp_peelMany {id : Nat} {L : List Oper} (S : World → Prop) (n k : Nat) (hm : P.follows .mixedOrders = true) (hL : L.length = n + k) (hc : (List.range k).all (fun j => backB (L.take (n + j)).toArray && lastC .any (L.take (n + j)).toArray (L.getD (n + j) default)) = true) {a : Act} {w : World}
  (h : wpAnyH P .any (L.take n).toArray (PeelQ P Q L k) S n (Array.replicate n false) a w.drew) : (Code.region id L.toArray true).wp P Q a w := by
 refine wp_region_any hm ?_
 rw [List.size_toArray, hL]
 refine wpAny_peelMany n k hL (fun j hj => ?_) (wpAny_of_held _ _ _ _ h)
 have := List.all_eq_true.1 hc j (List.mem_range.2 hj)
 simpa using this
end
end Go.Proofs.Ytafjdoedallnbaa
/- parlourref26.Right: the error of roots. -/
namespace Go.Proofs.Ytafjdoedallnbaa
open List renaming getElem_toArray → lq1, getElem_cons_zero → lq2, getElem_cons_succ → lq3, setIfInBounds_toArray → lq4, set_cons_zero → lq5, set_cons_succ → lq6
open Go.RowKit
theorem IntsAt.take {w : World} {F : Foot} {A : Option Addr} {c k : Nat} {l : List Int} (h : IntsAt w F (.slice A l.length c) l) (hk : k ≤ l.length) : IntsAt w F (.slice A k c) (l.take k) := by
 obtain ⟨A', c', e, hc, hr⟩ := h
 simp only [Value.slice.injEq] at e
 obtain ⟨rfl, _, rfl⟩ := e
 have hl : (l.take k).length = k := by simp; omega
 refine ⟨A, c, by rw [hl], by omega, fun h0 => ?_⟩
 obtain ⟨b, o, rfl, hb, hlt, hx⟩ := hr (by omega)
 refine ⟨b, o, rfl, hb, hlt, fun j x hj => hx j x ?_⟩
 rw [List.getElem?_take] at hj
 split at hj
 ·exact hj
 ·cases hj
def rangeBad (n : Nat) (l : List Int) : Bool := l.any fun r => decide (r < 0) || decide ((n : Int) ≤ r)
def orderBadAt (nodes : List Nd) (roots : List Int) (i : Nat) : Bool := decide (roots.getD i 0 ≤ roots.getD (i - 1) 0) || (underL nodes (roots.take i)).getD (roots.getD i 0).toNat false
def orderBadTo (nodes : List Nd) (roots : List Int) (m : Nat) : Bool := (List.range' 1 (m - 1)).any (orderBadAt nodes roots)
theorem orderBadTo_succ (nodes : List Nd) (roots : List Int) (m : Nat) (h : 1 ≤ m) : orderBadTo nodes roots (m + 1) = (orderBadTo nodes roots m || orderBadAt nodes roots m) := by
 unfold orderBadTo
 have : m + 1 - 1 = (m - 1) + 1 := by omega
 rw [this, List.range'_concat, List.any_append]
 simp
 rw [show 1 + (m - 1) = m by omega]
theorem orderBadTo_of {nodes : List Nd} {roots : List Int} {m k : Nat} (h : 1 ≤ m) (hm : m < k) (hb : orderBadAt nodes roots m = true) : orderBadTo nodes roots k = true := by
 unfold orderBadTo
 rw [List.any_eq_true]
 exact ⟨m, by rw [List.mem_range'_1]; omega, hb⟩
def rightL (nodes : List Nd) (roots : List Int) : Int :=
 if roots = [] then 3 else if rangeBad nodes.length roots then 2 else if orderBadTo nodes roots roots.length then 9 else 0
theorem rangeBad_false {n : Nat} {l : List Int} (h : rangeBad n l = false) : ∀ r ∈ l, 0 ≤ r ∧ r < (n : Int) := by
 intro r hr
 unfold rangeBad at h
 have := List.any_eq_false.1 h r hr
 simp at this; omega
set_option maxRecDepth 100000 in
set_option maxHeartbeats 1600000 in
theorem right_any (w : World) (F : Foot) (u vr : Value) (g : Gm) (roots : List Int) (hg : GameAt w F u g) (hr : IntsAt w F vr roots) (hsm : Small g) (h0 : 0 < g.nodes.length) (hk : KidsIn g.nodes) (hl : roots.length ≤ 1000) :
  Calls Try.prog 46 #[u, vr] w (Ret w fun v _ => v = .int .i64 (rightL g.nodes roots)) := by
 have HG := Lib.hid hg
 have HR := Lib.hid hr
 obtain ⟨vn, vi, rfl, ⟨A, c, rfl, hc, hN⟩, ⟨Ai, ci, rfl, hci, hI⟩⟩ := hg
 clear hN hI
 obtain ⟨Ar, cr, rfl, hcr, hRr⟩ := hr
 have HRr := Lib.hid hRr; clear hRr
 have HK := Lib.hid hk; clear hk
 have hn := hsm.nodes
 have HS := Lib.hid hsm; clear hsm
 by_cases hnil : roots = []
 ·subst hnil
  go_enter Try.func46, Try.ntmps46
  go_wp2
  go_ret
  exact ⟨_, rfl, (Below.refl _ _).alloc (Nat.le_refl _) _, rfl⟩
 have hpos : 0 < roots.length := List.length_pos_iff.2 hnil
 have hd0 : ((roots.length : Int) == 0) = false := by simp; omega
 have HNIL := Lib.hid hnil; clear hnil
 go_enter Try.func46, Try.ntmps46
 go_wp2
 obtain ⟨W, hW⟩ : ∃ W : World, W = w.alloc (.cells #[.int .i64 g.players, .slice A g.nodes.length c, .slice Ai g.infos.length ci] 25) := ⟨_, rfl⟩
 rw [← hW]
 have hbx : Row W w.heap.size 25 [.int .i64 g.players, .slice A g.nodes.length c, .slice Ai g.infos.length ci] := by rw [hW]; exact Row.new w _ _
 have hWb : Below w.heap.size w W := by rw [hW]; exact (Below.refl _ _).alloc (Nat.le_refl _) _
 have hWz : w.heap.size < W.heap.size := by rw [hW]; simp
 clear hW
 have x1 := hbx.cell (i := 1) rfl
 have hold := below_old hWb
 go_loopw [5] (fun i wr => ∃ (k n : Nat), k ≤ roots.length ∧ i = .int .i64 k ∧ rangeBad g.nodes.length (roots.take k) = false ∧ wr = W.drewN n) (fun i _ => roots.length - (intOf i).toNat)
 case atStart => exact ⟨0, 0, by omega, rfl, rfl, rfl⟩
 case round =>
  obtain ⟨k, n, hk, rfl, hpre, rfl⟩ := hrel
  have HP := Lib.hid hpre; clear hpre
  by_cases hlt : k < roots.length
  ·obtain ⟨b, o, rfl, _, hb, hx⟩ := HRr.out (by omega)
   obtain ⟨r, hr⟩ := getSome hlt
   have er := hx k r hr
   unfold intE at er
   rw [Nat.mul_one] at er
   have HX := Lib.hid hr; clear hr hx
   have BAD := Lib.hid (show (r < 0 ∨ (g.nodes.length : Int) ≤ r) → rightL g.nodes roots = 2 by
    intro hb
    have : rangeBad g.nodes.length roots = true := List.any_eq_true.2 ⟨r, List.mem_of_getElem? HX.out, by simpa using hb⟩
    unfold rightL; rw [if_neg HNIL.out, if_pos this])
   by_cases q0 : r < 0
   ·have hd : decide (r < 0) = true := by simp [q0]
    have HF := Lib.hid (BAD.out (.inl q0))
    go_wp2
    go_quiet (fail)
    go_wp2
    go_ret
    refine ⟨_, rfl, ?_, by rw [HF.out]; rfl⟩
    exact ⟨hWb.os, hWb.tape, hWb.output, hWb.size, hWb.block⟩
   ·have hd : decide (r < 0) = false := by simp [q0]
    by_cases q1 : (g.nodes.length : Int) ≤ r
    ·have HF := Lib.hid (BAD.out (.inr q1))
     go_wp2
     go_quiet (fail)
     go_wp2
     go_ret
     refine ⟨_, rfl, ?_, by rw [HF.out]; rfl⟩
     exact ⟨hWb.os, hWb.tape, hWb.output, hWb.size, hWb.block⟩
    ·have hd1 : decide ((g.nodes.length : Int) ≤ r) = false := by simp; omega
     go_wp2
     go_quiet (fail)
     go_wp2
     go_roundw
     case rel =>
      refine ⟨k + 1, n + nq, by omega, by go_num, ?_, rfl⟩
      exact any_snoc HX.out HP.out (by simp; omega)
     case measure => simp [intOf]; omega
  ·have hrb : rangeBad g.nodes.length roots = false := by
    have := HP.out; rw [List.take_of_length_le (by omega)] at this; exact this
   have HRB := Lib.hid hrb; clear hrb
   have x0 := hbx.cell (i := 0) rfl
   have x2 := hbx.cell (i := 2) rfl
   go_wp2
   go_loopw [6] (fun i wr => ∃ m : Nat, 1 ≤ m ∧ m ≤ roots.length ∧ i = .int .i64 m ∧ orderBadTo g.nodes roots m = false ∧ Below W.heap.size W wr) (fun i _ => roots.length - (intOf i).toNat)
   case atStart => exact ⟨1, by omega, by omega, rfl, rfl, ⟨rfl, rfl, rfl, Nat.le_refl _, fun _ _ => rfl⟩⟩
   case round =>
    obtain ⟨m, hm1, hm, rfl, hpre, hbel⟩ := hrel
    have HPM := Lib.hid hpre; clear hpre
    by_cases hmt : m < roots.length
    ·obtain ⟨b, o, rfl, _, hb, hx⟩ := HRr.out (by omega)
     obtain ⟨r, hr⟩ := getSome hmt
     obtain ⟨p, hp⟩ := getSome (l := roots) (k := m - 1) (by omega)
     have er := hx m r hr
     have ep := hx (m - 1) p hp
     unfold intE at er ep
     rw [Nat.mul_one] at er ep
     have hbW : b < W.heap.size := by omega
     obtain ⟨hr0, hr1⟩ := rangeBad_false HRB.out r (List.mem_of_getElem? hr)
     have HAT := Lib.hid (show orderBadAt g.nodes roots m = (decide (r ≤ p) || (underL g.nodes (roots.take m)).getD r.toNat false) by
      unfold orderBadAt; simp [List.getD_eq_getElem?_getD, hr, hp])
     have BAD := Lib.hid (show orderBadAt g.nodes roots m = true → rightL g.nodes roots = 9 by
      intro hb
      unfold rightL; rw [if_neg HNIL.out, HRB.out, orderBadTo_of hm1 hmt hb]; rfl)
     clear hr hp hx
     have hold2 := below_old hbel
     by_cases q0 : r ≤ p
     ·have hd : decide (r ≤ p) = true := by simp [q0]
      have HF := Lib.hid (BAD.out (by rw [HAT.out, hd]; rfl))
      go_wp2
      go_quiet (fail)
      go_wp2
      go_ret
      refine ⟨_, rfl, hWb.trans ((hbel.mono (by omega)).trans ?_), by rw [HF.out]; rfl⟩
      exact ⟨rfl, rfl, rfl, Nat.le_refl _, fun _ _ => rfl⟩
     ·have hd : decide (r ≤ p) = false := by simp; omega
      have hmI : (m : Int) ≤ (roots.length : Int) := by omega
      go_wp2
      have hw1 : IntKind.i64.wrap ((m : Int) - 1) = ((m - 1 : Nat) : Int) := by rw [IntWalk.i64_in _ (by omega)]; omega
      have hm2 : m - 1 < roots.length := by omega
      have hm3 : m ≤ cr := by omega
      have hbd : Below wr.heap.size wr wr.drew := ⟨rfl, rfl, rfl, Nat.le_refl _, fun _ _ => rfl⟩
      refine wp_region_held_drew (S := fun w' => ∀ b o, b < W.heap.size → w'.cell? ⟨b, o, none⟩ = W.cell? ⟨b, o, none⟩) (by kernel_rfl) hold2 (fun hHeld => ?_)
      refine wpAnyH_take (i := 0) (v := ?_) rfl (by kernel_rfl) (by kernel_rfl) (by kernel_rfl) (fun _ _ _ h => h) (Or.inl ⟨by rfl, ?_⟩) hHeld ?_
      rotate_left
      ·intro wx hSx; (try dsimp only at hSx); go_split_ands; go_simp; try (with_reducible rfl)
      try simp only [Act.put, lq1, lq2, lq3, lq4, lq5, lq6]
      refine wpAnyH_take (i := 1) (v := ?_) rfl (by kernel_rfl) (by kernel_rfl) (by kernel_rfl) (fun _ _ _ h => h) (Or.inl ⟨by rfl, ?_⟩) hHeld ?_
      rotate_left
      ·intro wx hSx; (try dsimp only at hSx); go_split_ands; go_simp; try (with_reducible rfl)
      try simp only [Act.put, lq1, lq2, lq3, lq4, lq5, lq6]
      refine wpAnyH_take (i := 2) (v := ?_) rfl (by kernel_rfl) (by kernel_rfl) (by kernel_rfl) (fun _ _ _ h => h) (Or.inl ⟨by rfl, ?_⟩) hHeld ?_
      rotate_left
      ·intro wx hSx; (try dsimp only at hSx); go_split_ands; go_simp; try (with_reducible rfl)
      try simp only [Act.put, lq1, lq2, lq3, lq4, lq5, lq6]
      refine wpAnyH_take (i := 3) (v := ?_) rfl (by kernel_rfl) (by kernel_rfl) (by kernel_rfl) (fun _ _ _ h => h) (Or.inl ⟨by rfl, ?_⟩) hHeld ?_
      rotate_left
      ·intro wx hSx; (try dsimp only at hSx); go_split_ands; go_simp; try (with_reducible rfl)
      try simp only [Act.put, lq1, lq2, lq3, lq4, lq5, lq6]
      refine wpAnyH_take (i := 4) (v := ?_) rfl (by kernel_rfl) (by kernel_rfl) (by kernel_rfl) (fun _ _ _ h => h) (Or.inl ⟨by rfl, ?_⟩) hHeld ?_
      rotate_left
      ·intro wx hSx; (try dsimp only at hSx); go_split_ands; go_simp; try (with_reducible rfl)
      try simp only [Act.put, lq1, lq2, lq3, lq4, lq5, lq6]
      refine wpAnyH_take (i := 5) (v := ?_) rfl (by kernel_rfl) (by kernel_rfl) (by kernel_rfl) (fun _ _ _ h => h) (Or.inl ⟨by rfl, ?_⟩) hHeld ?_
      rotate_left
      ·intro wx hSx; (try dsimp only at hSx); go_split_ands; go_simp; try (with_reducible rfl)
      try simp only [Act.put, lq1, lq2, lq3, lq4, lq5, lq6]
      refine wpAnyH_take (i := 6) (v := ?_) rfl (by kernel_rfl) (by kernel_rfl) (by kernel_rfl) (fun _ _ _ h => h) (Or.inl ⟨by rfl, ?_⟩) hHeld ?_
      rotate_left
      ·intro wx hSx; (try dsimp only at hSx); go_split_ands; go_simp; try (with_reducible rfl)
      try simp only [Act.put, lq1, lq2, lq3, lq4, lq5, lq6]
      refine wpAnyH_take (i := 7) (v := ?_) rfl (by kernel_rfl) (by kernel_rfl) (by kernel_rfl) (fun _ _ _ h => h) (Or.inl ⟨by rfl, ?_⟩) hHeld ?_
      rotate_left
      ·intro wx hSx; (try dsimp only at hSx); go_split_ands; go_simp; try (with_reducible rfl)
      try simp only [Act.put, lq1, lq2, lq3, lq4, lq5, lq6]
      refine wpAnyH_take (i := 8) (v := ?_) rfl (by kernel_rfl) (by kernel_rfl) (by kernel_rfl) (fun _ _ _ h => h) (Or.inl ⟨by rfl, ?_⟩) hHeld ?_
      rotate_left
      ·intro wx hSx; (try dsimp only at hSx); go_split_ands; go_simp; try (with_reducible rfl)
      try simp only [Act.put, lq1, lq2, lq3, lq4, lq5, lq6]
      refine wpAnyH_take (i := 9) (v := ?_) rfl (by kernel_rfl) (by kernel_rfl) (by kernel_rfl) (fun _ _ _ h => h) (Or.inl ⟨by rfl, ?_⟩) hHeld ?_
      rotate_left
      ·intro wx hSx; (try dsimp only at hSx); go_split_ands; go_simp; try (with_reducible rfl)
      try simp only [Act.put, lq1, lq2, lq3, lq4, lq5, lq6]
      refine wpAnyH_take (i := 10) (v := ?_) rfl (by kernel_rfl) (by kernel_rfl) (by kernel_rfl) (fun _ _ _ h => h) (Or.inl ⟨by rfl, ?_⟩) hHeld ?_
      rotate_left
      ·intro wx hSx; (try dsimp only at hSx); go_split_ands; go_simp; try (with_reducible rfl)
      try simp only [Act.put, lq1, lq2, lq3, lq4, lq5, lq6]
      refine wpAnyH_take (i := 11) (v := ?_) rfl (by kernel_rfl) (by kernel_rfl) (by kernel_rfl) (fun _ _ _ h => h) (Or.inl ⟨by rfl, ?_⟩) hHeld ?_
      rotate_left
      ·intro wx hSx; (try dsimp only at hSx); go_split_ands; go_simp; try (with_reducible rfl)
      try simp only [Act.put, lq1, lq2, lq3, lq4, lq5, lq6]
      refine wpAnyH_take (i := 12) (v := ?_) rfl (by kernel_rfl) (by kernel_rfl) (by kernel_rfl) (fun _ _ _ h => h) (Or.inl ⟨by rfl, ?_⟩) hHeld ?_
      rotate_left
      ·intro wx hSx; (try dsimp only at hSx); go_split_ands; go_simp; try (with_reducible rfl)
      try simp only [Act.put, lq1, lq2, lq3, lq4, lq5, lq6]
      refine wpAnyH_take (i := 13) (v := ?_) rfl (by kernel_rfl) (by kernel_rfl) (by kernel_rfl) (fun _ _ _ h => h) (Or.inl ⟨by rfl, ?_⟩) hHeld ?_
      rotate_left
      ·intro wx hSx; (try dsimp only at hSx); go_split_ands; go_simp; try (with_reducible rfl)
      try simp only [Act.put, lq1, lq2, lq3, lq4, lq5, lq6]
      refine wpAnyH_take (i := 14) (v := ?_) rfl (by kernel_rfl) (by kernel_rfl) (by kernel_rfl) (fun _ _ _ h => h) (Or.inl ⟨by rfl, ?_⟩) hHeld ?_
      rotate_left
      ·intro wx hSx; (try dsimp only at hSx); go_split_ands; go_simp; try (with_reducible rfl)
      try simp only [Act.put, lq1, lq2, lq3, lq4, lq5, lq6]
      refine wpAnyH_take (i := 16) (v := ?_) rfl (by kernel_rfl) (by kernel_rfl) (by kernel_rfl) (fun _ _ _ h => h) (Or.inl ⟨by rfl, ?_⟩) hHeld ?_
      rotate_left
      ·intro wx hSx; (try dsimp only at hSx); go_split_ands; go_simp; try (with_reducible rfl)
      try simp only [Act.put, lq1, lq2, lq3, lq4, lq5, lq6]
      refine wpAnyH_take (i := 17) (v := ?_) rfl (by kernel_rfl) (by kernel_rfl) (by kernel_rfl) (fun _ _ _ h => h) (Or.inl ⟨by rfl, ?_⟩) hHeld ?_
      rotate_left
      ·intro wx hSx; (try dsimp only at hSx); go_split_ands; go_simp; try (with_reducible rfl)
      try simp only [Act.put, lq1, lq2, lq3, lq4, lq5, lq6]
      refine wpAnyH_take (i := 18) (v := ?_) rfl (by kernel_rfl) (by kernel_rfl) (by kernel_rfl) (fun _ _ _ h => h) (Or.inl ⟨by rfl, ?_⟩) hHeld ?_
      rotate_left
      ·intro wx hSx; (try dsimp only at hSx); go_split_ands; go_simp; try (with_reducible rfl)
      try simp only [Act.put, lq1, lq2, lq3, lq4, lq5, lq6]
      refine wpAnyH_take (i := 19) (v := ?_) rfl (by kernel_rfl) (by kernel_rfl) (by kernel_rfl) (fun _ _ _ h => h) (Or.inl ⟨by rfl, ?_⟩) hHeld ?_
      rotate_left
      ·intro wx hSx; (try dsimp only at hSx); go_split_ands; go_simp; try (with_reducible rfl)
      try simp only [Act.put, lq1, lq2, lq3, lq4, lq5, lq6]
      refine wpAnyH_ready (rs := [15]) (by kernel_rfl) (by simp) ?_
      refine AllReadyH.cons (o := _) rfl (fun K hK => ?_) AllReadyH.nil
      go_simp
      have hGd := (((HG.out.on (Below.same' hWb F)).on (Below.same' hbel F)).on (Below.same' hbd F))
      have hRd := (((HR.out.on (Below.same' hWb F)).on (Below.same' hbel F)).on (Below.same' hbd F))
      refine (under_any _ F _ _ g (roots.take m) hGd (hRd.take hm) HS.out h0 HK.out (by simp; omega) (fun x hx => rangeBad_false HRB.out x (List.mem_of_mem_take hx))).mono ?_
      rintro e w1 ⟨vu, rfl, hb1, hun⟩
      clear hGd hRd
      have hb1' : Below W.heap.size W w1 := hbel.drew.trans (hb1.mono hbel.size)
      dsimp only
      refine hK.out _ _ (below_old hb1') (fun hHeld => ?_)
      clear hK K
      try simp only [Act.put, lq1, lq2, lq3, lq4, lq5, lq6]
      have hul := underL_length g.nodes (roots.take m)
      obtain ⟨Au, cu, rfl, hcu, hU⟩ := hun
      obtain ⟨bu, ou, rfl, _, hbu, hxu⟩ := hU (by omega)
      obtain ⟨y, hy⟩ := getSome (l := underL g.nodes (roots.take m)) (k := r.toNat) (by omega)
      have ey := hxu _ y hy
      unfold boolE at ey
      rw [Nat.mul_one] at ey
      have hrn : r < ((underL g.nodes (roots.take m)).length : Int) := by omega
      have HAT2 := Lib.hid (show orderBadAt g.nodes roots m = y by rw [HAT.out, hd]; simp [List.getD_eq_getElem?_getD, hy])
      clear hU hxu hy hul
      refine wpAnyH_take (i := 20) (v := ?_) rfl (by kernel_rfl) (by kernel_rfl) (by kernel_rfl) (fun _ _ _ h => h) (Or.inl ⟨by rfl, ?_⟩) hHeld ?_
      rotate_left
      ·intro wx hSx; (try dsimp only at hSx); go_split_ands; go_simp; try (with_reducible rfl)
      try simp only [Act.put, lq1, lq2, lq3, lq4, lq5, lq6]
      refine wpAnyH_ready (rs := [21]) (by kernel_rfl) (by simp) ?_
      refine AllReadyH.cons (o := _) rfl (fun K hK => ?_) AllReadyH.nil
      go_simp
      refine hK.out _ _ (below_old hb1') (fun hHeld => ?_)
      clear hK K
      try simp only [Act.put, lq1, lq2, lq3, lq4, lq5, lq6]
      refine wpAnyH_take (i := 22) (v := ?_) rfl (by kernel_rfl) (by kernel_rfl) (by kernel_rfl) (fun _ _ _ h => h) (Or.inl ⟨by rfl, ?_⟩) hHeld ?_
      rotate_left
      ·intro wx hSx; (try dsimp only at hSx); go_split_ands; go_simp; try (with_reducible rfl)
      try simp only [Act.put, lq1, lq2, lq3, lq4, lq5, lq6]
      refine wpAnyH_done (by kernel_rfl) ?_ _
      cases y
      ·go_wp2
       go_roundw
       case rel =>
        refine ⟨m + 1, by omega, by omega, by go_num, ?_, hb1'⟩
        rw [orderBadTo_succ _ _ _ hm1, HPM.out, HAT2.out]; rfl
       case measure => simp [intOf]; omega
      ·have HF := Lib.hid (BAD.out HAT2.out)
       go_wp2
       go_ret
       exact ⟨_, rfl, hWb.trans (hb1'.mono (by omega)), by rw [HF.out]; rfl⟩
    ·go_wp2
     go_ret
     have hme : m = roots.length := by omega
     refine ⟨_, rfl, hWb.trans (hbel.mono (by omega)), ?_⟩
     have : rightL g.nodes roots = 0 := by
      unfold rightL; rw [if_neg HNIL.out, HRB.out]
      have := HPM.out; rw [hme] at this; rw [this]; rfl
     rw [this]; rfl
end Go.Proofs.Ytafjdoedallnbaa
/- parlourref26.check, Closed, Inside. -/
namespace Go.Proofs.Ytafjdoedallnbaa
open Go.RowKit
def checkL (g : Gm) (roots : List Int) : Int := if formL g ≠ 0 then formL g else rightL g.nodes roots
/-- the numbers of the marks -/
def marksTo (inn : List Bool) (k : Nat) : List Int := ((inn.take k).zipIdx.filter fun p => p.1).map fun p => (p.2 : Int)
def marksL (inn : List Bool) : List Int := marksTo inn inn.length
theorem marksTo_snoc {inn : List Bool} {k : Nat} {b : Bool} (h : inn[k]? = some b) : marksTo inn (k + 1) = marksTo inn k ++ (if b then [(k : Int)] else []) := by
 unfold marksTo
 rw [zipIdx_snoc h, List.filter_append, List.map_append]
 cases b <;> simp
theorem marksTo_length (inn : List Bool) (k : Nat) : (marksTo inn k).length ≤ k := by
 unfold marksTo
 rw [List.length_map]
 refine Nat.le_trans (List.length_filter_le _ _) ?_
 simp; omega
def closedOut (g : Gm) (roots : List Int) : Bool := decide (checkL g roots = 0) && closedL g roots
def insNodesL (g : Gm) (roots : List Int) : List Int := if checkL g roots = 0 then marksL (underL g.nodes roots) else []
def insSetsL (g : Gm) (roots : List Int) : List Int := if checkL g roots = 0 then setsInL g roots else []
/-- two slices of ints in new memory, and an error -/
def TwoInts (B : Nat) (e : Int) (l1 l2 : List Int) (v : Value) (w' : World) : Prop := ∃ v1 v2, v = .tuple #[v1, v2, .int .i64 e] ∧ IntsAt w' (fun b => B ≤ b) v1 l1 ∧ IntsAt w' (fun b => B ≤ b) v2 l2
theorem ints_nil (w : World) (F : Foot) : IntsAt w F (.slice none 0 0) [] := ⟨none, 0, rfl, Nat.le_refl _, fun h => absurd h (by simp)⟩
theorem right_in {nodes : List Nd} {roots : List Int} (h : rightL nodes roots = 0) : ∀ r ∈ roots, 0 ≤ r ∧ r < (nodes.length : Int) := by
 unfold rightL at h
 split at h
 ·omega
 ·split at h
  ·omega
  ·rename_i h2
   exact rangeBad_false (by simpa using h2)
theorem check_good {g : Gm} {roots : List Int} (h : checkL g roots = 0) : Good g ∧ rightL g.nodes roots = 0 := by
 unfold checkL at h
 split at h
 ·rename_i h1; exact absurd h h1
 ·rename_i h1; exact ⟨good_of (by simpa using h1), h⟩
set_option maxRecDepth 100000 in
set_option maxHeartbeats 1600000 in
theorem check_any (w : World) (F : Foot) (u vr : Value) (g : Gm) (roots : List Int) (hg : GameAt w F u g) (hr : IntsAt w F vr roots) (hsm : Small g) (hl : roots.length ≤ 1000) :
  Calls Try.prog 26 #[u, vr] w (Ret w fun v _ => v = .int .i64 (checkL g roots)) := by
 have HG := Lib.hid hg
 have HR := Lib.hid hr; clear hr
 obtain ⟨vn, vi, rfl, ⟨A, c, rfl, hc, hN⟩, ⟨Ai, ci, rfl, hci, hI⟩⟩ := hg
 clear hN hI
 have HS := Lib.hid hsm; clear hsm
 go_enter Try.func26, Try.ntmps26
 go_wp2_with fail
 refine (formR_any _ F _ g (HG.out.on (Same.alloc _ _ _)) HS.out).mono ?_
 rintro e w1 ⟨_, rfl, hb1, rfl⟩
 have hbx := (Row.new w 25 #[.int .i64 g.players, .slice A g.nodes.length c, .slice Ai g.infos.length ci]).below hb1 (by simp)
 have hB : Below w.heap.size w w1 := ((Below.refl w.heap.size w).alloc (Nat.le_refl _) _).trans (hb1.mono (by simp))
 have x0 := hbx.cell (i := 0) rfl
 have x1 := hbx.cell (i := 1) rfl
 have x2 := hbx.cell (i := 2) rfl
 have HC := Lib.hid (show checkL g roots = if formL g ≠ 0 then formL g else rightL g.nodes roots from rfl)
 have HGD := Lib.hid (fun h : formL g = 0 => good_of h)
 generalize formL g = er at *
 dsimp only
 by_cases he : er = 0
 ·have hgd := HGD.out he
  have HK := Lib.hid hgd.kidsIn
  have hp := hgd.pos
  have HC2 := Lib.hid (show checkL g roots = rightL g.nodes roots by rw [HC.out, if_neg (by simpa using he)])
  subst he
  clear hgd
  go_wp2_with fail
  refine (right_any _ F _ _ g roots ((HG.out.on (Same.alloc _ _ _)).on (Below.same' hb1 F)) ((HR.out.on (Same.alloc _ _ _)).on (Below.same' hb1 F)) HS.out hp HK.out hl).mono ?_
  rintro e w2 ⟨_, rfl, hb2, rfl⟩
  dsimp only
  go_wp2
  go_ret
  exact ⟨_, rfl, hB.trans (hb2.mono hB.size), by rw [HC2.out]; rfl⟩
 ·have hd : (er != 0) = true := by simp [he]
  have HF := Lib.hid (show checkL g roots = er by rw [HC.out, if_pos he])
  clear he
  go_wp2
  go_ret
  exact ⟨_, rfl, hB, by rw [HF.out]; rfl⟩
set_option maxRecDepth 100000 in
set_option maxHeartbeats 1600000 in
theorem refClosed_any (w : World) (F : Foot) (u vr : Value) (g : Gm) (roots : List Int) (hg : GameAt w F u g) (hr : IntsAt w F vr roots) (hsm : Small g) (hl : roots.length ≤ 1000) :
  Calls Try.prog 9 #[u, vr] w (Ret w fun v _ => v = .tuple #[.bool (closedOut g roots), .int .i64 (checkL g roots)]) := by
 have HG := Lib.hid hg
 have HR := Lib.hid hr; clear hr
 obtain ⟨vn, vi, rfl, ⟨A, c, rfl, hc, hN⟩, ⟨Ai, ci, rfl, hci, hI⟩⟩ := hg
 clear hN hI
 have HS := Lib.hid hsm; clear hsm
 go_enter Try.func9, Try.ntmps9
 go_wp2_with fail
 refine (check_any _ F _ _ g roots (HG.out.on (Same.alloc _ _ _)) (HR.out.on (Same.alloc _ _ _)) HS.out hl).mono ?_
 rintro e w1 ⟨_, rfl, hb1, rfl⟩
 have hbx := (Row.new w 25 #[.int .i64 g.players, .slice A g.nodes.length c, .slice Ai g.infos.length ci]).below hb1 (by simp)
 have hB : Below w.heap.size w w1 := ((Below.refl w.heap.size w).alloc (Nat.le_refl _) _).trans (hb1.mono (by simp))
 have x0 := hbx.cell (i := 0) rfl
 have x1 := hbx.cell (i := 1) rfl
 have x2 := hbx.cell (i := 2) rfl
 have HGD := Lib.hid (fun h : checkL g roots = 0 => check_good h)
 have HCO := Lib.hid (show closedOut g roots = (decide (checkL g roots = 0) && closedL g roots) from rfl)
 have HIN1 := Lib.hid (show insNodesL g roots = if checkL g roots = 0 then marksL (underL g.nodes roots) else [] from rfl)
 have HIN2 := Lib.hid (show insSetsL g roots = if checkL g roots = 0 then setsInL g roots else [] from rfl)
 generalize hck : checkL g roots = er at *
 have HCK := Lib.hid hck; clear hck
 dsimp only
 by_cases he : er = 0
 ·obtain ⟨hgd, hrt⟩ := HGD.out he
  have HK := Lib.hid hgd.kidsIn
  have HII := Lib.hid hgd.infos
  have hp := hgd.pos
  have HIN := Lib.hid (right_in hrt)
  subst he
  clear hgd hrt
  go_wp2_with fail
  refine (setsIn_any _ F _ _ g roots ((HG.out.on (Same.alloc _ _ _)).on (Below.same' hb1 F)) ((HR.out.on (Same.alloc _ _ _)).on (Below.same' hb1 F)) HS.out hp HK.out HII.out hl HIN.out).mono ?_
  rintro e w2 ⟨_, rfl, hb2, vs, rfl, hvs⟩
  dsimp only
  go_wp2
  go_ret2
  exact ⟨_, rfl, hB.trans (hb2.mono hB.size), by rw [HCO.out, HCK.out]; simp⟩
 ·have hd : (er != 0) = true := by simp [he]
  have HF := Lib.hid (show decide (er = 0) = false by simp [he])
  clear he
  go_wp2
  go_ret2
  exact ⟨_, rfl, hB, by rw [HCO.out, HCK.out, HF.out]; rfl⟩
set_option maxRecDepth 100000 in
set_option maxHeartbeats 1600000 in
theorem refInside_any (w : World) (F : Foot) (u vr : Value) (g : Gm) (roots : List Int) (hg : GameAt w F u g) (hr : IntsAt w F vr roots) (hsm : Small g) (hl : roots.length ≤ 1000) :
  Calls Try.prog 11 #[u, vr] w (Ret w (TwoInts w.heap.size (checkL g roots) (insNodesL g roots) (insSetsL g roots))) := by
 have HG := Lib.hid hg
 have HR := Lib.hid hr; clear hr
 obtain ⟨vn, vi, rfl, ⟨A, c, rfl, hc, hN⟩, ⟨Ai, ci, rfl, hci, hI⟩⟩ := hg
 clear hN hI
 have hn := hsm.nodes
 have HS := Lib.hid hsm; clear hsm
 go_enter Try.func11, Try.ntmps11
 go_wp2_with fail
 refine (check_any _ F _ _ g roots (HG.out.on (Same.alloc _ _ _)) (HR.out.on (Same.alloc _ _ _)) HS.out hl).mono ?_
 rintro e w1 ⟨_, rfl, hb1, rfl⟩
 have hbx := (Row.new w 25 #[.int .i64 g.players, .slice A g.nodes.length c, .slice Ai g.infos.length ci]).below hb1 (by simp)
 have hB : Below w.heap.size w w1 := ((Below.refl w.heap.size w).alloc (Nat.le_refl _) _).trans (hb1.mono (by simp))
 have x0 := hbx.cell (i := 0) rfl
 have x1 := hbx.cell (i := 1) rfl
 have x2 := hbx.cell (i := 2) rfl
 have HGD := Lib.hid (fun h : checkL g roots = 0 => check_good h)
 have HCO := Lib.hid (show closedOut g roots = (decide (checkL g roots = 0) && closedL g roots) from rfl)
 have HIN1 := Lib.hid (show insNodesL g roots = if checkL g roots = 0 then marksL (underL g.nodes roots) else [] from rfl)
 have HIN2 := Lib.hid (show insSetsL g roots = if checkL g roots = 0 then setsInL g roots else [] from rfl)
 generalize hck : checkL g roots = er at *
 have HCK := Lib.hid hck; clear hck
 dsimp only
 by_cases he : er = 0
 ·obtain ⟨hgd, hrt⟩ := HGD.out he
  have HK := Lib.hid hgd.kidsIn
  have HII := Lib.hid hgd.infos
  have hp := hgd.pos
  have HIN := Lib.hid (right_in hrt)
  subst he
  clear hgd hrt
  go_wp2_with fail
  have HG1 := Lib.hid ((HG.out.on (Same.alloc _ _ _)).on (Below.same' hb1 F))
  have HR1 := Lib.hid ((HR.out.on (Same.alloc _ _ _)).on (Below.same' hb1 F))
  refine (under_any _ F _ _ g roots HG1.out HR1.out HS.out hp HK.out hl HIN.out).mono ?_
  rintro e w2 ⟨vu, rfl, hb2, hun⟩
  have hbx2 := hbx.below hb2 hbx.lt
  have hul := underL_length g.nodes roots
  have HM := Lib.hid (show marksL (underL g.nodes roots) = marksTo (underL g.nodes roots) (underL g.nodes roots).length from rfl)
  generalize underL g.nodes roots = inn at *
  obtain ⟨Au, cu, rfl, hcu, hU⟩ := hun
  have HU := Lib.hid hU; clear hU
  have hil : inn.length ≤ 100 := by omega
  clear hul x0 x1 x2
  dsimp only
  go_wp2
  go_loopw [4, 9] (fun vo i wr => ∃ k : Nat, k ≤ inn.length ∧ i = .int .i64 k ∧ wr.ownsRow w2.heap.size 3 1 vo (marksTo inn k).length ((marksTo inn k).map (Value.int .i64)) ∧ Below w2.heap.size w2 wr) (fun _ i _ => inn.length - (intOf i).toNat)
  case atStart => exact ⟨0, by omega, rfl, World.ownsRow_nil _ _ _ _, Below.refl _ _⟩
  case round =>
   obtain ⟨k, hk, rfl, hown, hbel⟩ := hrel
   have hold := below_old hbel
   have hlen := marksTo_length inn k
   by_cases hlt : k < inn.length
   ·obtain ⟨bu, ou, rfl, _, hbu, hxu⟩ := HU.out (by omega)
    obtain ⟨y, hy⟩ := getSome hlt
    have ey := hxu k y hy
    unfold boolE at ey
    rw [Nat.mul_one] at ey
    have HST := Lib.hid (marksTo_snoc hy)
    have HO := Lib.hid hown
    clear hy hxu hown
    cases y
    ·go_wp2
     go_roundw
     case rel => exact ⟨k + 1, by omega, by go_num, by rw [HST.out]; simpa using HO.out, hbel⟩
     case measure => simp [intOf]; omega
    ·go_wp2_with (at_builtin; refine wpl_app_int rfl _ _ rfl w2.heap.size _ (marksTo inn k) rfl (HO.out.alloc _) wr.heap.size k rfl (heap_alloc_new _ _) (by omega) (by have := hbel.size; simp; omega) ?_; intro gg cap w3 hown3 hgrow hat hlt3; have hbel3 : Below w2.heap.size w2 w3 := (hbel.alloc hbel.size _).grown hgrow (by have := hbel.size; simp; omega) (fun k hk => (HO.out.lt k hk).1); have HO3 := Lib.hid hown3; clear hown3 hgrow hat hlt3)
     go_roundw
     case rel => exact ⟨k + 1, by omega, by go_num, by rw [HST.out]; simpa using HO3.out, hbel3⟩
     case measure => simp [intOf]; omega
   ·have hbx3 := hbx2.below hbel hbx2.lt
    have x0 := hbx3.cell (i := 0) rfl
    have x1 := hbx3.cell (i := 1) rfl
    have x2 := hbx3.cell (i := 2) rfl
    clear hold
    go_wp2_with fail
    refine (setsIn_any _ F _ _ g roots ((HG1.out.on (Below.same' hb2 F)).on (Below.same' hbel F)) ((HR1.out.on (Below.same' hb2 F)).on (Below.same' hbel F)) HS.out hp HK.out HII.out hl HIN.out).mono ?_
    rintro e w4 ⟨_, rfl, hb4, vs, rfl, hvs⟩
    dsimp only
    go_wp2
    go_ret3
    have hke : k = inn.length := by omega
    subst hke
    have hz2 := hb2.size
    have hzB := hB.size
    have hzb := hbel.size
    refine ⟨_, rfl, hB.trans ((hb2.mono hzB).trans ((hbel.mono (by omega)).trans (hb4.mono (by omega)))), u4, vs, by first | rfl | (rw [HCK.out]; rfl), ?_, ?_⟩
    ·rw [HIN1.out, if_pos (by first | rfl | trivial), HM.out]
     exact (Own.ints (F := fun b => w.heap.size ≤ b) (by simpa [Own] using hown) (fun b hb => by have := (hown.lt b hb).1; omega)).on (Below.same' hb4 _)
    ·rw [HIN2.out, if_pos (by first | rfl | trivial)]
     exact hvs.keep (fun b hb _ => by omega) (Same.refl _ _)
 ·have hd : (er != 0) = true := by simp [he]
  have HE := Lib.hid he
  clear he
  go_wp2
  go_ret3
  refine ⟨_, rfl, hB, .slice none 0 0, .slice none 0 0, by first | rfl | (rw [HCK.out]; rfl), ?_, ?_⟩
  ·rw [HIN1.out, if_neg HE.out]; exact ints_nil _ _
  ·rw [HIN2.out, if_neg HE.out]; exact ints_nil _ _
end Go.Proofs.Ytafjdoedallnbaa

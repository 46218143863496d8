/- Plain law of chapter 26: last nodes are the ends of subtrees; what lies under roots is what lies inside; the two checks of roots, and closedness, agree. -/
import Derived.Test.YtafjdoedallnbaaJ12
namespace Go.Proofs.Ytafjdoedallnbaa
open Go.RowKit
theorem Span.last {nodes : List Nd} {cs : List Int} {a b : Nat} (h : Span nodes cs a b) : ∀ c, cs.getLast? = some c → ∃ k : Nat, c = k ∧ a ≤ k ∧ Span nodes [(k : Int)] k b := by
 induction h with
 | nil a => intro c hc; simp at hc
 | @cons a m b n cs hn h1 h2 ih1 ih2 =>
  intro c hc
  cases cs with
  | nil =>
   simp at hc
   cases h2
   exact ⟨a, hc.symm, Nat.le_refl _, .cons hn h1 (.nil _)⟩
  | cons d ds =>
   rw [List.getLast?_cons_cons] at hc
   obtain ⟨k, h3, h4, h5⟩ := ih2 c hc
   have := h1.le
   exact ⟨k, h3, by omega, h5⟩
theorem Span.open {nodes : List Nd} {i e : Nat} {n : Nd} (h : Span nodes [(i : Int)] i e) (hn : nodes[i]? = some n) : Span nodes n.next (i + 1) e := by
 generalize hl : [(i : Int)] = l at h
 cases h with
 | nil => cases hl
 | cons hn' h1 h2 =>
  injection hl with e1 e2
  subst e2
  cases h2
  rw [hn] at hn'; cases hn'
  exact h1
theorem lookKids_other (q : Nat) (cs : List Int) (s : List Int × List Int) {i : Nat} (h : i ≠ q) : (lookKids q cs s).2[i]? = s.2[i]? := by
 unfold lookKids
 induction cs generalizing s with
 | nil => rfl
 | cons c cs ih => simp only [List.foldl_cons]; rw [ih]; exact List.getElem?_set_ne (by omega)
theorem lookKids_at (q : Nat) (cs : List Int) (s : List Int × List Int) (hq : q < s.2.length) (hc : ∀ c ∈ cs, c.toNat ≠ q ∧ c.toNat < s.2.length) : (lookKids q cs s).2[q]? = match cs.getLast? with | none => s.2[q]? | some c => s.2[c.toNat]? := by
 unfold lookKids
 induction cs generalizing s with
 | nil => rfl
 | cons c cs ih =>
  simp only [List.foldl_cons]
  have hc0 := hc c (by simp)
  rw [ih _ (by simpa using hq) (fun d hd => by simpa using hc d (List.mem_cons_of_mem _ hd))]
  cases cs with
  | nil =>
   show (s.2.set q (s.2.getD c.toNat 0))[q]? = s.2[c.toNat]?
   rw [List.getElem?_set_self hq]
   simp [List.getD_eq_getElem?_getD, hc0.2]
  | cons d ds =>
   rw [List.getLast?_cons_cons]
   cases hl : (d :: ds).getLast? with
   | none => simp at hl
   | some x =>
    have hx := hc x (List.mem_cons_of_mem _ (List.mem_of_getLast? hl))
    show (s.2.set q _)[x.toNat]? = s.2[x.toNat]?
    exact List.getElem?_set_ne (by omega)
theorem lookTo_last {g : Gm} (hg : Good g) (m : Nat) : m ≤ g.nodes.length → ∀ i, g.nodes.length - m ≤ i → i < g.nodes.length → ∃ e, Span g.nodes [(i : Int)] i e ∧ i < e ∧ e ≤ g.nodes.length ∧ (lookTo g.nodes m).2[i]? = some ((e : Int) - 1) := by
 induction m with
 | zero => intro _ i h1 h2; omega
 | succ m ih =>
  intro hm i h1 h2
  have ih := ih (by omega)
  have hlen := lookTo_len g.nodes m
  obtain ⟨n, hn⟩ := getSome (l := g.nodes) (k := g.nodes.length - 1 - m) (by omega)
  have hst : lookTo g.nodes (m + 1) = lookKids (g.nodes.length - 1 - m) n.next ((lookTo g.nodes m).1, (lookTo g.nodes m).2.set (g.nodes.length - 1 - m) ((g.nodes.length - 1 - m : Nat) : Int)) := by
   rw [lookTo, lookStep, hn]
  rw [hst]
  by_cases hi : i = g.nodes.length - 1 - m
  ·rw [← hi] at hn ⊢
   obtain ⟨e, hs, he1, he2⟩ := hg.span.sub i (by omega) (by omega)
   refine ⟨e, hs, he1, he2, ?_⟩
   have ho := hs.open hn
   rw [lookKids_at _ _ _ (by simp [hlen.2]; omega) (fun c hc => by have := ho.mem c hc; simp [hlen.2]; omega)]
   cases hl : n.next.getLast? with
   | none =>
    have : n.next = [] := by simpa using hl
    rw [this] at ho
    cases ho
    simp [hlen.2, h2]
   | some c =>
    obtain ⟨k, rfl, hk, hsk⟩ := ho.last c hl
    obtain ⟨e', hs', he1', he2', hv⟩ := ih k (by omega) (by have := ho.mem _ (List.mem_of_getLast? hl); omega)
    have := hsk.unique hs'
    subst this
    show (List.set _ i _)[(k : Int).toNat]? = _
    rw [List.getElem?_set_ne (by simp; omega)]
    simpa using hv
  ·obtain ⟨e, h3, h4, h5, h6⟩ := ih i (by omega) h2
   refine ⟨e, h3, h4, h5, ?_⟩
   rw [lookKids_other _ _ _ hi]
   show (List.set _ _ _)[i]? = _
   rw [List.getElem?_set_ne (by omega)]
   exact h6
theorem look_last {g : Gm} (hg : Good g) {i : Nat} (h : i < g.nodes.length) : ∃ e, Span g.nodes [(i : Int)] i e ∧ i < e ∧ e ≤ g.nodes.length ∧ (lookL g.nodes).2[i]? = some ((e : Int) - 1) := lookTo_last hg _ (Nat.le_refl _) i (by omega) h
theorem fine {g : Gm} : FineIf g := fun h => ⟨fun x hx => by
 obtain ⟨i, hi⟩ := List.getElem?_of_mem hx
 have hlt := lt_of_get hi
 have hl : (lookL g.nodes).2.length = g.nodes.length := (lookTo_len _ _).2
 obtain ⟨e, _, _, h3, h4⟩ := look_last (good_of h) (i := i) (by omega)
 rw [hi] at h4; cases h4; omega⟩
/-- node j lies in the subtree of one of the roots -/
def In (nodes : List Nd) (roots : List Int) (j : Nat) : Prop := ∃ r : Nat, (r : Int) ∈ roots ∧ ∃ e, Span nodes [(r : Int)] r e ∧ r ≤ j ∧ j < e
theorem in_root {g : Gm} (hg : Good g) {roots : List Int} {j : Nat} (hj : j < g.nodes.length) (h : (j : Int) ∈ roots) : In g.nodes roots j := by
 obtain ⟨e, h1, h2, _⟩ := hg.span.sub j (by omega) hj
 exact ⟨j, h, e, h1, Nat.le_refl _, h2⟩
theorem in_step {g : Gm} (hg : Good g) {roots : List Int} {j p : Nat} {n : Nd} (hj : j < g.nodes.length) (hp : g.nodes[p]? = some n) (hc : (j : Int) ∈ n.next) : In g.nodes roots j ↔ (j : Int) ∈ roots ∨ In g.nodes roots p := by
 constructor
 ·rintro ⟨r, hr, e, hs, h1, h2⟩
  by_cases hrj : r = j
  ·subst hrj; exact .inl hr
  ·right
   rcases hs.parent j h1 h2 with h3 | ⟨p', n', h3, h4, h5, h6⟩
   ·simp at h3; omega
   ·have hp' : p' = p := hg.span.once.2 _ p' p n' n (by omega) (by omega) (by omega) (lt_of_get hp) h5 hp h6 hc
    subst hp'
    exact ⟨r, hr, e, hs, h3, by omega⟩
 ·rintro (h | ⟨r, hr, e, hs, h1, h2⟩)
  ·exact in_root hg hj h
  ·have := hs.kids p n h1 h2 hp _ hc
   exact ⟨r, hr, e, hs, by omega, by omega⟩
theorem parKids_get {l : List Int} {i : Int} {p : List Int} {j : Nat} (hj : j < p.length) (hl : ∀ c ∈ l, 0 ≤ c) : (parKids l i p)[j]? = if (j : Int) ∈ l then some i else p[j]? := by
 unfold parKids
 induction l generalizing p with
 | nil => simp
 | cons c l ih =>
  simp only [List.foldl_cons]
  rw [ih (by simpa using hj) (fun d hd => hl d (List.mem_cons_of_mem _ hd))]
  have hc := hl c (by simp)
  by_cases h1 : (j : Int) ∈ l
  ·rw [if_pos h1, if_pos (List.mem_cons_of_mem _ h1)]
  ·rw [if_neg h1]
   by_cases h2 : (j : Int) = c
   ·rw [if_pos (by rw [h2]; simp), List.getElem?_set, if_pos (by omega), if_pos (by omega)]
   ·rw [if_neg (by simp [h1, h2]), List.getElem?_set_ne (by omega)]
theorem parTo_get {g : Gm} (hg : Good g) {j p : Nat} {n : Nd} (hj : j < g.nodes.length) (hp : g.nodes[p]? = some n) (hc : (j : Int) ∈ n.next) (k : Nat) : k ≤ g.nodes.length → p < k → (parTo g.nodes k)[j]? = some (p : Int) := by
 induction k with
 | zero => intro _ h; omega
 | succ k ih =>
  intro hk hpk
  obtain ⟨m, hm⟩ := getSome (l := g.nodes) (k := k) (by omega)
  rw [parTo_succ hm, parKids_get (by rw [parTo_length]; exact hj) (fun c hc => (hg.kidsIn m (List.mem_of_getElem? hm) c hc).1)]
  by_cases h1 : (j : Int) ∈ m.next
  ·have hpk' : p = k := hg.span.once.2 _ p k n m (by omega) (lt_of_get hp) (by omega) (by omega) hp hm hc h1
   rw [if_pos h1, hpk']
  ·rw [if_neg h1]
   by_cases h2 : p = k
   ·subst h2; rw [hp] at hm; cases hm; exact absurd hc h1
   ·exact ih (by omega) (by omega)
theorem parents_get {g : Gm} (hg : Good g) {j p : Nat} {n : Nd} (hj : j < g.nodes.length) (hp : g.nodes[p]? = some n) (hc : (j : Int) ∈ n.next) : (parentsL g.nodes)[j]? = some (p : Int) :=
 parTo_get hg hj hp hc _ (Nat.le_refl _) (lt_of_get hp)
theorem has_parent {g : Gm} (hg : Good g) {j : Nat} (h0 : 0 < j) (hj : j < g.nodes.length) : ∃ p n, p < j ∧ g.nodes[p]? = some n ∧ (j : Int) ∈ n.next := by
 rcases hg.span.parent j (by omega) hj with h | ⟨p, n, _, h1, h2, h3⟩
 ·simp at h; omega
 ·exact ⟨p, n, h1, h2, h3⟩
theorem markL_get {roots : List Int} {l : List Bool} {j : Nat} (hj : j < l.length) (hr : ∀ r ∈ roots, 0 ≤ r) : (markL roots l)[j]? = if (j : Int) ∈ roots then some true else l[j]? := by
 unfold markL
 induction roots generalizing l with
 | nil => simp
 | cons c rs ih =>
  simp only [List.foldl_cons]
  rw [ih (by simpa using hj) (fun d hd => hr d (List.mem_cons_of_mem _ hd))]
  have hc := hr c (by simp)
  by_cases h1 : (j : Int) ∈ rs
  ·rw [if_pos h1, if_pos (List.mem_cons_of_mem _ h1)]
  ·rw [if_neg h1]
   by_cases h2 : (j : Int) = c
   ·rw [if_pos (by rw [h2]; simp), List.getElem?_set, if_pos (by omega), if_pos (by omega)]
   ·rw [if_neg (by simp [h1, h2]), List.getElem?_set_ne (by omega)]
theorem spTo_in {g : Gm} (hg : Good g) {roots : List Int} (hr : ∀ r ∈ roots, 0 ≤ r) (m : Nat) : 1 ≤ m → m ≤ g.nodes.length →
  (∀ j, j < m → ∃ b, (spTo (parentsL g.nodes) (markL roots (List.replicate g.nodes.length false)) m)[j]? = some b ∧ (b = true ↔ In g.nodes roots j)) ∧
  ∀ j, m ≤ j → (spTo (parentsL g.nodes) (markL roots (List.replicate g.nodes.length false)) m)[j]? = (markL roots (List.replicate g.nodes.length false))[j]? := by
 induction m with
 | zero => intro h; omega
 | succ m ih =>
  intro _ hm
  by_cases h1 : 1 ≤ m
  ·obtain ⟨ih1, ih2⟩ := ih h1 (by omega)
   rw [spTo_succ _ _ _ h1]
   generalize spTo (parentsL g.nodes) (markL roots (List.replicate g.nodes.length false)) m = s at *
   have hlen : m < s.length := by
    have := ih2 m (Nat.le_refl _)
    rw [markL_get (by simp; omega) hr] at this
    split at this
    ·exact lt_of_get this
    ·rw [List.getElem?_replicate, if_pos (by omega)] at this; exact lt_of_get this
   obtain ⟨p, n, hp1, hp2, hp3⟩ := has_parent hg h1 (j := m) (by omega)
   have hpar := parents_get hg (by omega) hp2 hp3
   unfold spStep
   constructor
   ·intro j hj
    by_cases hjm : j = m
    ·subst hjm
     rw [List.getElem?_set_self hlen]
     refine ⟨_, rfl, ?_⟩
     rw [in_step hg (by omega) hp2 hp3]
     obtain ⟨b, hb1, hb2⟩ := ih1 p hp1
     have hmk := ih2 j (Nat.le_refl _)
     rw [markL_get (by simp; omega) hr] at hmk
     simp only [List.getD_eq_getElem?_getD, hpar, Option.getD_some, Int.toNat_natCast, hb1, Bool.or_eq_true, hb2]
     rw [hmk]
     by_cases hin : (j : Int) ∈ roots
     ·simp [hin]
     ·rw [if_neg hin, List.getElem?_replicate, if_pos (by omega)]; simp [hin]
    ·rw [List.getElem?_set_ne (by omega)]
     exact ih1 j (by omega)
   ·intro j hj
    rw [List.getElem?_set_ne (by omega)]
    exact ih2 j (by omega)
  ·obtain rfl : m = 0 := by omega
   refine ⟨fun j hj => ?_, fun j hj => ?_⟩
   ·obtain rfl : j = 0 := by omega
    show ∃ b, (markL roots (List.replicate g.nodes.length false))[0]? = some b ∧ _
    rw [markL_get (by simpa using hg.pos) hr]
    by_cases hin : ((0 : Nat) : Int) ∈ roots
    ·exact ⟨true, by rw [if_pos hin], by simp; exact in_root hg hg.pos hin⟩
    ·refine ⟨false, by rw [if_neg hin, List.getElem?_replicate, if_pos hg.pos], ?_⟩
     simp
     rintro ⟨r, h1, e, h2, h3, h4⟩
     obtain rfl : r = 0 := by omega
     exact hin h1
   ·rfl
theorem underL_in {g : Gm} (hg : Good g) {roots : List Int} (hr : ∀ r ∈ roots, 0 ≤ r) {j : Nat} (hj : j < g.nodes.length) : ∃ b, (underL g.nodes roots)[j]? = some b ∧ (b = true ↔ In g.nodes roots j) :=
 (spTo_in hg hr g.nodes.length hg.pos (Nat.le_refl _)).1 j hj
theorem fillL_get (l : List Bool) (a k j : Nat) (hj : j < l.length) : (fillL l a k)[j]? = if a ≤ j ∧ j < a + k then some true else l[j]? := by
 induction k with
 | zero => rw [if_neg (by omega)]; rfl
 | succ k ih =>
  unfold fillL
  rw [List.getElem?_set]
  by_cases h : a + k = j
  ·rw [if_pos h, if_pos (by rw [fillL_length]; omega), if_pos (by omega)]
  ·rw [if_neg h, ih]
   by_cases h2 : a ≤ j ∧ j < a + k
   ·rw [if_pos h2, if_pos (by omega)]
   ·rw [if_neg h2, if_neg (by omega)]
theorem insFold_in {g : Gm} (hg : Good g) : ∀ (roots : List Int) (l : List Bool), (∀ r ∈ roots, 0 ≤ r ∧ r < (g.nodes.length : Int)) → l.length = g.nodes.length → ∀ j, j < g.nodes.length → ∀ b, l[j]? = some b →
  ∃ b', (roots.foldl (insStep (lookL g.nodes).2) l)[j]? = some b' ∧ (b' = true ↔ b = true ∨ In g.nodes roots j)
 | [], l, _, _, j, _, b, hb => ⟨b, hb, by simp [In]⟩
 | r :: rs, l, hr, hl, j, hj, b, hb => by
  simp only [List.foldl_cons]
  have hr0 := hr r (by simp)
  obtain ⟨q, rfl⟩ := Int.eq_ofNat_of_zero_le hr0.1
  obtain ⟨e, hs, he1, he2, hv⟩ := look_last hg (i := q) (by omega)
  have hst : (insStep (lookL g.nodes).2 l (q : Int))[j]? = if q ≤ j ∧ j < e then some true else some b := by
   unfold insStep
   rw [fillL_get _ _ _ _ (by omega)]
   simp only [Int.toNat_natCast, List.getD_eq_getElem?_getD, hv, Option.getD_some]
   rw [show ((e : Int) - 1 + 1 - (q : Int)).toNat = e - q by omega, hb]
   by_cases h : q ≤ j ∧ j < e
   ·rw [if_pos h, if_pos (by omega)]
   ·rw [if_neg h, if_neg (by omega)]
  have hlen : (insStep (lookL g.nodes).2 l (q : Int)).length = g.nodes.length := by unfold insStep; rw [fillL_length, hl]
  have hcons : In g.nodes ((q : Int) :: rs) j ↔ (q ≤ j ∧ j < e) ∨ In g.nodes rs j := by
   constructor
   ·rintro ⟨r, h1, e', h2, h3, h4⟩
    rcases List.mem_cons.1 h1 with h1 | h1
    ·have : r = q := by omega
     subst this
     have := h2.unique hs
     subst this
     exact .inl ⟨h3, h4⟩
    ·exact .inr ⟨r, h1, e', h2, h3, h4⟩
   ·rintro (⟨h1, h2⟩ | ⟨r, h1, h2⟩)
    ·exact ⟨q, by simp, e, hs, h1, h2⟩
    ·exact ⟨r, List.mem_cons_of_mem _ h1, h2⟩
  by_cases h : q ≤ j ∧ j < e
  ·rw [if_pos h] at hst
   obtain ⟨b', h1, h2⟩ := insFold_in hg rs _ (fun r hr' => hr r (List.mem_cons_of_mem _ hr')) hlen j hj true hst
   exact ⟨b', h1, by rw [h2, hcons]; simp [h]⟩
  ·rw [if_neg h] at hst
   obtain ⟨b', h1, h2⟩ := insFold_in hg rs _ (fun r hr' => hr r (List.mem_cons_of_mem _ hr')) hlen j hj b hst
   exact ⟨b', h1, by rw [h2, hcons]; simp [h]⟩
theorem insL_in {g : Gm} (hg : Good g) {roots : List Int} (hr : ∀ r ∈ roots, 0 ≤ r ∧ r < (g.nodes.length : Int)) {j : Nat} (hj : j < g.nodes.length) : ∃ b, (insL g.nodes.length (lookL g.nodes).2 roots)[j]? = some b ∧ (b = true ↔ In g.nodes roots j) := by
 obtain ⟨b, h1, h2⟩ := insFold_in hg roots (List.replicate g.nodes.length false) hr (by simp) j hj false (by simp [hj])
 exact ⟨b, h1, by rw [h2]; simp⟩
theorem ins_under {g : Gm} (hg : Good g) {roots : List Int} (hr : ∀ r ∈ roots, 0 ≤ r ∧ r < (g.nodes.length : Int)) : insL g.nodes.length (lookL g.nodes).2 roots = underL g.nodes roots := by
 apply List.ext_getElem?
 intro j
 by_cases hj : j < g.nodes.length
 ·obtain ⟨b, h1, h2⟩ := insL_in hg hr hj
  obtain ⟨b', h3, h4⟩ := underL_in hg (fun r h => (hr r h).1) hj
  rw [h1, h3]
  congr 1
  rw [Bool.eq_iff_iff, h2, h4]
 ·rw [List.getElem?_eq_none (by rw [insL_length]; omega), List.getElem?_eq_none (by rw [underL_length]; omega)]
theorem later_order {g : Gm} (hg : Good g) {roots : List Int} (hr : ∀ r ∈ roots, 0 ≤ r ∧ r < (g.nodes.length : Int)) : laterBadTo (lookL g.nodes).2 roots roots.length = orderBadTo g.nodes roots roots.length := by
 have get : ∀ i, i < roots.length → ∃ (q e : Nat), roots[i]? = some (q : Int) ∧ q < g.nodes.length ∧ Span g.nodes [(q : Int)] q e ∧ q < e ∧ (lookL g.nodes).2[q]? = some ((e : Int) - 1) := by
  intro i hi
  obtain ⟨r, hr'⟩ := getSome hi
  have h0 := hr r (List.mem_of_getElem? hr')
  obtain ⟨q, rfl⟩ := Int.eq_ofNat_of_zero_le h0.1
  obtain ⟨e, h1, h2, h3, h4⟩ := look_last hg (i := q) (by omega)
  exact ⟨q, e, hr', by omega, h1, h2, h4⟩
 have under : ∀ i q, i < roots.length → q < g.nodes.length → ∃ b, (underL g.nodes (roots.take i)).getD q false = b ∧ (b = true ↔ In g.nodes (roots.take i) q) := by
  intro i q hi hq
  obtain ⟨b, h1, h2⟩ := underL_in hg (roots := roots.take i) (fun r h => (hr r (List.mem_of_mem_take h)).1) hq
  exact ⟨b, by simp [List.getD_eq_getElem?_getD, h1], h2⟩
 rw [Bool.eq_iff_iff]
 unfold laterBadTo orderBadTo
 rw [List.any_eq_true, List.any_eq_true]
 constructor
 ·rintro ⟨i, hi, hb⟩
  refine ⟨i, hi, ?_⟩
  rw [List.mem_range'_1] at hi
  obtain ⟨q, e, h1, h2, h3, h4, h5⟩ := get i (by omega)
  obtain ⟨p, f, k1, k2, k3, k4, k5⟩ := get (i - 1) (by omega)
  unfold laterBad at hb
  simp only [List.getD_eq_getElem?_getD, h1, k1, Option.getD_some, Int.toNat_natCast, k5, decide_eq_true_eq] at hb
  unfold orderBadAt
  simp only [List.getD_eq_getElem?_getD, h1, k1, Option.getD_some, Int.toNat_natCast, Bool.or_eq_true, decide_eq_true_eq]
  by_cases hle : q ≤ p
  ·left; omega
  ·right
   obtain ⟨b, hb1, hb2⟩ := under i q (by omega) h2
   rw [← List.getD_eq_getElem?_getD, hb1, hb2]
   exact ⟨p, List.mem_of_getElem? (i := i - 1) (by rw [List.getElem?_take]; rw [if_pos (by omega)]; exact k1), f, k3, by omega, by omega⟩
 ·rintro ⟨i, hi, hb⟩
  rw [List.mem_range'_1] at hi
  apply Classical.byContradiction
  intro hno
  have hall : ∀ k, 1 ≤ k → k < roots.length → laterBad (lookL g.nodes).2 roots k = false := by
   intro k h1 h2
   cases h : laterBad (lookL g.nodes).2 roots k with
   | false => rfl
   | true => exact absurd ⟨k, by rw [List.mem_range'_1]; omega, h⟩ hno
  have mono : ∀ d j, 1 ≤ d → j + d < roots.length → ∀ (q e q' : Nat), roots[j]? = some (q : Int) → Span g.nodes [(q : Int)] q e → roots[j + d]? = some (q' : Int) → e ≤ q' := by
   intro d
   induction d with
   | zero => intro j h; omega
   | succ d ih =>
    intro j _ hj q e q' hq hs hq'
    obtain ⟨p, f, k1, k2, k3, k4, k5⟩ := get (j + d) (by omega)
    have hb := hall (j + (d + 1)) (by omega) (by omega)
    unfold laterBad at hb
    rw [show j + (d + 1) - 1 = j + d by omega] at hb
    simp only [List.getD_eq_getElem?_getD, hq', k1, Option.getD_some, Int.toNat_natCast, k5, decide_eq_false_iff_not] at hb
    by_cases hd : 1 ≤ d
    ·have := ih j hd (by omega) q e p hq hs k1
     omega
    ·obtain rfl : d = 0 := by omega
     rw [Nat.add_zero, hq] at k1
     have : q = p := by injection k1; omega
     subst this
     have := hs.unique k3
     omega
  obtain ⟨q, e, h1, h2, h3, h4, h5⟩ := get i (by omega)
  obtain ⟨p, f, k1, k2, k3, k4, k5⟩ := get (i - 1) (by omega)
  have hpq := mono 1 (i - 1) (by omega) (by omega) p f q k1 k3 (by rw [show i - 1 + 1 = i by omega]; exact h1)
  unfold orderBadAt at hb
  simp only [List.getD_eq_getElem?_getD, h1, k1, Option.getD_some, Int.toNat_natCast, Bool.or_eq_true, decide_eq_true_eq] at hb
  rcases hb with hb | hb
  ·omega
  ·obtain ⟨b, hb1, hb2⟩ := under i q (by omega) h2
   rw [← List.getD_eq_getElem?_getD, hb1, hb2] at hb
   obtain ⟨r, hr', e', hs', m1, m2⟩ := hb
   obtain ⟨j, hj⟩ := List.getElem?_of_mem hr'
   rw [List.getElem?_take] at hj
   split at hj
   ·rename_i hji
    have := mono (i - j) j (by omega) (by omega) r e' q hj hs' (by rw [show j + (i - j) = i by omega]; exact h1)
    omega
   ·cases hj
theorem open_check (g : Gm) (roots : List Int) : openErr g roots = checkL g roots := by
 unfold openErr checkL
 split
 ·rfl
 ·rename_i h
  have hg := good_of (g := g) (by simpa using h)
  unfold checkP rightL
  split
  ·rfl
  ·cases hb : rangeBad g.nodes.length roots with
   | true => rfl
   | false => rw [later_order hg (rangeBad_false hb)]
theorem many_any (inn : List Bool) (l : List Int) : decide (0 < manyIn inn l) = l.any (inAt inn) := by
 rw [Bool.eq_iff_iff]
 unfold manyIn
 simp only [decide_eq_true_eq, List.countP_pos_iff, List.any_eq_true]
 rfl
theorem many_all (inn : List Bool) (l : List Int) : decide (manyIn inn l = l.length) = l.all (inAt inn) := by
 rw [Bool.eq_iff_iff]
 unfold manyIn
 simp only [decide_eq_true_eq, List.countP_eq_length, List.all_eq_true]
 rfl
theorem some_sets (inn : List Bool) (sets : List (List Int)) (k : Nat) : someTo (inAt inn) sets k = setsInTo inn sets k := by
 unfold someTo setsInTo
 congr 1
 apply List.filter_congr
 intro q _
 exact (many_any inn q.1).symm
theorem mem_someL {p : Int → Bool} {sets : List (List Int)} {s : Int} : s ∈ someL p sets ↔ ∃ (q : Nat) (l : List Int), s = q ∧ sets[q]? = some l ∧ l.any p = true := by
 unfold someL someTo
 rw [List.take_length]
 simp only [List.mem_map, List.mem_filter, List.mem_zipIdx_iff_getElem?]
 constructor
 ·rintro ⟨⟨l, q⟩, ⟨h1, h2⟩, rfl⟩; exact ⟨q, l, rfl, h1, h2⟩
 ·rintro ⟨q, l, rfl, h1, h2⟩; exact ⟨(l, q), ⟨h1, h2⟩, rfl⟩
theorem closed_all (inn : List Bool) (sets : List (List Int)) : closedPL inn sets = allInTo inn sets sets.length := by
 rw [Bool.eq_iff_iff]
 unfold closedPL allInTo
 rw [List.take_length, List.all_eq_true, List.all_eq_true]
 constructor
 ·intro h l hl
  obtain ⟨q, hq⟩ := List.getElem?_of_mem hl
  rw [many_any, many_all]
  cases ha : l.any (inAt inn) with
  | false => rfl
  | true =>
   have := h q (mem_someL.2 ⟨q, l, rfl, hq, ha⟩)
   unfold allAt at this
   simpa [List.getD_eq_getElem?_getD, hq] using this
 ·intro h s hs
  obtain ⟨q, l, rfl, hq, ha⟩ := mem_someL.1 hs
  have := h l (List.mem_of_getElem? hq)
  rw [many_any, many_all, ha] at this
  unfold allAt
  simpa [List.getD_eq_getElem?_getD, hq] using this
theorem closed_eq (g : Gm) (roots : List Int) : closedPOut g roots = closedOut g roots := by
 unfold closedPOut closedOut
 rw [open_check]
 by_cases h : checkL g roots = 0
 ·obtain ⟨hg, hrt⟩ := check_good h
  rw [ins_under hg (right_in hrt), closed_all]
  unfold closedL
  rw [show (setsL g).length = g.infos.length from setsTo_length _ _ _]
 ·simp [h]
theorem insNodes_eq (g : Gm) (roots : List Int) : insNodesP g roots = insNodesL g roots := by
 unfold insNodesP insNodesL
 rw [open_check]
 split
 ·rename_i h
  obtain ⟨hg, hrt⟩ := check_good h
  rw [ins_under hg (right_in hrt)]
 ·rfl
theorem insSets_eq (g : Gm) (roots : List Int) : insSetsP g roots = insSetsL g roots := by
 unfold insSetsP insSetsL
 rw [open_check]
 split
 ·rename_i h
  obtain ⟨hg, hrt⟩ := check_good h
  rw [ins_under hg (right_in hrt)]
  unfold setsInL someL
  rw [some_sets, show (setsL g).length = g.infos.length from setsTo_length _ _ _]
 ·rfl
end Go.Proofs.Ytafjdoedallnbaa
/- parlourref26.under once more: its result is a row of its own. -/
namespace Go.Proofs.Ytafjdoedallnbaa
open Go.RowKit
set_option maxRecDepth 100000 in
set_option maxHeartbeats 1600000 in
theorem under_row (w : World) (F : Foot) (u vr : Value) (g : Gm) (roots : List Int) (hg : GameAt w F u g) (hr : IntsAt w F vr roots) (hsm : Small g) (h0 : 0 < g.nodes.length) (hk : KidsIn g.nodes)
  (hl : roots.length ≤ 1000) (hin : ∀ r ∈ roots, 0 ≤ r ∧ r < (g.nodes.length : Int)) :
  Calls Try.prog 31 #[u, vr] w (Ret w fun v w' => ∃ b, v = .slice (some ⟨b, 0, none⟩) g.nodes.length g.nodes.length ∧ w.heap.size ≤ b ∧ Row w' b 4 (boolsV (underL g.nodes roots))) := by
 have HG := Lib.hid hg
 obtain ⟨vn, vi, rfl, ⟨A, c, rfl, hc, hN⟩, hI⟩ := hg
 clear hN hI
 have HR := Lib.hid hr; clear hr
 have HK := Lib.hid hk; clear hk
 have hn := hsm.nodes
 have HS := Lib.hid hsm; clear hsm
 have HIN := Lib.hid hin; clear hin
 go_enter Try.func31, Try.ntmps31
 go_wp2_with fail
 refine (parentsOf_any _ F _ g (HG.out.on (Same.alloc _ _ _)) HS.out h0 HK.out).mono ?_
 rintro e w1 ⟨vp, rfl, hb1, hpar⟩
 have hbx := (Row.new w 25 #[.int .i64 g.players, .slice A g.nodes.length c, vi]).below hb1 (by simp)
 have x1 := hbx.cell (i := 1) rfl
 have hz1 := hb1.size
 simp only [World.size_alloc] at hz1
 have HP := Lib.hid hpar; clear hpar
 go_wp2_with (at_make; refine wpl_make _ rfl _ _ 58 rfl 4 (.bool false) 1 Try.underlying58 Try.infoBool rfl g.nodes.length rfl rfl (by omega) (by omega) ?_; intro w2 hb2 hz2 hrow2)
 obtain ⟨Ar, cr, rfl, hcr, hRr⟩ := (HR.out.on (Same.alloc _ _ _)).on (Below.same' hb1 F)
 have HRr := Lib.hid hRr; clear hRr
 go_loopw [7] (fun i wr => ∃ k : Nat, k ≤ roots.length ∧ i = .int .i64 k ∧ Row wr w1.heap.size 4 ((markL (roots.take k) (List.replicate g.nodes.length false)).map Value.bool) ∧ Below w1.heap.size w1 wr) (fun i _ => roots.length - (intOf i).toNat)
 case atStart => exact ⟨0, by omega, rfl, by simpa [markL] using hrow2, hb2⟩
 case round =>
  obtain ⟨k, hk, rfl, hrow, hbel⟩ := hrel
  have hold := below_old hbel
  by_cases hlt : k < roots.length
  ·obtain ⟨b, o, rfl, _, hb, hx⟩ := HRr.out (by omega)
   obtain ⟨r, hr⟩ := getSome hlt
   have er := hx k r hr
   unfold intE at er
   rw [Nat.mul_one] at er
   obtain ⟨hr0, hr1⟩ := HIN.out r (List.mem_of_getElem? hr)
   have HX := Lib.hid hr; clear hr hx
   obtain ⟨y, hy⟩ := getSome (l := markL (roots.take k) (List.replicate g.nodes.length false)) (k := r.toNat) (by rw [markL_length]; simp; omega)
   have rc := hrow.cell (i := r.toNat) (v := .bool y) (by simp [hy])
   have fc := hrow.frozen r.toNat
   clear hy
   go_wp2
   go_roundw
   case rel =>
    refine ⟨k + 1, by omega, by go_num, ?_, hbel.setCell (Nat.le_refl _) _⟩
    have := hrow.set r.toNat (.bool true)
    rw [markL_snoc HX.out]
    simpa [List.map_set] using this
   case measure => simp [intOf]; omega
  ·have hke : k = roots.length := by omega
   have hrow' : Row wr w1.heap.size 4 ((spTo (parentsL g.nodes) (markL roots (List.replicate g.nodes.length false)) 1).map Value.bool) := by
    subst hke; simpa [spTo] using hrow
   clear hrow hke
   have x1' := hbx.below hbel hbx.lt
   go_wp2
   go_loopw [8] (fun i wi => ∃ m : Nat, 1 ≤ m ∧ m ≤ g.nodes.length ∧ i = .int .i64 m ∧ Row wi w1.heap.size 4 ((spTo (parentsL g.nodes) (markL roots (List.replicate g.nodes.length false)) m).map Value.bool) ∧ Below w1.heap.size w1 wi) (fun i _ => g.nodes.length - (intOf i).toNat)
   case atStart => exact ⟨1, by omega, by omega, rfl, hrow', hbel⟩
   case round =>
    clear hrow' hold x1'
    obtain ⟨m, hm1, hm, rfl, hrow, hbel2⟩ := hrel
    have hold := below_old hbel2
    have hx1 := hbx.lt
    by_cases hmt : m < g.nodes.length
    ·obtain ⟨Ap, cp, rfl, hcp, hPp⟩ := HP.out
     have hpl : (parentsL g.nodes).length = g.nodes.length := parTo_length _ _
     obtain ⟨bp, op, rfl, _, hbp, hxp⟩ := hPp (by omega)
     obtain ⟨p, hp⟩ := getSome (l := parentsL g.nodes) (k := m) (by omega)
     have ep := hxp m p hp
     unfold intE at ep
     rw [Nat.mul_one] at ep
     obtain ⟨hp0, hp1⟩ := parTo_range g.nodes g.nodes.length (Nat.le_refl _) m p hp (by omega)
     generalize hll : spTo (parentsL g.nodes) (markL roots (List.replicate g.nodes.length false)) m = ll at *
     have hlen : ll.length = g.nodes.length := by rw [← hll, spTo_length, markL_length]; simp
     obtain ⟨y, hy⟩ := getSome (l := ll) (k := m) (by omega)
     obtain ⟨z, hz⟩ := getSome (l := ll) (k := p.toNat) (by omega)
     have ry := hrow.cell (i := m) (v := .bool y) (by simp [hy])
     have rz := hrow.cell (i := p.toNat) (v := .bool z) (by simp [hz])
     have fc := hrow.frozen m
     have HL := Lib.hid hll; clear hll
     have hpm : m < (parentsL g.nodes).length := by omega
     clear hpl hlen
     have HST := Lib.hid (show spTo (parentsL g.nodes) (markL roots (List.replicate g.nodes.length false)) (m + 1) = ll.set m (y || z) by
      rw [spTo_succ _ _ _ hm1, HL.out]; unfold spStep
      simp [List.getD_eq_getElem?_getD, hy, hz, hp])
     clear hy hz hp hxp hPp
     cases y
     ·go_wp2
      go_roundw
      case rel =>
       refine ⟨m + 1, by omega, by omega, by go_num, ?_, hbel2.setCell (Nat.le_refl _) _⟩
       have := hrow.set m (.bool z)
       rw [HST.out]
       simpa [List.map_set] using this
      case measure => simp [intOf]; omega
     ·go_wp2
      go_roundw
      case rel =>
       refine ⟨m + 1, by omega, by omega, by go_num, ?_, hbel2.setCell (Nat.le_refl _) _⟩
       have := hrow.set m (.bool true)
       rw [HST.out]
       simpa [List.map_set] using this
      case measure => simp [intOf]; omega
    ·go_wp2
     go_ret
     have hme : m = g.nodes.length := by omega
     subst hme
     refine ⟨_, rfl, ?_, ?_⟩
     ·exact ((Below.refl w.heap.size w).alloc (Nat.le_refl _) _).trans ((hb1.mono (by simp)).trans (hbel2.mono (by omega)))
     ·exact ⟨_, rfl, by omega, hrow⟩
end Go.Proofs.Ytafjdoedallnbaa

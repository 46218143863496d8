/- recall.Form, and that it finds the error that the document's answer finds. -/
import Derived.Test.YtkcheepafifjaaaGreatDoorS34
import Derived.Test.YtkcheepafifjaaaGreatDoorS28
set_option linter.all false
namespace Go.Proofs.YtkcheepafifjaaaGreatDoor
open Go.RowKit
set_option maxRecDepth 100000 in
set_option maxHeartbeats 1600000 in
theorem aes (w : World) (F : Ac) (u : Value) (g : Gm) (hg : Aj w F u g) (hsm : Small g) :
  Calls Tryz.prog 115 #[u] w (Ret w fun v _ => v = .int .i64 (nV g)) := by
 have HG := Lib.hid hg;obtain ⟨vn, vi, rfl, ⟨A, c, rfl, hc, hN⟩, ⟨Ai, ci, rfl, hci, hI⟩⟩ := hg;clear hN hI;have HS := Lib.hid hsm; clear hsm;go_enter Tryz.func115, Tryz.ntmps115;go_wp2_with fail
 refine (acW _ F _ g (HG.out.on (Same.alloc _ _ _)) HS.out).mono ?_;rintro e w1 ⟨v, rfl, hb1, vp, rfl, hv⟩;clear hv;have hB : Below w.heap.size w w1 := ((Below.refl w.heap.size w).alloc (Nat.le_refl _) _).trans (hb1.mono (by simp));dsimp only;go_wp2
 go_ret;exact ⟨_, rfl, hB, rfl⟩
def mv (nodes : List Nd) (s i : Nat) : Bool := match nodes[i]? with | some n => decide (n.kind = 2) && decide (n.info.toNat = s) | none => false
def dW (nodes : List Nd) (s k : Nat) : List Int := ((List.range k).filter (mv nodes s)).map fun i : Nat => (i : Int)
theorem yA (nodes : List Nd) (s k : Nat) : dW nodes s (k + 1) = dW nodes s k ++ (if mv nodes s k then [(k : Int)] else []) := by
 unfold dW;rw [List.range_succ, List.filter_append, List.map_append];cases h : mv nodes s k <;> simp [h]
theorem acX (nodes : List Nd) (ni : Nat) (hin : ∀ n ∈ nodes, n.kind = 2 → 0 ≤ n.info ∧ n.info < (ni : Int)) (k : Nat) : ∀ s, s < ni → (eU nodes ni k)[s]? = some (dW nodes s k) := by
 induction k with
 | zero => intro s hs; simp [eU, dW, hs]
 | succ k ih =>
  intro s hs;rw [yA];cases hn : nodes[k]? with
  | none =>
   have : mv nodes s k = false := by simp [mv, hn]
   rw [this]; simp only [eU, hn]; rw [ih s hs]; simp
  | some n =>
   by_cases hk : n.kind = 2
   ·have hb := hin n (List.mem_of_getElem? hn) hk;have hlt : n.info.toNat < ni := by omega
    rw [vC hn hk (ih _ hlt)];by_cases he : n.info.toNat = s
    ·subst he;have : mv nodes n.info.toNat k = true := by simp [mv, hn, hk]
     rw [this, List.getElem?_set_self (by rw [fJ]; exact hlt)]; simp
    ·have : mv nodes s k = false := by simp [mv, hn, he]
     rw [this, List.getElem?_set_ne he, ih s hs]; simp
   ·have : mv nodes s k = false := by simp [mv, hn, hk]
    rw [vF hn hk, this, ih s hs]; simp
theorem jP {g : Gm} (hin : Bj g) {s : Nat} (hs : s < g.infos.length) : (lW g)[s]? = some (dW g.nodes s g.nodes.length) := acX g.nodes g.infos.length hin _ s hs
theorem vT {nodes : List Nd} {s k : Nat} {x : Int} : x ∈ dW nodes s k ↔ ∃ i : Nat, x = i ∧ i < k ∧ mv nodes s i = true := by
 unfold dW;simp only [List.mem_map, List.mem_filter, List.mem_range];constructor
 ·rintro ⟨i, ⟨h1, h2⟩, rfl⟩; exact ⟨i, rfl, h1, h2⟩
 ·rintro ⟨i, rfl, h1, h2⟩; exact ⟨i, ⟨h1, h2⟩, rfl⟩
theorem abN (nodes : List Nd) (ni : Nat) (hin : ∀ n ∈ nodes, n.kind = 2 → 0 ≤ n.info ∧ n.info < (ni : Int)) (m : Nat) : ∀ k, k + m = nodes.length → ∀ s, s < ni →
  (gq (nodes.drop k) k (List.replicate ni 0))[s]? = some (match (List.range' k m).find? (mv nodes s) with | some i => (i : Int) + 1 | none => 0) := by
 induction m with
 | zero =>
  intro k hk s hs;rw [List.drop_eq_nil_of_le (by omega)];simp [gq, hs]
 | succ m ih =>
  intro k hk s hs;obtain ⟨n, hn⟩ := aA (l := nodes) (k := k) (by omega);rw [tV hn];have hr : List.range' k (m + 1) = k :: List.range' (k + 1) m := by rw [List.range'_succ]
  rw [hr, List.find?_cons];by_cases hkd : n.kind = 2
  ·have hb := hin n (List.mem_of_getElem? hn) hkd;rw [if_pos hkd];by_cases he : n.info.toNat = s
   ·subst he;have : mv nodes n.info.toNat k = true := by simp [mv, hn, hkd]
    rw [this, List.getElem?_set_self (by rw [iF]; simp; omega)]
   ·have : mv nodes s k = false := by simp [mv, hn, he]
    rw [this, List.getElem?_set_ne he];exact ih (k + 1) (by omega) s hs
  ·have : mv nodes s k = false := by simp [mv, hn, hkd]
   rw [if_neg hkd, this];exact ih (k + 1) (by omega) s hs
theorem ji {g : Gm} (hin : Bj g) {s : Nat} (hs : s < g.infos.length) : (dZ g)[s]? = some (match dW g.nodes s g.nodes.length with | [] => 0 | x :: _ => x + 1) := by
 have h := abN g.nodes g.infos.length hin g.nodes.length 0 (by omega) s hs;unfold dZ;rw [List.drop_zero] at h;rw [h];congr 1
 unfold dW;rw [← List.range_eq_range', ← List.head?_filter];cases (List.range g.nodes.length).filter (mv g.nodes s) <;> simp
theorem wC (g : Gm) : (dZ g).length = g.infos.length := by unfold dZ; rw [iF]; simp
theorem acY {g : Gm} (hin : Bj g) : gQ g = jU g := by
 unfold gQ jU;have hl : (lW g).length = g.infos.length := fJ _ _ _;have hfl := wC g;have h1 : (dZ g).contains 0 = lK (lW g) := by
  rw [Bool.eq_iff_iff];unfold lK;rw [List.any_eq_true, List.contains_iff_exists_mem_beq];constructor
  ·rintro ⟨x, hx, h0⟩;obtain ⟨s, hs⟩ := List.getElem?_of_mem hx;have hlt : s < g.infos.length := by rw [← hfl]; exact aH hs
   have := ji hin hlt;rw [hs] at this;refine ⟨_, List.mem_of_getElem? (jP hin hlt), ?_⟩;have hx0 : x = 0 := by simpa using (beq_iff_eq.1 h0).symm
   subst hx0;cases hm : dW g.nodes s g.nodes.length with
   | nil => rfl
   | cons y l =>
    exfalso
    rw [hm] at this;have hy : y ∈ dW g.nodes s g.nodes.length := by rw [hm]; simp
    obtain ⟨i, rfl, _⟩ := vT.1 hy;simp at this;omega
  ·rintro ⟨l, hl', h0⟩;obtain ⟨s, hs⟩ := List.getElem?_of_mem hl';have hlt : s < g.infos.length := by rw [← hl]; exact aH hs
   have h2 := jP hin hlt;rw [hs] at h2;cases h2
   have h3 := ji hin hlt;have hnil : dW g.nodes s g.nodes.length = [] := List.eq_nil_of_length_eq_zero (by simpa using h0);rw [hnil] at h3;exact ⟨0, List.mem_of_getElem? h3, by simp⟩
 rw [h1];split
 ·rfl
 ·cases hn : lK (lW g) with
  | true => rfl
  | false =>
   have hne : ∀ s, s < g.infos.length → ∃ x l, dW g.nodes s g.nodes.length = x :: l := by
    intro s hs;have := List.any_eq_false.1 hn _ (List.mem_of_getElem? (jP hin hs));cases hm : dW g.nodes s g.nodes.length with
    | nil => rw [hm] at this; simp at this
    | cons x l => exact ⟨x, l, rfl⟩
   have h2 : fD (dZ g) = !eG (lW g) g.infos.length := by
    rw [Bool.eq_iff_iff, abI, Bool.not_eq_true', eG, List.any_eq_false];constructor
    ·intro h i hi;rw [List.mem_range'_1] at hi;obtain ⟨x, l, hx⟩ := hne (i - 1) (by omega);obtain ⟨y, l', hy⟩ := hne i (by omega);have f1 := ji hin (s := i - 1) (by omega);have f2 := ji hin (s := i) (by omega);rw [hx] at f1; rw [hy] at f2;have := h (i - 1) _ _ f1 (by rw [show i - 1 + 1 = i by omega]; exact f2);have s1 := jP hin (s := i - 1) (by omega);have s2 := jP hin (s := i) (by omega);rw [hx] at s1; rw [hy] at s2;simp [jI, List.getD_eq_getElem?_getD, s1, s2];simp at this;exact this
    ·intro h k x y hx hy;have hk1 : k + 1 < g.infos.length := by rw [← hfl]; exact aH hy
     have := h (k + 1) (by rw [List.mem_range'_1]; omega);obtain ⟨x', l, hx'⟩ := hne k (by omega);obtain ⟨y', l', hy'⟩ := hne (k + 1) (by omega);have f1 := ji hin (s := k) (by omega);have f2 := ji hin (s := k + 1) (by omega);rw [hx'] at f1; rw [hy'] at f2;have s1 := jP hin (s := k) (by omega);have s2 := jP hin (s := k + 1) (by omega);rw [hx'] at s1; rw [hy'] at s2;rw [hx] at f1; rw [hy] at f2;cases f1; cases f2
     simp [jI, List.getD_eq_getElem?_getD, s1, s2] at this;simpa using this
   rw [h2];cases eG (lW g) g.infos.length <;> rfl
structure Deep (a : Nat) (r : Int) (d d' : List Int) (deep deep' : Int) : Prop where
 out : ∀ i : Nat, i < a ∨ r ≤ (i : Int) → d'[i]? = d[i]?
 le : deep ≤ deep'
 below : ∀ (i : Nat) x, a ≤ i → (i : Int) < r → d'[i]? = some x → x ≤ deep'
 hit : deep' = deep ∨ ∃ (i : Nat), a ≤ i ∧ (i : Int) < r ∧ d'[i]? = some deep'
theorem Deep.refl (a : Nat) (d : List Int) (deep : Int) : Deep a a d d deep deep := ⟨fun _ _ => rfl, by omega, fun i x h1 h2 => by omega, .inl rfl⟩
theorem Deep.trans {a m : Nat} {r : Int} {d d' d'' : List Int} {x y z : Int} (ham : a ≤ m) (hmr : (m : Int) ≤ r) (h : Deep a m d d' x y) (k : Deep m r d' d'' y z) : Deep a r d d'' x z := by
 refine ⟨fun i hi => ?_, Int.le_trans h.le k.le, fun i v h1 h2 hv => ?_, ?_⟩
 ·rw [k.out i (by omega), h.out i (by omega)]
 ·by_cases hm : i < m
  ·rw [k.out i (.inl hm)] at hv;exact Int.le_trans (h.below i v h1 (by omega) hv) k.le
  ·exact k.below i v (by omega) h2 hv
 ·rcases k.hit with e | ⟨i, h1, h2, h3⟩
  ·rcases h.hit with e' | ⟨i, h1, h2, h3⟩
   ·left; omega
   ·right; exact ⟨i, h1, by omega, by rw [k.out i (.inl (by omega)), h3, e]⟩
  ·right; exact ⟨i, by omega, h2, h3⟩
theorem zU {N : Nat} {rec : Nat → Tri → Int × Tri} {rec' : Nat → Int → Int × Int} (hlen : ∀ a t, Tri.Len N t → Tri.Len N (rec a t).2)
  (hb : ∀ a t, (rec a t).1 = -1 ∨ ((a : Int) < (rec a t).1 ∧ (rec a t).1 ≤ N)) (hs : ∀ a t d, (rec a t).1 = (rec' a d).1)
  (hrec : ∀ a t deep, a < N → Tri.Len N t → 0 ≤ (rec a t).1 → Deep a (rec a t).1 t.d (rec a t).2.d deep (rec' a deep).2) :
  ∀ (cs : List Int) (x : Nat) (t : Tri) (deep : Int), x ≤ N → Tri.Len N t → 0 ≤ (fA rec cs x t).1 → (x : Int) ≤ (fA rec cs x t).1 ∧ Deep x (fA rec cs x t).1 t.d (fA rec cs x t).2.d deep (bP rec' cs x deep).2
 | [], x, t, deep, _, _, _ => ⟨by simp [fA], by simpa [fA, bP] using Deep.refl x t.d deep⟩
 | c :: cs, x, t, deep, hx, ht, h => by
  unfold fA at h ⊢;unfold bP;by_cases hc : c = x
  ·subst hc;simp only [ne_eq, not_true_eq_false, ↓reduceIte, Int.toNat_natCast] at h ⊢;rw [← hs x t deep];by_cases hng : (rec x t).1 < 0
   ·rw [if_pos hng] at h; simp at h
   ·rw [if_neg hng] at h ⊢;rw [if_neg hng];rcases hb x t with hb1 | hb1
    ·omega
    ·have hr := hrec x t deep (by omega) ht (by omega);obtain ⟨m, hm⟩ := Int.eq_ofNat_of_zero_le (show 0 ≤ (rec x t).1 by omega);rw [hm] at h hr ⊢;rw [hm] at hb1;have ih := zU hlen hb hs hrec cs m (rec x t).2 (rec' x deep).2 (by omega) (hlen x t ht) h;exact ⟨by omega, hr.trans (by omega) ih.1 ih.2⟩
  ·rw [if_pos hc] at h; simp at h
theorem uU (nodes : List Nd) : ∀ (f a : Nat) (par dep : Int) (t : Tri) (deep : Int), Tri.Len nodes.length t → 0 ≤ (bM nodes f a par dep t).1 →
  Deep a (bM nodes f a par dep t).1 t.d (bM nodes f a par dep t).2.d deep (bF nodes f a dep deep).2
 | 0, _, _, _, _, _, _, h => by simp [bM] at h
 | f + 1, a, par, dep, t, deep, ht, h => by
  unfold bM at h ⊢;unfold bF;cases hn : nodes[a]? with
  | none => rw [hn] at h; simp at h
  | some n =>
   rw [hn] at h;simp only at h ⊢;have ha := aH hn;have hk := zU (N := nodes.length) (rec := fun a' t => bM nodes f a' a (dep + 1) t) (rec' := fun a' d => bF nodes f a' (dep + 1) d)
    (fun a' t h => lU nodes f a' a (dep + 1) t h) (fun a' t => nD nodes f a' a (dep + 1) t) (fun a' t d => qK nodes f a' a (dep + 1) t d)
    (fun a' t d _ ht h => uU nodes f a' a (dep + 1) t d ht h) n.next (a + 1) ⟨t.p.set a par, t.d.set a dep, t.l⟩ (max deep dep) (by omega) ⟨by simp [ht.p], by simp [ht.d], ht.l⟩
   simp only [Int.natCast_add, Int.cast_ofNat_Int] at hk;by_cases hng : (fA (fun a' t => bM nodes f a' a (dep + 1) t) n.next ((a : Int) + 1) ⟨t.p.set a par, t.d.set a dep, t.l⟩).1 < 0
   ·rw [if_pos hng] at h; omega
   ·rw [if_neg hng] at h ⊢;obtain ⟨h1, h2⟩ := hk (by omega);have h0 : Deep a ((a + 1 : Nat) : Int) t.d (t.d.set a dep) deep (max deep dep) := by
     refine ⟨fun i hi => List.getElem?_set_ne (by omega), by omega, fun i x h1 h2 hx => ?_, ?_⟩
     ·have : i = a := by omega
      subst this;rw [List.getElem?_set_self (by rw [ht.d]; exact ha)] at hx;cases hx; omega
     ·by_cases hd : dep ≤ deep
      ·left; omega
      ·right; exact ⟨a, by omega, by omega, by rw [List.getElem?_set_self (by rw [ht.d]; exact ha)]; congr 1; omega⟩
    exact h0.trans (by omega) (by simpa using h1) (by simpa using h2)
theorem acZ (l : List Int) (a : Int) : a ≤ l.foldl max a ∧ ∀ x ∈ l, x ≤ l.foldl max a := by
 induction l generalizing a with
 | nil => simp
 | cons y l ih =>
  obtain ⟨h1, h2⟩ := ih (max a y);simp only [List.foldl_cons];refine ⟨by omega, fun x hx => ?_⟩;rcases List.mem_cons.1 hx with rfl | hx
  ·omega
  ·exact h2 x hx
theorem abO (l : List Int) (a : Int) : l.foldl max a = a ∨ l.foldl max a ∈ l := by
 induction l generalizing a with
 | nil => simp
 | cons y l ih =>
  simp only [List.foldl_cons];rcases ih (max a y) with h | h
  ·rw [h];by_cases hay : y ≤ a
   ·left; omega
   ·right; rw [show max a y = y by omega]; simp
  ·right; exact List.mem_cons_of_mem _ h
theorem aeu {l : List Int} {m : Int} (hm : m ∈ l) (hb : ∀ x ∈ l, x ≤ m) : maxL l = m := by
 cases l with
 | nil => cases hm
 | cons y l =>
  unfold maxL;have h1 := acZ l y;have h2 := abO l y;have h3 : m ≤ l.foldl max y := by
   rcases List.mem_cons.1 hm with rfl | h
   ·exact h1.1
   ·exact h1.2 m h
  have h4 : l.foldl max y ≤ m := by
   rcases h2 with h | h
   ·rw [h]; exact hb y (by simp)
   ·exact hb _ (List.mem_cons_of_mem _ h)
  show l.foldl max y = m;omega
theorem agy (g : Gm) : nV g = dJ g := by
 unfold nV dJ;have hw : (walkT g).1 = (bF g.nodes (g.nodes.length + 1) 0 0 0).1 := qK _ _ _ _ _ _ _;split
 ·rfl
 ·rename_i hsz
  split
  ·rfl
  ·rename_i hne
   rw [hw];split
   ·rfl
   ·rename_i hN
    have hin : Bj g := mD (by simpa using hne);have hp : 0 < g.nodes.length := by unfold iK at hsz; omega
    have hd := uU g.nodes (g.nodes.length + 1) 0 (-1) 0 ⟨List.replicate g.nodes.length 0, List.replicate g.nodes.length 0, List.replicate g.nodes.length 0⟩ (-1) ⟨by simp, by simp, by simp⟩;have hd0 := uU g.nodes (g.nodes.length + 1) 0 (-1) 0 ⟨List.replicate g.nodes.length 0, List.replicate g.nodes.length 0, List.replicate g.nodes.length 0⟩ 0 ⟨by simp, by simp, by simp⟩;have hee : bF g.nodes (g.nodes.length + 1) 0 0 (-1) = bF g.nodes (g.nodes.length + 1) 0 0 0 := by
     obtain ⟨n0, hn0⟩ := aA hp;unfold bF; rw [hn0]; rfl
    rw [hee] at hd;have hlen := lU (N := g.nodes.length) g.nodes (g.nodes.length + 1) 0 (-1) 0 ⟨List.replicate g.nodes.length 0, List.replicate g.nodes.length 0, List.replicate g.nodes.length 0⟩ ⟨by simp, by simp, by simp⟩;have hT : walkT g = bM g.nodes (g.nodes.length + 1) 0 (-1) 0 ⟨List.replicate g.nodes.length 0, List.replicate g.nodes.length 0, List.replicate g.nodes.length 0⟩ := rfl;rw [← hT] at hd hd0 hlen;have hN' : (walkT g).1 = (g.nodes.length : Int) := by rw [hw]; simpa using hN
    rw [hN'] at hd hd0;have hd := hd (by omega);have hle := (hd0 (by omega)).le;clear hd0;have hmax : maxL (walkT g).2.d = (bF g.nodes (g.nodes.length + 1) 0 0 0).2 := by
     generalize (bF g.nodes (g.nodes.length + 1) 0 0 0).2 = mx at hd hle;have hb : ∀ x ∈ (walkT g).2.d, x ≤ mx := by
      intro x hx;obtain ⟨i, hi⟩ := List.getElem?_of_mem hx;exact hd.below i x (by omega) (by have := aH hi; rw [hlen.d] at this; omega) hi
     rcases hd.hit with e | ⟨i, _, _, hi⟩
     ·omega
     ·exact aeu (List.mem_of_getElem? hi) hb
    rw [hmax, acY hin]
theorem qj {g : Gm} (h : dJ g = 0) : bT g.ak g.infos.length g.nodes = 0 ∧ jU g = 0 := by
 unfold dJ at h;split at h
 ·omega
 ·split at h
  ·rename_i h2; exact absurd h h2
  ·rename_i h2
   split at h
   ·omega
   ·split at h
    ·omega
    ·exact ⟨by simpa using h2, h⟩
theorem yB {g : Gm} (h : dJ g = 0) : ∀ i ∈ g.infos, i.actions ≤ 10 := by
 intro inf hin;obtain ⟨s, hs⟩ := List.getElem?_of_mem hin;have hsl : s < g.infos.length := aH hs;obtain ⟨h2, h5⟩ := qj h;unfold jU at h5;split at h5
 ·omega
 rename_i ht
 split at h5
 ·omega
 rename_i hn
 have hm := jP (aaA h).infos hsl;have hne : (dW g.nodes s g.nodes.length).length ≠ 0 := fun e => by
  apply hn
  unfold lK;exact List.any_eq_true.2 ⟨_, List.mem_of_getElem? hm, decide_eq_true e⟩
 obtain ⟨x, hx⟩ := List.exists_mem_of_length_pos (Nat.pos_of_ne_zero hne);obtain ⟨k, rfl, hk, hmv⟩ := vT.1 hx;unfold mv at hmv;split at hmv
 ·rename_i n hnk
  simp only [Bool.and_eq_true, decide_eq_true_eq] at hmv;have hmem := List.mem_of_getElem? hnk;have e1 := iy h2 n hmem;unfold aN at e1;rw [if_neg (by omega), if_pos hmv.1] at e1;unfold dB at e1;split at e1
  ·omega
  ·rename_i h3
   have e2 : cO g.infos n = false := by
    cases hb : cO g.infos n with
    | false => rfl
    | true => exact absurd (List.any_eq_true.2 ⟨n, hmem, hb⟩) ht
   unfold cO at e2;rw [decide_eq_true hmv.1, Bool.true_and, Bool.or_eq_false_iff, hmv.2, List.getD_eq_getElem?_getD, hs] at e2;have e3 := of_decide_eq_false e2.2;simp only [Option.getD_some] at e3;omega
 ·cases hmv
end Go.Proofs.YtkcheepafifjaaaGreatDoor

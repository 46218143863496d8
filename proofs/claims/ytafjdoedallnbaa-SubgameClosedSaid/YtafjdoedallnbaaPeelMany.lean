/- A region that draws its order: operations at its end that wait, directly or through others, for all that stand before them, are taken off, as many as one likes. -/
import Derived.Test.YtafjdoedallnbaaPeel
namespace Go.Proofs.Ytafjdoedallnbaa
open Go.RowKit

section
variable {P : Program} {md : Region.Mode}

def needs (md : Region.Mode) (ops : Array Oper) : Nat → Oper → Nat → Bool
  | 0, o, i => o.after.any fun e => Region.binds md e && e.on == i
  | f + 1, o, i => o.after.any fun e => Region.binds md e && (e.on == i || match ops[e.on]? with | some o' => needs md ops f o' i | none => false)
/-- what has come up waits for nothing that has not -/
def Down (md : Region.Mode) (ops : Array Oper) (listed : Array Bool) : Prop := ∀ i o, ops[i]? = some o → listed.getD i false = true → ∀ e ∈ o.after, Region.binds md e = true → listed.getD e.on false = true
theorem needs_listed {ops : Array Oper} {listed : Array Bool} (hd : Down md ops listed) : ∀ (f : Nat) (o : Oper) (i : Nat), (∀ e ∈ o.after, Region.binds md e = true → listed.getD e.on false = true) → needs md ops f o i = true → listed.getD i false = true
  | 0, o, i, h, hn => by
    obtain ⟨e, he, hb⟩ := Array.any_eq_true'.1 hn
    simp only [Bool.and_eq_true, beq_iff_eq] at hb
    rw [← hb.2]; exact h e he hb.1
  | f + 1, o, i, h, hn => by
    obtain ⟨e, he, hb⟩ := Array.any_eq_true'.1 hn
    simp only [Bool.and_eq_true, Bool.or_eq_true, beq_iff_eq] at hb
    have h1 := h e he hb.1
    rcases hb.2 with h2 | h2
    · rw [← h2]; exact h1
    · cases ho : ops[e.on]? with
      | none => rw [ho] at h2; cases h2
      | some o' =>
        rw [ho] at h2
        exact needs_listed hd f o' i (fun e' he' hb' => hd e.on o' ho h1 e' he' hb') h2
def lastC (md : Region.Mode) (ops : Array Oper) (o : Oper) : Bool := o.after.all (fun e => decide (e.on < ops.size)) && (List.range ops.size).all fun i => needs md ops ops.size o i

theorem ready_down {ops : Array Oper} {listed : Array Bool} (hs : listed.size = ops.size) (hd : Down md ops listed) {i : Nat} (hi : i ∈ Region.ready md ops listed) : Down md ops (listed.setIfInBounds i true) := by
  obtain ⟨_, oi, hoi, hall⟩ := mem_ready.1 hi
  have mono : ∀ k, listed.getD k false = true → (listed.setIfInBounds i true).getD k false = true := by
    intro k hk
    simp only [Array.getD_eq_getD_getElem?, Array.getElem?_setIfInBounds] at hk ⊢
    by_cases hik : i = k
    · subst hik
      rw [if_pos rfl]
      by_cases hlt : i < listed.size
      · simp [hlt]
      · simp [hlt] at hk
    · rw [if_neg hik]; exact hk
  intro j o ho hj e he hb
  by_cases hij : i = j
  · subst hij
    rw [hoi] at ho; cases ho
    exact mono _ (hall e he hb)
  · refine mono _ (hd j o ho ?_ e he hb)
    simp only [Array.getD_eq_getD_getElem?, Array.getElem?_setIfInBounds] at hj ⊢
    rw [if_neg hij] at hj; exact hj

variable {Q : Exit → Act → World → Prop}
theorem wpAny_peelC {ops : Array Oper} {o : Oper} (hb : backB ops = true) (hl : lastC md ops o = true) :
    ∀ (fuel : Nat) (listed : Array Bool) (a : Act) (w : World), listed.size = ops.size → Down md ops listed → wpAny P md ops (LastQ P Q (ops.push o) o) fuel listed a w → wpAny P md (ops.push o) Q (fuel + 1) (listed.push false) a w := by
  have hl1 := ((Bool.and_eq_true _ _).mp hl).1
  have hl2 := ((Bool.and_eq_true _ _).mp hl).2
  have waits : ∀ (listed : Array Bool), listed.size = ops.size → Down md ops listed → ops.size ∈ Region.ready md (ops.push o) (listed.push false) → ∀ j, j < ops.size → listed.getD j false = true := by
    intro listed hs hd hi j hj
    obtain ⟨_, oi, ho, h2⟩ := mem_ready.1 hi
    have : oi = o := by simpa using ho.symm
    subst this
    refine needs_listed hd ops.size oi j (fun e he hbd => ?_) (List.all_eq_true.1 hl2 j (List.mem_range.2 hj))
    have h3 := h2 e he hbd
    have hlt : e.on < ops.size := by simpa using Array.all_eq_true'.1 hl1 e he
    simp only [Array.getD_eq_getD_getElem?, Array.getElem?_push] at h3 ⊢
    rw [if_neg (by omega)] at h3
    exact h3
  have fin : ∀ (fuel : Nat) (listed : Array Bool) (a : Act) (w : World), listed.size = ops.size → Region.ready md ops listed = [] → wpList P (ops.push o) Q [o] a w → wpAny P md (ops.push o) Q (fuel + 1) (listed.push false) a w := by
    intro fuel listed a w hs hr h
    have hall := all_of_not_ready hs hb hr
    have hmem : ∀ i, i ∈ Region.ready md (ops.push o) (listed.push false) ↔ i = ops.size := by
      intro i
      constructor
      · intro hi
        rcases Nat.lt_trichotomy i ops.size with h1 | h1 | h1
        · rw [ready_push_lt hs hb h1, hr] at hi; cases hi
        · exact h1
        · obtain ⟨_, oi, ho, _⟩ := mem_ready.1 hi
          rw [Array.getElem?_eq_none (by simp; omega)] at ho
          cases ho
      · rintro rfl
        rw [mem_ready]
        refine ⟨by rw [← hs]; simp [Array.getD_eq_getD_getElem?], o, by simp, fun e he hbd => ?_⟩
        have hlt : e.on < ops.size := by simpa using Array.all_eq_true'.1 hl1 e he
        have := hall e.on hlt
        simp only [Array.getD_eq_getD_getElem?, Array.getElem?_push]
        rw [if_neg (by omega)]
        simpa [Array.getD_eq_getD_getElem?] using this
    refine ⟨fun h0 => absurd ((hmem ops.size).2 rfl) (by rw [h0]; simp), fun i hi => ?_⟩
    have := (hmem i).1 hi
    subst this
    unfold wpList at h
    unfold wpOp
    simp only [Array.getElem?_push_size]
    have hend : ∀ a w, wpList P (ops.push o) Q [] a w → wpAny P md (ops.push o) Q fuel ((listed.push false).setIfInBounds ops.size true) a w := by
      intro a w hq
      refine wpAny_done ?_ hq fuel
      cases hrr : Region.ready md (ops.push o) ((listed.push false).setIfInBounds ops.size true) with
      | nil => rfl
      | cons k ks =>
        have hk : k ∈ Region.ready md (ops.push o) ((listed.push false).setIfInBounds ops.size true) := by rw [hrr]; simp
        obtain ⟨h1, oi, ho, _⟩ := mem_ready.1 hk
        have hlt := (Array.getElem?_eq_some_iff.1 ho).1
        simp only [Array.size_push] at hlt
        exfalso
        rcases Nat.lt_or_ge k ops.size with h2 | h2
        · have h3 := hall k h2
          have hk' : k < listed.size := by omega
          simp only [Array.getD_eq_getD_getElem?, Array.getElem?_setIfInBounds, Array.getElem?_push] at h1 h3
          rw [if_neg (by omega), if_neg (by omega)] at h1
          simp [hk'] at h1 h3
          rw [h1] at h3; cases h3
        · have : k = ops.size := by omega
          subst this
          rw [← hs] at h1
          simp [Array.getD_eq_getD_getElem?] at h1
    split
    · rename_i hw
      rw [if_pos hw] at h
      rcases h with h | h
      · exact .inl (Oper.wp_mono hend h)
      · exact .inr h
    · rename_i hw
      rw [if_neg hw] at h
      exact hend _ _ h
  intro fuel
  induction fuel with
  | zero =>
    intro listed a w hs _ h
    exact fin 0 listed a w hs h.1 h.2
  | succ fuel ih =>
    intro listed a w hs hd h
    by_cases hr : Region.ready md ops listed = []
    · exact fin _ listed a w hs hr (h.1 hr)
    · refine ⟨fun h0 => ?_, fun i hi => ?_⟩
      · exfalso
        obtain ⟨i, hi⟩ := List.exists_mem_of_ne_nil _ hr
        have hlt : i < ops.size := by
          obtain ⟨_, oi, ho, _⟩ := mem_ready.1 hi
          exact (Array.getElem?_eq_some_iff.1 ho).1
        rw [← ready_push_lt (o := o) hs hb hlt, h0] at hi
        cases hi
      · have hlt : i < ops.size := by
          rcases Nat.lt_trichotomy i ops.size with h1 | h1 | h1
          · exact h1
          · subst h1
            exfalso
            apply hr
            have hall := waits listed hs hd hi
            cases hrr : Region.ready md ops listed with
            | nil => rfl
            | cons k ks =>
              have hk : k ∈ Region.ready md ops listed := by rw [hrr]; simp
              obtain ⟨h1, oi, ho, _⟩ := mem_ready.1 hk
              have hkl := (Array.getElem?_eq_some_iff.1 ho).1
              have h3 := hall k hkl
              have hk' : k < listed.size := by omega
              simp [hk'] at h1 h3
              rw [h1] at h3; cases h3
          · obtain ⟨_, oi, ho, _⟩ := mem_ready.1 hi
            rw [Array.getElem?_eq_none (by simp; omega)] at ho
            cases ho
        have hi' := (ready_push_lt (o := o) hs hb hlt).1 hi
        have hd' := ready_down hs hd hi'
        have hop := h.2 i hi'
        have e1 : (ops.push o)[i]? = ops[i]? := by rw [Array.getElem?_push, if_neg (by omega)]
        have hset : (listed.push false).setIfInBounds i true = (listed.setIfInBounds i true).push false := by
          apply Array.ext_getElem?
          intro j
          rw [Array.getElem?_setIfInBounds, Array.getElem?_push, Array.getElem?_push, Array.getElem?_setIfInBounds]
          simp only [Array.size_push, Array.size_setIfInBounds]
          by_cases h1 : i = j
          · subst h1
            rw [if_pos rfl, if_pos (by omega), if_neg (by omega), if_pos rfl, if_pos (by omega)]
          · rw [if_neg h1, if_neg h1]
        unfold wpOp at hop ⊢
        rw [e1]
        cases ho : ops[i]? with
        | none => rw [ho] at hop; simp only at hop ⊢; rw [hset]; exact ih _ _ _ (by simp [hs]) hd' hop
        | some oi =>
          rw [ho] at hop
          simp only at hop ⊢
          have hg : Region.wanted oi (yielded (ops.push o) a.tmps) = Region.wanted oi (yielded ops a.tmps) := by
            unfold Region.wanted
            have hbi := List.all_eq_true.1 hb i (List.mem_range.2 hlt)
            rw [ho] at hbi
            simp only [Bool.and_eq_true] at hbi
            cases hgd : oi.guard with
            | none => rfl
            | some jw =>
              obtain ⟨j, want⟩ := jw
              rw [hgd] at hbi
              have hj : j < i := by simpa using hbi.2
              simp only [yielded]
              rw [Array.getElem?_push, if_neg (by omega)]
          rw [hg]
          split
          · rename_i hw
            rw [if_pos hw] at hop
            rcases hop with hop | hop
            · refine .inl ?_
              have := Oper.wp_mono (K' := wpAny P md (ops.push o) Q (fuel + 1) ((listed.push false).setIfInBounds i true)) (fun a' w' h' => by rw [hset]; exact ih _ _ _ (by simp [hs]) hd' h') hop
              exact upon_last this
            · exact .inr hop
          · rename_i hw
            rw [if_neg hw] at hop
            rw [hset]
            exact ih _ _ _ (by simp [hs]) hd' hop

theorem down_none (ops : Array Oper) (n : Nat) : Down md ops (Array.replicate n false) := by
  intro i o _ h
  simp only [Array.getD_eq_getD_getElem?, Array.getElem?_replicate] at h
  split at h <;> simp at h
theorem wpAny_peelCL {L : List Oper} {o : Oper} (n : Nat) (hn : L.drop n = [o]) (hb : backB (L.take n).toArray = true) (hl : lastC md (L.take n).toArray o = true) {a : Act} {w : World}
    (h : wpAny P md (L.take n).toArray (LastQ P Q L.toArray o) n (Array.replicate n false) a w) : wpAny P md L.toArray Q (n + 1) (Array.replicate (n + 1) false) a w := by
  have hlen : L.length = n + 1 := by
    have := congrArg List.length hn
    simp at this; omega
  have hL : L.toArray = (L.take n).toArray.push o := by
    rw [List.push_toArray, ← hn, List.take_append_drop]
  have hs : (L.take n).toArray.size = n := by simp; omega
  rw [hL] at h ⊢
  rw [Array.replicate_succ]
  exact wpAny_peelC hb hl n _ a w (by simp [hs]) (down_none _ _) h

/-- what is asked behind the first n operations: the others, one behind the other -/
def PeelQ (P : Program) (Q : Exit → Act → World → Prop) (L : List Oper) : Nat → Exit → Act → World → Prop
  | 0 => Q
  | k + 1 => LastQ P (PeelQ P Q L k) (L.take (L.length - k)).toArray (L.getD (L.length - (k + 1)) default)
theorem wpAny_peelMany {L : List Oper} (n : Nat) : ∀ (k : Nat), L.length = n + k → (∀ j, j < k → backB (L.take (n + j)).toArray = true ∧ lastC md (L.take (n + j)).toArray (L.getD (n + j) default) = true) → ∀ {a : Act} {w : World},
    wpAny P md (L.take n).toArray (PeelQ P Q L k) n (Array.replicate n false) a w → wpAny P md L.toArray Q (n + k) (Array.replicate (n + k) false) a w := by
  have key : ∀ (k : Nat), k ≤ L.length - n → n ≤ L.length → (∀ j, n + j < L.length → backB (L.take (n + j)).toArray = true ∧ lastC md (L.take (n + j)).toArray (L.getD (n + j) default) = true) → ∀ {a : Act} {w : World},
      wpAny P md (L.take (L.length - k)).toArray (PeelQ P Q L k) (L.length - k) (Array.replicate (L.length - k) false) a w → wpAny P md L.toArray Q L.length (Array.replicate L.length false) a w := by
    intro k
    induction k with
    | zero => intro _ _ _ a w h; simpa [PeelQ] using h
    | succ k ih =>
      intro hk hn hc a w h
      refine ih (by omega) hn hc ?_
      have e : L.length - k = (L.length - (k + 1)) + 1 := by omega
      have ht : (L.take (L.length - k)).take (L.length - (k + 1)) = L.take (L.length - (k + 1)) := by rw [List.take_take]; congr 1; omega
      have hd : (L.take (L.length - k)).drop (L.length - (k + 1)) = [L.getD (L.length - (k + 1)) default] := by
        rw [List.drop_take, show L.length - k - (L.length - (k + 1)) = 1 by omega, List.drop_eq_getElem_cons (by omega), List.take_succ_cons, List.take_zero]
        congr 1
        simp [List.getD_eq_getElem?_getD, show L.length - (k + 1) < L.length by omega]
      have hcc := hc (L.length - (k + 1) - n) (by omega)
      rw [show n + (L.length - (k + 1) - n) = L.length - (k + 1) by omega] at hcc
      have := wpAny_peelCL (P := P) (md := md) (Q := PeelQ P Q L k) (L := L.take (L.length - k)) (o := L.getD (L.length - (k + 1)) default) (L.length - (k + 1)) hd (by rw [ht]; exact hcc.1) (by rw [ht]; exact hcc.2) (a := a) (w := w) (by rw [ht]; exact h)
      rw [← e] at this; exact this
  intro k hL hc a w h
  have := key k (by omega) (by omega) (fun j hj => hc j (by omega)) (a := a) (w := w) (by rw [show L.length - k = n by omega]; exact h)
  rwa [hL] at this
/-- the last k operations are taken off -/
theorem wp_peelMany {id : Nat} {L : List Oper} (S : World → Prop) (n k : Nat) (hm : P.follows .mixedOrders = true) (hL : L.length = n + k) (hc : (List.range k).all (fun j => backB (L.take (n + j)).toArray && lastC .any (L.take (n + j)).toArray (L.getD (n + j) default)) = true) {a : Act} {w : World}
    (h : wpAnyH P .any (L.take n).toArray (PeelQ P Q L k) S n (Array.replicate n false) a w.drew) : (Code.region id L.toArray true).wp P Q a w := by
  refine wp_region_any hm ?_
  rw [List.size_toArray, hL]
  refine wpAny_peelMany n k hL (fun j hj => ?_) (wpAny_of_held _ _ _ _ h)
  have := List.all_eq_true.1 hc j (List.mem_range.2 hj)
  simpa using this
end
end Go.Proofs.Ytafjdoedallnbaa

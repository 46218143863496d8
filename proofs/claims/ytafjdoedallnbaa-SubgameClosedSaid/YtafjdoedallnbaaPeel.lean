/- A region that draws its order: its last operation, which waits for all others, is taken off; and what is left may be shown by facts, one an operation, that no other operation turns. -/
import Derived.Test.YtafjdoedallnbaaOwn
namespace Go.Proofs.Ytafjdoedallnbaa
open Go.RowKit

section
variable {P : Program} {md : Region.Mode} {Q : Exit → Act → World → Prop}

/-- what is asked behind all others: the last operation -/
def LastQ (P : Program) (Q : Exit → Act → World → Prop) (ops : Array Oper) (o : Oper) : Exit → Act → World → Prop
  | .normal, a, w => wpList P ops Q [o] a w
  | e, a, w => Q e a w

theorem LastQ.lets {ops : Array Oper} {o : Oper} (h : LetsOut (LastQ P Q ops o)) : LetsOut Q := h

theorem upon_last {ops : Array Oper} {o oi : Oper} {a : Act} {K : Act → World → Prop} {r : Result Next} (h : oi.upon P a K (LastQ P Q ops o) r) : oi.upon P a K Q r := by
  unfold Oper.upon at h ⊢
  split at h <;> exact h

/-- the edges of a region go back, its guards too -/
def backB (ops : Array Oper) : Bool := (List.range ops.size).all fun i => match ops[i]? with
  | some o => o.after.all (fun e => decide (e.on < i)) && (match o.guard with | some (j, _) => decide (j < i) | none => true)
  | none => true
/-- the last operation waits for all others -/
def lastB (md : Region.Mode) (ops : Array Oper) (o : Oper) : Bool := o.after.all (fun e => decide (e.on < ops.size)) && (List.range ops.size).all fun i => o.after.any fun e => Region.binds md e && e.on == i

theorem ready_push_lt {ops : Array Oper} {o : Oper} {listed : Array Bool} (hs : listed.size = ops.size) (hb : backB ops = true) {i : Nat} (hi : i < ops.size) :
    i ∈ Region.ready md (ops.push o) (listed.push false) ↔ i ∈ Region.ready md ops listed := by
  rw [mem_ready, mem_ready]
  have e1 : (ops.push o)[i]? = ops[i]? := by rw [Array.getElem?_push]; rw [if_neg (by omega)]
  have e2 : ∀ j d, j < ops.size → (listed.push false).getD j d = listed.getD j d := by
    intro j d hj
    simp only [Array.getD_eq_getD_getElem?, Array.getElem?_push]
    rw [if_neg (by omega)]
  rw [e1, e2 i true hi]
  constructor
  · rintro ⟨h1, oi, ho, h2⟩
    refine ⟨h1, oi, ho, fun e he hbd => ?_⟩
    have h3 := h2 e he hbd
    have hlt : e.on < i := by
      have := List.all_eq_true.1 hb i (List.mem_range.2 hi)
      rw [ho] at this
      simp only [Bool.and_eq_true] at this
      have := Array.all_eq_true'.1 this.1 e he
      simpa using this
    rwa [e2 _ _ (by omega)] at h3
  · rintro ⟨h1, oi, ho, h2⟩
    refine ⟨h1, oi, ho, fun e he hbd => ?_⟩
    have hlt : e.on < i := by
      have := List.all_eq_true.1 hb i (List.mem_range.2 hi)
      rw [ho] at this
      simp only [Bool.and_eq_true] at this
      have := Array.all_eq_true'.1 this.1 e he
      simpa using this
    rw [e2 _ _ (by omega)]
    exact h2 e he hbd

theorem all_of_not_ready {ops : Array Oper} {listed : Array Bool} (hs : listed.size = ops.size) (hb : backB ops = true) (hr : Region.ready md ops listed = []) : ∀ i, i < ops.size → listed.getD i false = true := by
  intro i
  induction i using Nat.strongRecOn with
  | _ i ih =>
    intro hi
    by_cases hl : listed.getD i true = false
    · exfalso
      have : i ∈ Region.ready md ops listed := by
        rw [mem_ready]
        refine ⟨hl, ops[i], by simp [hi], fun e he _ => ?_⟩
        have h := List.all_eq_true.1 hb i (List.mem_range.2 hi)
        rw [show ops[i]? = some ops[i] by simp [hi]] at h
        simp only [Bool.and_eq_true] at h
        have := Array.all_eq_true'.1 h.1 e he
        have hlt : e.on < i := by simpa using this
        exact ih e.on hlt (by omega)
      rw [hr] at this
      cases this
    · have hi' : i < listed.size := by omega
      simp [hi'] at hl ⊢
      exact hl

theorem wpAny_peel {ops : Array Oper} {o : Oper} (hb : backB ops = true) (hl : lastB md ops o = true) :
    ∀ (fuel : Nat) (listed : Array Bool) (a : Act) (w : World), listed.size = ops.size → wpAny P md ops (LastQ P Q (ops.push o) o) fuel listed a w → wpAny P md (ops.push o) Q (fuel + 1) (listed.push false) a w := by
  -- when all others have come up
  have fin : ∀ (fuel : Nat) (listed : Array Bool) (a : Act) (w : World), listed.size = ops.size → Region.ready md ops listed = [] → wpList P (ops.push o) Q [o] a w → wpAny P md (ops.push o) Q (fuel + 1) (listed.push false) a w := by
    intro fuel listed a w hs hr h
    have hall := all_of_not_ready hs hb hr
    have hmem : ∀ i, i ∈ Region.ready md (ops.push o) (listed.push false) ↔ i = ops.size := by
      intro i
      constructor
      · intro hi
        rcases Nat.lt_trichotomy i ops.size with h1 | h1 | h1
        · rw [ready_push_lt hs hb h1, hr] at hi; cases hi
        · exact h1
        · rw [mem_ready] at hi
          obtain ⟨_, oi, ho, _⟩ := hi
          rw [Array.getElem?_eq_none (by simp; omega)] at ho
          cases ho
      · rintro rfl
        rw [mem_ready]
        refine ⟨by rw [← hs]; simp [Array.getD_eq_getD_getElem?], o, by simp, fun e he hbd => ?_⟩
        by_cases hlt : e.on < ops.size
        · have := hall e.on hlt
          simp only [Array.getD_eq_getD_getElem?, Array.getElem?_push]
          rw [if_neg (by omega)]
          simpa [Array.getD_eq_getD_getElem?] using this
        · exfalso
          simp only [lastB, Bool.and_eq_true] at hl
          have := Array.all_eq_true'.1 hl.1 e he
          simp at this; omega
    refine ⟨fun h0 => absurd ((hmem ops.size).2 rfl) (by rw [h0]; simp), fun i hi => ?_⟩
    have := (hmem i).1 hi
    subst this
    unfold wpList at h
    unfold wpOp
    simp only [Array.getElem?_push_size]
    have hend : ∀ a w, wpList P (ops.push o) Q [] a w → wpAny P md (ops.push o) Q fuel ((listed.push false).setIfInBounds ops.size true) a w := by
      intro a w hq
      refine wpAny_done ?_ hq fuel
      cases hrr : Region.ready md (ops.push o) ((listed.push false).setIfInBounds ops.size true) with
      | nil => rfl
      | cons k ks =>
        have hk : k ∈ Region.ready md (ops.push o) ((listed.push false).setIfInBounds ops.size true) := by rw [hrr]; simp
        obtain ⟨h1, oi, ho, _⟩ := mem_ready.1 hk
        have hlt := (Array.getElem?_eq_some_iff.1 ho).1
        simp only [Array.size_push] at hlt
        exfalso
        rcases Nat.lt_or_ge k ops.size with h2 | h2
        · have h3 := hall k h2
          have hk' : k < listed.size := by omega
          simp only [Array.getD_eq_getD_getElem?, Array.getElem?_setIfInBounds, Array.getElem?_push] at h1 h3
          rw [if_neg (by omega), if_neg (by omega)] at h1
          simp [hk'] at h1 h3
          rw [h1] at h3; cases h3
        · have : k = ops.size := by omega
          subst this
          rw [← hs] at h1
          simp [Array.getD_eq_getD_getElem?] at h1
    split
    · rename_i hw
      rw [if_pos hw] at h
      rcases h with h | h
      · exact .inl (Oper.wp_mono hend h)
      · exact .inr h
    · rename_i hw
      rw [if_neg hw] at h
      exact hend _ _ h
  intro fuel
  induction fuel with
  | zero =>
    intro listed a w hs h
    exact fin 0 listed a w hs h.1 h.2
  | succ fuel ih =>
    intro listed a w hs h
    by_cases hr : Region.ready md ops listed = []
    · exact fin _ listed a w hs hr (h.1 hr)
    · refine ⟨fun h0 => ?_, fun i hi => ?_⟩
      · exfalso
        obtain ⟨i, hi⟩ := List.exists_mem_of_ne_nil _ hr
        have hlt : i < ops.size := by
          have := mem_ready.1 hi
          obtain ⟨_, oi, ho, _⟩ := this
          exact (Array.getElem?_eq_some_iff.1 ho).1
        rw [← ready_push_lt (o := o) hs hb hlt, h0] at hi
        cases hi
      · have hlt : i < ops.size := by
          rcases Nat.lt_trichotomy i ops.size with h1 | h1 | h1
          · exact h1
          · subst h1
            exfalso
            apply hr
            -- all others are listed
            have hall : ∀ j, j < ops.size → listed.getD j true = true := by
              intro j hj
              have := List.all_eq_true.1 ((Bool.and_eq_true _ _).mp hl).2 j (List.mem_range.2 hj)
              obtain ⟨e, he, hbd⟩ := Array.any_eq_true'.1 this
              simp only [Bool.and_eq_true, beq_iff_eq] at hbd
              obtain ⟨_, oi, ho, h2⟩ := mem_ready.1 hi
              have : oi = o := by simpa using ho.symm
              subst this
              have h3 := h2 e he hbd.1
              rw [hbd.2] at h3
              have hj' : j < listed.size := by omega
              simp only [Array.getD_eq_getD_getElem?, Array.getElem?_push] at h3 ⊢
              rw [if_neg (by omega)] at h3
              simpa [hj'] using h3
            cases hrr : Region.ready md ops listed with
            | nil => rfl
            | cons k ks =>
              have hk : k ∈ Region.ready md ops listed := by rw [hrr]; simp
              obtain ⟨h1, oi, ho, _⟩ := mem_ready.1 hk
              rw [hall k (Array.getElem?_eq_some_iff.1 ho).1] at h1
              cases h1
          · rw [mem_ready] at hi
            obtain ⟨_, oi, ho, _⟩ := hi
            rw [Array.getElem?_eq_none (by simp; omega)] at ho
            cases ho
        have hi' := (ready_push_lt (o := o) hs hb hlt).1 hi
        have hop := h.2 i hi'
        have e1 : (ops.push o)[i]? = ops[i]? := by rw [Array.getElem?_push, if_neg (by omega)]
        have hset : (listed.push false).setIfInBounds i true = (listed.setIfInBounds i true).push false := by
          apply Array.ext_getElem?
          intro j
          rw [Array.getElem?_setIfInBounds, Array.getElem?_push, Array.getElem?_push, Array.getElem?_setIfInBounds]
          simp only [Array.size_push, Array.size_setIfInBounds]
          by_cases h1 : i = j
          · subst h1
            rw [if_pos rfl, if_pos (by omega), if_neg (by omega), if_pos rfl, if_pos (by omega)]
          · rw [if_neg h1, if_neg h1]
        unfold wpOp at hop ⊢
        rw [e1]
        cases ho : ops[i]? with
        | none => rw [ho] at hop; simp only at hop ⊢; rw [hset]; exact ih _ _ _ (by simp [hs]) hop
        | some oi =>
          rw [ho] at hop
          simp only at hop ⊢
          have hg : Region.wanted oi (yielded (ops.push o) a.tmps) = Region.wanted oi (yielded ops a.tmps) := by
            unfold Region.wanted
            have hbi := List.all_eq_true.1 hb i (List.mem_range.2 hlt)
            rw [ho] at hbi
            simp only [Bool.and_eq_true] at hbi
            cases hgd : oi.guard with
            | none => rfl
            | some jw =>
              obtain ⟨j, want⟩ := jw
              rw [hgd] at hbi
              have hj : j < i := by simpa using hbi.2
              simp only [yielded]
              rw [Array.getElem?_push, if_neg (by omega)]
          rw [hg]
          split
          · rename_i hw
            rw [if_pos hw] at hop
            rcases hop with hop | hop
            · refine .inl ?_
              have := Oper.wp_mono (K' := wpAny P md (ops.push o) Q (fuel + 1) ((listed.push false).setIfInBounds i true)) (fun a' w' h' => by rw [hset]; exact ih _ _ _ (by simp [hs]) h') hop
              exact upon_last this
            · exact .inr hop
          · rename_i hw
            rw [if_neg hw] at hop
            rw [hset]
            exact ih _ _ _ (by simp [hs]) hop

theorem wpAny_peelL {L : List Oper} {o : Oper} (n : Nat) (hn : L.drop n = [o]) (hb : backB (L.take n).toArray = true) (hl : lastB md (L.take n).toArray o = true) {a : Act} {w : World}
    (h : wpAny P md (L.take n).toArray (LastQ P Q L.toArray o) n (Array.replicate n false) a w) : wpAny P md L.toArray Q (n + 1) (Array.replicate (n + 1) false) a w := by
  have hlen : L.length = n + 1 := by
    have := congrArg List.length hn
    simp at this; omega
  have hL : L.toArray = (L.take n).toArray.push o := by
    rw [List.push_toArray, ← hn, List.take_append_drop]
  have hs : (L.take n).toArray.size = n := by simp; omega
  rw [hL] at h ⊢
  rw [Array.replicate_succ]
  exact wpAny_peel hb hl n _ a w (by simp [hs]) h

/-- one operation is taken off at the end -/
theorem wp_peel1 {id : Nat} {L : List Oper} {o : Oper} (S : World → Prop) (n : Nat) (hm : P.follows .mixedOrders = true) (hn : L.drop n = [o]) (hb : backB (L.take n).toArray = true) (hl : lastB .any (L.take n).toArray o = true) {a : Act} {w : World}
    (_hS : S w.drew) (h : wpAnyH P .any (L.take n).toArray (LastQ P Q L.toArray o) S n (Array.replicate n false) a w.drew) : (Code.region id L.toArray true).wp P Q a w := by
  have hlen : L.length = n + 1 := by
    have := congrArg List.length hn
    simp at this; omega
  refine wp_region_any hm ?_
  rw [List.size_toArray, hlen]
  exact wpAny_peelL n hn hb hl (wpAny_of_held _ _ _ _ h)
/-- two -/
theorem wp_peel2 {id : Nat} {L : List Oper} {o o' : Oper} (S : World → Prop) (n : Nat) (hm : P.follows .mixedOrders = true) (hn : L.drop (n + 1) = [o']) (hn' : (L.take (n + 1)).drop n = [o]) (hb : backB (L.take (n + 1)).toArray = true) (hl : lastB .any (L.take (n + 1)).toArray o' = true)
    (hb' : backB ((L.take (n + 1)).take n).toArray = true) (hl' : lastB .any ((L.take (n + 1)).take n).toArray o = true) {a : Act} {w : World}
    (_hS : S w.drew) (h : wpAnyH P .any ((L.take (n + 1)).take n).toArray (LastQ P (LastQ P Q L.toArray o') (L.take (n + 1)).toArray o) S n (Array.replicate n false) a w.drew) : (Code.region id L.toArray true).wp P Q a w := by
  have hlen : L.length = n + 1 + 1 := by
    have := congrArg List.length hn
    simp at this; omega
  refine wp_region_any hm ?_
  rw [List.size_toArray, hlen]
  exact wpAny_peelL (n + 1) hn hb hl (wpAny_peelL n hn' hb' hl' (wpAny_of_held _ _ _ _ h))
end
end Go.Proofs.Ytafjdoedallnbaa

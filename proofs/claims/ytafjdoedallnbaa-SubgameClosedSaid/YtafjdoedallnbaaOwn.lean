/- Slices that a call grows by append, one or a list of them; what they read as in the end. -/
import Derived.Test.YtafjdoedallnbaaPure1
import Derived.Deep.AppendLies
import Derived.Deep.RegionHeld3
namespace Go.Proofs.Ytafjdoedallnbaa
open Go.RowKit

/-- a slice of one-cell elements that the call owns -/
abbrev Own (w : World) (base : Nat) (t : TypeId) (v : Value) (xs : List Value) : Prop := w.ownsRow base t 1 v xs.length xs

theorem Own.ints {w : World} {base : Nat} {t : TypeId} {v : Value} {l : List Int} (h : Own w base t v (l.map (Value.int .i64))) {F : Foot} (hF : ∀ b, v.ownBlock = some b → F b) : IntsAt w F v l := by
  have h' : w.ownsRow base t 1 v l.length (l.map (Value.int .i64)) := by simpa [Own] using h
  rcases h'.2 with ⟨rfl, h0⟩ | ⟨g, cap, cur, rfl, hb, hg, hnc, _, _, htake⟩
  · have : l = [] := List.eq_nil_of_length_eq_zero h0
    subst this
    exact ⟨none, 0, rfl, Nat.le_refl _, fun h => absurd h (by simp)⟩
  · refine ⟨_, cap, rfl, hnc, fun _ => ⟨g, 0, rfl, hF g rfl, (Array.getElem?_eq_some_iff.1 hg).1, fun k x hk => ?_⟩⟩
    unfold intE
    have hlt := lt_of_get hk
    have := h'.cellAt k (by omega)
    rw [show 0 + k * 1 = k by omega, this]
    simp [hk]

/-- a list of such slices of ints, their blocks apart -/
structure OwnRows (w : World) (base : Nat) (t : TypeId) (vs : List Value) (ls : List (List Int)) : Prop where
  len : vs.length = ls.length
  own : ∀ (j : Nat) (v : Value) (l : List Int), vs[j]? = some v → ls[j]? = some l → w.ownsRow base t 1 v l.length (l.map (Value.int .i64))
  apart : ∀ (i j : Nat) (v u : Value), i ≠ j → vs[i]? = some v → vs[j]? = some u → v.ownBlock = none ∨ v.ownBlock ≠ u.ownBlock

theorem OwnRows.start (w : World) (base : Nat) (t : TypeId) (n : Nat) : OwnRows w base t (List.replicate n (.slice none 0 0)) (List.replicate n []) := by
  refine ⟨by simp, fun j v l hv hl => ?_, fun i j v u _ hv hu => ?_⟩
  · have := List.mem_of_getElem? hv
    have h2 := List.mem_of_getElem? hl
    rw [List.mem_replicate] at this h2
    obtain ⟨_, rfl⟩ := this
    obtain ⟨_, rfl⟩ := h2
    exact World.ownsRow_nil _ _ _ _
  · have := List.mem_of_getElem? hv
    rw [List.mem_replicate] at this
    obtain ⟨_, rfl⟩ := this
    exact .inl rfl
theorem OwnRows.kept {w w' : World} {base : Nat} {t : TypeId} {vs : List Value} {ls : List (List Int)} (h : OwnRows w base t vs ls) (hs : ∀ b, base ≤ b → b < w.heap.size → w'.heap[b]? = w.heap[b]?) : OwnRows w' base t vs ls := by
  refine ⟨h.len, fun j v l hv hl => ?_, h.apart⟩
  have ho := h.own j v l hv hl
  refine ⟨ho.1, ?_⟩
  rcases ho.2 with hn | ⟨g, cap, cur, rfl, hb, hg, r⟩
  · exact .inl hn
  · exact .inr ⟨g, cap, cur, rfl, hb, by rw [hs g hb (Array.getElem?_eq_some_iff.1 hg).1]; exact hg, r⟩
theorem OwnRows.alloc {w : World} {base : Nat} {t : TypeId} {vs : List Value} {ls : List (List Int)} (h : OwnRows w base t vs ls) (o : Obj) : OwnRows (w.alloc o) base t vs ls :=
  h.kept fun b _ hl => Below.heap_alloc w o b hl
theorem OwnRows.drew {w : World} {base : Nat} {t : TypeId} {vs : List Value} {ls : List (List Int)} (h : OwnRows w base t vs ls) : OwnRows w.drew base t vs ls := h.kept fun _ _ _ => rfl
theorem OwnRows.drewN {w : World} {base : Nat} {t : TypeId} {vs : List Value} {ls : List (List Int)} (h : OwnRows w base t vs ls) (n : Nat) : OwnRows (w.drewN n) base t vs ls := h.kept fun _ _ _ => rfl
theorem OwnRows.setCell {w : World} {base : Nat} {t : TypeId} {vs : List Value} {ls : List (List Int)} (h : OwnRows w base t vs ls) {p : Addr} (hp : p.block < base) (v : Value) : OwnRows (w.setCell p v) base t vs ls :=
  h.kept fun b hb _ => Below.heap_setCell w p v b (by omega)
theorem OwnRows.below {w w' : World} {base : Nat} {t : TypeId} {vs : List Value} {ls : List (List Int)} (h : OwnRows w base t vs ls) (hb : Below w.heap.size w w') : OwnRows w' base t vs ls :=
  h.kept fun b _ hl => hb.block b hl
theorem OwnRows.put {w w1 : World} {base : Nat} {t : TypeId} {vs : List Value} {ls : List (List Int)} (h : OwnRows w base t vs ls) {i : Nat} {v v' : Value} {l : List Int} {x : Int} (hv : vs[i]? = some v)
    (hown : w1.ownsRow base t 1 v' (l.length + 1) (l.map (Value.int .i64) ++ [.int .i64 x])) (hg : w.grownBy w1 v.ownBlock) {g : Nat} (hvb : v'.ownBlock = some g) (hat : v.ownBlock = some g ∨ w.heap.size ≤ g) :
    OwnRows w1 base t (vs.set i v') (ls.set i (l ++ [x])) := by
  have hi := lt_of_get hv
  have key : ∀ j u, i ≠ j → vs[j]? = some u → u.ownBlock = none ∨ u.ownBlock ≠ v'.ownBlock := by
    intro j u hij hu
    rcases h.apart j i u v (fun e => hij e.symm) hu hv with h1 | h1
    · exact .inl h1
    · rw [hvb]
      rcases hat with hat | hat
      · right; rw [← hat]; exact h1
      · obtain ⟨lj, hlj⟩ := getSome (l := ls) (k := j) (by rw [← h.len]; exact lt_of_get hu)
        have ho := h.own j u lj hu hlj
        cases hub : u.ownBlock with
        | none => exact .inl rfl
        | some k =>
          right
          have := (ho.lt k hub).2
          intro e; injection e; omega
  refine ⟨by simp [h.len], fun j u m hu hm => ?_, fun j k u z hjk hu hz => ?_⟩
  · rw [List.getElem?_set] at hu hm
    by_cases hij : i = j
    · subst hij
      rw [if_pos rfl, if_pos hi] at hu
      rw [if_pos rfl, if_pos (by rw [← h.len]; exact hi)] at hm
      cases hu; cases hm
      simpa using hown
    · rw [if_neg hij] at hu hm
      refine (h.own j u m hu hm).kept hg ?_
      exact h.apart j i u v (fun e => hij e.symm) hu hv
  · rw [List.getElem?_set] at hu hz
    by_cases hij : i = j
    · subst hij
      rw [if_pos rfl, if_pos hi] at hu
      rw [if_neg hjk] at hz
      cases hu
      rcases key k z hjk hz with h1 | h1
      · right; rw [hvb, h1]; simp
      · right; exact fun e => h1 e.symm
    · rw [if_neg hij] at hu
      by_cases hik : i = k
      · subst hik
        rw [if_pos rfl, if_pos hi] at hz
        cases hz
        exact key j u hij hu
      · rw [if_neg hik] at hz
        exact h.apart j k u z hjk hu hz

/-- the row of such slices is a slice of slices of ints -/
theorem OwnRows.rows {w : World} {base : Nat} {t t' : TypeId} {vs : List Value} {ls : List (List Int)} (h : OwnRows w base t vs ls) {b : Nat} (hr : Row w b t' vs) {F : Foot} (hb : F b) (hF : ∀ k, base ≤ k → F k) {c : Nat} (hc : ls.length ≤ c) :
    RowsAt w F (.slice (some ⟨b, 0, none⟩) ls.length c) ls := by
  refine ⟨_, c, rfl, hc, fun _ => ⟨b, 0, rfl, hb, hr.lt, fun k x hk => ?_⟩⟩
  obtain ⟨v, hv⟩ := getSome (l := vs) (k := k) (by rw [h.len]; exact lt_of_get hk)
  refine ⟨v, by rw [show 0 + k * 1 = k by omega]; exact hr.cell hv, ?_⟩
  have ho := h.own k v x hv hk
  exact Own.ints (by simpa [Own] using ho) fun b hb => hF b (ho.lt b hb).1

/-- append of one int, in a region that draws its order -/
theorem step_app_int {w : World} {ops : Array Oper} {o : Oper} {a : Act} {K : Act → World → Prop} {Q : Exit → Act → World → Prop} {E : Prop} (hgd : o.guard = none) (s x : Operand)
    (ho : o.op = .call { callee := .builtin .append, args := #[s, x], argTypes := #[26, 26] })
    (base : Nat) (v : Value) (l : List Int) (hs : a.eval s = v) (hown : w.ownsRow base 3 1 v l.length (l.map (Value.int .i64)))
    (B : Nat) (y : Int) (hx : a.eval x = .slice (some ⟨B, 0, none⟩) 1 1) (hB : w.heap[B]? = some (.cells #[.int .i64 y] 3 (0, 0))) (hlen : l.length ≤ 1000000) (hbase : base ≤ w.heap.size)
    (h : ∀ g cap w', w'.ownsRow base 3 1 (.slice (some ⟨g, 0, none⟩) (l.length + 1) cap) (l.length + 1) (l.map (Value.int .i64) ++ [.int .i64 y]) → w.grownBy w' v.ownBlock → (v.ownBlock = some g ∨ w.heap.size ≤ g) → g < w'.heap.size →
      K (a.put o.dst (.slice (some ⟨g, 0, none⟩) (l.length + 1) cap)) w') :
    if Region.wanted o (yielded ops a.tmps) = true then Oper.wp Try.prog o a w K Q else E := by
  obtain ⟨i0, hi, hz0, hz1, hz2⟩ := info_parts Try.infoInt
  refine step_append_lies w hgd s x _ ho base _ i0 _ 1 8 Try.underlying26 hi hz0 hz1 hz2 rfl (by omega) v l.length _ hs hown ⟨B, 0, none⟩ 1 1 [.int .i64 y] hx rfl (World.news_of_block hB) (by simp [Value.oneCell']) (by omega) (by unfold maxLen; omega) (by omega) hbase w.heap.size rfl ?_
  intro g cap w' h1 h2 h3 h4
  exact h g cap w' h1 h2 (h3.imp id fun e => by omega) h4
/-- append of one int, in a plain region -/
theorem wpl_app_int {w : World} {ops : Array Oper} {rest : List Oper} {o : Oper} {a : Act} {Q : Exit → Act → World → Prop} (hgd : o.guard = none) (s x : Operand)
    (ho : o.op = .call { callee := .builtin .append, args := #[s, x], argTypes := #[26, 26] })
    (base : Nat) (v : Value) (l : List Int) (hs : a.eval s = v) (hown : w.ownsRow base 3 1 v l.length (l.map (Value.int .i64)))
    (B : Nat) (y : Int) (hx : a.eval x = .slice (some ⟨B, 0, none⟩) 1 1) (hB : w.heap[B]? = some (.cells #[.int .i64 y] 3 (0, 0))) (hlen : l.length ≤ 1000000) (hbase : base ≤ w.heap.size)
    (h : ∀ g cap w', w'.ownsRow base 3 1 (.slice (some ⟨g, 0, none⟩) (l.length + 1) cap) (l.length + 1) (l.map (Value.int .i64) ++ [.int .i64 y]) → w.grownBy w' v.ownBlock → (v.ownBlock = some g ∨ w.heap.size ≤ g) → g < w'.heap.size →
      wpList Try.prog ops Q rest (a.put o.dst (.slice (some ⟨g, 0, none⟩) (l.length + 1) cap)) w') :
    wpList Try.prog ops Q (o :: rest) a w := by
  obtain ⟨i0, hi, hz0, hz1, hz2⟩ := info_parts Try.infoInt
  refine wpList_append_lies w hgd s x _ ho base _ i0 _ 1 8 Try.underlying26 hi hz0 hz1 hz2 rfl (by omega) v l.length _ hs hown ⟨B, 0, none⟩ 1 1 [.int .i64 y] hx rfl (World.news_of_block hB) (by simp [Value.oneCell']) (by omega) (by unfold maxLen; omega) (by omega) hbase w.heap.size rfl ?_
  intro g cap w' h1 h2 h3 h4
  exact h g cap w' h1 h2 (h3.imp id fun e => by omega) h4

/-- the numbers of the moves of each set, the first k nodes alone -/
def setsTo (nodes : List Nd) (ni : Nat) : Nat → List (List Int)
  | 0 => List.replicate ni []
  | k + 1 => match nodes[k]? with
    | some n => if n.kind = 2 then (setsTo nodes ni k).set n.info.toNat ((setsTo nodes ni k).getD n.info.toNat [] ++ [(k : Int)]) else setsTo nodes ni k
    | none => setsTo nodes ni k
def setsL (g : Gm) : List (List Int) := setsTo g.nodes g.infos.length g.nodes.length
theorem setsTo_length (nodes : List Nd) (ni k : Nat) : (setsTo nodes ni k).length = ni := by
  induction k with
  | zero => simp [setsTo]
  | succ k ih =>
    unfold setsTo
    split
    · split
      · rw [List.length_set, ih]
      · exact ih
    · exact ih
theorem setsTo_move {nodes : List Nd} {ni k : Nat} {n : Nd} {l : List Int} (h : nodes[k]? = some n) (hk : n.kind = 2) (hl : (setsTo nodes ni k)[n.info.toNat]? = some l) : setsTo nodes ni (k + 1) = (setsTo nodes ni k).set n.info.toNat (l ++ [(k : Int)]) := by
  simp [setsTo, h, hk, hl, List.getD_eq_getElem?_getD]
theorem setsTo_skip {nodes : List Nd} {ni k : Nat} {n : Nd} (h : nodes[k]? = some n) (hk : ¬ n.kind = 2) : setsTo nodes ni (k + 1) = setsTo nodes ni k := by
  simp [setsTo, h, hk]
theorem setsTo_len {nodes : List Nd} {ni k : Nat} : ∀ l ∈ setsTo nodes ni k, l.length ≤ k := by
  induction k with
  | zero => intro l hl; simp [setsTo] at hl; simp [hl.2]
  | succ k ih =>
    intro l hl
    unfold setsTo at hl
    split at hl
    · split at hl
      · rcases List.mem_or_eq_of_mem_set hl with h | h
        · have := ih l h; omega
        · rename_i n _ _
          subst h
          rw [List.length_append]
          rcases Nat.lt_or_ge n.info.toNat (setsTo nodes ni k).length with hlt | hge
          · have := ih ((setsTo nodes ni k).getD n.info.toNat []) (by rw [List.getD_eq_getElem?_getD]; simp [hlt])
            simp; simp at this; omega
          · rw [List.getD_eq_getElem?_getD, List.getElem?_eq_none hge]; simp
      · have := ih l hl; omega
    · have := ih l hl; omega
/-- moves name sets that there are -/
def InfosIn (g : Gm) : Prop := ∀ n ∈ g.nodes, n.kind = 2 → 0 ≤ n.info ∧ n.info < (g.infos.length : Int)
end Go.Proofs.Ytafjdoedallnbaa

/- Slices that a call grows by append, one or a list of them; what they read as in the end. -/
import Derived.Test.YtafjdoedallnbaaJ01
import Derived.Deep.AppendLies
import Derived.Deep.RegionHeld3
import Derived.Test.YtafjdoedallnbaaJ02
namespace Go.Proofs.Ytafjdoedallnbaa
open Go.RowKit
/-- a slice of one-cell elements that the call owns -/
abbrev Own (w : World) (base : Nat) (t : TypeId) (v : Value) (xs : List Value) : Prop := w.ownsRow base t 1 v xs.length xs
theorem Own.ints {w : World} {base : Nat} {t : TypeId} {v : Value} {l : List Int} (h : Own w base t v (l.map (Value.int .i64))) {F : Foot} (hF : ∀ b, v.ownBlock = some b → F b) : IntsAt w F v l := by
 have h' : w.ownsRow base t 1 v l.length (l.map (Value.int .i64)) := by simpa [Own] using h
 rcases h'.2 with ⟨rfl, h0⟩ | ⟨g, cap, cur, rfl, hb, hg, hnc, _, _, htake⟩
 ·have : l = [] := List.eq_nil_of_length_eq_zero h0
  subst this
  exact ⟨none, 0, rfl, Nat.le_refl _, fun h => absurd h (by simp)⟩
 ·refine ⟨_, cap, rfl, hnc, fun _ => ⟨g, 0, rfl, hF g rfl, (Array.getElem?_eq_some_iff.1 hg).1, fun k x hk => ?_⟩⟩
  unfold intE
  have hlt := lt_of_get hk
  have := h'.cellAt k (by omega)
  rw [show 0 + k * 1 = k by omega, this]
  simp [hk]
/-- a list of such slices of ints, their blocks apart -/
structure OwnRows (w : World) (base : Nat) (t : TypeId) (vs : List Value) (ls : List (List Int)) : Prop where
 len : vs.length = ls.length
 own : ∀ (j : Nat) (v : Value) (l : List Int), vs[j]? = some v → ls[j]? = some l → w.ownsRow base t 1 v l.length (l.map (Value.int .i64))
 apart : ∀ (i j : Nat) (v u : Value), i ≠ j → vs[i]? = some v → vs[j]? = some u → v.ownBlock = none ∨ v.ownBlock ≠ u.ownBlock
theorem OwnRows.start (w : World) (base : Nat) (t : TypeId) (n : Nat) : OwnRows w base t (List.replicate n (.slice none 0 0)) (List.replicate n []) := by
 refine ⟨by simp, fun j v l hv hl => ?_, fun i j v u _ hv hu => ?_⟩
 ·have := List.mem_of_getElem? hv
  have h2 := List.mem_of_getElem? hl
  rw [List.mem_replicate] at this h2
  obtain ⟨_, rfl⟩ := this
  obtain ⟨_, rfl⟩ := h2
  exact World.ownsRow_nil _ _ _ _
 ·have := List.mem_of_getElem? hv
  rw [List.mem_replicate] at this
  obtain ⟨_, rfl⟩ := this
  exact .inl rfl
theorem OwnRows.kept {w w' : World} {base : Nat} {t : TypeId} {vs : List Value} {ls : List (List Int)} (h : OwnRows w base t vs ls) (hs : ∀ b, base ≤ b → b < w.heap.size → w'.heap[b]? = w.heap[b]?) : OwnRows w' base t vs ls := by
 refine ⟨h.len, fun j v l hv hl => ?_, h.apart⟩
 have ho := h.own j v l hv hl
 refine ⟨ho.1, ?_⟩
 rcases ho.2 with hn | ⟨g, cap, cur, rfl, hb, hg, r⟩
 ·exact .inl hn
 ·exact .inr ⟨g, cap, cur, rfl, hb, by rw [hs g hb (Array.getElem?_eq_some_iff.1 hg).1]; exact hg, r⟩
theorem OwnRows.alloc {w : World} {base : Nat} {t : TypeId} {vs : List Value} {ls : List (List Int)} (h : OwnRows w base t vs ls) (o : Obj) : OwnRows (w.alloc o) base t vs ls :=
 h.kept fun b _ hl => Below.heap_alloc w o b hl
theorem OwnRows.drew {w : World} {base : Nat} {t : TypeId} {vs : List Value} {ls : List (List Int)} (h : OwnRows w base t vs ls) : OwnRows w.drew base t vs ls := h.kept fun _ _ _ => rfl
theorem OwnRows.drewN {w : World} {base : Nat} {t : TypeId} {vs : List Value} {ls : List (List Int)} (h : OwnRows w base t vs ls) (n : Nat) : OwnRows (w.drewN n) base t vs ls := h.kept fun _ _ _ => rfl
theorem OwnRows.setCell {w : World} {base : Nat} {t : TypeId} {vs : List Value} {ls : List (List Int)} (h : OwnRows w base t vs ls) {p : Addr} (hp : p.block < base) (v : Value) : OwnRows (w.setCell p v) base t vs ls :=
 h.kept fun b hb _ => Below.heap_setCell w p v b (by omega)
theorem OwnRows.below {w w' : World} {base : Nat} {t : TypeId} {vs : List Value} {ls : List (List Int)} (h : OwnRows w base t vs ls) (hb : Below w.heap.size w w') : OwnRows w' base t vs ls :=
 h.kept fun b _ hl => hb.block b hl
theorem OwnRows.put {w w1 : World} {base : Nat} {t : TypeId} {vs : List Value} {ls : List (List Int)} (h : OwnRows w base t vs ls) {i : Nat} {v v' : Value} {l : List Int} {x : Int} (hv : vs[i]? = some v)
  (hown : w1.ownsRow base t 1 v' (l.length + 1) (l.map (Value.int .i64) ++ [.int .i64 x])) (hg : w.grownBy w1 v.ownBlock) {g : Nat} (hvb : v'.ownBlock = some g) (hat : v.ownBlock = some g ∨ w.heap.size ≤ g) :
  OwnRows w1 base t (vs.set i v') (ls.set i (l ++ [x])) := by
 have hi := lt_of_get hv
 have key : ∀ j u, i ≠ j → vs[j]? = some u → u.ownBlock = none ∨ u.ownBlock ≠ v'.ownBlock := by
  intro j u hij hu
  rcases h.apart j i u v (fun e => hij e.symm) hu hv with h1 | h1
  ·exact .inl h1
  ·rw [hvb]
   rcases hat with hat | hat
   ·right; rw [← hat]; exact h1
   ·obtain ⟨lj, hlj⟩ := getSome (l := ls) (k := j) (by rw [← h.len]; exact lt_of_get hu)
    have ho := h.own j u lj hu hlj
    cases hub : u.ownBlock with
    | none => exact .inl rfl
    | some k =>
     right
     have := (ho.lt k hub).2
     intro e; injection e; omega
 refine ⟨by simp [h.len], fun j u m hu hm => ?_, fun j k u z hjk hu hz => ?_⟩
 ·rw [List.getElem?_set] at hu hm
  by_cases hij : i = j
  ·subst hij
   rw [if_pos rfl, if_pos hi] at hu
   rw [if_pos rfl, if_pos (by rw [← h.len]; exact hi)] at hm
   cases hu; cases hm
   simpa using hown
  ·rw [if_neg hij] at hu hm
   refine (h.own j u m hu hm).kept hg ?_
   exact h.apart j i u v (fun e => hij e.symm) hu hv
 ·rw [List.getElem?_set] at hu hz
  by_cases hij : i = j
  ·subst hij
   rw [if_pos rfl, if_pos hi] at hu
   rw [if_neg hjk] at hz
   cases hu
   rcases key k z hjk hz with h1 | h1
   ·right; rw [hvb, h1]; simp
   ·right; exact fun e => h1 e.symm
  ·rw [if_neg hij] at hu
   by_cases hik : i = k
   ·subst hik
    rw [if_pos rfl, if_pos hi] at hz
    cases hz
    exact key j u hij hu
   ·rw [if_neg hik] at hz
    exact h.apart j k u z hjk hu hz
/-- the row of such slices is a slice of slices of ints -/
theorem OwnRows.rows {w : World} {base : Nat} {t t' : TypeId} {vs : List Value} {ls : List (List Int)} (h : OwnRows w base t vs ls) {b : Nat} (hr : Row w b t' vs) {F : Foot} (hb : F b) (hF : ∀ k, base ≤ k → F k) {c : Nat} (hc : ls.length ≤ c) :
  RowsAt w F (.slice (some ⟨b, 0, none⟩) ls.length c) ls := by
 refine ⟨_, c, rfl, hc, fun _ => ⟨b, 0, rfl, hb, hr.lt, fun k x hk => ?_⟩⟩
 obtain ⟨v, hv⟩ := getSome (l := vs) (k := k) (by rw [h.len]; exact lt_of_get hk)
 refine ⟨v, by rw [show 0 + k * 1 = k by omega]; exact hr.cell hv, ?_⟩
 have ho := h.own k v x hv hk
 exact Own.ints (by simpa [Own] using ho) fun b hb => hF b (ho.lt b hb).1
/-- append of one int, in a region that draws its order -/
theorem step_app_int {w : World} {ops : Array Oper} {o : Oper} {a : Act} {K : Act → World → Prop} {Q : Exit → Act → World → Prop} {E : Prop} (hgd : o.guard = none) (s x : Operand)
  (ho : o.op = .call { callee := .builtin .append, args := #[s, x], argTypes := #[26, 26] })
  (base : Nat) (v : Value) (l : List Int) (hs : a.eval s = v) (hown : w.ownsRow base 3 1 v l.length (l.map (Value.int .i64)))
  (B : Nat) (y : Int) (hx : a.eval x = .slice (some ⟨B, 0, none⟩) 1 1) (hB : w.heap[B]? = some (.cells #[.int .i64 y] 3 (0, 0))) (hlen : l.length ≤ 1000000) (hbase : base ≤ w.heap.size)
  (h : ∀ g cap w', w'.ownsRow base 3 1 (.slice (some ⟨g, 0, none⟩) (l.length + 1) cap) (l.length + 1) (l.map (Value.int .i64) ++ [.int .i64 y]) → w.grownBy w' v.ownBlock → (v.ownBlock = some g ∨ w.heap.size ≤ g) → g < w'.heap.size →
   K (a.put o.dst (.slice (some ⟨g, 0, none⟩) (l.length + 1) cap)) w') :
  if Region.wanted o (yielded ops a.tmps) = true then Oper.wp Try.prog o a w K Q else E := by
 obtain ⟨i0, hi, hz0, hz1, hz2⟩ := info_parts Try.infoInt
 refine step_append_lies w hgd s x _ ho base _ i0 _ 1 8 Try.underlying26 hi hz0 hz1 hz2 rfl (by omega) v l.length _ hs hown ⟨B, 0, none⟩ 1 1 [.int .i64 y] hx rfl (World.news_of_block hB) (by simp [Value.oneCell']) (by omega) (by unfold maxLen; omega) (by omega) hbase w.heap.size rfl ?_
 intro g cap w' h1 h2 h3 h4
 exact h g cap w' h1 h2 (h3.imp id fun e => by omega) h4
/-- append of one int, in a plain region -/
theorem wpl_app_int {w : World} {ops : Array Oper} {rest : List Oper} {o : Oper} {a : Act} {Q : Exit → Act → World → Prop} (hgd : o.guard = none) (s x : Operand)
  (ho : o.op = .call { callee := .builtin .append, args := #[s, x], argTypes := #[26, 26] })
  (base : Nat) (v : Value) (l : List Int) (hs : a.eval s = v) (hown : w.ownsRow base 3 1 v l.length (l.map (Value.int .i64)))
  (B : Nat) (y : Int) (hx : a.eval x = .slice (some ⟨B, 0, none⟩) 1 1) (hB : w.heap[B]? = some (.cells #[.int .i64 y] 3 (0, 0))) (hlen : l.length ≤ 1000000) (hbase : base ≤ w.heap.size)
  (h : ∀ g cap w', w'.ownsRow base 3 1 (.slice (some ⟨g, 0, none⟩) (l.length + 1) cap) (l.length + 1) (l.map (Value.int .i64) ++ [.int .i64 y]) → w.grownBy w' v.ownBlock → (v.ownBlock = some g ∨ w.heap.size ≤ g) → g < w'.heap.size →
   wpList Try.prog ops Q rest (a.put o.dst (.slice (some ⟨g, 0, none⟩) (l.length + 1) cap)) w') :
  wpList Try.prog ops Q (o :: rest) a w := by
 obtain ⟨i0, hi, hz0, hz1, hz2⟩ := info_parts Try.infoInt
 refine wpList_append_lies w hgd s x _ ho base _ i0 _ 1 8 Try.underlying26 hi hz0 hz1 hz2 rfl (by omega) v l.length _ hs hown ⟨B, 0, none⟩ 1 1 [.int .i64 y] hx rfl (World.news_of_block hB) (by simp [Value.oneCell']) (by omega) (by unfold maxLen; omega) (by omega) hbase w.heap.size rfl ?_
 intro g cap w' h1 h2 h3 h4
 exact h g cap w' h1 h2 (h3.imp id fun e => by omega) h4
/-- the numbers of the moves of each set, the first k nodes alone -/
def setsTo (nodes : List Nd) (ni : Nat) : Nat → List (List Int)
 | 0 => List.replicate ni []
 | k + 1 => match nodes[k]? with
  | some n => if n.kind = 2 then (setsTo nodes ni k).set n.info.toNat ((setsTo nodes ni k).getD n.info.toNat [] ++ [(k : Int)]) else setsTo nodes ni k
  | none => setsTo nodes ni k
def setsL (g : Gm) : List (List Int) := setsTo g.nodes g.infos.length g.nodes.length
theorem setsTo_length (nodes : List Nd) (ni k : Nat) : (setsTo nodes ni k).length = ni := by
 induction k with
 | zero => simp [setsTo]
 | succ k ih =>
  unfold setsTo
  split
  ·split
   ·rw [List.length_set, ih]
   ·exact ih
  ·exact ih
theorem setsTo_move {nodes : List Nd} {ni k : Nat} {n : Nd} {l : List Int} (h : nodes[k]? = some n) (hk : n.kind = 2) (hl : (setsTo nodes ni k)[n.info.toNat]? = some l) : setsTo nodes ni (k + 1) = (setsTo nodes ni k).set n.info.toNat (l ++ [(k : Int)]) := by
 simp [setsTo, h, hk, hl, List.getD_eq_getElem?_getD]
theorem setsTo_skip {nodes : List Nd} {ni k : Nat} {n : Nd} (h : nodes[k]? = some n) (hk : ¬ n.kind = 2) : setsTo nodes ni (k + 1) = setsTo nodes ni k := by
 simp [setsTo, h, hk]
theorem setsTo_len {nodes : List Nd} {ni k : Nat} : ∀ l ∈ setsTo nodes ni k, l.length ≤ k := by
 induction k with
 | zero => intro l hl; simp [setsTo] at hl; simp [hl.2]
 | succ k ih =>
  intro l hl
  unfold setsTo at hl
  split at hl
  ·split at hl
   ·rcases List.mem_or_eq_of_mem_set hl with h | h
    ·have := ih l h; omega
    ·rename_i n _ _
     subst h
     rw [List.length_append]
     rcases Nat.lt_or_ge n.info.toNat (setsTo nodes ni k).length with hlt | hge
     ·have := ih ((setsTo nodes ni k).getD n.info.toNat []) (by rw [List.getD_eq_getElem?_getD]; simp [hlt])
      simp; simp at this; omega
     ·rw [List.getD_eq_getElem?_getD, List.getElem?_eq_none hge]; simp
   ·have := ih l hl; omega
  ·have := ih l hl; omega
/-- moves name sets that there are -/
def InfosIn (g : Gm) : Prop := ∀ n ∈ g.nodes, n.kind = 2 → 0 ≤ n.info ∧ n.info < (g.infos.length : Int)
end Go.Proofs.Ytafjdoedallnbaa
/- Nodes and sets that lie in one row of cells. -/
namespace Go.Proofs.Ytafjdoedallnbaa
open Go.RowKit
/-- a node and the three values of its slices -/
structure NV where
 n : Nd
 v3 : Value
 v4 : Value
 v5 : Value
def NV.cells (q : NV) : List Value := [.int .i64 q.n.kind, .int .i64 q.n.player, .int .i64 q.n.info, q.v3, q.v4, q.v5]
def NV.fine (w : World) (F : Foot) (q : NV) : Prop := IntsAt w F q.v3 q.n.next ∧ IntsAt w F q.v4 q.n.weights ∧ IntsAt w F q.v5 q.n.pay
theorem get_flat {α : Type} {f : α → List Value} {s : Nat} (hf : ∀ x, (f x).length = s) : ∀ (L : List α) (k j : Nat) (x : α), L[k]? = some x → j < s → (L.flatMap f)[k * s + j]? = (f x)[j]?
 | [], k, j, x, h, _ => by cases h
 | y :: L, 0, j, x, h, hj => by
  simp at h; subst h
  rw [List.flatMap_cons, Nat.zero_mul, Nat.zero_add, List.getElem?_append_left (by rw [hf]; exact hj)]
 | y :: L, k + 1, j, x, h, hj => by
  rw [List.flatMap_cons, List.getElem?_append_right (by rw [hf, Nat.add_mul, Nat.one_mul]; omega), hf]
  rw [show (k + 1) * s + j - s = k * s + j by rw [Nat.add_mul, Nat.one_mul]; omega]
  exact get_flat hf L k j x (by simpa using h) hj
/-- cells that lie somewhere, one behind the other -/
def Lies (w : World) (b : Nat) (cs : List Value) : Prop := b < w.heap.size ∧ ∀ i v, cs[i]? = some v → w.cell? ⟨b, i, none⟩ = some v
theorem Row.lies {w : World} {b : Nat} {t : TypeId} {cs : List Value} (h : Row w b t cs) : Lies w b cs := ⟨h.lt, fun i v hi => h.cell hi⟩
theorem Lies.nodes {w : World} {b : Nat} {L : List NV} (h : Lies w b (L.flatMap NV.cells)) {F : Foot} (hb : F b) (hL : ∀ q ∈ L, q.fine w F) {c : Nat} (hc : L.length ≤ c) : NodesAt w F (.slice (some ⟨b, 0, none⟩) L.length c) (L.map NV.n) := by
 refine ⟨_, c, by rw [List.length_map], by rw [List.length_map]; exact hc, fun _ => ⟨b, 0, rfl, hb, h.1, fun k x hk => ?_⟩⟩
 rw [List.getElem?_map] at hk
 obtain ⟨q, hq, rfl⟩ := Option.map_eq_some_iff.1 hk
 obtain ⟨f3, f4, f5⟩ := hL q (List.mem_of_getElem? hq)
 have g : ∀ j v, j < 6 → q.cells[j]? = some v → w.cell? ⟨b, 0 + k * 6 + j, none⟩ = some v := fun j v hj hv => by
  rw [Nat.zero_add]; exact h.2 _ _ (by rw [get_flat (f := NV.cells) (s := 6) (fun _ => rfl) L k j q hq hj]; exact hv)
 exact ⟨g 0 _ (by omega) rfl, g 1 _ (by omega) rfl, g 2 _ (by omega) rfl, ⟨_, g 3 _ (by omega) rfl, f3⟩, ⟨_, g 4 _ (by omega) rfl, f4⟩, ⟨_, g 5 _ (by omega) rfl, f5⟩⟩
def infCells (x : Inf) : List Value := [.int .i64 x.player, .int .i64 x.actions]
theorem Lies.infos {w : World} {b : Nat} {L : List Inf} (h : Lies w b (L.flatMap infCells)) {F : Foot} (hb : F b) {c : Nat} (hc : L.length ≤ c) : InfosAt w F (.slice (some ⟨b, 0, none⟩) L.length c) L := by
 refine ⟨_, c, rfl, hc, fun _ => ⟨b, 0, rfl, hb, h.1, fun k x hk => ?_⟩⟩
 have g : ∀ j v, j < 2 → (infCells x)[j]? = some v → w.cell? ⟨b, 0 + k * 2 + j, none⟩ = some v := fun j v hj hv => by
  rw [Nat.zero_add]; exact h.2 _ _ (by rw [get_flat (f := infCells) (s := 2) (fun _ => rfl) L k j x hk hj]; exact hv)
 exact ⟨g 0 _ (by omega) rfl, g 1 _ (by omega) rfl⟩
theorem NV.fine.keep {w w' : World} {F G : Foot} {q : NV} (h : q.fine w F) (hFG : ∀ b, F b → b < w.heap.size → G b) (hs : Same F w w') : q.fine w' G := ⟨h.1.keep hFG hs, h.2.1.keep hFG hs, h.2.2.keep hFG hs⟩
end Go.Proofs.Ytafjdoedallnbaa
/- A region that draws its order: its last operation, which waits for all others, is taken off; and what is left may be shown by facts, one an operation, that no other operation turns. -/
namespace Go.Proofs.Ytafjdoedallnbaa
open Go.RowKit
section
variable {P : Program} {md : Region.Mode} {Q : Exit → Act → World → Prop}
/-- what is asked behind all others: the last operation -/
def LastQ (P : Program) (Q : Exit → Act → World → Prop) (ops : Array Oper) (o : Oper) : Exit → Act → World → Prop
 | .normal, a, w => wpList P ops Q [o] a w
 | e, a, w => Q e a w
theorem LastQ.lets {ops : Array Oper} {o : Oper} (h : LetsOut (LastQ P Q ops o)) : LetsOut Q := h
theorem upon_last {ops : Array Oper} {o oi : Oper} {a : Act} {K : Act → World → Prop} {r : Result Next} (h : oi.upon P a K (LastQ P Q ops o) r) : oi.upon P a K Q r := by
 unfold Oper.upon at h ⊢
 split at h <;> exact h
/-- the edges of a region go back, its guards too -/
def backB (ops : Array Oper) : Bool := (List.range ops.size).all fun i => match ops[i]? with
 | some o => o.after.all (fun e => decide (e.on < i)) && (match o.guard with | some (j, _) => decide (j < i) | none => true)
 | none => true
/-- the last operation waits for all others -/
def lastB (md : Region.Mode) (ops : Array Oper) (o : Oper) : Bool := o.after.all (fun e => decide (e.on < ops.size)) && (List.range ops.size).all fun i => o.after.any fun e => Region.binds md e && e.on == i
theorem ready_push_lt {ops : Array Oper} {o : Oper} {listed : Array Bool} (hs : listed.size = ops.size) (hb : backB ops = true) {i : Nat} (hi : i < ops.size) :
  i ∈ Region.ready md (ops.push o) (listed.push false) ↔ i ∈ Region.ready md ops listed := by
 rw [mem_ready, mem_ready]
 have e1 : (ops.push o)[i]? = ops[i]? := by rw [Array.getElem?_push]; rw [if_neg (by omega)]
 have e2 : ∀ j d, j < ops.size → (listed.push false).getD j d = listed.getD j d := by
  intro j d hj
  simp only [Array.getD_eq_getD_getElem?, Array.getElem?_push]
  rw [if_neg (by omega)]
 rw [e1, e2 i true hi]
 constructor
 ·rintro ⟨h1, oi, ho, h2⟩
  refine ⟨h1, oi, ho, fun e he hbd => ?_⟩
  have h3 := h2 e he hbd
  have hlt : e.on < i := by
   have := List.all_eq_true.1 hb i (List.mem_range.2 hi)
   rw [ho] at this
   simp only [Bool.and_eq_true] at this
   have := Array.all_eq_true'.1 this.1 e he
   simpa using this
  rwa [e2 _ _ (by omega)] at h3
 ·rintro ⟨h1, oi, ho, h2⟩
  refine ⟨h1, oi, ho, fun e he hbd => ?_⟩
  have hlt : e.on < i := by
   have := List.all_eq_true.1 hb i (List.mem_range.2 hi)
   rw [ho] at this
   simp only [Bool.and_eq_true] at this
   have := Array.all_eq_true'.1 this.1 e he
   simpa using this
  rw [e2 _ _ (by omega)]
  exact h2 e he hbd
theorem all_of_not_ready {ops : Array Oper} {listed : Array Bool} (hs : listed.size = ops.size) (hb : backB ops = true) (hr : Region.ready md ops listed = []) : ∀ i, i < ops.size → listed.getD i false = true := by
 intro i
 induction i using Nat.strongRecOn with
 | _ i ih =>
  intro hi
  by_cases hl : listed.getD i true = false
  ·exfalso
   have : i ∈ Region.ready md ops listed := by
    rw [mem_ready]
    refine ⟨hl, ops[i], by simp [hi], fun e he _ => ?_⟩
    have h := List.all_eq_true.1 hb i (List.mem_range.2 hi)
    rw [show ops[i]? = some ops[i] by simp [hi]] at h
    simp only [Bool.and_eq_true] at h
    have := Array.all_eq_true'.1 h.1 e he
    have hlt : e.on < i := by simpa using this
    exact ih e.on hlt (by omega)
   rw [hr] at this
   cases this
  ·have hi' : i < listed.size := by omega
   simp [hi'] at hl ⊢
   exact hl
theorem wpAny_peel {ops : Array Oper} {o : Oper} (hb : backB ops = true) (hl : lastB md ops o = true) :
  ∀ (fuel : Nat) (listed : Array Bool) (a : Act) (w : World), listed.size = ops.size → wpAny P md ops (LastQ P Q (ops.push o) o) fuel listed a w → wpAny P md (ops.push o) Q (fuel + 1) (listed.push false) a w := by
 -- when all others have come up
 have fin : ∀ (fuel : Nat) (listed : Array Bool) (a : Act) (w : World), listed.size = ops.size → Region.ready md ops listed = [] → wpList P (ops.push o) Q [o] a w → wpAny P md (ops.push o) Q (fuel + 1) (listed.push false) a w := by
  intro fuel listed a w hs hr h
  have hall := all_of_not_ready hs hb hr
  have hmem : ∀ i, i ∈ Region.ready md (ops.push o) (listed.push false) ↔ i = ops.size := by
   intro i
   constructor
   ·intro hi
    rcases Nat.lt_trichotomy i ops.size with h1 | h1 | h1
    ·rw [ready_push_lt hs hb h1, hr] at hi; cases hi
    ·exact h1
    ·rw [mem_ready] at hi
     obtain ⟨_, oi, ho, _⟩ := hi
     rw [Array.getElem?_eq_none (by simp; omega)] at ho
     cases ho
   ·rintro rfl
    rw [mem_ready]
    refine ⟨by rw [← hs]; simp [Array.getD_eq_getD_getElem?], o, by simp, fun e he hbd => ?_⟩
    by_cases hlt : e.on < ops.size
    ·have := hall e.on hlt
     simp only [Array.getD_eq_getD_getElem?, Array.getElem?_push]
     rw [if_neg (by omega)]
     simpa [Array.getD_eq_getD_getElem?] using this
    ·exfalso
     simp only [lastB, Bool.and_eq_true] at hl
     have := Array.all_eq_true'.1 hl.1 e he
     simp at this; omega
  refine ⟨fun h0 => absurd ((hmem ops.size).2 rfl) (by rw [h0]; simp), fun i hi => ?_⟩
  have := (hmem i).1 hi
  subst this
  unfold wpList at h
  unfold wpOp
  simp only [Array.getElem?_push_size]
  have hend : ∀ a w, wpList P (ops.push o) Q [] a w → wpAny P md (ops.push o) Q fuel ((listed.push false).setIfInBounds ops.size true) a w := by
   intro a w hq
   refine wpAny_done ?_ hq fuel
   cases hrr : Region.ready md (ops.push o) ((listed.push false).setIfInBounds ops.size true) with
   | nil => rfl
   | cons k ks =>
    have hk : k ∈ Region.ready md (ops.push o) ((listed.push false).setIfInBounds ops.size true) := by rw [hrr]; simp
    obtain ⟨h1, oi, ho, _⟩ := mem_ready.1 hk
    have hlt := (Array.getElem?_eq_some_iff.1 ho).1
    simp only [Array.size_push] at hlt
    exfalso
    rcases Nat.lt_or_ge k ops.size with h2 | h2
    ·have h3 := hall k h2
     have hk' : k < listed.size := by omega
     simp only [Array.getD_eq_getD_getElem?, Array.getElem?_setIfInBounds, Array.getElem?_push] at h1 h3
     rw [if_neg (by omega), if_neg (by omega)] at h1
     simp [hk'] at h1 h3
     rw [h1] at h3; cases h3
    ·have : k = ops.size := by omega
     subst this
     rw [← hs] at h1
     simp [Array.getD_eq_getD_getElem?] at h1
  split
  ·rename_i hw
   rw [if_pos hw] at h
   rcases h with h | h
   ·exact .inl (Oper.wp_mono hend h)
   ·exact .inr h
  ·rename_i hw
   rw [if_neg hw] at h
   exact hend _ _ h
 intro fuel
 induction fuel with
 | zero =>
  intro listed a w hs h
  exact fin 0 listed a w hs h.1 h.2
 | succ fuel ih =>
  intro listed a w hs h
  by_cases hr : Region.ready md ops listed = []
  ·exact fin _ listed a w hs hr (h.1 hr)
  ·refine ⟨fun h0 => ?_, fun i hi => ?_⟩
   ·exfalso
    obtain ⟨i, hi⟩ := List.exists_mem_of_ne_nil _ hr
    have hlt : i < ops.size := by
     have := mem_ready.1 hi
     obtain ⟨_, oi, ho, _⟩ := this
     exact (Array.getElem?_eq_some_iff.1 ho).1
    rw [← ready_push_lt (o := o) hs hb hlt, h0] at hi
    cases hi
   ·have hlt : i < ops.size := by
     rcases Nat.lt_trichotomy i ops.size with h1 | h1 | h1
     ·exact h1
     ·subst h1
      exfalso
      apply hr
      -- all others are listed
      have hall : ∀ j, j < ops.size → listed.getD j true = true := by
       intro j hj
       have := List.all_eq_true.1 ((Bool.and_eq_true _ _).mp hl).2 j (List.mem_range.2 hj)
       obtain ⟨e, he, hbd⟩ := Array.any_eq_true'.1 this
       simp only [Bool.and_eq_true, beq_iff_eq] at hbd
       obtain ⟨_, oi, ho, h2⟩ := mem_ready.1 hi
       have : oi = o := by simpa using ho.symm
       subst this
       have h3 := h2 e he hbd.1
       rw [hbd.2] at h3
       have hj' : j < listed.size := by omega
       simp only [Array.getD_eq_getD_getElem?, Array.getElem?_push] at h3 ⊢
       rw [if_neg (by omega)] at h3
       simpa [hj'] using h3
      cases hrr : Region.ready md ops listed with
      | nil => rfl
      | cons k ks =>
       have hk : k ∈ Region.ready md ops listed := by rw [hrr]; simp
       obtain ⟨h1, oi, ho, _⟩ := mem_ready.1 hk
       rw [hall k (Array.getElem?_eq_some_iff.1 ho).1] at h1
       cases h1
     ·rw [mem_ready] at hi
      obtain ⟨_, oi, ho, _⟩ := hi
      rw [Array.getElem?_eq_none (by simp; omega)] at ho
      cases ho
    have hi' := (ready_push_lt (o := o) hs hb hlt).1 hi
    have hop := h.2 i hi'
    have e1 : (ops.push o)[i]? = ops[i]? := by rw [Array.getElem?_push, if_neg (by omega)]
    have hset : (listed.push false).setIfInBounds i true = (listed.setIfInBounds i true).push false := by
     apply Array.ext_getElem?
     intro j
     rw [Array.getElem?_setIfInBounds, Array.getElem?_push, Array.getElem?_push, Array.getElem?_setIfInBounds]
     simp only [Array.size_push, Array.size_setIfInBounds]
     by_cases h1 : i = j
     ·subst h1
      rw [if_pos rfl, if_pos (by omega), if_neg (by omega), if_pos rfl, if_pos (by omega)]
     ·rw [if_neg h1, if_neg h1]
    unfold wpOp at hop ⊢
    rw [e1]
    cases ho : ops[i]? with
    | none => rw [ho] at hop; simp only at hop ⊢; rw [hset]; exact ih _ _ _ (by simp [hs]) hop
    | some oi =>
     rw [ho] at hop
     simp only at hop ⊢
     have hg : Region.wanted oi (yielded (ops.push o) a.tmps) = Region.wanted oi (yielded ops a.tmps) := by
      unfold Region.wanted
      have hbi := List.all_eq_true.1 hb i (List.mem_range.2 hlt)
      rw [ho] at hbi
      simp only [Bool.and_eq_true] at hbi
      cases hgd : oi.guard with
      | none => rfl
      | some jw =>
       obtain ⟨j, want⟩ := jw
       rw [hgd] at hbi
       have hj : j < i := by simpa using hbi.2
       simp only [yielded]
       rw [Array.getElem?_push, if_neg (by omega)]
     rw [hg]
     split
     ·rename_i hw
      rw [if_pos hw] at hop
      rcases hop with hop | hop
      ·refine .inl ?_
       have := Oper.wp_mono (K' := wpAny P md (ops.push o) Q (fuel + 1) ((listed.push false).setIfInBounds i true)) (fun a' w' h' => by rw [hset]; exact ih _ _ _ (by simp [hs]) h') hop
       exact upon_last this
      ·exact .inr hop
     ·rename_i hw
      rw [if_neg hw] at hop
      rw [hset]
      exact ih _ _ _ (by simp [hs]) hop
theorem wpAny_peelL {L : List Oper} {o : Oper} (n : Nat) (hn : L.drop n = [o]) (hb : backB (L.take n).toArray = true) (hl : lastB md (L.take n).toArray o = true) {a : Act} {w : World}
  (h : wpAny P md (L.take n).toArray (LastQ P Q L.toArray o) n (Array.replicate n false) a w) : wpAny P md L.toArray Q (n + 1) (Array.replicate (n + 1) false) a w := by
 have hlen : L.length = n + 1 := by
  have := congrArg List.length hn
  simp at this; omega
 have hL : L.toArray = (L.take n).toArray.push o := by
  rw [List.push_toArray, ← hn, List.take_append_drop]
 have hs : (L.take n).toArray.size = n := by simp; omega
 rw [hL] at h ⊢
 rw [Array.replicate_succ]
 exact wpAny_peel hb hl n _ a w (by simp [hs]) h
/-- one operation is taken off at the end -/
theorem wp_peel1 {id : Nat} {L : List Oper} {o : Oper} (S : World → Prop) (n : Nat) (hm : P.follows .mixedOrders = true) (hn : L.drop n = [o]) (hb : backB (L.take n).toArray = true) (hl : lastB .any (L.take n).toArray o = true) {a : Act} {w : World}
  (_hS : S w.drew) (h : wpAnyH P .any (L.take n).toArray (LastQ P Q L.toArray o) S n (Array.replicate n false) a w.drew) : (Code.region id L.toArray true).wp P Q a w := by
 have hlen : L.length = n + 1 := by
  have := congrArg List.length hn
  simp at this; omega
 refine wp_region_any hm ?_
 rw [List.size_toArray, hlen]
 exact wpAny_peelL n hn hb hl (wpAny_of_held _ _ _ _ h)
/-- two -/
theorem wp_peel2 {id : Nat} {L : List Oper} {o o' : Oper} (S : World → Prop) (n : Nat) (hm : P.follows .mixedOrders = true) (hn : L.drop (n + 1) = [o']) (hn' : (L.take (n + 1)).drop n = [o]) (hb : backB (L.take (n + 1)).toArray = true) (hl : lastB .any (L.take (n + 1)).toArray o' = true)
  (hb' : backB ((L.take (n + 1)).take n).toArray = true) (hl' : lastB .any ((L.take (n + 1)).take n).toArray o = true) {a : Act} {w : World}
  (_hS : S w.drew) (h : wpAnyH P .any ((L.take (n + 1)).take n).toArray (LastQ P (LastQ P Q L.toArray o') (L.take (n + 1)).toArray o) S n (Array.replicate n false) a w.drew) : (Code.region id L.toArray true).wp P Q a w := by
 have hlen : L.length = n + 1 + 1 := by
  have := congrArg List.length hn
  simp at this; omega
 refine wp_region_any hm ?_
 rw [List.size_toArray, hlen]
 exact wpAny_peelL (n + 1) hn hb hl (wpAny_peelL n hn' hb' hl' (wpAny_of_held _ _ _ _ h))
end
end Go.Proofs.Ytafjdoedallnbaa
/- recall.within, and the errors of nodes by the program: chance, move, end, node. -/
namespace Go.Proofs.Ytafjdoedallnbaa
open Go.RowKit
theorem enters {f : FuncId} {fn : Func} (hf : Try.prog.funcs[f]? = some fn) (hn : (fn.name == "runtime.NumGoroutine") = false) (hb : fn.body.isNone = false) (args : Array Value) (w : World) : (callFunc f args).run Try.prog w = .ok (.enter f args) w := by
 have h1 : fn.name ≠ "runtime.NumGoroutine" := by simpa using hn
 have h2 : fn.body.isNone = false := hb
 obtain ⟨b, hb⟩ : ∃ b, fn.body = some b := by cases h : fn.body <;> simp_all
 simp [callFunc, hf, h1, hb, Sem.run]
set_option maxHeartbeats 1600000 in
theorem within1_any (w : World) (lo hi x : Int) (b1 b2 : Nat) (h1 : w.cell? ⟨b1, 0, none⟩ = some (.int .i64 lo)) (h2 : w.cell? ⟨b2, 0, none⟩ = some (.int .i64 hi)) :
  Calls Try.prog 71 #[.int .i64 x, .pointer (some ⟨b1, 0, none⟩), .pointer (some ⟨b2, 0, none⟩)] w fun e w' => e = .returned (.bool (decide (x < lo) || decide (hi < x))) ∧ w = w' := by
 by_cases q : x < lo
 ·have HF := Lib.hid (show (decide (x < lo) || decide (hi < x)) = true by simp [q])
  go_enter Try.func71, Try.ntmps71
  go_wp2
  go_ret
  exact ⟨by first | rfl | (rw [HF.out]; rfl), rfl⟩
 ·have d : decide (x < lo) = false := decide_eq_false q
  by_cases q2 : hi < x
  ·have HF := Lib.hid (show (decide (x < lo) || decide (hi < x)) = true by simp [q2])
   go_enter Try.func71, Try.ntmps71
   go_wp2
   go_ret
   exact ⟨by first | rfl | (rw [HF.out]; rfl), rfl⟩
  ·have d2 : decide (hi < x) = false := decide_eq_false q2
   have HF := Lib.hid (show (decide (x < lo) || decide (hi < x)) = false by simp [d, d2])
   go_enter Try.func71, Try.ntmps71
   go_wp2
   go_ret
   exact ⟨by first | rfl | (rw [HF.out]; rfl), rfl⟩
def withinErr (lo hi : Int) (l : List Int) : Int := if outside lo hi l then 2 else 0
set_option maxHeartbeats 1600000 in
theorem within_any (w : World) (F : Foot) (v : Value) (lo hi : Int) (l : List Int) (hv : IntsAt w F v l) (hl : l.length ≤ 1000000) :
  Calls Try.prog 68 #[.int .i64 lo, .int .i64 hi, v] w (Ret w fun v _ => v = .int .i64 (withinErr lo hi l)) := by
 have HV := Lib.hid hv; clear hv
 have hmf : ∀ (fn : Fn) (first cap : Array Value) (w : World), (Instr.makeFunc fn first cap).run Try.prog w = .ok (.func fn first cap) w := fun _ _ _ _ => rfl
 go_enter Try.func68, Try.ntmps68
 go_wp2_with fail
 obtain ⟨W, hW⟩ : ∃ W : World, W = (w.alloc (.cells #[.int .i64 lo] 3)).alloc (.cells #[.int .i64 hi] 3) := ⟨_, rfl⟩
 rw [← hW]
 have hb := below_two w (.cells #[.int .i64 lo] 3) (.cells #[.int .i64 hi] 3) 0
 have hsm : Same F w W := by rw [hW]; exact (Same.alloc _ _ _).trans (Same.alloc _ _ _)
 have c1 : W.cell? ⟨w.heap.size, 0, none⟩ = some (.int .i64 lo) := by rw [hW]; simp
 have c2 : W.cell? ⟨w.heap.size + 1, 0, none⟩ = some (.int .i64 hi) := by
  rw [hW]; simp
 have hbW : Below w.heap.size w W := by rw [hW]; exact hb
 clear hb hW
 have ha : Answers W 71 #[.pointer (some ⟨w.heap.size, 0, none⟩), .pointer (some ⟨w.heap.size + 1, 0, none⟩)] l (fun x => decide (x < lo) || decide (hi < x)) := by
  refine ⟨enters Try.func71 (by decide +kernel) (by decide +kernel), fun n x _ => ?_⟩
  exact (within1_any (W.drewN n) lo hi x _ _ c1 c2).mono fun e w' ⟨he, hw⟩ => ⟨he, n, hw.symm⟩
 refine (containsFunc_any W F v l _ _ _ (HV.out.on hsm) hl ha).mono ?_
 rintro e w' ⟨rfl, n, rfl⟩
 clear ha
 have HO := Lib.hid (show withinErr lo hi l = if l.any (fun x => decide (x < lo) || decide (hi < x)) then 2 else 0 from rfl)
 generalize l.any (fun x => decide (x < lo) || decide (hi < x)) = r at *
 dsimp only
 cases r
 ·go_wp2
  go_ret
  exact ⟨_, rfl, below_dN hbW _, by rw [HO.out]; rfl⟩
 ·go_wp2
  go_ret
  exact ⟨_, rfl, below_dN hbW _, by rw [HO.out]; rfl⟩
end Go.Proofs.Ytafjdoedallnbaa
/- (*recall.walker).chance, move, end, node: the error of a node by itself, by the program. -/
namespace Go.Proofs.Ytafjdoedallnbaa
open List renaming getElem_toArray → lq1, getElem_cons_zero → lq2, getElem_cons_succ → lq3, setIfInBounds_toArray → lq4, set_cons_zero → lq5, set_cons_succ → lq6
open Go.RowKit
/-- what recall's walker holds for the node checks: the players, and the information sets -/
structure WalkerHead (w : World) (p : Nat) (players : Int) (ni : Nat) : Prop where
 players : w.cell? ⟨p, 0, none⟩ = some (.int .i64 players)
 infos : ∃ A c, w.cell? ⟨p, 2, none⟩ = some (.slice A ni c)
set_option maxRecDepth 100000 in
set_option maxHeartbeats 3200000 in
theorem chance_any (w : World) (F : Foot) (u ux : Value) (x : Nd) (hx : NodeV w F ux x) (hl : x.next.length < 1000000 ∧ x.weights.length < 1000000 ∧ x.pay.length < 1000000) :
  Calls Try.prog 63 #[u, ux] w (Ret w fun v _ => v = .int .i64 (chanceErr x)) := by
 obtain ⟨v3, v4, v5, rfl, ⟨A3, c3, rfl, hc3, h3⟩, ⟨A4, c4, rfl, hc4, h4⟩, ⟨A5, c5, rfl, hc5, h5⟩⟩ := hx
 obtain ⟨hl3, hl4, hl5⟩ := hl
 have H4 := Lib.hid (show IntsAt w F (.slice A4 x.weights.length c4) x.weights from ⟨A4, c4, rfl, hc4, h4⟩)
 clear h3 h4 h5
 by_cases q0 : x.player ≠ 0
 ·have HF := Lib.hid (show chanceErr x = 3 by unfold chanceErr; rw [if_pos (by omega)])
  have d0 : (x.player != 0) = true := neT (by omega)
  go_enter Try.func63, Try.ntmps63
  go_wp2
  go_ret
  exact ⟨_, rfl, (Below.refl _ _).alloc (Nat.le_refl _) _, by rw [HF.out]; rfl⟩
 have d0 : (x.player != 0) = false := neF (by omega)
 by_cases q1 : x.info ≠ 0
 ·have HF := Lib.hid (show chanceErr x = 3 by unfold chanceErr; rw [if_pos (by omega)])
  have d1 : (x.info != 0) = true := neT (by omega)
  go_enter Try.func63, Try.ntmps63
  go_wp2
  go_ret
  exact ⟨_, rfl, (Below.refl _ _).alloc (Nat.le_refl _) _, by rw [HF.out]; rfl⟩
 have d1 : (x.info != 0) = false := neF (by omega)
 by_cases q2 : 0 < x.pay.length
 ·have HF := Lib.hid (show chanceErr x = 3 by unfold chanceErr; rw [if_pos (by omega)])
  go_enter Try.func63, Try.ntmps63
  go_wp2
  go_ret
  exact ⟨_, rfl, (Below.refl _ _).alloc (Nat.le_refl _) _, by rw [HF.out]; rfl⟩
 have d2 : decide ((0 : Int) < (x.pay.length : Int)) = false := decide_eq_false (by omega)
 by_cases q3 : x.next.length < 1
 ·have HF := Lib.hid (show chanceErr x = 3 by unfold chanceErr; rw [if_pos (by omega)])
  go_enter Try.func63, Try.ntmps63
  go_wp2
  go_ret
  exact ⟨_, rfl, (Below.refl _ _).alloc (Nat.le_refl _) _, by rw [HF.out]; rfl⟩
 have d3 : decide ((x.next.length : Int) < 1) = false := decide_eq_false (by omega)
 by_cases q4 : 60 < x.next.length
 ·have HF := Lib.hid (show chanceErr x = 3 by unfold chanceErr; rw [if_pos (by omega)])
  go_enter Try.func63, Try.ntmps63
  go_wp2
  go_ret
  exact ⟨_, rfl, (Below.refl _ _).alloc (Nat.le_refl _) _, by rw [HF.out]; rfl⟩
 have d4 : decide ((60 : Int) < (x.next.length : Int)) = false := decide_eq_false (by omega)
 by_cases q5 : x.weights.length ≠ x.next.length
 ·have HF := Lib.hid (show chanceErr x = 3 by unfold chanceErr; rw [if_pos (by omega)])
  have d5 : ((x.weights.length : Int) != (x.next.length : Int)) = true := neT (by omega)
  go_enter Try.func63, Try.ntmps63
  go_wp2
  go_ret
  exact ⟨_, rfl, (Below.refl _ _).alloc (Nat.le_refl _) _, by rw [HF.out]; rfl⟩
 have d5 : ((x.weights.length : Int) != (x.next.length : Int)) = false := neF (by omega)
 have HF := Lib.hid (show chanceErr x = withinErr 1 1000 x.weights by unfold chanceErr; rw [if_neg (by omega)]; rfl)
 clear q0 q1 q5
 go_enter Try.func63, Try.ntmps63
 go_wp2_with fail
 refine (within_any _ F _ 1 1000 x.weights (H4.out.on (Same.alloc _ _ _)) (by omega)).mono ?_
 rintro e w' ⟨v, rfl, hb, rfl⟩
 dsimp only
 go_wp2
 go_ret
 exact ⟨_, rfl, ((Below.refl _ _).alloc (Nat.le_refl _) _).trans (hb.mono (by simp)), by rw [HF.out]; rfl⟩
theorem row_of_alloc (w : World) (t : TypeId) (c : Array Value) : ∃ W : World, W = w.alloc (.cells c t) ∧ Row W w.heap.size t c.toList ∧ Below w.heap.size w W ∧ w.heap.size + 1 = W.heap.size :=
 ⟨_, rfl, Row.new w _ _, (Below.refl _ _).alloc (Nat.le_refl _) _, by simp⟩
theorem moveErr_eq (players : Int) (ni : Nat) (x : Nd) (h : ¬ (0 < x.pay.length ∨ 0 < x.weights.length ∨ x.next.length < 1 ∨ 10 < x.next.length)) :
  moveErr players ni x = if withinErr 0 (players - 1) [x.player] ≠ 0 then withinErr 0 (players - 1) [x.player] else withinErr 0 ((ni : Int) - 1) [x.info] := by
 unfold moveErr withinErr outside
 rw [if_neg h]
 simp only [List.any_cons, List.any_nil, Bool.or_false, Bool.or_eq_true, decide_eq_true_eq]
 repeat' split
 all_goals first | rfl | omega
set_option maxRecDepth 100000 in
set_option maxHeartbeats 3200000 in
theorem move_any (w : World) (F : Foot) (p : Nat) (ux : Value) (players : Int) (ni : Nat) (x : Nd) (hw : WalkerHead w p players ni) (hx : NodeV w F ux x) (hl : x.next.length < 1000000 ∧ x.weights.length < 1000000 ∧ x.pay.length < 1000000)
  (hp : 0 ≤ players ∧ players < 1000000) (hni : ni < 1000000) (hpl : p < w.heap.size) :
  Calls Try.prog 64 #[.pointer (some ⟨p, 0, none⟩), ux] w (Ret w fun v _ => v = .int .i64 (moveErr players ni x)) := by
 obtain ⟨v3, v4, v5, rfl, ⟨A3, c3, rfl, hc3, h3⟩, ⟨A4, c4, rfl, hc4, h4⟩, ⟨A5, c5, rfl, hc5, h5⟩⟩ := hx
 obtain ⟨hl3, hl4, hl5⟩ := hl
 clear h3 h4 h5
 obtain ⟨hwp, Ai, ci, hwi⟩ := hw
 by_cases q0 : 0 < x.weights.length
 ·have HF := Lib.hid (show moveErr players ni x = 3 by unfold moveErr; rw [if_pos (by omega)])
  go_enter Try.func64, Try.ntmps64
  go_wp2
  go_ret
  exact ⟨_, rfl, (Below.refl _ _).alloc (Nat.le_refl _) _, by rw [HF.out]; rfl⟩
 have d0 : decide ((0 : Int) < (x.weights.length : Int)) = false := decide_eq_false (by omega)
 by_cases q1 : 0 < x.pay.length
 ·have HF := Lib.hid (show moveErr players ni x = 3 by unfold moveErr; rw [if_pos (by omega)])
  go_enter Try.func64, Try.ntmps64
  go_wp2
  go_ret
  exact ⟨_, rfl, (Below.refl _ _).alloc (Nat.le_refl _) _, by rw [HF.out]; rfl⟩
 have d1 : decide ((0 : Int) < (x.pay.length : Int)) = false := decide_eq_false (by omega)
 by_cases q2 : x.next.length < 1
 ·have HF := Lib.hid (show moveErr players ni x = 3 by unfold moveErr; rw [if_pos (by omega)])
  go_enter Try.func64, Try.ntmps64
  go_wp2
  go_ret
  exact ⟨_, rfl, (Below.refl _ _).alloc (Nat.le_refl _) _, by rw [HF.out]; rfl⟩
 have d2 : decide ((x.next.length : Int) < 1) = false := decide_eq_false (by omega)
 by_cases q3 : 10 < x.next.length
 ·have HF := Lib.hid (show moveErr players ni x = 3 by unfold moveErr; rw [if_pos (by omega)])
  go_enter Try.func64, Try.ntmps64
  go_wp2
  go_ret
  exact ⟨_, rfl, (Below.refl _ _).alloc (Nat.le_refl _) _, by rw [HF.out]; rfl⟩
 have d3 : decide ((10 : Int) < (x.next.length : Int)) = false := decide_eq_false (by omega)
 have HF := Lib.hid (moveErr_eq players ni x (by omega))
 go_enter Try.func64, Try.ntmps64
 go_wp2_with fail
 obtain ⟨W, hW, hbx, hWb, hWz⟩ := row_of_alloc w 45 #[.int .i64 x.kind, .int .i64 x.player, .int .i64 x.info, .slice A3 x.next.length c3, .slice A4 x.weights.length c4, .slice A5 x.pay.length c5]
 rw [← hW]
 clear hW
 have hold := below_old hWb
 have wr1 : IntKind.i64.wrap (players - 1) = players - 1 := IntWalk.i64_in _ (by omega)
 have wr2 : IntKind.i64.wrap ((ni : Int) - 1) = (ni : Int) - 1 := IntWalk.i64_in _ (by omega)
 refine wp_region_held_drew (S := fun w' => w'.cell? ⟨w.heap.size, 1, none⟩ = some (.int .i64 x.player) ∧ w'.cell? ⟨p, 0, none⟩ = some (.int .i64 players)) (by kernel_rfl) ⟨hbx.cell rfl, (hold p 0 hpl).trans hwp⟩ (fun hHeld => ?_)
 refine wpAnyH_take (i := 0) (v := ?_) rfl (by kernel_rfl) (by kernel_rfl) (by kernel_rfl) (fun _ _ _ h => h) (Or.inl ⟨by rfl, ?_⟩) hHeld ?_
 rotate_left
 ·intro wx hSx; (try dsimp only at hSx); go_split_ands; go_simp; try (with_reducible rfl)
 try simp only [Act.put, lq1, lq2, lq3, lq4, lq5, lq6]
 refine wpAnyH_take (i := 1) (v := ?_) rfl (by kernel_rfl) (by kernel_rfl) (by kernel_rfl) (fun _ _ _ h => h) (Or.inl ⟨by rfl, ?_⟩) hHeld ?_
 rotate_left
 ·intro wx hSx; (try dsimp only at hSx); go_split_ands; go_simp; try (with_reducible rfl)
 try simp only [Act.put, lq1, lq2, lq3, lq4, lq5, lq6]
 refine wpAnyH_take (i := 2) (v := ?_) rfl (by kernel_rfl) (by kernel_rfl) (by kernel_rfl) (fun _ _ _ h => h) (Or.inl ⟨by rfl, ?_⟩) hHeld ?_
 rotate_left
 ·intro wx hSx; (try dsimp only at hSx); go_split_ands; go_simp; try (with_reducible rfl)
 try simp only [Act.put, lq1, lq2, lq3, lq4, lq5, lq6]
 refine wpAnyH_take (i := 3) (v := ?_) rfl (by kernel_rfl) (by kernel_rfl) (by kernel_rfl) (fun _ _ _ h => h) (Or.inl ⟨by rfl, ?_⟩) hHeld ?_
 rotate_left
 ·intro wx hSx; (try dsimp only at hSx); go_split_ands; go_simp; try (with_reducible rfl)
 try simp only [Act.put, lq1, lq2, lq3, lq4, lq5, lq6]
 refine wpAnyH_take (i := 4) (v := ?_) rfl (by kernel_rfl) (by kernel_rfl) (by kernel_rfl) (fun _ _ _ h => h) (Or.inl ⟨by rfl, ?_⟩) hHeld ?_
 rotate_left
 ·intro wx hSx; (try dsimp only at hSx); go_split_ands; go_simp; try (with_reducible rfl)
 try simp only [Act.put, lq1, lq2, lq3, lq4, lq5, lq6]
 refine wpAnyH_take (i := 5) (v := ?_) rfl (by kernel_rfl) (by kernel_rfl) (by kernel_rfl) (fun _ _ _ h => h) (Or.inl ⟨by rfl, ?_⟩) hHeld ?_
 rotate_left
 ·intro wx hSx; (try dsimp only at hSx); go_split_ands; go_simp; try (with_reducible rfl)
 try simp only [Act.put, lq1, lq2, lq3, lq4, lq5, lq6]
 refine wpAnyH_take (i := 6) (v := ?_) rfl (by kernel_rfl) (by kernel_rfl) (by kernel_rfl) (fun _ _ _ h => h) (Or.inl ⟨by rfl, ?_⟩) hHeld ?_
 rotate_left
 ·intro wx hSx; (try dsimp only at hSx); go_split_ands; go_simp; try (with_reducible rfl)
 try simp only [Act.put, lq1, lq2, lq3, lq4, lq5, lq6]
 refine wpAnyH_take (i := 7) (v := ?_) rfl (by kernel_rfl) (by kernel_rfl) (by kernel_rfl) (fun _ _ _ h => h) (Or.inl ⟨by rfl, ?_⟩) hHeld ?_
 rotate_left
 ·intro wx hSx; (try dsimp only at hSx); go_split_ands; go_simp; try (with_reducible rfl)
 try simp only [Act.put, lq1, lq2, lq3, lq4, lq5, lq6]
 refine wpAnyH_ready (rs := [8]) (by kernel_rfl) (by simp) ?_
 refine AllReadyH.cons (o := _) rfl (fun K hK => ?_) AllReadyH.nil
 go_simp
 obtain ⟨W1, hW1, hbr, hW1b, hW1z⟩ := row_of_alloc W 3 #[.int .i64 x.player]
 rw [← hW1]
 clear hW1
 have hbx1 := hbx.below hW1b (by omega)
 have hB1 : Below w.heap.size w W1 := hWb.trans (hW1b.mono (by omega))
 clear hbx hW1b hWb
 refine hK.out _ _ ⟨hbx1.drew.cell rfl, (below_old hB1.drew p 0 hpl).trans hwp⟩ (fun hHeld => ?_)
 clear hK K
 try simp only [Act.put, lq1, lq2, lq3, lq4, lq5, lq6]
 refine wpAnyH_ready (rs := [9]) (by kernel_rfl) (by simp) ?_
 refine AllReadyH.cons (o := _) rfl (fun K hK => ?_) AllReadyH.nil
 go_simp
 refine (within_any _ (fun b => b = W.heap.size) _ 0 (players - 1) [x.player] (Row.ints (l := [x.player]) hbr.drew (F := fun b => b = W.heap.size) rfl (c := 1) (by simp)) (by simp)).mono ?_
 rintro e w1 ⟨_, rfl, hb1, rfl⟩
 have hbx2 := hbx1.drew.below hb1 (by simp; omega)
 have hB2 : Below w.heap.size w w1 := hB1.drew.trans (hb1.mono (by simp; omega))
 clear hbx1 hb1 hB1 hbr
 dsimp only
 refine hK.out _ _ ⟨hbx2.cell rfl, (below_old hB2 p 0 hpl).trans hwp⟩ (fun hHeld => ?_)
 clear hK K
 try simp only [Act.put, lq1, lq2, lq3, lq4, lq5, lq6]
 refine wpAnyH_take (i := 10) (v := ?_) rfl (by kernel_rfl) (by kernel_rfl) (by kernel_rfl) (fun _ _ _ h => h) (Or.inl ⟨by rfl, ?_⟩) hHeld ?_
 rotate_left
 ·intro wx hSx; (try dsimp only at hSx); go_split_ands; go_simp; try (with_reducible rfl)
 try simp only [Act.put, lq1, lq2, lq3, lq4, lq5, lq6]
 refine wpAnyH_done (by kernel_rfl) ?_ _
 have hx1 := hbx2.lt
 generalize withinErr 0 (players - 1) [x.player] = er at *
 by_cases he : er = 0
 ·subst he
  have HF2 := Lib.hid (show moveErr players ni x = withinErr 0 ((ni : Int) - 1) [x.info] by rw [HF.out]; simp)
  go_wp2_with fail
  refine wp_region_held_drew (S := fun w' => w'.cell? ⟨w.heap.size, 2, none⟩ = some (.int .i64 x.info) ∧ w'.cell? ⟨p, 2, none⟩ = some (.slice Ai ni ci)) (by kernel_rfl) ⟨hbx2.cell rfl, (below_old hB2 p 2 hpl).trans hwi⟩ (fun hHeld => ?_)
  refine wpAnyH_take (i := 0) (v := ?_) rfl (by kernel_rfl) (by kernel_rfl) (by kernel_rfl) (fun _ _ _ h => h) (Or.inl ⟨by rfl, ?_⟩) hHeld ?_
  rotate_left
  ·intro wx hSx; (try dsimp only at hSx); go_split_ands; go_simp; try (with_reducible rfl)
  try simp only [Act.put, lq1, lq2, lq3, lq4, lq5, lq6]
  refine wpAnyH_take (i := 1) (v := ?_) rfl (by kernel_rfl) (by kernel_rfl) (by kernel_rfl) (fun _ _ _ h => h) (Or.inl ⟨by rfl, ?_⟩) hHeld ?_
  rotate_left
  ·intro wx hSx; (try dsimp only at hSx); go_split_ands; go_simp; try (with_reducible rfl)
  try simp only [Act.put, lq1, lq2, lq3, lq4, lq5, lq6]
  refine wpAnyH_take (i := 2) (v := ?_) rfl (by kernel_rfl) (by kernel_rfl) (by kernel_rfl) (fun _ _ _ h => h) (Or.inl ⟨by rfl, ?_⟩) hHeld ?_
  rotate_left
  ·intro wx hSx; (try dsimp only at hSx); go_split_ands; go_simp; try (with_reducible rfl)
  try simp only [Act.put, lq1, lq2, lq3, lq4, lq5, lq6]
  refine wpAnyH_take (i := 3) (v := ?_) rfl (by kernel_rfl) (by kernel_rfl) (by kernel_rfl) (fun _ _ _ h => h) (Or.inl ⟨by rfl, ?_⟩) hHeld ?_
  rotate_left
  ·intro wx hSx; (try dsimp only at hSx); go_split_ands; go_simp; try (with_reducible rfl)
  try simp only [Act.put, lq1, lq2, lq3, lq4, lq5, lq6]
  refine wpAnyH_take (i := 4) (v := ?_) rfl (by kernel_rfl) (by kernel_rfl) (by kernel_rfl) (fun _ _ _ h => h) (Or.inl ⟨by rfl, ?_⟩) hHeld ?_
  rotate_left
  ·intro wx hSx; (try dsimp only at hSx); go_split_ands; go_simp; try (with_reducible rfl)
  try simp only [Act.put, lq1, lq2, lq3, lq4, lq5, lq6]
  refine wpAnyH_take (i := 5) (v := ?_) rfl (by kernel_rfl) (by kernel_rfl) (by kernel_rfl) (fun _ _ _ h => h) (Or.inl ⟨by rfl, ?_⟩) hHeld ?_
  rotate_left
  ·intro wx hSx; (try dsimp only at hSx); go_split_ands; go_simp; try (with_reducible rfl)
  try simp only [Act.put, lq1, lq2, lq3, lq4, lq5, lq6]
  refine wpAnyH_take (i := 6) (v := ?_) rfl (by kernel_rfl) (by kernel_rfl) (by kernel_rfl) (fun _ _ _ h => h) (Or.inl ⟨by rfl, ?_⟩) hHeld ?_
  rotate_left
  ·intro wx hSx; (try dsimp only at hSx); go_split_ands; go_simp; try (with_reducible rfl)
  try simp only [Act.put, lq1, lq2, lq3, lq4, lq5, lq6]
  refine wpAnyH_take (i := 7) (v := ?_) rfl (by kernel_rfl) (by kernel_rfl) (by kernel_rfl) (fun _ _ _ h => h) (Or.inl ⟨by rfl, ?_⟩) hHeld ?_
  rotate_left
  ·intro wx hSx; (try dsimp only at hSx); go_split_ands; go_simp; try (with_reducible rfl)
  try simp only [Act.put, lq1, lq2, lq3, lq4, lq5, lq6]
  refine wpAnyH_take (i := 8) (v := ?_) rfl (by kernel_rfl) (by kernel_rfl) (by kernel_rfl) (fun _ _ _ h => h) (Or.inl ⟨by rfl, ?_⟩) hHeld ?_
  rotate_left
  ·intro wx hSx; (try dsimp only at hSx); go_split_ands; go_simp; try (with_reducible rfl)
  try simp only [Act.put, lq1, lq2, lq3, lq4, lq5, lq6]
  refine wpAnyH_ready (rs := [9]) (by kernel_rfl) (by simp) ?_
  refine AllReadyH.cons (o := _) rfl (fun K hK => ?_) AllReadyH.nil
  go_simp
  obtain ⟨W3, hW3, hbr, hW3b, hW3z⟩ := row_of_alloc w1 3 #[.int .i64 x.info]
  rw [← hW3]
  clear hW3
  have hbx3 := hbx2.below hW3b (by omega)
  have hB3 : Below w.heap.size w W3 := hB2.trans (hW3b.mono (by omega))
  clear hbx2 hW3b hB2
  refine hK.out _ _ ⟨hbx3.drew.cell rfl, (below_old hB3.drew p 2 hpl).trans hwi⟩ (fun hHeld => ?_)
  clear hK K
  try simp only [Act.put, lq1, lq2, lq3, lq4, lq5, lq6]
  refine wpAnyH_ready (rs := [10]) (by kernel_rfl) (by simp) ?_
  refine AllReadyH.cons (o := _) rfl (fun K hK => ?_) AllReadyH.nil
  go_simp
  refine (within_any _ (fun b => b = w1.heap.size) _ 0 ((ni : Int) - 1) [x.info] (Row.ints (l := [x.info]) hbr.drew (F := fun b => b = w1.heap.size) rfl (c := 1) (by simp)) (by simp)).mono ?_
  rintro e w2 ⟨_, rfl, hb2, rfl⟩
  have hbx4 := hbx3.drew.below hb2 (by simp; omega)
  have hB4 : Below w.heap.size w w2 := hB3.drew.trans (hb2.mono (by simp; omega))
  clear hbx3 hb2 hB3 hbr
  dsimp only
  refine hK.out _ _ ⟨hbx4.cell rfl, (below_old hB4 p 2 hpl).trans hwi⟩ (fun hHeld => ?_)
  clear hK K
  try simp only [Act.put, lq1, lq2, lq3, lq4, lq5, lq6]
  refine wpAnyH_take (i := 11) (v := ?_) rfl (by kernel_rfl) (by kernel_rfl) (by kernel_rfl) (fun _ _ _ h => h) (Or.inl ⟨by rfl, ?_⟩) hHeld ?_
  rotate_left
  ·intro wx hSx; (try dsimp only at hSx); go_split_ands; go_simp; try (with_reducible rfl)
  try simp only [Act.put, lq1, lq2, lq3, lq4, lq5, lq6]
  refine wpAnyH_done (by kernel_rfl) ?_ _
  go_wp2
  go_ret
  exact ⟨_, rfl, hB4, by rw [HF2.out]; rfl⟩
 ·have hd : (er != 0) = true := by simp [he]
  have HF2 := Lib.hid (show moveErr players ni x = er by rw [HF.out]; simp [he])
  clear he
  go_wp2
  go_ret
  exact ⟨_, rfl, hB2, by rw [HF2.out]; rfl⟩
set_option maxRecDepth 100000 in
set_option maxHeartbeats 3200000 in
theorem end_any (w : World) (F : Foot) (p : Nat) (ux : Value) (players : Int) (ni : Nat) (x : Nd) (hw : WalkerHead w p players ni) (hx : NodeV w F ux x) (hl : x.next.length < 1000000 ∧ x.weights.length < 1000000 ∧ x.pay.length < 1000000) (hpl : p < w.heap.size) :
  Calls Try.prog 65 #[.pointer (some ⟨p, 0, none⟩), ux] w (Ret w fun v _ => v = .int .i64 (endErr players x)) := by
 obtain ⟨v3, v4, v5, rfl, ⟨A3, c3, rfl, hc3, h3⟩, ⟨A4, c4, rfl, hc4, h4⟩, ⟨A5, c5, rfl, hc5, h5⟩⟩ := hx
 obtain ⟨hl3, hl4, hl5⟩ := hl
 have H5 := Lib.hid (show IntsAt w F (.slice A5 x.pay.length c5) x.pay from ⟨A5, c5, rfl, hc5, h5⟩)
 clear h3 h4 h5
 obtain ⟨hwp, Ai, ci, hwi⟩ := hw
 by_cases q0 : x.player ≠ 0
 ·have HF := Lib.hid (show endErr players x = 3 by unfold endErr; rw [if_pos (by omega)])
  have d0 : (x.player != 0) = true := neT (by omega)
  go_enter Try.func65, Try.ntmps65
  go_wp2
  go_quiet (fail)
  go_wp2
  go_ret
  exact ⟨_, rfl, below_dN ((Below.refl _ _).alloc (Nat.le_refl _) _) _, by rw [HF.out]; rfl⟩
 have d0 : (x.player != 0) = false := neF (by omega)
 by_cases q1 : x.info ≠ 0
 ·have HF := Lib.hid (show endErr players x = 3 by unfold endErr; rw [if_pos (by omega)])
  have d1 : (x.info != 0) = true := neT (by omega)
  go_enter Try.func65, Try.ntmps65
  go_wp2
  go_quiet (fail)
  go_wp2
  go_ret
  exact ⟨_, rfl, below_dN ((Below.refl _ _).alloc (Nat.le_refl _) _) _, by rw [HF.out]; rfl⟩
 have d1 : (x.info != 0) = false := neF (by omega)
 by_cases q2 : 0 < x.next.length
 ·have HF := Lib.hid (show endErr players x = 3 by unfold endErr; rw [if_pos (by omega)])
  have d2 : decide ((0 : Int) < (x.next.length : Int)) = true := decide_eq_true (by omega)
  go_enter Try.func65, Try.ntmps65
  go_wp2
  go_quiet (fail)
  go_wp2
  go_ret
  exact ⟨_, rfl, below_dN ((Below.refl _ _).alloc (Nat.le_refl _) _) _, by rw [HF.out]; rfl⟩
 have d2 : decide ((0 : Int) < (x.next.length : Int)) = false := decide_eq_false (by omega)
 by_cases q3 : 0 < x.weights.length
 ·have HF := Lib.hid (show endErr players x = 3 by unfold endErr; rw [if_pos (by omega)])
  have d3 : decide ((0 : Int) < (x.weights.length : Int)) = true := decide_eq_true (by omega)
  go_enter Try.func65, Try.ntmps65
  go_wp2
  go_quiet (fail)
  go_wp2
  go_ret
  exact ⟨_, rfl, below_dN ((Below.refl _ _).alloc (Nat.le_refl _) _) _, by rw [HF.out]; rfl⟩
 have d3 : decide ((0 : Int) < (x.weights.length : Int)) = false := decide_eq_false (by omega)
 by_cases q4 : (x.pay.length : Int) ≠ players
 ·have HF := Lib.hid (show endErr players x = 3 by unfold endErr; rw [if_pos (by omega)])
  have d4 : ((x.pay.length : Int) != players) = true := neT (by omega)
  go_enter Try.func65, Try.ntmps65
  go_wp2
  go_quiet (fail)
  go_wp2
  go_ret
  exact ⟨_, rfl, below_dN ((Below.refl _ _).alloc (Nat.le_refl _) _) _, by rw [HF.out]; rfl⟩
 have d4 : ((x.pay.length : Int) != players) = false := neF (by omega)
 have HF := Lib.hid (show endErr players x = withinErr (-1000000) 1000000 x.pay by unfold endErr; rw [if_neg (by omega)]; rfl)
 clear q0 q1 q4
 go_enter Try.func65, Try.ntmps65
 go_wp2
 go_quiet (fail)
 go_wp2_with fail
 refine (within_any _ F _ (-1000000) 1000000 x.pay ((H5.out.on (Same.alloc _ _ _)).on (Same.drewN _ _ _)) (by omega)).mono ?_
 rintro e w' ⟨v, rfl, hb, rfl⟩
 dsimp only
 go_wp2
 go_ret
 exact ⟨_, rfl, (below_dN ((Below.refl _ _).alloc (Nat.le_refl _) _) _).trans (hb.mono (by simp)), by rw [HF.out]; rfl⟩
end Go.Proofs.Ytafjdoedallnbaa
/- slices.Max, Index, Contains, IsSorted for ints -/
namespace Go.Proofs.Ytafjdoedallnbaa
open Go.RowKit
def maxL (l : List Int) : Int := match l with | [] => 0 | x :: r => r.foldl max x
theorem foldmax_snoc (l : List Int) (a x : Int) : (l ++ [x]).foldl max a = max (l.foldl max a) x := by simp
set_option maxHeartbeats 1600000 in
theorem max_any (w : World) (F : Foot) (v : Value) (l : List Int) (hv : IntsAt w F v l) (h0 : 0 < l.length) (hl : l.length ≤ 1000000) :
  Calls Try.prog 61 #[v] w fun e w' => e = .returned (.int .i64 (maxL l)) ∧ w' = w := by
 obtain ⟨A, c, rfl, hc, hN⟩ := hv
 obtain ⟨b, o, rfl, hbF, hb, hcell⟩ := hN h0
 clear hN
 obtain ⟨y, hy⟩ := getSome h0
 have e0 := hcell 0 y hy
 unfold intE at e0
 simp only [Nat.zero_mul, Nat.add_zero] at e0
 have HC := Lib.hid hcell; clear hcell
 obtain ⟨r, rfl⟩ : ∃ r, l = y :: r := by cases l with | nil => simp at h0 | cons a r => simp at hy; exact ⟨r, by rw [hy]⟩
 clear hy
 have hd : decide (((y :: r).length : Int) < 1) = false := decide_eq_false (by omega)
 have HM := Lib.hid (show maxL (y :: r) = r.foldl max y from rfl)
 generalize hL : (y :: r).length = L at *
 have HL := Lib.hid hL; clear hL
 go_enter Try.func61, Try.ntmps61
 go_wp2
 go_loopw [3, 4] (fun m i wr => ∃ k : Nat, 1 ≤ k ∧ k ≤ L ∧ i = .int .i64 k ∧ m = .int .i64 ((r.take (k - 1)).foldl max y) ∧ wr = w) (fun _ i _ => L - (intOf i).toNat)
 case atStart => exact ⟨1, by omega, by omega, rfl, rfl, rfl⟩
 case round =>
  obtain ⟨k, hk1, hk, rfl, rfl, rfl⟩ := hrel
  by_cases hlt : k < L
  ·obtain ⟨x, hx⟩ := getSome (l := y :: r) (k := k) (by rw [HL.out]; exact hlt)
   have ex := HC.out k x hx
   unfold intE at ex; rw [Nat.mul_one] at ex
   have HS := Lib.hid (show (r.take k).foldl max y = max ((r.take (k - 1)).foldl max y) x by
    rw [← foldmax_snoc]; congr 1
    have : r[k - 1]? = some x := by rw [← hx]; cases k with | zero => omega | succ k => simp
    have h := take_snoc this
    rwa [Nat.sub_add_cancel hk1] at h)
   clear hx e0
   generalize (r.take (k - 1)).foldl max y = m at *
   go_wp2
   go_roundw
   case rel => exact ⟨k + 1, by omega, by omega, by go_num, by rw [Nat.add_sub_cancel, HS.out]; congr 1; rw [Int.max_def]; split <;> split <;> omega, trivial⟩
   case measure => simp [intOf]; omega
  ·go_wp2
   go_ret
   refine ⟨?_, rfl⟩
   have : k = L := by omega
   rw [HM.out, List.take_of_length_le (by rw [this, ← HL.out]; simp)]; rfl
set_option maxHeartbeats 1600000 in
theorem index_any (w : World) (F : Foot) (v : Value) (l : List Int) (y : Int) (hv : IntsAt w F v l) (hl : l.length ≤ 1000000) :
  Calls Try.prog 69 #[v, .int .i64 y] w fun e w' => e = .returned (.int .i64 (if y ∈ l then (l.idxOf y : Int) else -1)) ∧ w' = w := by
 obtain ⟨A, c, rfl, hc, hN⟩ := hv
 have HN := Lib.hid hN; clear hN
 obtain ⟨R, hR⟩ : ∃ R : Int, R = (if y ∈ l then (l.idxOf y : Int) else -1) := ⟨_, rfl⟩
 rw [← hR]
 have HR := Lib.hid hR; clear hR
 go_enter Try.func69, Try.ntmps69
 go_wp2
 go_loop [8] (fun i => ∃ k : Nat, k ≤ l.length ∧ i = .int .i64 k ∧ ∀ z ∈ l.take k, z ≠ y) (fun i => l.length - (intOf i).toNat)
 case atStart => exact ⟨0, by omega, rfl, by simp⟩
 case round =>
  obtain ⟨k, hk, rfl, hp⟩ := hrel
  have HP := Lib.hid hp; clear hp
  by_cases hlt : k < l.length
  ·obtain ⟨b, o, rfl, _, hb, hx⟩ := HN.out (by omega)
   obtain ⟨x, hx'⟩ := getSome hlt
   have ex := hx k x hx'
   unfold intE at ex; rw [Nat.mul_one] at ex
   have HX := Lib.hid hx'; clear hx hx'
   by_cases he : y = x
   ·subst he
    have HF := Lib.hid (show R = (k : Int) by
     rw [HR.out, if_pos (List.mem_of_getElem? HX.out)]
     have h1 : l.idxOf y ≤ k := by
      rcases Nat.lt_or_ge k (l.idxOf y) with h | h
      ·exfalso
       have := List.not_of_lt_findIdx (xs := l) (p := (· == y)) (i := k) h
       have hq : l[k]'hlt = y := by have := HX.out; simpa [hlt] using this
       simp [hq] at this
      ·exact h
     have h2 : ¬ l.idxOf y < k := by
      intro h
      have hm : y ∈ l := List.mem_of_getElem? HX.out
      have hlt2 := List.idxOf_lt_length_iff.2 hm
      exact HP.out y (List.mem_take_iff_getElem.2 ⟨l.idxOf y, by omega, by simp⟩) rfl
     omega)
    go_wp2
    go_ret
    exact ⟨by first | rfl | (rw [HF.out]; rfl), rfl⟩
   ·have hd : (y == x) = false := by simp [he]
    have HE := Lib.hid he; clear he
    go_wp2
    go_round
    case rel =>
     refine ⟨k + 1, by omega, by go_num, fun z hz => ?_⟩
     rw [take_snoc HX.out] at hz
     simp at hz
     rcases hz with hz | rfl
     ·exact HP.out z hz
     ·exact fun h => HE.out h.symm
    case measure => simp [intOf]; omega
  ·have HF := Lib.hid (show R = -1 by
    rw [HR.out, if_neg]; intro hm
    have := HP.out; rw [List.take_of_length_le (by omega)] at this
    exact this y hm rfl)
   go_wp2
   go_ret
   exact ⟨by first | rfl | (rw [HF.out]; rfl), rfl⟩
set_option maxHeartbeats 1600000 in
theorem contains_any (w : World) (F : Foot) (v : Value) (l : List Int) (y : Int) (hv : IntsAt w F v l) (hl : l.length ≤ 1000000) :
  Calls Try.prog 66 #[v, .int .i64 y] w fun e w' => e = .returned (.bool (l.contains y)) ∧ w' = w := by
 have HV := Lib.hid hv; clear hv
 go_enter Try.func66, Try.ntmps66
 go_wp2_with fail
 refine (index_any w F v l y HV.out hl).mono ?_
 rintro e w' ⟨rfl, rfl⟩
 obtain ⟨R, hR⟩ : ∃ R : Int, R = (if y ∈ l then (l.idxOf y : Int) else -1) := ⟨_, rfl⟩
 rw [← hR]
 have HF := Lib.hid (show decide (0 ≤ R) = l.contains y by
  rw [hR]
  by_cases h : y ∈ l
  ·simp [h]
  ·simp [h])
 clear hR
 go_wp2
 go_ret
 exact ⟨by rw [← HF.out]; rfl, rfl⟩
theorem isNaN_any (w : World) (x : Int) : Calls Try.prog 72 #[.int .i64 x] w fun e w' => e = .returned (.bool false) ∧ w' = w := by
 have h : (x != x) = false := by simp
 go_enter Try.func72, Try.ntmps72
 go_wp2
 go_ret
 exact ⟨rfl, rfl⟩
set_option maxHeartbeats 1600000 in
theorem less_any (w : World) (x y : Int) : Calls Try.prog 70 #[.int .i64 x, .int .i64 y] w fun e w' => e = .returned (.bool (decide (x < y))) ∧ w' = w := by
 go_enter Try.func70, Try.ntmps70
 go_wp2_with fail
 refine (isNaN_any w x).mono ?_
 rintro e w' ⟨rfl, rfl⟩
 go_wp2
 go_ret
 exact ⟨rfl, rfl⟩
end Go.Proofs.Ytafjdoedallnbaa

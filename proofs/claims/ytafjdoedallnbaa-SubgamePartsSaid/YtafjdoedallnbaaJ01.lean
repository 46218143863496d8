/- Words for memory that all contracts of this seat share: slices that read as lists, rows of cells, worlds that keep some blocks. -/
import Derived.Test.YtafjdoedallnbaaProg
import Derived.WalkKit
import Derived.Deep.QuietTactic
import Derived.BigQuiet
import Derived.Lib.Hide
import Derived.Deep.OwnRows
namespace Go.Proofs.Ytafjdoedallnbaa
open Go.RowKit
abbrev Foot := Nat → Prop
/-- the blocks of F that are there are as they were -/
structure Same (F : Foot) (w w' : World) : Prop where
 size : w.heap.size ≤ w'.heap.size
 block : ∀ b, F b → b < w.heap.size → w'.heap[b]? = w.heap[b]?
section
variable {F G : Foot} {w w' w'' : World}
theorem Same.cell (h : Same F w w') {b : Nat} (hb : F b) (hl : b < w.heap.size) (o : Nat) : w'.cell? ⟨b, o, none⟩ = w.cell? ⟨b, o, none⟩ := World.cell?_of_block (w := w) (h.block b hb hl)
theorem Same.refl (F : Foot) (w : World) : Same F w w := ⟨Nat.le_refl _, fun _ _ _ => rfl⟩
theorem Same.trans (h : Same F w w') (k : Same F w' w'') : Same F w w'' := ⟨Nat.le_trans h.size k.size, fun i hi hl => (k.block i hi (Nat.lt_of_lt_of_le hl h.size)).trans (h.block i hi hl)⟩
theorem Same.mono (h : Same F w w') (hG : ∀ b, G b → F b) : Same G w w' := ⟨h.size, fun b hb hl => h.block b (hG b hb) hl⟩
theorem Below.same' (h : Below w.heap.size w w') (F : Foot) : Same F w w' := ⟨h.size, fun b _ hl => h.block b hl⟩
theorem Same.alloc (F : Foot) (w : World) (o : Obj) : Same F w (w.alloc o) := ⟨by simp, fun b _ hl => Below.heap_alloc w o b hl⟩
theorem Same.drewN (F : Foot) (w : World) (n : Nat) : Same F w (w.drewN n) := ⟨Nat.le_refl _, fun _ _ _ => rfl⟩
theorem Same.setCell (F : Foot) (w : World) {p : Addr} (hp : ¬ F p.block) (v : Value) : Same F w (w.setCell p v) :=
 ⟨by simp, fun b hb _ => Below.heap_setCell w p v b (fun e => hp (e ▸ hb))⟩
end
theorem getSome {α : Type} {l : List α} {k : Nat} (h : k < l.length) : ∃ x, l[k]? = some x := ⟨l[k], by simp [h]⟩
theorem lt_of_get {α : Type} {l : List α} {k : Nat} {x : α} (h : l[k]? = some x) : k < l.length := by
 rcases Nat.lt_or_ge k l.length with h1 | h1
 ·exact h1
 ·rw [List.getElem?_eq_none h1] at h; cases h
theorem take_snoc {α : Type} {l : List α} {k : Nat} {x : α} (h : l[k]? = some x) : l.take (k + 1) = l.take k ++ [x] := by
 rw [List.take_succ_eq_append_getElem (lt_of_get h)]; congr 2
 have := lt_of_get h
 simpa [this] using h
/-- a slice of elements of sz cells each, each told by E, in blocks of F -/
def SlAt {α : Type} (sz : Nat) (E : World → Foot → Nat → Nat → α → Prop) (w : World) (F : Foot) (v : Value) (l : List α) : Prop :=
 ∃ A c, v = .slice A l.length c ∧ l.length ≤ c ∧ (0 < l.length → ∃ b o, A = some ⟨b, o, none⟩ ∧ F b ∧ b < w.heap.size ∧ ∀ k x, l[k]? = some x → E w F b (o + k * sz) x)
theorem SlAt.keep {α : Type} {sz : Nat} {E : World → Foot → Nat → Nat → α → Prop} {w w' : World} {F G : Foot} {v : Value} {l : List α}
  (h : SlAt sz E w F v l) (hFG : ∀ b, F b → b < w.heap.size → G b) (hsz : w.heap.size ≤ w'.heap.size) (hE : ∀ b o x, x ∈ l → F b → b < w.heap.size → E w F b o x → E w' G b o x) : SlAt sz E w' G v l := by
 obtain ⟨A, c, rfl, hc, hr⟩ := h
 refine ⟨A, c, rfl, hc, fun h0 => ?_⟩
 obtain ⟨b, o, rfl, hb, hl, hx⟩ := hr h0
 exact ⟨b, o, rfl, hFG b hb hl, Nat.lt_of_lt_of_le hl hsz, fun k x hk => hE b _ x (List.mem_of_getElem? hk) hb hl (hx k x hk)⟩
/-- one integer in one cell -/
def intE (k : IntKind) (w : World) (_ : Foot) (b o : Nat) (x : Int) : Prop := w.cell? ⟨b, o, none⟩ = some (.int k x)
def boolE (w : World) (_ : Foot) (b o : Nat) (x : Bool) : Prop := w.cell? ⟨b, o, none⟩ = some (.bool x)
/-- a value in one cell, told by S -/
def oneE {α : Type} (S : World → Foot → Value → α → Prop) (w : World) (F : Foot) (b o : Nat) (x : α) : Prop := ∃ v, w.cell? ⟨b, o, none⟩ = some v ∧ S w F v x
def IntsAt (w : World) (F : Foot) (v : Value) (l : List Int) : Prop := SlAt 1 (intE .i64) w F v l
def BoolsAt (w : World) (F : Foot) (v : Value) (l : List Bool) : Prop := SlAt 1 boolE w F v l
def RowsAt (w : World) (F : Foot) (v : Value) (l : List (List Int)) : Prop := SlAt 1 (oneE IntsAt) w F v l
theorem IntsAt.keep {w w' : World} {F G : Foot} {v : Value} {l : List Int} (h : IntsAt w F v l) (hFG : ∀ b, F b → b < w.heap.size → G b) (hs : Same F w w') : IntsAt w' G v l :=
 SlAt.keep h hFG hs.size fun b o x _ hb hl hx => by unfold intE at *; rw [hs.cell hb hl]; exact hx
theorem BoolsAt.keep {w w' : World} {F G : Foot} {v : Value} {l : List Bool} (h : BoolsAt w F v l) (hFG : ∀ b, F b → b < w.heap.size → G b) (hs : Same F w w') : BoolsAt w' G v l :=
 SlAt.keep h hFG hs.size fun b o x _ hb hl hx => by unfold boolE at *; rw [hs.cell hb hl]; exact hx
theorem RowsAt.keep {w w' : World} {F G : Foot} {v : Value} {l : List (List Int)} (h : RowsAt w F v l) (hFG : ∀ b, F b → b < w.heap.size → G b) (hs : Same F w w') : RowsAt w' G v l :=
 SlAt.keep h hFG hs.size fun b o x _ hb hl hx => by
  obtain ⟨u, hu, hr⟩ := hx
  exact ⟨u, by rw [hs.cell hb hl]; exact hu, hr.keep hFG hs⟩
structure Nd where
 kind : Int
 player : Int
 info : Int
 next : List Int
 weights : List Int
 pay : List Int
 deriving Inhabited, DecidableEq
structure Inf where
 player : Int
 actions : Int
 deriving Inhabited, DecidableEq
structure Gm where
 players : Int
 nodes : List Nd
 infos : List Inf
 deriving Inhabited, DecidableEq
/-- the six cells of a node -/
structure NodeE (w : World) (F : Foot) (b o : Nat) (n : Nd) : Prop where
 c0 : w.cell? ⟨b, o, none⟩ = some (.int .i64 n.kind)
 c1 : w.cell? ⟨b, o + 1, none⟩ = some (.int .i64 n.player)
 c2 : w.cell? ⟨b, o + 2, none⟩ = some (.int .i64 n.info)
 c3 : oneE IntsAt w F b (o + 3) n.next
 c4 : oneE IntsAt w F b (o + 4) n.weights
 c5 : oneE IntsAt w F b (o + 5) n.pay
structure InfoE (w : World) (_ : Foot) (b o : Nat) (n : Inf) : Prop where
 c0 : w.cell? ⟨b, o, none⟩ = some (.int .i64 n.player)
 c1 : w.cell? ⟨b, o + 1, none⟩ = some (.int .i64 n.actions)
theorem oneInts_keep {w w' : World} {F G : Foot} {b o : Nat} {l : List Int} (h : oneE IntsAt w F b o l) (hFG : ∀ b, F b → b < w.heap.size → G b) (hs : Same F w w') (hb : F b) (hl : b < w.heap.size) : oneE IntsAt w' G b o l := by
 obtain ⟨u, hu, hr⟩ := h
 exact ⟨u, by rw [hs.cell hb hl]; exact hu, hr.keep hFG hs⟩
theorem NodeE.keep {w w' : World} {F G : Foot} {b o : Nat} {n : Nd} (h : NodeE w F b o n) (hFG : ∀ b, F b → b < w.heap.size → G b) (hs : Same F w w') (hb : F b) (hl : b < w.heap.size) : NodeE w' G b o n :=
 ⟨by rw [hs.cell hb hl]; exact h.c0, by rw [hs.cell hb hl]; exact h.c1, by rw [hs.cell hb hl]; exact h.c2, oneInts_keep h.c3 hFG hs hb hl, oneInts_keep h.c4 hFG hs hb hl, oneInts_keep h.c5 hFG hs hb hl⟩
def NodesAt (w : World) (F : Foot) (v : Value) (l : List Nd) : Prop := SlAt 6 NodeE w F v l
def InfosAt (w : World) (F : Foot) (v : Value) (l : List Inf) : Prop := SlAt 2 InfoE w F v l
theorem NodesAt.keep {w w' : World} {F G : Foot} {v : Value} {l : List Nd} (h : NodesAt w F v l) (hFG : ∀ b, F b → b < w.heap.size → G b) (hs : Same F w w') : NodesAt w' G v l :=
 SlAt.keep h hFG hs.size fun _ _ _ _ hb hl hx => hx.keep hFG hs hb hl
theorem InfosAt.keep {w w' : World} {F G : Foot} {v : Value} {l : List Inf} (h : InfosAt w F v l) (hFG : ∀ b, F b → b < w.heap.size → G b) (hs : Same F w w') : InfosAt w' G v l :=
 SlAt.keep h hFG hs.size fun _ _ _ _ hb hl hx => ⟨by rw [hs.cell hb hl]; exact hx.c0, by rw [hs.cell hb hl]; exact hx.c1⟩
/-- a game by value -/
def GameAt (w : World) (F : Foot) (v : Value) (g : Gm) : Prop :=
 ∃ vn vi, v = .agg #[.int .i64 g.players, vn, vi] ∧ NodesAt w F vn g.nodes ∧ InfosAt w F vi g.infos
theorem GameAt.keep {w w' : World} {F G : Foot} {v : Value} {g : Gm} (h : GameAt w F v g) (hFG : ∀ b, F b → b < w.heap.size → G b) (hs : Same F w w') : GameAt w' G v g := by
 obtain ⟨vn, vi, rfl, hn, hi⟩ := h
 exact ⟨vn, vi, rfl, hn.keep hFG hs, hi.keep hFG hs⟩
/-- block b is a row of just these cells, none frozen -/
def Row (w : World) (b : Nat) (t : TypeId) (vs : List Value) : Prop := w.heap[b]? = some (.cells vs.toArray t (0, 0))
section
variable {w w' : World} {b : Nat} {t : TypeId} {vs : List Value}
theorem Row.cell (h : Row w b t vs) {i : Nat} {v : Value} (hi : vs[i]? = some v) : w.cell? ⟨b, i, none⟩ = some v := by
 unfold Row at h; simp [World.cell?, h, hi]
theorem Row.frozen (h : Row w b t vs) (i : Nat) : w.frozen? ⟨b, i, none⟩ = false := by
 unfold Row at h; simp [World.frozen?, h]
theorem Row.lt (h : Row w b t vs) : b < w.heap.size := by
 obtain ⟨hlt, _⟩ := Array.getElem?_eq_some_iff.1 h
 exact hlt
theorem Row.of_block (h : Row w b t vs) (e : w'.heap[b]? = w.heap[b]?) : Row w' b t vs := e.trans h
theorem Row.set (h : Row w b t vs) (i : Nat) (v : Value) : Row (w.setCell ⟨b, i, none⟩ v) b t (vs.set i v) := by
 unfold Row at *
 simp [World.setCell, Array.getElem?_modify, h]
theorem Row.other (h : Row w b t vs) {a : Addr} (ha : b ≠ a.block) (v : Value) : Row (w.setCell a v) b t vs := h.of_block (Below.heap_setCell _ _ _ _ ha)
theorem Row.alloc (h : Row w b t vs) (o : Obj) : Row (w.alloc o) b t vs := h.of_block (Below.heap_alloc _ _ _ h.lt)
theorem Row.drew (h : Row w b t vs) : Row w.drew b t vs := h
theorem Row.below {B : Nat} (h : Row w b t vs) (hb : Below B w w') (hB : b < B) : Row w' b t vs := h.of_block (hb.block b hB)
theorem Row.new (w : World) (t : TypeId) (c : Array Value) : Row (w.alloc (.cells c t)) w.heap.size t c.toList := by
 unfold Row; show (w.heap.push _)[w.heap.size]? = _; simp
end
theorem Row.made (w : World) (z : Value) (n : Nat) (t : TypeId) : Row (w.alloc (.cells (madeCells #[z] n) t)) w.heap.size t (List.replicate n z) := by
 have h := Row.new w t (madeCells #[z] n)
 have e : (madeCells #[z] n).toList = List.replicate n z := by
  apply List.ext_getElem?
  intro i
  by_cases hi : i < n
  ·simp [madeCells, hi, Nat.mod_one]
  ·simp [madeCells, hi]
 rw [e] at h; exact h
/-- a node by value -/
def NodeV (w : World) (F : Foot) (v : Value) (n : Nd) : Prop :=
 ∃ v3 v4 v5, v = .agg #[.int .i64 n.kind, .int .i64 n.player, .int .i64 n.info, v3, v4, v5] ∧ IntsAt w F v3 n.next ∧ IntsAt w F v4 n.weights ∧ IntsAt w F v5 n.pay
theorem NodeV.keep {w w' : World} {F G : Foot} {v : Value} {n : Nd} (h : NodeV w F v n) (hFG : ∀ b, F b → b < w.heap.size → G b) (hs : Same F w w') : NodeV w' G v n := by
 obtain ⟨v3, v4, v5, rfl, h3, h4, h5⟩ := h
 exact ⟨v3, v4, v5, rfl, h3.keep hFG hs, h4.keep hFG hs, h5.keep hFG hs⟩
theorem IntsAt.on {w w' : World} {F : Foot} {v : Value} {l : List Int} (h : IntsAt w F v l) (hs : Same F w w') : IntsAt w' F v l := h.keep (fun _ h _ => h) hs
theorem BoolsAt.on {w w' : World} {F : Foot} {v : Value} {l : List Bool} (h : BoolsAt w F v l) (hs : Same F w w') : BoolsAt w' F v l := h.keep (fun _ h _ => h) hs
theorem RowsAt.on {w w' : World} {F : Foot} {v : Value} {l : List (List Int)} (h : RowsAt w F v l) (hs : Same F w w') : RowsAt w' F v l := h.keep (fun _ h _ => h) hs
theorem NodesAt.on {w w' : World} {F : Foot} {v : Value} {l : List Nd} (h : NodesAt w F v l) (hs : Same F w w') : NodesAt w' F v l := h.keep (fun _ h _ => h) hs
theorem InfosAt.on {w w' : World} {F : Foot} {v : Value} {l : List Inf} (h : InfosAt w F v l) (hs : Same F w w') : InfosAt w' F v l := h.keep (fun _ h _ => h) hs
theorem GameAt.on {w w' : World} {F : Foot} {v : Value} {g : Gm} (h : GameAt w F v g) (hs : Same F w w') : GameAt w' F v g := h.keep (fun _ h _ => h) hs
theorem NodeV.on {w w' : World} {F : Foot} {v : Value} {n : Nd} (h : NodeV w F v n) (hs : Same F w w') : NodeV w' F v n := h.keep (fun _ h _ => h) hs
theorem below_dN {B : Nat} {a w : World} (h : Below B a w) (n : Nat) : Below B a (w.drewN n) := ⟨h.os, h.tape, h.output, h.size, h.block⟩
theorem Row.dN {w : World} {b : Nat} {t : TypeId} {vs : List Value} (h : Row w b t vs) (n : Nat) : Row (w.drewN n) b t vs := h
theorem below_old {B : Nat} {w w' : World} (h : Below B w w') : ∀ b o, b < B → w'.cell? ⟨b, o, none⟩ = w.cell? ⟨b, o, none⟩ := fun b o hb => h.cell (p := ⟨b, o, none⟩) hb
/-- a row of ints is a slice of ints -/
theorem Row.ints {w : World} {b : Nat} {t : TypeId} {l : List Int} (h : Row w b t (l.map (Value.int .i64))) {F : Foot} (hF : F b) {c : Nat} (hc : l.length ≤ c) : IntsAt w F (.slice (some ⟨b, 0, none⟩) l.length c) l :=
 ⟨_, c, rfl, hc, fun _ => ⟨b, 0, rfl, hF, h.lt, fun k x hk => by unfold intE; simp only [Nat.mul_one, Nat.zero_add]; exact h.cell (by simp [hk])⟩⟩
theorem Row.bools {w : World} {b : Nat} {t : TypeId} {l : List Bool} (h : Row w b t (l.map Value.bool)) {F : Foot} (hF : F b) {c : Nat} (hc : l.length ≤ c) : BoolsAt w F (.slice (some ⟨b, 0, none⟩) l.length c) l :=
 ⟨_, c, rfl, hc, fun _ => ⟨b, 0, rfl, hF, h.lt, fun k x hk => by unfold boolE; simp only [Nat.mul_one, Nat.zero_add]; exact h.cell (by simp [hk])⟩⟩
/-- make of one-cell elements: the world behind it gets a new name -/
theorem wpl_make {P : Program} (w : World) {ops : Array Oper} {rest : List Oper} {o : Oper} {a : Act} {Q : Exit → Act → World → Prop}
  (hg : o.guard = none) (l c : Operand) (t : TypeId) (hop : o.op = Op.makeSlice t l c)
  (e : TypeId) (z : Value) (bytes : Nat) (ht : P.underlying t = some (.slice e)) (hinfo : (P.info? e).map (fun i => (i.zero, i.size, i.bytes)) = some (some z, 1, bytes)) (hz1 : z.cells = #[z])
  (n : Nat) (hl : a.eval l = .int .i64 (n : Int)) (hc : a.eval c = .int .i64 (n : Int)) (hn : n ≤ 1000000) (hb : bytes ≤ 1000)
  (hK : ∀ w1, Below w.heap.size w w1 → w1.heap.size = w.heap.size + 1 → Row w1 w.heap.size e (List.replicate n z) →
   wpList P ops Q rest (a.put o.dst (.slice (some ⟨w.heap.size, 0, none⟩) n n)) w1) :
  wpList P ops Q (o :: rest) a w := by
 refine wpList_plain hg fun K hK' => ?_
 have hbytes : bytes * n ≤ 281474976710656 := by
  have : bytes * n ≤ 1000 * 1000000 := Nat.mul_le_mul hb hn
  omega
 have hrun := run_make_row' (P := P) t e z bytes ht hinfo hz1 .i64 .i64 n hbytes (by omega) w
 unfold Oper.wp
 simp [execOp, hop, hl, hc, hrun, Result.andThen]
 have hbel : Below w.heap.size w (w.alloc (.cells (madeCells #[z] n) e)) := (Below.refl _ _).alloc (Nat.le_refl _) _
 exact hK' _ _ (hK _ hbel (by simp) (Row.made w z n e))
theorem Try.infoInt : (Try.prog.info? 3).map (fun i => (i.zero, i.size, i.bytes)) = some (some (.int .i64 0), 1, 8) := by kernel_rfl
theorem Try.infoBool : (Try.prog.info? 4).map (fun i => (i.zero, i.size, i.bytes)) = some (some (.bool false), 1, 1) := by kernel_rfl
theorem Try.infoInts : (Try.prog.info? 26).map (fun i => (i.zero, i.size, i.bytes)) = some (some (.slice none 0 0), 1, 24) := by kernel_rfl
/-- what every contract gives: a value, nothing old turned -/
def Ret (w : World) (R : Value → World → Prop) (e : Ending) (w' : World) : Prop := ∃ v, e = .returned v ∧ Below w.heap.size w w' ∧ R v w'
end Go.Proofs.Ytafjdoedallnbaa
/- Plain functions on games that the walks of this seat compute: parents, sets, what lies under roots. -/
namespace Go.Proofs.Ytafjdoedallnbaa
open Go.RowKit
theorem any_snoc {α : Type} {l : List α} {p : α → Bool} {k : Nat} {x : α} (h : l[k]? = some x) (hn : (l.take k).any p = false) (hx : p x = false) : (l.take (k + 1)).any p = false := by
 rw [take_snoc h, List.any_append]; simp [hn, hx]
def parKids (l : List Int) (i : Int) (p : List Int) : List Int := l.foldl (fun p c => p.set c.toNat i) p
def parTo (nodes : List Nd) : Nat → List Int
 | 0 => (List.replicate nodes.length 0).set 0 (-1)
 | k + 1 => match nodes[k]? with
  | some n => parKids n.next k (parTo nodes k)
  | none => parTo nodes k
def parentsL (nodes : List Nd) : List Int := parTo nodes nodes.length
theorem parKids_snoc {l : List Int} {i : Int} {p : List Int} {k : Nat} {c : Int} (h : l[k]? = some c) : parKids (l.take (k + 1)) i p = (parKids (l.take k) i p).set c.toNat i := by
 rw [take_snoc h]; simp [parKids, List.foldl_append]
theorem parKids_length (l : List Int) (i : Int) (p : List Int) : (parKids l i p).length = p.length := by
 unfold parKids
 induction l generalizing p with
 | nil => rfl
 | cons c l ih => simp only [List.foldl_cons]; rw [ih]; simp
theorem parTo_length (nodes : List Nd) (k : Nat) : (parTo nodes k).length = nodes.length := by
 induction k with
 | zero => simp [parTo]
 | succ k ih =>
  unfold parTo
  split
  ·rw [parKids_length, ih]
  ·exact ih
theorem parTo_succ {nodes : List Nd} {k : Nat} {n : Nd} (h : nodes[k]? = some n) : parTo nodes (k + 1) = parKids n.next k (parTo nodes k) := by
 simp [parTo, h]
theorem parKids_range {l : List Int} {i : Int} {p : List Int} {n : Nat} (hi : 0 ≤ i ∧ i < n) (hp : ∀ k x, p[k]? = some x → k ≠ 0 → 0 ≤ x ∧ x < (n : Int)) : ∀ k x, (parKids l i p)[k]? = some x → k ≠ 0 → 0 ≤ x ∧ x < (n : Int) := by
 unfold parKids
 induction l generalizing p with
 | nil => exact hp
 | cons c l ih =>
  simp only [List.foldl_cons]
  refine ih fun k x hk h0 => ?_
  rw [List.getElem?_set] at hk
  split at hk
  ·split at hk
   ·cases hk; exact hi
   ·cases hk
  ·exact hp k x hk h0
theorem parTo_range (nodes : List Nd) (k : Nat) (hk : k ≤ nodes.length) : ∀ i x, (parTo nodes k)[i]? = some x → i ≠ 0 → 0 ≤ x ∧ x < (nodes.length : Int) := by
 induction k with
 | zero =>
  intro i x hi h0
  unfold parTo at hi
  rw [List.getElem?_set_ne (by omega)] at hi
  have := lt_of_get hi
  simp at this
  simp [this] at hi
  omega
 | succ k ih =>
  obtain ⟨n, hn⟩ := getSome (l := nodes) (k := k) (by omega)
  rw [parTo_succ hn]
  exact parKids_range ⟨by omega, by omega⟩ (ih (by omega))
def markL (roots : List Int) (l : List Bool) : List Bool := roots.foldl (fun l r => l.set r.toNat true) l
def spStep (par : List Int) (l : List Bool) (i : Nat) : List Bool := l.set i (l.getD i false || l.getD (par.getD i 0).toNat false)
def spTo (par : List Int) (l : List Bool) (m : Nat) : List Bool := (List.range' 1 (m - 1)).foldl (spStep par) l
def underL (nodes : List Nd) (roots : List Int) : List Bool := spTo (parentsL nodes) (markL roots (List.replicate nodes.length false)) nodes.length
theorem markL_snoc {l : List Int} {p : List Bool} {k : Nat} {c : Int} (h : l[k]? = some c) : markL (l.take (k + 1)) p = (markL (l.take k) p).set c.toNat true := by
 rw [take_snoc h]; simp [markL, List.foldl_append]
theorem markL_length (l : List Int) (p : List Bool) : (markL l p).length = p.length := by
 unfold markL
 induction l generalizing p with
 | nil => rfl
 | cons c l ih => simp only [List.foldl_cons]; rw [ih]; simp
theorem spTo_succ (par : List Int) (l : List Bool) (m : Nat) (h : 1 ≤ m) : spTo par l (m + 1) = spStep par (spTo par l m) m := by
 unfold spTo
 have : m + 1 - 1 = (m - 1) + 1 := by omega
 rw [this, List.range'_concat, List.foldl_append]
 simp
 rw [show 1 + (m - 1) = m by omega]
theorem spTo_length (par : List Int) (l : List Bool) (m : Nat) : (spTo par l m).length = l.length := by
 unfold spTo
 generalize List.range' 1 (m - 1) = r
 induction r generalizing l with
 | nil => rfl
 | cons c r ih => simp only [List.foldl_cons]; rw [ih]; simp [spStep]
/-- children are nodes -/
def KidsIn (nodes : List Nd) : Prop := ∀ n ∈ nodes, ∀ c ∈ n.next, 0 ≤ c ∧ c < (nodes.length : Int)
/-- sizes that the statements let in -/
structure Small (g : Gm) : Prop where
 nodes : g.nodes.length ≤ 100
 infos : g.infos.length ≤ 100
 next : ∀ n ∈ g.nodes, n.next.length ≤ 100
 weights : ∀ n ∈ g.nodes, n.weights.length ≤ 100
 pay : ∀ n ∈ g.nodes, n.pay.length ≤ 100
end Go.Proofs.Ytafjdoedallnbaa
/- parlourkit.Alike at ints: whether two lists are equal. -/
namespace Go.Proofs.Ytafjdoedallnbaa
open Go.RowKit
theorem take_same_snoc {α : Type} {l1 l2 : List α} {k : Nat} {x : α} (h1 : l1[k]? = some x) (h2 : l2[k]? = some x) (h : l1.take k = l2.take k) : l1.take (k+1) = l2.take (k+1) := by
 rw [take_snoc h1, take_snoc h2, h]
set_option maxHeartbeats 400000 in
theorem alikeInt_any (w : World) (F : Foot) (v1 v2 : Value) (l1 l2 : List Int) (h1 : IntsAt w F v1 l1) (h2 : IntsAt w F v2 l2) (hl1 : l1.length < 1000000) (hl2 : l2.length < 1000000) :
  Calls Try.prog 12 #[v1, v2] w fun e w' => e = .returned (.bool (decide (l1 = l2))) ∧ ∃ n, w' = w.drewN n := by
 obtain ⟨A1, c1, rfl, hc1, r1⟩ := h1
 obtain ⟨A2, c2, rfl, hc2, r2⟩ := h2
 by_cases hl : l1.length = l2.length
 ·have R1 := Lib.hid r1; clear r1
  have R2 := Lib.hid r2; clear r2
  have HL := Lib.hid hl
  have hb : ((l1.length : Int) != (l2.length : Int)) = false := by simp [hl]
  clear hl
  go_enter Try.func12, Try.ntmps12
  go_wp2
  go_loopw [5] (fun i wr => ∃ k : Nat, k ≤ l1.length ∧ i = .int .i64 k ∧ l1.take k = l2.take k ∧ ∃ n, wr = w.drewN n) (fun i _ => l1.length - (intOf i).toNat)
  case atStart => exact ⟨0, by omega, rfl, by simp, 0, rfl⟩
  case round =>
   obtain ⟨k, hk, rfl, hpre, n, rfl⟩ := hrel
   have HP := Lib.hid hpre; clear hpre
   by_cases hlt : k < l1.length
   ·obtain ⟨b1, o1, rfl, hb1, _, hcell1⟩ := R1.out (by omega)
    have hk2 : k < l2.length := by have := HL.out; omega
    obtain ⟨b2, o2, rfl, hb2, _, hcell2⟩ := R2.out (by omega)
    obtain ⟨x, hx⟩ := getSome hlt
    obtain ⟨y, hy⟩ := getSome hk2
    have e1 := hcell1 k x hx
    have e2 := hcell2 k y hy
    unfold intE at e1 e2
    rw [Nat.mul_one] at e1 e2
    clear hcell1 hcell2
    have HX := Lib.hid hx; clear hx
    have HY := Lib.hid hy; clear hy
    by_cases he : x = y
    ·subst he
     go_wp2
     go_quiet (fail)
     go_wp2
     go_roundw
     case rel => exact ⟨k+1, by omega, by go_num, take_same_snoc HX.out HY.out HP.out, _, rfl⟩
     case measure => simp [intOf]; omega
    ·have hne : (x != y) = true := by simp [he]
     have hfin : decide (l1 = l2) = false := by
      simp only [decide_eq_false_iff_not]; rintro rfl
      have h3 := HX.out; rw [HY.out] at h3; cases h3; exact he rfl
     have HF := Lib.hid hfin; clear hfin he
     go_wp2
     go_quiet (fail)
     go_wp2
     go_ret
     exact ⟨by rw [HF.out]; rfl, n + nq, by rw [World.drewN_drewN]⟩
   ·go_wp2
    go_ret
    have : k = l1.length := by omega
    have h3 := HP.out
    have h4 := HL.out
    refine ⟨?_, _, rfl⟩
    have h5 : l1 = l2 := by
     rw [List.take_of_length_le (by omega), List.take_of_length_le (by omega)] at h3; exact h3
    simp [h5]
 ·have hb : ((l1.length : Int) != (l2.length : Int)) = true := by simp; omega
  go_enter Try.func12, Try.ntmps12
  go_wp2
  go_ret
  refine ⟨?_, 0, rfl⟩
  have : l1 ≠ l2 := by rintro rfl; exact hl rfl
  simp [this]
end Go.Proofs.Ytafjdoedallnbaa
/- parlourkit.Alike at information sets: whether two lists are equal. -/
namespace Go.Proofs.Ytafjdoedallnbaa
open Go.RowKit
set_option maxHeartbeats 400000 in
theorem alikeInfo_any (w : World) (F : Foot) (v1 v2 : Value) (l1 l2 : List Inf) (h1 : InfosAt w F v1 l1) (h2 : InfosAt w F v2 l2) (hl1 : l1.length < 1000000) (hl2 : l2.length < 1000000) :
  Calls Try.prog 32 #[v1, v2] w fun e w' => e = .returned (.bool (decide (l1 = l2))) ∧ ∃ n, w' = w.drewN n := by
 obtain ⟨A1, c1, rfl, hc1, r1⟩ := h1
 obtain ⟨A2, c2, rfl, hc2, r2⟩ := h2
 by_cases hl : l1.length = l2.length
 ·have R1 := Lib.hid r1; clear r1
  have R2 := Lib.hid r2; clear r2
  have HL := Lib.hid hl
  have hb : ((l1.length : Int) != (l2.length : Int)) = false := by simp [hl]
  clear hl
  go_enter Try.func32, Try.ntmps32
  go_wp2
  go_loopw [5] (fun i wr => ∃ k : Nat, k ≤ l1.length ∧ i = .int .i64 k ∧ l1.take k = l2.take k ∧ ∃ n, wr = w.drewN n) (fun i _ => l1.length - (intOf i).toNat)
  case atStart => exact ⟨0, by omega, rfl, by simp, 0, rfl⟩
  case round =>
   obtain ⟨k, hk, rfl, hpre, n, rfl⟩ := hrel
   have HP := Lib.hid hpre; clear hpre
   by_cases hlt : k < l1.length
   ·obtain ⟨b1, o1, rfl, hb1, _, hcell1⟩ := R1.out (by omega)
    have hk2 : k < l2.length := by have := HL.out; omega
    obtain ⟨b2, o2, rfl, hb2, _, hcell2⟩ := R2.out (by omega)
    obtain ⟨x, hx⟩ := getSome hlt
    obtain ⟨y, hy⟩ := getSome hk2
    have e1 := hcell1 k x hx
    have e2 := hcell2 k y hy
    obtain ⟨e10, e11⟩ := e1
    obtain ⟨e20, e21⟩ := e2
    clear hcell1 hcell2
    obtain ⟨xp, xa⟩ := x
    obtain ⟨yp, ya⟩ := y
    dsimp only at e10 e11 e20 e21
    have HX := Lib.hid hx; clear hx
    have HY := Lib.hid hy; clear hy
    by_cases he : xp = yp ∧ xa = ya
    ·obtain ⟨rfl, rfl⟩ := he
     go_wp2
     go_quiet (fail)
     go_wp2
     go_roundw
     case rel => exact ⟨k+1, by omega, by go_num, take_same_snoc HX.out HY.out HP.out, _, rfl⟩
     case measure => simp [intOf]; omega
    ·have hfin : decide (l1 = l2) = false := by
      simp only [decide_eq_false_iff_not]; rintro rfl
      have h3 := HX.out; rw [HY.out] at h3; cases h3; exact he ⟨rfl, rfl⟩
     have HF := Lib.hid hfin; clear hfin
     by_cases h1 : xp = yp
     ·subst h1
      have hne : (xa == ya) = false := by simp; exact fun h2 => he ⟨rfl, h2⟩
      clear he
      go_wp2
      go_quiet (fail)
      go_wp2
      go_ret
      exact ⟨by rw [HF.out]; rfl, n + nq, by rw [World.drewN_drewN]⟩
     ·have hne : (xp == yp) = false := by simp [h1]
      clear he h1
      go_wp2
      go_quiet (fail)
      go_wp2
      go_ret
      exact ⟨by rw [HF.out]; rfl, n + nq, by rw [World.drewN_drewN]⟩
   ·go_wp2
    go_ret
    have : k = l1.length := by omega
    have h3 := HP.out
    have h4 := HL.out
    refine ⟨?_, _, rfl⟩
    have h5 : l1 = l2 := by
     rw [List.take_of_length_le (by omega), List.take_of_length_le (by omega)] at h3; exact h3
    simp [h5]
 ·have hb : ((l1.length : Int) != (l2.length : Int)) = true := by simp; omega
  go_enter Try.func32, Try.ntmps32
  go_wp2
  go_ret
  refine ⟨?_, 0, rfl⟩
  have : l1 ≠ l2 := by rintro rfl; exact hl rfl
  simp [this]
end Go.Proofs.Ytafjdoedallnbaa
/- parlourkit.AlikeNode: whether two nodes are equal. -/
namespace Go.Proofs.Ytafjdoedallnbaa
open Go.RowKit
theorem nd_eq_iff (a b : Nd) : a = b ↔ a.kind = b.kind ∧ a.player = b.player ∧ a.info = b.info ∧ a.next = b.next ∧ a.weights = b.weights ∧ a.pay = b.pay := by
 cases a; cases b; simp
theorem below_two (w : World) (a b : Obj) (n : Nat) : Below w.heap.size w (((w.alloc a).alloc b).drewN n) := by
 have h := (((Below.refl w.heap.size w).alloc (Nat.le_refl _) a).alloc (by simp) b)
 exact ⟨h.os, h.tape, h.output, h.size, h.block⟩
set_option maxHeartbeats 1600000 in
theorem alikeNode_any (w : World) (F : Foot) (u1 u2 : Value) (n1 n2 : Nd) (h1 : NodeV w F u1 n1) (h2 : NodeV w F u2 n2)
  (hl1 : n1.next.length < 1000000 ∧ n1.weights.length < 1000000 ∧ n1.pay.length < 1000000) (hl2 : n2.next.length < 1000000 ∧ n2.weights.length < 1000000 ∧ n2.pay.length < 1000000) :
  Calls Try.prog 33 #[u1, u2] w (Ret w fun v _ => v = .bool (decide (n1 = n2))) := by
 obtain ⟨v3, v4, v5, rfl, h13, h14, h15⟩ := h1
 obtain ⟨u3, u4, u5, rfl, h23, h24, h25⟩ := h2
 obtain ⟨hl13, hl14, hl15⟩ := hl1
 obtain ⟨hl23, hl24, hl25⟩ := hl2
 have H13 := Lib.hid h13; clear h13
 have H14 := Lib.hid h14; clear h14
 have H15 := Lib.hid h15; clear h15
 have H23 := Lib.hid h23; clear h23
 have H24 := Lib.hid h24; clear h24
 have H25 := Lib.hid h25; clear h25
 have HE := Lib.hid (nd_eq_iff n1 n2)
 by_cases q0 : n1.kind = n2.kind
 case neg =>
  have d0 : (n1.kind == n2.kind) = false := by simp [q0]
  have HF := Lib.hid (show decide (n1 = n2) = false by simp only [decide_eq_false_iff_not]; exact fun h => q0 (HE.out.1 h).1)
  clear q0
  go_enter Try.func33, Try.ntmps33
  go_wp2
  go_ret
  exact ⟨_, rfl, below_two _ _ _ 0, by rw [HF.out]; rfl⟩
 have d0 : (n1.kind == n2.kind) = true := by simp [q0]
 have Q0 := Lib.hid q0; clear q0
 by_cases q1 : n1.player = n2.player
 case neg =>
  have d1 : (n1.player == n2.player) = false := by simp [q1]
  have HF := Lib.hid (show decide (n1 = n2) = false by simp only [decide_eq_false_iff_not]; exact fun h => q1 (HE.out.1 h).2.1)
  clear q1
  go_enter Try.func33, Try.ntmps33
  go_wp2
  go_ret
  exact ⟨_, rfl, below_two _ _ _ 0, by rw [HF.out]; rfl⟩
 have d1 : (n1.player == n2.player) = true := by simp [q1]
 have Q1 := Lib.hid q1; clear q1
 by_cases q2 : n1.info = n2.info
 case neg =>
  have d2 : (n1.info == n2.info) = false := by simp [q2]
  have HF := Lib.hid (show decide (n1 = n2) = false by simp only [decide_eq_false_iff_not]; exact fun h => q2 (HE.out.1 h).2.2.1)
  clear q2
  go_enter Try.func33, Try.ntmps33
  go_wp2
  go_ret
  exact ⟨_, rfl, below_two _ _ _ 0, by rw [HF.out]; rfl⟩
 have d2 : (n1.info == n2.info) = true := by simp [q2]
 have Q2 := Lib.hid q2; clear q2
 by_cases q3 : n1.next = n2.next
 case neg =>
  have d3 : decide (n1.next = n2.next) = false := by simp [q3]
  have HF := Lib.hid (show decide (n1 = n2) = false by simp only [decide_eq_false_iff_not]; exact fun h => q3 (HE.out.1 h).2.2.2.1)
  clear q3
  go_enter Try.func33, Try.ntmps33
  go_wp2_with (first | (go_at_call 12; (with_reducible refine (alikeInt_any _ F _ _ n1.next n2.next (H13.out.on ?_) (H23.out.on ?_) hl13 hl23).mono ?_); exact (by repeat (first | exact Same.refl _ _ | exact Same.drewN _ _ _ | exact Same.alloc _ _ _ | refine Same.trans ?_ (Same.drewN _ _ _) | refine Same.trans ?_ (Same.alloc _ _ _))); exact (by repeat (first | exact Same.refl _ _ | exact Same.drewN _ _ _ | exact Same.alloc _ _ _ | refine Same.trans ?_ (Same.drewN _ _ _) | refine Same.trans ?_ (Same.alloc _ _ _))); rintro e w' ⟨rfl, m, rfl⟩) | (go_at_call 12; (with_reducible refine (alikeInt_any _ F _ _ n1.weights n2.weights (H14.out.on ?_) (H24.out.on ?_) hl14 hl24).mono ?_); exact (by repeat (first | exact Same.refl _ _ | exact Same.drewN _ _ _ | exact Same.alloc _ _ _ | refine Same.trans ?_ (Same.drewN _ _ _) | refine Same.trans ?_ (Same.alloc _ _ _))); exact (by repeat (first | exact Same.refl _ _ | exact Same.drewN _ _ _ | exact Same.alloc _ _ _ | refine Same.trans ?_ (Same.drewN _ _ _) | refine Same.trans ?_ (Same.alloc _ _ _))); rintro e w' ⟨rfl, m, rfl⟩) | (go_at_call 12; (with_reducible refine (alikeInt_any _ F _ _ n1.pay n2.pay (H15.out.on ?_) (H25.out.on ?_) hl15 hl25).mono ?_); exact (by repeat (first | exact Same.refl _ _ | exact Same.drewN _ _ _ | exact Same.alloc _ _ _ | refine Same.trans ?_ (Same.drewN _ _ _) | refine Same.trans ?_ (Same.alloc _ _ _))); exact (by repeat (first | exact Same.refl _ _ | exact Same.drewN _ _ _ | exact Same.alloc _ _ _ | refine Same.trans ?_ (Same.drewN _ _ _) | refine Same.trans ?_ (Same.alloc _ _ _))); rintro e w' ⟨rfl, m, rfl⟩))
  go_ret
  exact ⟨_, rfl, below_two _ _ _ _, by rw [HF.out]; rfl⟩
 have d3 : decide (n1.next = n2.next) = true := by simp [q3]
 have Q3 := Lib.hid q3; clear q3
 by_cases q4 : n1.weights = n2.weights
 case neg =>
  have d4 : decide (n1.weights = n2.weights) = false := by simp [q4]
  have HF := Lib.hid (show decide (n1 = n2) = false by simp only [decide_eq_false_iff_not]; exact fun h => q4 (HE.out.1 h).2.2.2.2.1)
  clear q4
  go_enter Try.func33, Try.ntmps33
  go_wp2_with (first | (go_at_call 12; (with_reducible refine (alikeInt_any _ F _ _ n1.next n2.next (H13.out.on ?_) (H23.out.on ?_) hl13 hl23).mono ?_); exact (by repeat (first | exact Same.refl _ _ | exact Same.drewN _ _ _ | exact Same.alloc _ _ _ | refine Same.trans ?_ (Same.drewN _ _ _) | refine Same.trans ?_ (Same.alloc _ _ _))); exact (by repeat (first | exact Same.refl _ _ | exact Same.drewN _ _ _ | exact Same.alloc _ _ _ | refine Same.trans ?_ (Same.drewN _ _ _) | refine Same.trans ?_ (Same.alloc _ _ _))); rintro e w' ⟨rfl, m, rfl⟩) | (go_at_call 12; (with_reducible refine (alikeInt_any _ F _ _ n1.weights n2.weights (H14.out.on ?_) (H24.out.on ?_) hl14 hl24).mono ?_); exact (by repeat (first | exact Same.refl _ _ | exact Same.drewN _ _ _ | exact Same.alloc _ _ _ | refine Same.trans ?_ (Same.drewN _ _ _) | refine Same.trans ?_ (Same.alloc _ _ _))); exact (by repeat (first | exact Same.refl _ _ | exact Same.drewN _ _ _ | exact Same.alloc _ _ _ | refine Same.trans ?_ (Same.drewN _ _ _) | refine Same.trans ?_ (Same.alloc _ _ _))); rintro e w' ⟨rfl, m, rfl⟩) | (go_at_call 12; (with_reducible refine (alikeInt_any _ F _ _ n1.pay n2.pay (H15.out.on ?_) (H25.out.on ?_) hl15 hl25).mono ?_); exact (by repeat (first | exact Same.refl _ _ | exact Same.drewN _ _ _ | exact Same.alloc _ _ _ | refine Same.trans ?_ (Same.drewN _ _ _) | refine Same.trans ?_ (Same.alloc _ _ _))); exact (by repeat (first | exact Same.refl _ _ | exact Same.drewN _ _ _ | exact Same.alloc _ _ _ | refine Same.trans ?_ (Same.drewN _ _ _) | refine Same.trans ?_ (Same.alloc _ _ _))); rintro e w' ⟨rfl, m, rfl⟩))
  go_ret
  exact ⟨_, rfl, below_two _ _ _ _, by rw [HF.out]; rfl⟩
 have d4 : decide (n1.weights = n2.weights) = true := by simp [q4]
 have Q4 := Lib.hid q4; clear q4
 by_cases q5 : n1.pay = n2.pay
 case neg =>
  have d5 : decide (n1.pay = n2.pay) = false := by simp [q5]
  have HF := Lib.hid (show decide (n1 = n2) = false by simp only [decide_eq_false_iff_not]; exact fun h => q5 (HE.out.1 h).2.2.2.2.2)
  clear q5
  go_enter Try.func33, Try.ntmps33
  go_wp2_with (first | (go_at_call 12; (with_reducible refine (alikeInt_any _ F _ _ n1.next n2.next (H13.out.on ?_) (H23.out.on ?_) hl13 hl23).mono ?_); exact (by repeat (first | exact Same.refl _ _ | exact Same.drewN _ _ _ | exact Same.alloc _ _ _ | refine Same.trans ?_ (Same.drewN _ _ _) | refine Same.trans ?_ (Same.alloc _ _ _))); exact (by repeat (first | exact Same.refl _ _ | exact Same.drewN _ _ _ | exact Same.alloc _ _ _ | refine Same.trans ?_ (Same.drewN _ _ _) | refine Same.trans ?_ (Same.alloc _ _ _))); rintro e w' ⟨rfl, m, rfl⟩) | (go_at_call 12; (with_reducible refine (alikeInt_any _ F _ _ n1.weights n2.weights (H14.out.on ?_) (H24.out.on ?_) hl14 hl24).mono ?_); exact (by repeat (first | exact Same.refl _ _ | exact Same.drewN _ _ _ | exact Same.alloc _ _ _ | refine Same.trans ?_ (Same.drewN _ _ _) | refine Same.trans ?_ (Same.alloc _ _ _))); exact (by repeat (first | exact Same.refl _ _ | exact Same.drewN _ _ _ | exact Same.alloc _ _ _ | refine Same.trans ?_ (Same.drewN _ _ _) | refine Same.trans ?_ (Same.alloc _ _ _))); rintro e w' ⟨rfl, m, rfl⟩) | (go_at_call 12; (with_reducible refine (alikeInt_any _ F _ _ n1.pay n2.pay (H15.out.on ?_) (H25.out.on ?_) hl15 hl25).mono ?_); exact (by repeat (first | exact Same.refl _ _ | exact Same.drewN _ _ _ | exact Same.alloc _ _ _ | refine Same.trans ?_ (Same.drewN _ _ _) | refine Same.trans ?_ (Same.alloc _ _ _))); exact (by repeat (first | exact Same.refl _ _ | exact Same.drewN _ _ _ | exact Same.alloc _ _ _ | refine Same.trans ?_ (Same.drewN _ _ _) | refine Same.trans ?_ (Same.alloc _ _ _))); rintro e w' ⟨rfl, m, rfl⟩))
  go_ret
  exact ⟨_, rfl, below_two _ _ _ _, by rw [HF.out]; rfl⟩
 have d5 : decide (n1.pay = n2.pay) = true := by simp [q5]
 have Q5 := Lib.hid q5; clear q5
 have HF := Lib.hid (show decide (n1 = n2) = true by simp only [decide_eq_true_eq]; exact HE.out.2 ⟨Q0.out, Q1.out, Q2.out, Q3.out, Q4.out, Q5.out⟩)
 go_enter Try.func33, Try.ntmps33
 go_wp2_with (first | (go_at_call 12; (with_reducible refine (alikeInt_any _ F _ _ n1.next n2.next (H13.out.on ?_) (H23.out.on ?_) hl13 hl23).mono ?_); exact (by repeat (first | exact Same.refl _ _ | exact Same.drewN _ _ _ | exact Same.alloc _ _ _ | refine Same.trans ?_ (Same.drewN _ _ _) | refine Same.trans ?_ (Same.alloc _ _ _))); exact (by repeat (first | exact Same.refl _ _ | exact Same.drewN _ _ _ | exact Same.alloc _ _ _ | refine Same.trans ?_ (Same.drewN _ _ _) | refine Same.trans ?_ (Same.alloc _ _ _))); rintro e w' ⟨rfl, m, rfl⟩) | (go_at_call 12; (with_reducible refine (alikeInt_any _ F _ _ n1.weights n2.weights (H14.out.on ?_) (H24.out.on ?_) hl14 hl24).mono ?_); exact (by repeat (first | exact Same.refl _ _ | exact Same.drewN _ _ _ | exact Same.alloc _ _ _ | refine Same.trans ?_ (Same.drewN _ _ _) | refine Same.trans ?_ (Same.alloc _ _ _))); exact (by repeat (first | exact Same.refl _ _ | exact Same.drewN _ _ _ | exact Same.alloc _ _ _ | refine Same.trans ?_ (Same.drewN _ _ _) | refine Same.trans ?_ (Same.alloc _ _ _))); rintro e w' ⟨rfl, m, rfl⟩) | (go_at_call 12; (with_reducible refine (alikeInt_any _ F _ _ n1.pay n2.pay (H15.out.on ?_) (H25.out.on ?_) hl15 hl25).mono ?_); exact (by repeat (first | exact Same.refl _ _ | exact Same.drewN _ _ _ | exact Same.alloc _ _ _ | refine Same.trans ?_ (Same.drewN _ _ _) | refine Same.trans ?_ (Same.alloc _ _ _))); exact (by repeat (first | exact Same.refl _ _ | exact Same.drewN _ _ _ | exact Same.alloc _ _ _ | refine Same.trans ?_ (Same.drewN _ _ _) | refine Same.trans ?_ (Same.alloc _ _ _))); rintro e w' ⟨rfl, m, rfl⟩))
 go_ret
 exact ⟨_, rfl, below_two _ _ _ _, by rw [HF.out]; rfl⟩
end Go.Proofs.Ytafjdoedallnbaa
/- parlourref11.walk: the first number behind a subtree, or -1 where it does not stand in preorder; the greatest depth. -/
namespace Go.Proofs.Ytafjdoedallnbaa
open Go.RowKit
def kidsLoop (rec : Nat → Int → Int × Int) : List Int → Int → Int → Int × Int
 | [], next, deep => (next, deep)
 | c :: cs, next, deep => if c ≠ next then (-1, deep) else if (rec next.toNat deep).1 < 0 then (-1, (rec next.toNat deep).2) else kidsLoop rec cs (rec next.toNat deep).1 (rec next.toNat deep).2
def walkR (nodes : List Nd) : Nat → Nat → Int → Int → Int × Int
 | 0, _, _, deep => (-1, deep)
 | f + 1, a, depth, deep => match nodes[a]? with
  | none => (-1, deep)
  | some n => kidsLoop (fun a d => walkR nodes f a (depth + 1) d) n.next ((a : Int) + 1) (max deep depth)
theorem kidsLoop_bound {rec : Nat → Int → Int × Int} {N lo : Nat} (hrec : ∀ a d, lo ≤ a → (rec a d).1 = -1 ∨ ((a : Int) < (rec a d).1 ∧ (rec a d).1 ≤ N)) : ∀ (cs : List Int) (next deep : Int), (lo : Int) ≤ next → next ≤ N →
  (kidsLoop rec cs next deep).1 = -1 ∨ ((lo : Int) ≤ (kidsLoop rec cs next deep).1 ∧ (kidsLoop rec cs next deep).1 ≤ N)
 | [], next, deep, h1, h2 => .inr ⟨h1, h2⟩
 | c :: cs, next, deep, h1, h2 => by
  unfold kidsLoop
  split
  ·exact .inl rfl
  ·split
   ·exact .inl rfl
   ·rcases hrec next.toNat deep (by omega) with h | h
    ·omega
    ·exact kidsLoop_bound hrec cs _ _ (by omega) (by omega)
theorem walkR_bound (nodes : List Nd) : ∀ (f a : Nat) (depth deep : Int), (walkR nodes f a depth deep).1 = -1 ∨ ((a : Int) < (walkR nodes f a depth deep).1 ∧ (walkR nodes f a depth deep).1 ≤ nodes.length)
 | 0, _, _, _ => .inl rfl
 | f + 1, a, depth, deep => by
  unfold walkR
  split
  ·exact .inl rfl
  ·rename_i n hn
   have := lt_of_get hn
   rcases kidsLoop_bound (rec := fun a d => walkR nodes f a (depth + 1) d) (N := nodes.length) (lo := a + 1) (fun a' d _ => walkR_bound nodes f a' (depth + 1) d) n.next ((a : Int) + 1) (max deep depth) (by omega) (by omega) with h | h
   ·exact .inl h
   ·exact .inr (by omega)
theorem kidsLoop_deep {rec : Nat → Int → Int × Int} {D : Int} (hrec : ∀ a d, -1 ≤ d → d ≤ D → -1 ≤ (rec a d).2 ∧ (rec a d).2 ≤ D) : ∀ (cs : List Int) (next deep : Int), -1 ≤ deep → deep ≤ D → -1 ≤ (kidsLoop rec cs next deep).2 ∧ (kidsLoop rec cs next deep).2 ≤ D
 | [], next, deep, h1, h2 => ⟨h1, h2⟩
 | c :: cs, next, deep, h1, h2 => by
  unfold kidsLoop
  have := hrec next.toNat deep h1 h2
  split
  ·exact ⟨h1, h2⟩
  ·split
   ·exact this
   ·exact kidsLoop_deep hrec cs _ _ this.1 this.2
theorem walkR_deep (nodes : List Nd) (D : Int) : ∀ (f a : Nat) (depth deep : Int), depth + f ≤ D → -1 ≤ deep → deep ≤ D → -1 ≤ (walkR nodes f a depth deep).2 ∧ (walkR nodes f a depth deep).2 ≤ D
 | 0, _, _, _, _, h1, h2 => ⟨h1, h2⟩
 | f + 1, a, depth, deep, h, h1, h2 => by
  unfold walkR
  split
  ·exact ⟨h1, h2⟩
  ·exact kidsLoop_deep (fun a' d g1 g2 => walkR_deep nodes D f a' (depth + 1) d (by omega) g1 g2) _ _ _ (by omega) (by omega)
theorem Same.of_grown {w w' : World} {b : Nat} (h : w.grownBy w' (some b)) : Same (fun k => k ≠ b) w w' := ⟨h.size, fun k hk hl => h.block k hl (by simpa using hk)⟩
theorem grown_alloc {a w : World} {row : Option Nat} (h : a.grownBy w row) (o : Obj) : a.grownBy (w.alloc o) row :=
 ⟨h.os, h.tape, h.output, Nat.le_trans h.size (by simp), fun i hi hne => (Below.heap_alloc w o i (Nat.lt_of_lt_of_le hi h.size)).trans (h.block i hi hne)⟩
theorem grown_setCell {a w : World} {g : Nat} (h : a.grownBy w (some g)) {p : Addr} (hp : p.block = g ∨ a.heap.size ≤ p.block) (u : Value) : a.grownBy (w.setCell p u) (some g) :=
 ⟨h.os, h.tape, h.output, by simpa using h.size, fun i hi hne => (Below.heap_setCell w p u i (by
  rintro rfl
  rcases hp with hp | hp
  ·exact hne (by rw [hp])
  ·omega)).trans (h.block i hi hne)⟩
theorem grown_refl (w : World) (row : Option Nat) : w.grownBy w row := ⟨rfl, rfl, rfl, Nat.le_refl _, fun _ _ _ => rfl⟩
theorem grown_trans {a b c : World} {row : Option Nat} (h : a.grownBy b row) (k : b.grownBy c row) : a.grownBy c row :=
 ⟨k.os.trans h.os, k.tape.trans h.tape, k.output.trans h.output, Nat.le_trans h.size k.size, fun i hi hne => (k.block i (Nat.lt_of_lt_of_le hi h.size) hne).trans (h.block i hi hne)⟩
theorem grown_cell {w w' : World} {d : Nat} (h : w.grownBy w' (some d)) : ∀ b o, b < w.heap.size → b ≠ d → w'.cell? ⟨b, o, none⟩ = w.cell? ⟨b, o, none⟩ := fun b o hb hd => World.cell?_of_block (h.block b hb (by simpa using hd))
set_option maxRecDepth 100000 in
set_option maxHeartbeats 3200000 in
theorem walkR_any (g : Gm) (hsm : Small g) : ∀ (f a : Nat) (depth deep : Int) (w : World) (bd : Nat) (u : Value), GameAt w (fun b => b ≠ bd) u g → Row w bd 3 [.int .i64 deep] → g.nodes.length < a + f → 0 ≤ depth → depth + f ≤ 100000 → -1 ≤ deep → deep ≤ 100000 →
  Calls Try.prog 52 #[u, .int .i64 a, .int .i64 depth, .pointer (some ⟨bd, 0, none⟩)] w fun e w' => e = .returned (.int .i64 (walkR g.nodes f a depth deep).1) ∧ Row w' bd 3 [.int .i64 (walkR g.nodes f a depth deep).2] ∧ w.grownBy w' (some bd) := by
 intro f
 induction f with
 | zero =>
  intro a depth deep w bd u hg hrow hf hd0 hd1 hp0 hp1
  obtain ⟨vn, vi, rfl, ⟨A, c, rfl, hc, hN⟩, ⟨Ai, ci, rfl, hci, hI⟩⟩ := hg
  clear hN hI
  have hge : (g.nodes.length : Int) ≤ (a : Int) := by omega
  have hn := hsm.nodes
  have HROW := Lib.hid hrow; clear hrow
  go_enter Try.func52, Try.ntmps52
  go_wp2
  go_ret
  exact ⟨rfl, HROW.out.alloc _, grown_alloc (grown_refl _ _) _⟩
 | succ f ih =>
  intro a depth deep w bd u hg hrow hf hd0 hd1 hp0 hp1
  have HG := Lib.hid hg
  obtain ⟨vn, vi, rfl, ⟨A, c, rfl, hc, hN⟩, ⟨Ai, ci, rfl, hci, hI⟩⟩ := hg
  have HN := Lib.hid hN; clear hN hI
  have IH := Lib.hid ih; clear ih
  have HSM := Lib.hid hsm
  have hn := hsm.nodes
  clear hsm
  have hbd := hrow.lt
  have xd := hrow.cell (i := 0) rfl
  have fd := hrow.frozen 0
  have HROW := Lib.hid hrow; clear hrow
  by_cases hlt : a < g.nodes.length
  ·obtain ⟨b, o, rfl, hbF, hb, hcell⟩ := HN.out (by omega)
   obtain ⟨n, hn'⟩ := getSome hlt
   obtain ⟨v3, e3, A3, c3, rfl, hc3, i3⟩ := (hcell a n hn').c3
   have HX := Lib.hid hn'
   have hl3 := HSM.out.next n (List.mem_of_getElem? hn')
   have H3 := Lib.hid i3; clear i3 hcell hn'
   have HW := Lib.hid (show walkR g.nodes (f + 1) a depth deep = kidsLoop (fun a d => walkR g.nodes f a (depth + 1) d) n.next ((a : Int) + 1) (max deep depth) by
    rw [walkR]; simp only [HX.out])
   have hrl : ∀ d, (max deep depth : Int) = d → ∀ (w' : World), Row w' bd 3 [.int .i64 deep] → Row (w'.setCell ⟨bd, 0, none⟩ (.int .i64 d)) bd 3 [.int .i64 d] := fun d _ w' h => by simpa using h.set 0 (.int .i64 d)
   have HRL := Lib.hid hrl; clear hrl
   by_cases hmx : deep < depth
   ·have HMX := Lib.hid (show (max deep depth : Int) = depth by omega)
    have hm0 : -1 ≤ depth ∧ depth ≤ 100000 := by omega
    go_enter Try.func52, Try.ntmps52
    go_wp2
    go_loopw [9, 10] (fun nx i wr => ∃ (j : Nat) (next dp : Int), j ≤ n.next.length ∧ i = .int .i64 j ∧ nx = .int .i64 next ∧ (a : Int) < next ∧ next ≤ g.nodes.length ∧ -1 ≤ dp ∧ dp ≤ 100000 ∧ Row wr w.heap.size 25 [.int .i64 g.players, .slice (some ⟨b, o, none⟩) g.nodes.length c, .slice Ai g.infos.length ci] ∧ Row wr bd 3 [.int .i64 dp] ∧ w.grownBy wr (some bd) ∧ walkR g.nodes (f + 1) a depth deep = kidsLoop (fun a d => walkR g.nodes f a (depth + 1) d) (n.next.drop j) next dp) (fun _ i _ => n.next.length - (intOf i).toNat)
    case atStart =>
     refine ⟨0, (a : Int) + 1, depth, by omega, rfl, rfl, by omega, by omega, hm0.1, hm0.2, ?_, ?_, ?_, ?_⟩
     ·have := Row.new (w.setCell ⟨bd, 0, none⟩ (.int .i64 depth)) 25 #[.int .i64 g.players, .slice (some ⟨b, o, none⟩) g.nodes.length c, .slice Ai g.infos.length ci]
      simpa using this
     ·exact (HRL.out depth HMX.out w HROW.out).alloc _
     ·exact grown_alloc (grown_setCell (grown_refl _ _) (.inl rfl) _) _
     ·rw [HW.out, HMX.out]; rfl
    case round =>
     obtain ⟨j, next, dp, hj, rfl, rfl, hnx0, hnx1, hdp0, hdp1, hbx, hrw, hgr, hval⟩ := hrel
     have HV := Lib.hid hval; clear hval
     have x1 := hbx.cell (i := 1) rfl
     have x0 := hbx.cell (i := 0) rfl
     have x2 := hbx.cell (i := 2) rfl
     have hold := grown_cell hgr
     by_cases hjt : j < n.next.length
     ·obtain ⟨ch, hch⟩ := getSome hjt
      obtain ⟨b3, o3, rfl, hb3, hb3l, hx3⟩ := H3.out (by omega)
      have ec := hx3 j ch hch
      unfold intE at ec; rw [Nat.mul_one] at ec
      have HD := Lib.hid (show n.next.drop j = ch :: n.next.drop (j + 1) by rw [List.drop_eq_getElem_cons hjt]; congr 1; simpa [hjt] using hch)
      clear hch hx3
      by_cases hne : ch = next
      ·subst hne
       obtain ⟨q, rfl⟩ := Int.eq_ofNat_of_zero_le (show 0 ≤ ch by omega)
       have hbd2 := walkR_bound g.nodes f q (depth + 1) dp
       have HV2 := Lib.hid (show kidsLoop (fun a d => walkR g.nodes f a (depth + 1) d) (n.next.drop j) (q : Int) dp = if (walkR g.nodes f q (depth + 1) dp).1 < 0 then (-1, (walkR g.nodes f q (depth + 1) dp).2) else kidsLoop (fun a d => walkR g.nodes f a (depth + 1) d) (n.next.drop (j + 1)) (walkR g.nodes f q (depth + 1) dp).1 (walkR g.nodes f q (depth + 1) dp).2 by
        rw [HD.out]; simp [kidsLoop])
       have HBD := Lib.hid hbd2; clear hbd2
       go_wp2_with fail
       refine (IH.out q (depth + 1) dp wr bd _ (HG.out.on (Same.of_grown hgr)) hrw (by omega) (by omega) (by omega) hdp0 hdp1).mono ?_
       rintro e w' ⟨rfl, hrw', hgr'⟩
       have hdd := walkR_deep g.nodes 100000 f q (depth + 1) dp (by omega) hdp0 hdp1
       have hbx' : Row w' w.heap.size _ _ := hbx.of_block (hgr'.block _ hbx.lt (by simp; omega))
       have hgg := grown_trans hgr hgr'
       have hbb := HBD.out
       have HV3 := Lib.hid (HV.out.trans HV2.out)
       generalize walkR g.nodes f q (depth + 1) dp = rr at *
       obtain ⟨rn, rd⟩ := rr
       dsimp only at hrw' hdd hbb HV3 ⊢
       clear HV2 HBD hold x0 x1 x2 hbx hrw hgr hgr'
       by_cases hng : rn < 0
       ·have HF := Lib.hid (show walkR g.nodes (f + 1) a depth deep = (-1, rd) by rw [HV3.out, if_pos hng])
        go_wp2
        go_ret
        exact ⟨by rw [HF.out]; rfl, by rw [HF.out]; exact hrw', hgg⟩
       ·go_wp2
        go_roundw
        case rel => exact ⟨j + 1, rn, rd, by omega, by go_num, rfl, by omega, by omega, hdd.1, hdd.2, hbx', hrw', hgg, by rw [HV3.out, if_neg hng]⟩
        case measure => simp [intOf]; omega
      ·have hd : (ch != next) = true := by simp [hne]
       have HF := Lib.hid (show walkR g.nodes (f + 1) a depth deep = (-1, dp) by rw [HV.out, HD.out]; simp [kidsLoop, hne])
       clear hne
       go_wp2
       go_ret
       exact ⟨by rw [HF.out]; rfl, by rw [HF.out]; exact hrw, hgr⟩
     ·go_wp2
      go_ret
      have HF : walkR g.nodes (f + 1) a depth deep = (next, dp) := by rw [HV.out, List.drop_eq_nil_of_le (by omega)]; rfl
      exact ⟨by rw [HF]; rfl, by rw [HF]; exact hrw, hgr⟩
   ·have HMX := Lib.hid (show (max deep depth : Int) = deep by omega)
    have hm0 : -1 ≤ deep ∧ deep ≤ 100000 := by omega
    go_enter Try.func52, Try.ntmps52
    go_wp2
    go_loopw [9, 10] (fun nx i wr => ∃ (j : Nat) (next dp : Int), j ≤ n.next.length ∧ i = .int .i64 j ∧ nx = .int .i64 next ∧ (a : Int) < next ∧ next ≤ g.nodes.length ∧ -1 ≤ dp ∧ dp ≤ 100000 ∧ Row wr w.heap.size 25 [.int .i64 g.players, .slice (some ⟨b, o, none⟩) g.nodes.length c, .slice Ai g.infos.length ci] ∧ Row wr bd 3 [.int .i64 dp] ∧ w.grownBy wr (some bd) ∧ walkR g.nodes (f + 1) a depth deep = kidsLoop (fun a d => walkR g.nodes f a (depth + 1) d) (n.next.drop j) next dp) (fun _ i _ => n.next.length - (intOf i).toNat)
    case atStart =>
     refine ⟨0, (a : Int) + 1, deep, by omega, rfl, rfl, by omega, by omega, hm0.1, hm0.2, ?_, ?_, ?_, ?_⟩
     ·have := Row.new (w.setCell ⟨bd, 0, none⟩ (.int .i64 deep)) 25 #[.int .i64 g.players, .slice (some ⟨b, o, none⟩) g.nodes.length c, .slice Ai g.infos.length ci]
      simpa using this
     ·exact (HRL.out deep HMX.out w HROW.out).alloc _
     ·exact grown_alloc (grown_setCell (grown_refl _ _) (.inl rfl) _) _
     ·rw [HW.out, HMX.out]; rfl
    case round =>
     obtain ⟨j, next, dp, hj, rfl, rfl, hnx0, hnx1, hdp0, hdp1, hbx, hrw, hgr, hval⟩ := hrel
     have HV := Lib.hid hval; clear hval
     have x1 := hbx.cell (i := 1) rfl
     have x0 := hbx.cell (i := 0) rfl
     have x2 := hbx.cell (i := 2) rfl
     have hold := grown_cell hgr
     by_cases hjt : j < n.next.length
     ·obtain ⟨ch, hch⟩ := getSome hjt
      obtain ⟨b3, o3, rfl, hb3, hb3l, hx3⟩ := H3.out (by omega)
      have ec := hx3 j ch hch
      unfold intE at ec; rw [Nat.mul_one] at ec
      have HD := Lib.hid (show n.next.drop j = ch :: n.next.drop (j + 1) by rw [List.drop_eq_getElem_cons hjt]; congr 1; simpa [hjt] using hch)
      clear hch hx3
      by_cases hne : ch = next
      ·subst hne
       obtain ⟨q, rfl⟩ := Int.eq_ofNat_of_zero_le (show 0 ≤ ch by omega)
       have hbd2 := walkR_bound g.nodes f q (depth + 1) dp
       have HV2 := Lib.hid (show kidsLoop (fun a d => walkR g.nodes f a (depth + 1) d) (n.next.drop j) (q : Int) dp = if (walkR g.nodes f q (depth + 1) dp).1 < 0 then (-1, (walkR g.nodes f q (depth + 1) dp).2) else kidsLoop (fun a d => walkR g.nodes f a (depth + 1) d) (n.next.drop (j + 1)) (walkR g.nodes f q (depth + 1) dp).1 (walkR g.nodes f q (depth + 1) dp).2 by
        rw [HD.out]; simp [kidsLoop])
       have HBD := Lib.hid hbd2; clear hbd2
       go_wp2_with fail
       refine (IH.out q (depth + 1) dp wr bd _ (HG.out.on (Same.of_grown hgr)) hrw (by omega) (by omega) (by omega) hdp0 hdp1).mono ?_
       rintro e w' ⟨rfl, hrw', hgr'⟩
       have hdd := walkR_deep g.nodes 100000 f q (depth + 1) dp (by omega) hdp0 hdp1
       have hbx' : Row w' w.heap.size _ _ := hbx.of_block (hgr'.block _ hbx.lt (by simp; omega))
       have hgg := grown_trans hgr hgr'
       have hbb := HBD.out
       have HV3 := Lib.hid (HV.out.trans HV2.out)
       generalize walkR g.nodes f q (depth + 1) dp = rr at *
       obtain ⟨rn, rd⟩ := rr
       dsimp only at hrw' hdd hbb HV3 ⊢
       clear HV2 HBD hold x0 x1 x2 hbx hrw hgr hgr'
       by_cases hng : rn < 0
       ·have HF := Lib.hid (show walkR g.nodes (f + 1) a depth deep = (-1, rd) by rw [HV3.out, if_pos hng])
        go_wp2
        go_ret
        exact ⟨by rw [HF.out]; rfl, by rw [HF.out]; exact hrw', hgg⟩
       ·go_wp2
        go_roundw
        case rel => exact ⟨j + 1, rn, rd, by omega, by go_num, rfl, by omega, by omega, hdd.1, hdd.2, hbx', hrw', hgg, by rw [HV3.out, if_neg hng]⟩
        case measure => simp [intOf]; omega
      ·have hd : (ch != next) = true := by simp [hne]
       have HF := Lib.hid (show walkR g.nodes (f + 1) a depth deep = (-1, dp) by rw [HV.out, HD.out]; simp [kidsLoop, hne])
       clear hne
       go_wp2
       go_ret
       exact ⟨by rw [HF.out]; rfl, by rw [HF.out]; exact hrw, hgr⟩
     ·go_wp2
      go_ret
      have HF : walkR g.nodes (f + 1) a depth deep = (next, dp) := by rw [HV.out, List.drop_eq_nil_of_le (by omega)]; rfl
      exact ⟨by rw [HF]; rfl, by rw [HF]; exact hrw, hgr⟩
  ·have hge : (g.nodes.length : Int) ≤ (a : Int) := by omega
   have HF := Lib.hid (show walkR g.nodes (f + 1) a depth deep = (-1, deep) by
    rw [walkR]; rw [List.getElem?_eq_none (by omega)])
   go_enter Try.func52, Try.ntmps52
   go_wp2
   go_ret
   exact ⟨by rw [HF.out]; rfl, by rw [HF.out]; exact HROW.out.alloc _, grown_alloc (grown_refl _ _) _⟩
end Go.Proofs.Ytafjdoedallnbaa
/- slices.IndexFunc, ContainsFunc at ints, for a closure that only reads; slices.Index, Contains, Max, IsSorted; cmp.Less. -/
namespace Go.Proofs.Ytafjdoedallnbaa
open Go.RowKit
/-- what a closure of one int does: it answers, and leaves the world as it was but for draws -/
def Answers (w : World) (fid : FuncId) (caps : Array Value) (l : List Int) (p : Int → Bool) : Prop :=
 (∀ (args : Array Value) (w' : World), (callFunc fid args).run Try.prog w' = .ok (.enter fid args) w') ∧
 ∀ (n : Nat) (x : Int), x ∈ l → Calls Try.prog fid (#[.int .i64 x] ++ caps) (w.drewN n) fun e w' => e = .returned (.bool (p x)) ∧ ∃ m, w' = w.drewN m
def idxOf (p : Int → Bool) (l : List Int) : Int := match l.findIdx? p with | some i => (i : Int) | none => -1
theorem idxOf_hit {p : Int → Bool} {l : List Int} {k : Nat} {x : Int} (h : l[k]? = some x) (hp : p x = true) (hn : (l.take k).any p = false) : idxOf p l = k := by
 have hk := lt_of_get h
 have : l.findIdx? p = some k := by
  rw [List.findIdx?_eq_some_iff_getElem]
  refine ⟨hk, ?_, fun j hj => ?_⟩
  ·have : l[k] = x := by simpa [hk] using h
   rw [this]; exact hp
  ·have h1 := List.any_eq_false.1 hn l[j] (by rw [List.mem_take_iff_getElem]; exact ⟨j, by omega, rfl⟩)
   simpa using h1
 simp [idxOf, this]
theorem idxOf_none {p : Int → Bool} {l : List Int} (hn : l.any p = false) : idxOf p l = -1 := by
 have : l.findIdx? p = none := by
  rw [List.findIdx?_eq_none_iff]
  intro x hx
  have := List.any_eq_false.1 hn x hx
  simpa using this
 simp [idxOf, this]
theorem idxOf_any (p : Int → Bool) (l : List Int) : decide (0 ≤ idxOf p l) = l.any p := by
 cases h : l.any p with
 | false => rw [idxOf_none h]; rfl
 | true =>
  obtain ⟨x, hx, hp⟩ := List.any_eq_true.1 h
  unfold idxOf
  split
  ·rw [decide_eq_true_iff]; omega
  ·rename_i h1
   rw [List.findIdx?_eq_none_iff] at h1
   have := h1 x hx
   rw [hp] at this; cases this
set_option maxHeartbeats 1600000 in
theorem indexFunc_any (w : World) (F : Foot) (v : Value) (l : List Int) (fid : FuncId) (caps : Array Value) (p : Int → Bool) (hv : IntsAt w F v l) (hl : l.length ≤ 1000000) (ha : Answers w fid caps l p) :
  Calls Try.prog 56 #[v, .func (.func fid) #[] caps] w fun e w' => e = .returned (.int .i64 (idxOf p l)) ∧ ∃ n, w' = w.drewN n := by
 obtain ⟨A, c, rfl, hc, hr⟩ := hv
 have HR := Lib.hid hr; clear hr
 obtain ⟨hcf, hcl⟩ := ha
 have HCL := Lib.hid hcl; clear hcl
 go_enter Try.func56, Try.ntmps56
 go_wp2
 go_loopw [8] (fun i wr => ∃ k n : Nat, k ≤ l.length ∧ i = .int .i64 k ∧ (l.take k).any p = false ∧ wr = w.drewN n) (fun i _ => l.length - (intOf i).toNat)
 case atStart => exact ⟨0, 0, by omega, rfl, rfl, rfl⟩
 case round =>
  obtain ⟨k, n, hk, rfl, hpre, rfl⟩ := hrel
  have HP := Lib.hid hpre; clear hpre
  by_cases hlt : k < l.length
  ·obtain ⟨b, o, rfl, _, hb, hx⟩ := HR.out (by omega)
   obtain ⟨x, hxx⟩ := getSome hlt
   have ex := hx k x hxx
   unfold intE at ex
   rw [Nat.mul_one] at ex
   have HX := Lib.hid hxx; clear hxx hx
   go_wp2_with fail
   refine (HCL.out n x (List.mem_of_getElem? HX.out)).mono ?_
   rintro e w' ⟨rfl, m, rfl⟩
   dsimp only
   cases hpx : p x
   ·have HPX := Lib.hid hpx; clear hpx
    go_wp2
    go_roundw
    case rel => exact ⟨k + 1, m, by omega, by go_num, any_snoc HX.out HP.out HPX.out, rfl⟩
    case measure => simp [intOf]; omega
   ·have HF := Lib.hid (idxOf_hit HX.out hpx HP.out); clear hpx
    go_wp2
    go_ret
    exact ⟨by rw [HF.out]; rfl, m, rfl⟩
  ·go_wp2
   go_ret
   have h := HP.out
   rw [List.take_of_length_le (by omega)] at h
   exact ⟨by rw [idxOf_none h]; rfl, n, rfl⟩
set_option maxHeartbeats 1600000 in
theorem containsFunc_any (w : World) (F : Foot) (v : Value) (l : List Int) (fid : FuncId) (caps : Array Value) (p : Int → Bool) (hv : IntsAt w F v l) (hl : l.length ≤ 1000000) (ha : Answers w fid caps l p) :
  Calls Try.prog 47 #[v, .func (.func fid) #[] caps] w fun e w' => e = .returned (.bool (l.any p)) ∧ ∃ n, w' = w.drewN n := by
 have HV := Lib.hid hv; clear hv
 have HA := Lib.hid ha; clear ha
 go_enter Try.func47, Try.ntmps47
 go_wp2_with fail
 refine (indexFunc_any w F v l fid caps p HV.out hl HA.out).mono ?_
 rintro e w' ⟨rfl, n, rfl⟩
 dsimp only
 have HF := Lib.hid (idxOf_any p l)
 generalize idxOf p l = q at *
 go_wp2
 all_goals
  go_ret
  refine ⟨?_, n, rfl⟩
  rw [← HF.out]
  first | rfl | (simp; omega)
end Go.Proofs.Ytafjdoedallnbaa

/- Words for memory that all contracts of this seat share: slices that read as lists, rows of cells, worlds that keep some blocks. -/
import Derived.Test.YtafjdoedallnbaaProg
import Derived.WalkKit
import Derived.Deep.QuietTactic
import Derived.BigQuiet
import Derived.Lib.Hide
import Derived.Deep.OwnRows
namespace Go.Proofs.Ytafjdoedallnbaa
open Go.RowKit

abbrev Foot := Nat → Prop

/-- the blocks of F that are there are as they were -/
structure Same (F : Foot) (w w' : World) : Prop where
  size : w.heap.size ≤ w'.heap.size
  block : ∀ b, F b → b < w.heap.size → w'.heap[b]? = w.heap[b]?
section
variable {F G : Foot} {w w' w'' : World}
theorem Same.cell (h : Same F w w') {b : Nat} (hb : F b) (hl : b < w.heap.size) (o : Nat) : w'.cell? ⟨b, o, none⟩ = w.cell? ⟨b, o, none⟩ := World.cell?_of_block (w := w) (h.block b hb hl)
theorem Same.refl (F : Foot) (w : World) : Same F w w := ⟨Nat.le_refl _, fun _ _ _ => rfl⟩
theorem Same.trans (h : Same F w w') (k : Same F w' w'') : Same F w w'' := ⟨Nat.le_trans h.size k.size, fun i hi hl => (k.block i hi (Nat.lt_of_lt_of_le hl h.size)).trans (h.block i hi hl)⟩
theorem Same.mono (h : Same F w w') (hG : ∀ b, G b → F b) : Same G w w' := ⟨h.size, fun b hb hl => h.block b (hG b hb) hl⟩
theorem Below.same' (h : Below w.heap.size w w') (F : Foot) : Same F w w' := ⟨h.size, fun b _ hl => h.block b hl⟩
theorem Same.alloc (F : Foot) (w : World) (o : Obj) : Same F w (w.alloc o) := ⟨by simp, fun b _ hl => Below.heap_alloc w o b hl⟩
theorem Same.drewN (F : Foot) (w : World) (n : Nat) : Same F w (w.drewN n) := ⟨Nat.le_refl _, fun _ _ _ => rfl⟩
theorem Same.setCell (F : Foot) (w : World) {p : Addr} (hp : ¬ F p.block) (v : Value) : Same F w (w.setCell p v) :=
  ⟨by simp, fun b hb _ => Below.heap_setCell w p v b (fun e => hp (e ▸ hb))⟩
end

theorem getSome {α : Type} {l : List α} {k : Nat} (h : k < l.length) : ∃ x, l[k]? = some x := ⟨l[k], by simp [h]⟩
theorem lt_of_get {α : Type} {l : List α} {k : Nat} {x : α} (h : l[k]? = some x) : k < l.length := by
  rcases Nat.lt_or_ge k l.length with h1 | h1
  · exact h1
  · rw [List.getElem?_eq_none h1] at h; cases h
theorem take_snoc {α : Type} {l : List α} {k : Nat} {x : α} (h : l[k]? = some x) : l.take (k + 1) = l.take k ++ [x] := by
  rw [List.take_succ_eq_append_getElem (lt_of_get h)]; congr 2
  have := lt_of_get h
  simpa [this] using h

/-- a slice of elements of sz cells each, each told by E, in blocks of F -/
def SlAt {α : Type} (sz : Nat) (E : World → Foot → Nat → Nat → α → Prop) (w : World) (F : Foot) (v : Value) (l : List α) : Prop :=
  ∃ A c, v = .slice A l.length c ∧ l.length ≤ c ∧ (0 < l.length → ∃ b o, A = some ⟨b, o, none⟩ ∧ F b ∧ b < w.heap.size ∧ ∀ k x, l[k]? = some x → E w F b (o + k * sz) x)

theorem SlAt.keep {α : Type} {sz : Nat} {E : World → Foot → Nat → Nat → α → Prop} {w w' : World} {F G : Foot} {v : Value} {l : List α}
    (h : SlAt sz E w F v l) (hFG : ∀ b, F b → b < w.heap.size → G b) (hsz : w.heap.size ≤ w'.heap.size) (hE : ∀ b o x, x ∈ l → F b → b < w.heap.size → E w F b o x → E w' G b o x) : SlAt sz E w' G v l := by
  obtain ⟨A, c, rfl, hc, hr⟩ := h
  refine ⟨A, c, rfl, hc, fun h0 => ?_⟩
  obtain ⟨b, o, rfl, hb, hl, hx⟩ := hr h0
  exact ⟨b, o, rfl, hFG b hb hl, Nat.lt_of_lt_of_le hl hsz, fun k x hk => hE b _ x (List.mem_of_getElem? hk) hb hl (hx k x hk)⟩

/-- one integer in one cell -/
def intE (k : IntKind) (w : World) (_ : Foot) (b o : Nat) (x : Int) : Prop := w.cell? ⟨b, o, none⟩ = some (.int k x)
def boolE (w : World) (_ : Foot) (b o : Nat) (x : Bool) : Prop := w.cell? ⟨b, o, none⟩ = some (.bool x)
/-- a value in one cell, told by S -/
def oneE {α : Type} (S : World → Foot → Value → α → Prop) (w : World) (F : Foot) (b o : Nat) (x : α) : Prop := ∃ v, w.cell? ⟨b, o, none⟩ = some v ∧ S w F v x

def IntsAt (w : World) (F : Foot) (v : Value) (l : List Int) : Prop := SlAt 1 (intE .i64) w F v l
def BoolsAt (w : World) (F : Foot) (v : Value) (l : List Bool) : Prop := SlAt 1 boolE w F v l
def RowsAt (w : World) (F : Foot) (v : Value) (l : List (List Int)) : Prop := SlAt 1 (oneE IntsAt) w F v l

theorem IntsAt.keep {w w' : World} {F G : Foot} {v : Value} {l : List Int} (h : IntsAt w F v l) (hFG : ∀ b, F b → b < w.heap.size → G b) (hs : Same F w w') : IntsAt w' G v l :=
  SlAt.keep h hFG hs.size fun b o x _ hb hl hx => by unfold intE at *; rw [hs.cell hb hl]; exact hx
theorem BoolsAt.keep {w w' : World} {F G : Foot} {v : Value} {l : List Bool} (h : BoolsAt w F v l) (hFG : ∀ b, F b → b < w.heap.size → G b) (hs : Same F w w') : BoolsAt w' G v l :=
  SlAt.keep h hFG hs.size fun b o x _ hb hl hx => by unfold boolE at *; rw [hs.cell hb hl]; exact hx
theorem RowsAt.keep {w w' : World} {F G : Foot} {v : Value} {l : List (List Int)} (h : RowsAt w F v l) (hFG : ∀ b, F b → b < w.heap.size → G b) (hs : Same F w w') : RowsAt w' G v l :=
  SlAt.keep h hFG hs.size fun b o x _ hb hl hx => by
    obtain ⟨u, hu, hr⟩ := hx
    exact ⟨u, by rw [hs.cell hb hl]; exact hu, hr.keep hFG hs⟩

structure Nd where
  kind : Int
  player : Int
  info : Int
  next : List Int
  weights : List Int
  pay : List Int
  deriving Inhabited, DecidableEq
structure Inf where
  player : Int
  actions : Int
  deriving Inhabited, DecidableEq
structure Gm where
  players : Int
  nodes : List Nd
  infos : List Inf
  deriving Inhabited, DecidableEq

/-- the six cells of a node -/
structure NodeE (w : World) (F : Foot) (b o : Nat) (n : Nd) : Prop where
  c0 : w.cell? ⟨b, o, none⟩ = some (.int .i64 n.kind)
  c1 : w.cell? ⟨b, o + 1, none⟩ = some (.int .i64 n.player)
  c2 : w.cell? ⟨b, o + 2, none⟩ = some (.int .i64 n.info)
  c3 : oneE IntsAt w F b (o + 3) n.next
  c4 : oneE IntsAt w F b (o + 4) n.weights
  c5 : oneE IntsAt w F b (o + 5) n.pay
structure InfoE (w : World) (_ : Foot) (b o : Nat) (n : Inf) : Prop where
  c0 : w.cell? ⟨b, o, none⟩ = some (.int .i64 n.player)
  c1 : w.cell? ⟨b, o + 1, none⟩ = some (.int .i64 n.actions)

theorem oneInts_keep {w w' : World} {F G : Foot} {b o : Nat} {l : List Int} (h : oneE IntsAt w F b o l) (hFG : ∀ b, F b → b < w.heap.size → G b) (hs : Same F w w') (hb : F b) (hl : b < w.heap.size) : oneE IntsAt w' G b o l := by
  obtain ⟨u, hu, hr⟩ := h
  exact ⟨u, by rw [hs.cell hb hl]; exact hu, hr.keep hFG hs⟩
theorem NodeE.keep {w w' : World} {F G : Foot} {b o : Nat} {n : Nd} (h : NodeE w F b o n) (hFG : ∀ b, F b → b < w.heap.size → G b) (hs : Same F w w') (hb : F b) (hl : b < w.heap.size) : NodeE w' G b o n :=
  ⟨by rw [hs.cell hb hl]; exact h.c0, by rw [hs.cell hb hl]; exact h.c1, by rw [hs.cell hb hl]; exact h.c2, oneInts_keep h.c3 hFG hs hb hl, oneInts_keep h.c4 hFG hs hb hl, oneInts_keep h.c5 hFG hs hb hl⟩

def NodesAt (w : World) (F : Foot) (v : Value) (l : List Nd) : Prop := SlAt 6 NodeE w F v l
def InfosAt (w : World) (F : Foot) (v : Value) (l : List Inf) : Prop := SlAt 2 InfoE w F v l
theorem NodesAt.keep {w w' : World} {F G : Foot} {v : Value} {l : List Nd} (h : NodesAt w F v l) (hFG : ∀ b, F b → b < w.heap.size → G b) (hs : Same F w w') : NodesAt w' G v l :=
  SlAt.keep h hFG hs.size fun _ _ _ _ hb hl hx => hx.keep hFG hs hb hl
theorem InfosAt.keep {w w' : World} {F G : Foot} {v : Value} {l : List Inf} (h : InfosAt w F v l) (hFG : ∀ b, F b → b < w.heap.size → G b) (hs : Same F w w') : InfosAt w' G v l :=
  SlAt.keep h hFG hs.size fun _ _ _ _ hb hl hx => ⟨by rw [hs.cell hb hl]; exact hx.c0, by rw [hs.cell hb hl]; exact hx.c1⟩

/-- a game by value -/
def GameAt (w : World) (F : Foot) (v : Value) (g : Gm) : Prop :=
  ∃ vn vi, v = .agg #[.int .i64 g.players, vn, vi] ∧ NodesAt w F vn g.nodes ∧ InfosAt w F vi g.infos
theorem GameAt.keep {w w' : World} {F G : Foot} {v : Value} {g : Gm} (h : GameAt w F v g) (hFG : ∀ b, F b → b < w.heap.size → G b) (hs : Same F w w') : GameAt w' G v g := by
  obtain ⟨vn, vi, rfl, hn, hi⟩ := h
  exact ⟨vn, vi, rfl, hn.keep hFG hs, hi.keep hFG hs⟩

/-- block b is a row of just these cells, none frozen -/
def Row (w : World) (b : Nat) (t : TypeId) (vs : List Value) : Prop := w.heap[b]? = some (.cells vs.toArray t (0, 0))
section
variable {w w' : World} {b : Nat} {t : TypeId} {vs : List Value}
theorem Row.cell (h : Row w b t vs) {i : Nat} {v : Value} (hi : vs[i]? = some v) : w.cell? ⟨b, i, none⟩ = some v := by
  unfold Row at h; simp [World.cell?, h, hi]
theorem Row.frozen (h : Row w b t vs) (i : Nat) : w.frozen? ⟨b, i, none⟩ = false := by
  unfold Row at h; simp [World.frozen?, h]
theorem Row.lt (h : Row w b t vs) : b < w.heap.size := by
  obtain ⟨hlt, _⟩ := Array.getElem?_eq_some_iff.1 h
  exact hlt
theorem Row.of_block (h : Row w b t vs) (e : w'.heap[b]? = w.heap[b]?) : Row w' b t vs := e.trans h
theorem Row.set (h : Row w b t vs) (i : Nat) (v : Value) : Row (w.setCell ⟨b, i, none⟩ v) b t (vs.set i v) := by
  unfold Row at *
  simp [World.setCell, Array.getElem?_modify, h]
theorem Row.other (h : Row w b t vs) {a : Addr} (ha : b ≠ a.block) (v : Value) : Row (w.setCell a v) b t vs := h.of_block (Below.heap_setCell _ _ _ _ ha)
theorem Row.alloc (h : Row w b t vs) (o : Obj) : Row (w.alloc o) b t vs := h.of_block (Below.heap_alloc _ _ _ h.lt)
theorem Row.drew (h : Row w b t vs) : Row w.drew b t vs := h
theorem Row.below {B : Nat} (h : Row w b t vs) (hb : Below B w w') (hB : b < B) : Row w' b t vs := h.of_block (hb.block b hB)
theorem Row.new (w : World) (t : TypeId) (c : Array Value) : Row (w.alloc (.cells c t)) w.heap.size t c.toList := by
  unfold Row; show (w.heap.push _)[w.heap.size]? = _; simp
end
theorem Row.made (w : World) (z : Value) (n : Nat) (t : TypeId) : Row (w.alloc (.cells (madeCells #[z] n) t)) w.heap.size t (List.replicate n z) := by
  have h := Row.new w t (madeCells #[z] n)
  have e : (madeCells #[z] n).toList = List.replicate n z := by
    apply List.ext_getElem?
    intro i
    by_cases hi : i < n
    · simp [madeCells, hi, Nat.mod_one]
    · simp [madeCells, hi]
  rw [e] at h; exact h

/-- a node by value -/
def NodeV (w : World) (F : Foot) (v : Value) (n : Nd) : Prop :=
  ∃ v3 v4 v5, v = .agg #[.int .i64 n.kind, .int .i64 n.player, .int .i64 n.info, v3, v4, v5] ∧ IntsAt w F v3 n.next ∧ IntsAt w F v4 n.weights ∧ IntsAt w F v5 n.pay
theorem NodeV.keep {w w' : World} {F G : Foot} {v : Value} {n : Nd} (h : NodeV w F v n) (hFG : ∀ b, F b → b < w.heap.size → G b) (hs : Same F w w') : NodeV w' G v n := by
  obtain ⟨v3, v4, v5, rfl, h3, h4, h5⟩ := h
  exact ⟨v3, v4, v5, rfl, h3.keep hFG hs, h4.keep hFG hs, h5.keep hFG hs⟩
theorem IntsAt.on {w w' : World} {F : Foot} {v : Value} {l : List Int} (h : IntsAt w F v l) (hs : Same F w w') : IntsAt w' F v l := h.keep (fun _ h _ => h) hs
theorem BoolsAt.on {w w' : World} {F : Foot} {v : Value} {l : List Bool} (h : BoolsAt w F v l) (hs : Same F w w') : BoolsAt w' F v l := h.keep (fun _ h _ => h) hs
theorem RowsAt.on {w w' : World} {F : Foot} {v : Value} {l : List (List Int)} (h : RowsAt w F v l) (hs : Same F w w') : RowsAt w' F v l := h.keep (fun _ h _ => h) hs
theorem NodesAt.on {w w' : World} {F : Foot} {v : Value} {l : List Nd} (h : NodesAt w F v l) (hs : Same F w w') : NodesAt w' F v l := h.keep (fun _ h _ => h) hs
theorem InfosAt.on {w w' : World} {F : Foot} {v : Value} {l : List Inf} (h : InfosAt w F v l) (hs : Same F w w') : InfosAt w' F v l := h.keep (fun _ h _ => h) hs
theorem GameAt.on {w w' : World} {F : Foot} {v : Value} {g : Gm} (h : GameAt w F v g) (hs : Same F w w') : GameAt w' F v g := h.keep (fun _ h _ => h) hs
theorem NodeV.on {w w' : World} {F : Foot} {v : Value} {n : Nd} (h : NodeV w F v n) (hs : Same F w w') : NodeV w' F v n := h.keep (fun _ h _ => h) hs

theorem below_dN {B : Nat} {a w : World} (h : Below B a w) (n : Nat) : Below B a (w.drewN n) := ⟨h.os, h.tape, h.output, h.size, h.block⟩
theorem Row.dN {w : World} {b : Nat} {t : TypeId} {vs : List Value} (h : Row w b t vs) (n : Nat) : Row (w.drewN n) b t vs := h
theorem below_old {B : Nat} {w w' : World} (h : Below B w w') : ∀ b o, b < B → w'.cell? ⟨b, o, none⟩ = w.cell? ⟨b, o, none⟩ := fun b o hb => h.cell (p := ⟨b, o, none⟩) hb

/-- a row of ints is a slice of ints -/
theorem Row.ints {w : World} {b : Nat} {t : TypeId} {l : List Int} (h : Row w b t (l.map (Value.int .i64))) {F : Foot} (hF : F b) {c : Nat} (hc : l.length ≤ c) : IntsAt w F (.slice (some ⟨b, 0, none⟩) l.length c) l :=
  ⟨_, c, rfl, hc, fun _ => ⟨b, 0, rfl, hF, h.lt, fun k x hk => by unfold intE; simp only [Nat.mul_one, Nat.zero_add]; exact h.cell (by simp [hk])⟩⟩
theorem Row.bools {w : World} {b : Nat} {t : TypeId} {l : List Bool} (h : Row w b t (l.map Value.bool)) {F : Foot} (hF : F b) {c : Nat} (hc : l.length ≤ c) : BoolsAt w F (.slice (some ⟨b, 0, none⟩) l.length c) l :=
  ⟨_, c, rfl, hc, fun _ => ⟨b, 0, rfl, hF, h.lt, fun k x hk => by unfold boolE; simp only [Nat.mul_one, Nat.zero_add]; exact h.cell (by simp [hk])⟩⟩

/-- make of one-cell elements: the world behind it gets a new name -/
theorem wpl_make {P : Program} (w : World) {ops : Array Oper} {rest : List Oper} {o : Oper} {a : Act} {Q : Exit → Act → World → Prop}
    (hg : o.guard = none) (l c : Operand) (t : TypeId) (hop : o.op = Op.makeSlice t l c)
    (e : TypeId) (z : Value) (bytes : Nat) (ht : P.underlying t = some (.slice e)) (hinfo : (P.info? e).map (fun i => (i.zero, i.size, i.bytes)) = some (some z, 1, bytes)) (hz1 : z.cells = #[z])
    (n : Nat) (hl : a.eval l = .int .i64 (n : Int)) (hc : a.eval c = .int .i64 (n : Int)) (hn : n ≤ 1000000) (hb : bytes ≤ 1000)
    (hK : ∀ w1, Below w.heap.size w w1 → w1.heap.size = w.heap.size + 1 → Row w1 w.heap.size e (List.replicate n z) →
      wpList P ops Q rest (a.put o.dst (.slice (some ⟨w.heap.size, 0, none⟩) n n)) w1) :
    wpList P ops Q (o :: rest) a w := by
  refine wpList_plain hg fun K hK' => ?_
  have hbytes : bytes * n ≤ 281474976710656 := by
    have : bytes * n ≤ 1000 * 1000000 := Nat.mul_le_mul hb hn
    omega
  have hrun := run_make_row' (P := P) t e z bytes ht hinfo hz1 .i64 .i64 n hbytes (by omega) w
  unfold Oper.wp
  simp [execOp, hop, hl, hc, hrun, Result.andThen]
  have hbel : Below w.heap.size w (w.alloc (.cells (madeCells #[z] n) e)) := (Below.refl _ _).alloc (Nat.le_refl _) _
  exact hK' _ _ (hK _ hbel (by simp) (Row.made w z n e))

theorem Try.infoInt : (Try.prog.info? 3).map (fun i => (i.zero, i.size, i.bytes)) = some (some (.int .i64 0), 1, 8) := by kernel_rfl
theorem Try.infoBool : (Try.prog.info? 4).map (fun i => (i.zero, i.size, i.bytes)) = some (some (.bool false), 1, 1) := by kernel_rfl
theorem Try.infoInts : (Try.prog.info? 26).map (fun i => (i.zero, i.size, i.bytes)) = some (some (.slice none 0 0), 1, 24) := by kernel_rfl

/-- what every contract gives: a value, nothing old turned -/
def Ret (w : World) (R : Value → World → Prop) (e : Ending) (w' : World) : Prop := ∃ v, e = .returned v ∧ Below w.heap.size w w' ∧ R v w'

end Go.Proofs.Ytafjdoedallnbaa

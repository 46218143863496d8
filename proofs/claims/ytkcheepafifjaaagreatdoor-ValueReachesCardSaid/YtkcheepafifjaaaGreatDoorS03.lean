/- Words for memory that all contracts of this seat share: slices that read as lists, rows of cells, worlds that keep some blocks. -/
import Derived.Test.YtkcheepafifjaaaGreatDoorProg
import Derived.WalkKit
import Derived.Deep.QuietTactic
import Derived.BigQuiet
import Derived.Lib.Hide
import Derived.Deep.OwnRows
set_option linter.all false
namespace Go.Proofs.YtkcheepafifjaaaGreatDoor
open Go.RowKit
abbrev Ac := Nat → Prop
structure Same (F : Ac) (w w' : World) : Prop where
 size : w.heap.size ≤ w'.heap.size
 block : ∀ b, F b → b < w.heap.size → w'.heap[b]? = w.heap[b]?
section
variable {F G : Ac} {w w' w'' : World}
theorem Same.cell (h : Same F w w') {b : Nat} (hb : F b) (hl : b < w.heap.size) (o : Nat) : w'.cell? ⟨b, o, none⟩ = w.cell? ⟨b, o, none⟩ := World.cell?_of_block (w := w) (h.block b hb hl)
theorem Same.refl (F : Ac) (w : World) : Same F w w := ⟨Nat.le_refl _, fun _ _ _ => rfl⟩
theorem Same.trans (h : Same F w w') (k : Same F w' w'') : Same F w w'' := ⟨Nat.le_trans h.size k.size, fun i hi hl => (k.block i hi (Nat.lt_of_lt_of_le hl h.size)).trans (h.block i hi hl)⟩
theorem Same.mono (h : Same F w w') (hG : ∀ b, G b → F b) : Same G w w' := ⟨h.size, fun b hb hl => h.block b (hG b hb) hl⟩
theorem Below.same' (h : Below w.heap.size w w') (F : Ac) : Same F w w' := ⟨h.size, fun b _ hl => h.block b hl⟩
theorem Same.alloc (F : Ac) (w : World) (o : Obj) : Same F w (w.alloc o) := ⟨by simp, fun b _ hl => Below.heap_alloc w o b hl⟩
theorem Same.drewN (F : Ac) (w : World) (n : Nat) : Same F w (w.drewN n) := ⟨Nat.le_refl _, fun _ _ _ => rfl⟩
theorem Same.setCell (F : Ac) (w : World) {p : Addr} (hp : ¬ F p.block) (v : Value) : Same F w (w.setCell p v) :=
 ⟨by simp, fun b hb _ => Below.heap_setCell w p v b (fun e => hp (e ▸ hb))⟩
end
theorem aA {α : Type} {l : List α} {k : Nat} (h : k < l.length) : ∃ x, l[k]? = some x := ⟨l[k], by simp [h]⟩
theorem aH {α : Type} {l : List α} {k : Nat} {x : α} (h : l[k]? = some x) : k < l.length := by
 rcases Nat.lt_or_ge k l.length with h1 | h1
 ·exact h1
 ·rw [List.getElem?_eq_none h1] at h; cases h
theorem take_snoc {α : Type} {l : List α} {k : Nat} {x : α} (h : l[k]? = some x) : l.take (k + 1) = l.take k ++ [x] := by
 rw [List.take_succ_eq_append_getElem (aH h)]; congr 2;have := aH h;simpa [this] using h
def Bv {α : Type} (sz : Nat) (E : World → Ac → Nat → Nat → α → Prop) (w : World) (F : Ac) (v : Value) (l : List α) : Prop :=
 ∃ A c, v = .slice A l.length c ∧ l.length ≤ c ∧ (0 < l.length → ∃ b o, A = some ⟨b, o, none⟩ ∧ F b ∧ b < w.heap.size ∧ ∀ k x, l[k]? = some x → E w F b (o + k * sz) x)
theorem Bv.keep {α : Type} {sz : Nat} {E : World → Ac → Nat → Nat → α → Prop} {w w' : World} {F G : Ac} {v : Value} {l : List α}
  (h : Bv sz E w F v l) (hFG : ∀ b, F b → b < w.heap.size → G b) (hsz : w.heap.size ≤ w'.heap.size) (hE : ∀ b o x, x ∈ l → F b → b < w.heap.size → E w F b o x → E w' G b o x) : Bv sz E w' G v l := by
 obtain ⟨A, c, rfl, hc, hr⟩ := h;refine ⟨A, c, rfl, hc, fun h0 => ?_⟩;obtain ⟨b, o, rfl, hb, hl, hx⟩ := hr h0;exact ⟨b, o, rfl, hFG b hb hl, Nat.lt_of_lt_of_le hl hsz, fun k x hk => hE b _ x (List.mem_of_getElem? hk) hb hl (hx k x hk)⟩
def jE (k : IntKind) (w : World) (_ : Ac) (b o : Nat) (x : Int) : Prop := w.cell? ⟨b, o, none⟩ = some (.int k x)
def aeV (w : World) (_ : Ac) (b o : Nat) (x : Bool) : Prop := w.cell? ⟨b, o, none⟩ = some (.bool x)
def sO {α : Type} (S : World → Ac → Value → α → Prop) (w : World) (F : Ac) (b o : Nat) (x : α) : Prop := ∃ v, w.cell? ⟨b, o, none⟩ = some v ∧ S w F v x
def Aw (w : World) (F : Ac) (v : Value) (l : List Int) : Prop := Bv 1 (jE .i64) w F v l
def Bz (w : World) (F : Ac) (v : Value) (l : List Bool) : Prop := Bv 1 aeV w F v l
def BA (w : World) (F : Ac) (v : Value) (l : List (List Int)) : Prop := Bv 1 (sO Aw) w F v l
theorem Aw.keep {w w' : World} {F G : Ac} {v : Value} {l : List Int} (h : Aw w F v l) (hFG : ∀ b, F b → b < w.heap.size → G b) (hs : Same F w w') : Aw w' G v l :=
 Bv.keep h hFG hs.size fun b o x _ hb hl hx => by unfold jE at *; rw [hs.cell hb hl]; exact hx
theorem Bz.keep {w w' : World} {F G : Ac} {v : Value} {l : List Bool} (h : Bz w F v l) (hFG : ∀ b, F b → b < w.heap.size → G b) (hs : Same F w w') : Bz w' G v l :=
 Bv.keep h hFG hs.size fun b o x _ hb hl hx => by unfold aeV at *; rw [hs.cell hb hl]; exact hx
theorem BA.keep {w w' : World} {F G : Ac} {v : Value} {l : List (List Int)} (h : BA w F v l) (hFG : ∀ b, F b → b < w.heap.size → G b) (hs : Same F w w') : BA w' G v l :=
 Bv.keep h hFG hs.size fun b o x _ hb hl hx => by
  obtain ⟨u, hu, hr⟩ := hx;exact ⟨u, by rw [hs.cell hb hl]; exact hu, hr.keep hFG hs⟩
structure Nd where
 kind : Int
 aG : Int
 info : Int
 next : List Int
 weights : List Int
 pay : List Int
 deriving Inhabited, DecidableEq
structure Inf where
 aG : Int
 actions : Int
 deriving Inhabited, DecidableEq
structure Gm where
 ak : Int
 nodes : List Nd
 infos : List Inf
 deriving Inhabited, DecidableEq
structure Cj (w : World) (F : Ac) (b o : Nat) (n : Nd) : Prop where
 c0 : w.cell? ⟨b, o, none⟩ = some (.int .i64 n.kind)
 c1 : w.cell? ⟨b, o + 1, none⟩ = some (.int .i64 n.aG)
 c2 : w.cell? ⟨b, o + 2, none⟩ = some (.int .i64 n.info)
 c3 : sO Aw w F b (o + 3) n.next
 c4 : sO Aw w F b (o + 4) n.weights
 c5 : sO Aw w F b (o + 5) n.pay
structure CS (w : World) (_ : Ac) (b o : Nat) (n : Inf) : Prop where
 c0 : w.cell? ⟨b, o, none⟩ = some (.int .i64 n.aG)
 c1 : w.cell? ⟨b, o + 1, none⟩ = some (.int .i64 n.actions)
theorem oz {w w' : World} {F G : Ac} {b o : Nat} {l : List Int} (h : sO Aw w F b o l) (hFG : ∀ b, F b → b < w.heap.size → G b) (hs : Same F w w') (hb : F b) (hl : b < w.heap.size) : sO Aw w' G b o l := by
 obtain ⟨u, hu, hr⟩ := h;exact ⟨u, by rw [hs.cell hb hl]; exact hu, hr.keep hFG hs⟩
theorem Cj.keep {w w' : World} {F G : Ac} {b o : Nat} {n : Nd} (h : Cj w F b o n) (hFG : ∀ b, F b → b < w.heap.size → G b) (hs : Same F w w') (hb : F b) (hl : b < w.heap.size) : Cj w' G b o n :=
 ⟨by rw [hs.cell hb hl]; exact h.c0, by rw [hs.cell hb hl]; exact h.c1, by rw [hs.cell hb hl]; exact h.c2, oz h.c3 hFG hs hb hl, oz h.c4 hFG hs hb hl, oz h.c5 hFG hs hb hl⟩
def AV (w : World) (F : Ac) (v : Value) (l : List Nd) : Prop := Bv 6 Cj w F v l
def AQ (w : World) (F : Ac) (v : Value) (l : List Inf) : Prop := Bv 2 CS w F v l
theorem AV.keep {w w' : World} {F G : Ac} {v : Value} {l : List Nd} (h : AV w F v l) (hFG : ∀ b, F b → b < w.heap.size → G b) (hs : Same F w w') : AV w' G v l :=
 Bv.keep h hFG hs.size fun _ _ _ _ hb hl hx => hx.keep hFG hs hb hl
theorem AQ.keep {w w' : World} {F G : Ac} {v : Value} {l : List Inf} (h : AQ w F v l) (hFG : ∀ b, F b → b < w.heap.size → G b) (hs : Same F w w') : AQ w' G v l :=
 Bv.keep h hFG hs.size fun _ _ _ _ hb hl hx => ⟨by rw [hs.cell hb hl]; exact hx.c0, by rw [hs.cell hb hl]; exact hx.c1⟩
def Aj (w : World) (F : Ac) (v : Value) (g : Gm) : Prop :=
 ∃ vn vi, v = .agg #[.int .i64 g.ak, vn, vi] ∧ AV w F vn g.nodes ∧ AQ w F vi g.infos
theorem Aj.keep {w w' : World} {F G : Ac} {v : Value} {g : Gm} (h : Aj w F v g) (hFG : ∀ b, F b → b < w.heap.size → G b) (hs : Same F w w') : Aj w' G v g := by
 obtain ⟨vn, vi, rfl, hn, hi⟩ := h;exact ⟨vn, vi, rfl, hn.keep hFG hs, hi.keep hFG hs⟩
def Row (w : World) (b : Nat) (t : TypeId) (vs : List Value) : Prop := w.heap[b]? = some (.cells vs.toArray t (0, 0))
section
variable {w w' : World} {b : Nat} {t : TypeId} {vs : List Value}
theorem Row.cell (h : Row w b t vs) {i : Nat} {v : Value} (hi : vs[i]? = some v) : w.cell? ⟨b, i, none⟩ = some v := by
 unfold Row at h; simp [World.cell?, h, hi]
theorem Row.frozen (h : Row w b t vs) (i : Nat) : w.frozen? ⟨b, i, none⟩ = false := by
 unfold Row at h; simp [World.frozen?, h]
theorem Row.lt (h : Row w b t vs) : b < w.heap.size := by
 obtain ⟨hlt, _⟩ := Array.getElem?_eq_some_iff.1 h;exact hlt
theorem Row.of_block (h : Row w b t vs) (e : w'.heap[b]? = w.heap[b]?) : Row w' b t vs := e.trans h
theorem Row.set (h : Row w b t vs) (i : Nat) (v : Value) : Row (w.setCell ⟨b, i, none⟩ v) b t (vs.set i v) := by
 unfold Row at *;simp [World.setCell, Array.getElem?_modify, h]
theorem Row.other (h : Row w b t vs) {a : Addr} (ha : b ≠ a.block) (v : Value) : Row (w.setCell a v) b t vs := h.of_block (Below.heap_setCell _ _ _ _ ha)
theorem sto {W : World} {a : Addr} {v : Value} (hw : W = w.setCell a v) (h : Row w b t vs) (ha : b ≠ a.block) : Row W b t vs := hw ▸ h.other ha v
theorem ste {W : World} {i : Nat} {v : Value} (hw : W = w.setCell ⟨b, i, none⟩ v) (h : Row w b t vs) : Row W b t (vs.set i v) := hw ▸ h.set i v
theorem stb {W w0 : World} {B : Nat} {p : Addr} {v : Value} (hw : W = w.setCell p v) (h : Below B w0 w) (hp : B ≤ p.block) : Below B w0 W := hw ▸ h.setCell hp v
theorem Row.alloc (h : Row w b t vs) (o : Obj) : Row (w.alloc o) b t vs := h.of_block (Below.heap_alloc _ _ _ h.lt)
theorem Row.drew (h : Row w b t vs) : Row w.drew b t vs := h
theorem Row.below {B : Nat} (h : Row w b t vs) (hb : Below B w w') (hB : b < B) : Row w' b t vs := h.of_block (hb.block b hB)
theorem Row.new (w : World) (t : TypeId) (c : Array Value) : Row (w.alloc (.cells c t)) w.heap.size t c.toList := by
 unfold Row; show (w.heap.push _)[w.heap.size]? = _; simp
end
theorem Row.made (w : World) (z : Value) (n : Nat) (t : TypeId) : Row (w.alloc (.cells (madeCells #[z] n) t)) w.heap.size t (List.replicate n z) := by
 have h := Row.new w t (madeCells #[z] n);have e : (madeCells #[z] n).toList = List.replicate n z := by
  apply List.ext_getElem?
  intro i;by_cases hi : i < n
  ·simp [madeCells, hi, Nat.mod_one]
  ·simp [madeCells, hi]
 rw [e] at h; exact h
def AL (w : World) (F : Ac) (v : Value) (n : Nd) : Prop :=
 ∃ v3 v4 v5, v = .agg #[.int .i64 n.kind, .int .i64 n.aG, .int .i64 n.info, v3, v4, v5] ∧ Aw w F v3 n.next ∧ Aw w F v4 n.weights ∧ Aw w F v5 n.pay
theorem AL.keep {w w' : World} {F G : Ac} {v : Value} {n : Nd} (h : AL w F v n) (hFG : ∀ b, F b → b < w.heap.size → G b) (hs : Same F w w') : AL w' G v n := by
 obtain ⟨v3, v4, v5, rfl, h3, h4, h5⟩ := h;exact ⟨v3, v4, v5, rfl, h3.keep hFG hs, h4.keep hFG hs, h5.keep hFG hs⟩
theorem Aw.on {w w' : World} {F : Ac} {v : Value} {l : List Int} (h : Aw w F v l) (hs : Same F w w') : Aw w' F v l := h.keep (fun _ h _ => h) hs
theorem Bz.on {w w' : World} {F : Ac} {v : Value} {l : List Bool} (h : Bz w F v l) (hs : Same F w w') : Bz w' F v l := h.keep (fun _ h _ => h) hs
theorem BA.on {w w' : World} {F : Ac} {v : Value} {l : List (List Int)} (h : BA w F v l) (hs : Same F w w') : BA w' F v l := h.keep (fun _ h _ => h) hs
theorem AV.on {w w' : World} {F : Ac} {v : Value} {l : List Nd} (h : AV w F v l) (hs : Same F w w') : AV w' F v l := h.keep (fun _ h _ => h) hs
theorem AQ.on {w w' : World} {F : Ac} {v : Value} {l : List Inf} (h : AQ w F v l) (hs : Same F w w') : AQ w' F v l := h.keep (fun _ h _ => h) hs
theorem Aj.on {w w' : World} {F : Ac} {v : Value} {g : Gm} (h : Aj w F v g) (hs : Same F w w') : Aj w' F v g := h.keep (fun _ h _ => h) hs
theorem AL.on {w w' : World} {F : Ac} {v : Value} {n : Nd} (h : AL w F v n) (hs : Same F w w') : AL w' F v n := h.keep (fun _ h _ => h) hs
theorem aB {B : Nat} {a w : World} (h : Below B a w) (n : Nat) : Below B a (w.drewN n) := ⟨h.os, h.tape, h.output, h.size, h.block⟩
theorem Row.dN {w : World} {b : Nat} {t : TypeId} {vs : List Value} (h : Row w b t vs) (n : Nat) : Row (w.drewN n) b t vs := h
theorem aJ {B : Nat} {w w' : World} (h : Below B w w') : ∀ b o, b < B → w'.cell? ⟨b, o, none⟩ = w.cell? ⟨b, o, none⟩ := fun b o hb => h.cell (p := ⟨b, o, none⟩) hb
theorem Row.ints {w : World} {b : Nat} {t : TypeId} {l : List Int} (h : Row w b t (l.map (Value.int .i64))) {F : Ac} (hF : F b) {c : Nat} (hc : l.length ≤ c) : Aw w F (.slice (some ⟨b, 0, none⟩) l.length c) l :=
 ⟨_, c, rfl, hc, fun _ => ⟨b, 0, rfl, hF, h.lt, fun k x hk => by unfold jE; simp only [Nat.mul_one, Nat.zero_add]; exact h.cell (by simp [hk])⟩⟩
theorem Row.bools {w : World} {b : Nat} {t : TypeId} {l : List Bool} (h : Row w b t (l.map Value.bool)) {F : Ac} (hF : F b) {c : Nat} (hc : l.length ≤ c) : Bz w F (.slice (some ⟨b, 0, none⟩) l.length c) l :=
 ⟨_, c, rfl, hc, fun _ => ⟨b, 0, rfl, hF, h.lt, fun k x hk => by unfold aeV; simp only [Nat.mul_one, Nat.zero_add]; exact h.cell (by simp [hk])⟩⟩
theorem fE {P : Program} (w : World) {ops : Array Oper} {rest : List Oper} {o : Oper} {a : Act} {Q : Exit → Act → World → Prop}
  (hg : o.guard = none) (l c : Operand) (t : TypeId) (hop : o.op = Op.makeSlice t l c)
  (e : TypeId) (z : Value) (bytes : Nat) (ht : P.underlying t = some (.slice e)) (hinfo : (P.info? e).map (fun i => (i.zero, i.size, i.bytes)) = some (some z, 1, bytes)) (hz1 : z.cells = #[z])
  (n : Nat) (hl : a.eval l = .int .i64 (n : Int)) (hc : a.eval c = .int .i64 (n : Int)) (hn : n ≤ 1000000) (hb : bytes ≤ 1000)
  (hK : ∀ w1, Below w.heap.size w w1 → w1.heap.size = w.heap.size + 1 → Row w1 w.heap.size e (List.replicate n z) →
   wpList P ops Q rest (a.put o.dst (.slice (some ⟨w.heap.size, 0, none⟩) n n)) w1) :
  wpList P ops Q (o :: rest) a w := by
 refine wpList_plain hg fun K hK' => ?_
 have hbytes : bytes * n ≤ 281474976710656 := by
  have : bytes * n ≤ 1000 * 1000000 := Nat.mul_le_mul hb hn;omega
 have hrun := run_make_row' (P := P) t e z bytes ht hinfo hz1 .i64 .i64 n hbytes (by omega) w;unfold Oper.wp;simp [execOp, hop, hl, hc, hrun, Result.andThen];have hbel : Below w.heap.size w (w.alloc (.cells (madeCells #[z] n) e)) := (Below.refl _ _).alloc (Nat.le_refl _) _;exact hK' _ _ (hK _ hbel (by simp) (Row.made w z n e))
theorem Tryz.infoInt : (Tryz.prog.info? 3).map (fun i => (i.zero, i.size, i.bytes)) = some (some (.int .i64 0), 1, 8) := by kernel_rfl
theorem Tryz.infoBool : (Tryz.prog.info? 4).map (fun i => (i.zero, i.size, i.bytes)) = some (some (.bool false), 1, 1) := by kernel_rfl
theorem Tryz.infoInts : (Tryz.prog.info? 57).map (fun i => (i.zero, i.size, i.bytes)) = some (some (.slice none 0 0), 1, 24) := by kernel_rfl
def Ret (w : World) (R : Value → World → Prop) (e : Ending) (w' : World) : Prop := ∃ v, e = .returned v ∧ Below w.heap.size w w' ∧ R v w'
theorem jq {α : Type} {l : List α} {p : α → Bool} {k : Nat} {x : α} (h : l[k]? = some x) (hn : (l.take k).any p = false) (hx : p x = false) : (l.take (k + 1)).any p = false := by
 rw [take_snoc h, List.any_append]; simp [hn, hx]
def jB (l : List Int) (i : Int) (p : List Int) : List Int := l.foldl (fun p c => p.set c.toNat i) p
def lV (nodes : List Nd) : Nat → List Int
 | 0 => (List.replicate nodes.length 0).set 0 (-1)
 | k + 1 => match nodes[k]? with
  | some n => jB n.next k (lV nodes k)
  | none => lV nodes k
def wX (nodes : List Nd) : List Int := lV nodes nodes.length
theorem aah {l : List Int} {i : Int} {p : List Int} {k : Nat} {c : Int} (h : l[k]? = some c) : jB (l.take (k + 1)) i p = (jB (l.take k) i p).set c.toNat i := by
 rw [take_snoc h]; simp [jB, List.foldl_append]
theorem pq (l : List Int) (i : Int) (p : List Int) : (jB l i p).length = p.length := by
 unfold jB;induction l generalizing p with
 | nil => rfl
 | cons c l ih => simp only [List.foldl_cons]; rw [ih]; simp
theorem lH (nodes : List Nd) (k : Nat) : (lV nodes k).length = nodes.length := by
 induction k with
 | zero => simp [lV]
 | succ k ih =>
  unfold lV;split
  ·rw [pq, ih]
  ·exact ih
theorem wY {nodes : List Nd} {k : Nat} {n : Nd} (h : nodes[k]? = some n) : lV nodes (k + 1) = jB n.next k (lV nodes k) := by
 simp [lV, h]
theorem yM {l : List Int} {i : Int} {p : List Int} {n : Nat} (hi : 0 ≤ i ∧ i < n) (hp : ∀ k x, p[k]? = some x → k ≠ 0 → 0 ≤ x ∧ x < (n : Int)) : ∀ k x, (jB l i p)[k]? = some x → k ≠ 0 → 0 ≤ x ∧ x < (n : Int) := by
 unfold jB;induction l generalizing p with
 | nil => exact hp
 | cons c l ih =>
  simp only [List.foldl_cons];refine ih fun k x hk h0 => ?_
  rw [List.getElem?_set] at hk;split at hk
  ·split at hk
   ·cases hk; exact hi
   ·cases hk
  ·exact hp k x hk h0
theorem agK (nodes : List Nd) (k : Nat) (hk : k ≤ nodes.length) : ∀ i x, (lV nodes k)[i]? = some x → i ≠ 0 → 0 ≤ x ∧ x < (nodes.length : Int) := by
 induction k with
 | zero =>
  intro i x hi h0;unfold lV at hi;rw [List.getElem?_set_ne (by omega)] at hi;have := aH hi;simp at this;simp [this] at hi;omega
 | succ k ih =>
  obtain ⟨n, hn⟩ := aA (l := nodes) (k := k) (by omega);rw [wY hn];exact yM ⟨by omega, by omega⟩ (ih (by omega))
def zk (roots : List Int) (l : List Bool) : List Bool := roots.foldl (fun l r => l.set r.toNat true) l
def ab6 (par : List Int) (l : List Bool) (i : Nat) : List Bool := l.set i (l.getD i false || l.getD (par.getD i 0).toNat false)
def adJ (par : List Int) (l : List Bool) (m : Nat) : List Bool := (List.range' 1 (m - 1)).foldl (ab6 par) l
def underL (nodes : List Nd) (roots : List Int) : List Bool := adJ (wX nodes) (zk roots (List.replicate nodes.length false)) nodes.length
theorem ag0 {l : List Int} {p : List Bool} {k : Nat} {c : Int} (h : l[k]? = some c) : zk (l.take (k + 1)) p = (zk (l.take k) p).set c.toNat true := by
 rw [take_snoc h]; simp [zk, List.foldl_append]
theorem af8 (l : List Int) (p : List Bool) : (zk l p).length = p.length := by
 unfold zk;induction l generalizing p with
 | nil => rfl
 | cons c l ih => simp only [List.foldl_cons]; rw [ih]; simp
theorem ahy (par : List Int) (l : List Bool) (m : Nat) (h : 1 ≤ m) : adJ par l (m + 1) = ab6 par (adJ par l m) m := by
 unfold adJ;have : m + 1 - 1 = (m - 1) + 1 := by omega
 rw [this, List.range'_concat, List.foldl_append];simp
 rw [show 1 + (m - 1) = m by omega]
theorem agL (par : List Int) (l : List Bool) (m : Nat) : (adJ par l m).length = l.length := by
 unfold adJ;generalize List.range' 1 (m - 1) = r;induction r generalizing l with
 | nil => rfl
 | cons c r ih => simp only [List.foldl_cons]; rw [ih]; simp [ab6]
def CZ (nodes : List Nd) : Prop := ∀ n ∈ nodes, ∀ c ∈ n.next, 0 ≤ c ∧ c < (nodes.length : Int)
structure Small (g : Gm) : Prop where
 nodes : g.nodes.length ≤ 100
 infos : g.infos.length ≤ 100
 next : ∀ n ∈ g.nodes, n.next.length ≤ 100
 weights : ∀ n ∈ g.nodes, n.weights.length ≤ 100
 pay : ∀ n ∈ g.nodes, n.pay.length ≤ 100
theorem iZ {α : Type} {l1 l2 : List α} {k : Nat} {x : α} (h1 : l1[k]? = some x) (h2 : l2[k]? = some x) (h : l1.take k = l2.take k) : l1.take (k+1) = l2.take (k+1) := by
 rw [take_snoc h1, take_snoc h2, h]
set_option maxHeartbeats 400000 in
theorem dF (w : World) (F : Ac) (v1 v2 : Value) (l1 l2 : List Int) (h1 : Aw w F v1 l1) (h2 : Aw w F v2 l2) (hl1 : l1.length < 1000000) (hl2 : l2.length < 1000000) :
  Calls Tryz.prog 99 #[v1, v2] w fun e w' => e = .returned (.bool (decide (l1 = l2))) ∧ ∃ n, w' = w.drewN n := by
 obtain ⟨A1, c1, rfl, hc1, r1⟩ := h1;obtain ⟨A2, c2, rfl, hc2, r2⟩ := h2;by_cases hl : l1.length = l2.length
 ·have R1 := Lib.hid r1; clear r1;have R2 := Lib.hid r2; clear r2;have HL := Lib.hid hl;have hb : ((l1.length : Int) != (l2.length : Int)) = false := by simp [hl]
  clear hl;go_enter Tryz.func99, Tryz.ntmps99;go_wp2
  go_loopw [5] (fun i wr => ∃ k : Nat, k ≤ l1.length ∧ i = .int .i64 k ∧ l1.take k = l2.take k ∧ ∃ n, wr = w.drewN n) (fun i _ => l1.length - (intOf i).toNat)
  case atStart => exact ⟨0, by omega, rfl, by simp, 0, rfl⟩
  case round =>
   obtain ⟨k, hk, rfl, hpre, n, rfl⟩ := hrel;have HP := Lib.hid hpre; clear hpre;by_cases hlt : k < l1.length
   ·obtain ⟨b1, o1, rfl, hb1, _, hcell1⟩ := R1.out (by omega);have hk2 : k < l2.length := by have := HL.out; omega
    obtain ⟨b2, o2, rfl, hb2, _, hcell2⟩ := R2.out (by omega);obtain ⟨x, hx⟩ := aA hlt;obtain ⟨y, hy⟩ := aA hk2;have e1 := hcell1 k x hx;have e2 := hcell2 k y hy;unfold jE at e1 e2;rw [Nat.mul_one] at e1 e2;clear hcell1 hcell2;have HX := Lib.hid hx; clear hx;have HY := Lib.hid hy; clear hy;by_cases he : x = y
    ·subst he;go_wp2
     go_quiet (fail)
     go_wp2
     go_roundw
     case rel => exact ⟨k+1, by omega, by go_num, iZ HX.out HY.out HP.out, _, rfl⟩
     case measure => simp [intOf]; omega
    ·have hne : (x != y) = true := by simp [he]
     have hfin : decide (l1 = l2) = false := by
      simp only [decide_eq_false_iff_not]; rintro rfl;have h3 := HX.out; rw [HY.out] at h3; cases h3; exact he rfl
     have HF := Lib.hid hfin; clear hfin he;go_wp2
     go_quiet (fail)
     go_wp2
     go_ret;exact ⟨by rw [HF.out]; rfl, n + nq, by rw [World.drewN_drewN]⟩
   ·go_wp2
    go_ret;have : k = l1.length := by omega
    have h3 := HP.out;have h4 := HL.out;refine ⟨?_, _, rfl⟩;have h5 : l1 = l2 := by
     rw [List.take_of_length_le (by omega), List.take_of_length_le (by omega)] at h3; exact h3
    simp [h5]
 ·have hb : ((l1.length : Int) != (l2.length : Int)) = true := by simp; omega
  go_enter Tryz.func99, Tryz.ntmps99;go_wp2
  go_ret;refine ⟨?_, 0, rfl⟩;have : l1 ≠ l2 := by rintro rfl; exact hl rfl
  simp [this]
set_option maxHeartbeats 400000 in
theorem qO (w : World) (F : Ac) (v1 v2 : Value) (l1 l2 : List Inf) (h1 : AQ w F v1 l1) (h2 : AQ w F v2 l2) (hl1 : l1.length < 1000000) (hl2 : l2.length < 1000000) :
  Calls Tryz.prog 62 #[v1, v2] w fun e w' => e = .returned (.bool (decide (l1 = l2))) ∧ ∃ n, w' = w.drewN n := by
 obtain ⟨A1, c1, rfl, hc1, r1⟩ := h1;obtain ⟨A2, c2, rfl, hc2, r2⟩ := h2;by_cases hl : l1.length = l2.length
 ·have R1 := Lib.hid r1; clear r1;have R2 := Lib.hid r2; clear r2;have HL := Lib.hid hl;have hb : ((l1.length : Int) != (l2.length : Int)) = false := by simp [hl]
  clear hl;go_enter Tryz.func62, Tryz.ntmps62;go_wp2
  go_loopw [5] (fun i wr => ∃ k : Nat, k ≤ l1.length ∧ i = .int .i64 k ∧ l1.take k = l2.take k ∧ ∃ n, wr = w.drewN n) (fun i _ => l1.length - (intOf i).toNat)
  case atStart => exact ⟨0, by omega, rfl, by simp, 0, rfl⟩
  case round =>
   obtain ⟨k, hk, rfl, hpre, n, rfl⟩ := hrel;have HP := Lib.hid hpre; clear hpre;by_cases hlt : k < l1.length
   ·obtain ⟨b1, o1, rfl, hb1, _, hcell1⟩ := R1.out (by omega);have hk2 : k < l2.length := by have := HL.out; omega
    obtain ⟨b2, o2, rfl, hb2, _, hcell2⟩ := R2.out (by omega);obtain ⟨x, hx⟩ := aA hlt;obtain ⟨y, hy⟩ := aA hk2;have e1 := hcell1 k x hx;have e2 := hcell2 k y hy;obtain ⟨e10, e11⟩ := e1;obtain ⟨e20, e21⟩ := e2;clear hcell1 hcell2;obtain ⟨xp, xa⟩ := x;obtain ⟨yp, ya⟩ := y;dsimp only at e10 e11 e20 e21;have HX := Lib.hid hx; clear hx;have HY := Lib.hid hy; clear hy;by_cases he : xp = yp ∧ xa = ya
    ·obtain ⟨rfl, rfl⟩ := he;go_wp2
     go_quiet (fail)
     go_wp2
     go_roundw
     case rel => exact ⟨k+1, by omega, by go_num, iZ HX.out HY.out HP.out, _, rfl⟩
     case measure => simp [intOf]; omega
    ·have hfin : decide (l1 = l2) = false := by
      simp only [decide_eq_false_iff_not]; rintro rfl;have h3 := HX.out; rw [HY.out] at h3; cases h3; exact he ⟨rfl, rfl⟩
     have HF := Lib.hid hfin; clear hfin;by_cases h1 : xp = yp
     ·subst h1;have hne : (xa == ya) = false := by simp; exact fun h2 => he ⟨rfl, h2⟩
      clear he;go_wp2
      go_quiet (fail)
      go_wp2
      go_ret;exact ⟨by rw [HF.out]; rfl, n + nq, by rw [World.drewN_drewN]⟩
     ·have hne : (xp == yp) = false := by simp [h1]
      clear he h1;go_wp2
      go_quiet (fail)
      go_wp2
      go_ret;exact ⟨by rw [HF.out]; rfl, n + nq, by rw [World.drewN_drewN]⟩
   ·go_wp2
    go_ret;have : k = l1.length := by omega
    have h3 := HP.out;have h4 := HL.out;refine ⟨?_, _, rfl⟩;have h5 : l1 = l2 := by
     rw [List.take_of_length_le (by omega), List.take_of_length_le (by omega)] at h3; exact h3
    simp [h5]
 ·have hb : ((l1.length : Int) != (l2.length : Int)) = true := by simp; omega
  go_enter Tryz.func62, Tryz.ntmps62;go_wp2
  go_ret;refine ⟨?_, 0, rfl⟩;have : l1 ≠ l2 := by rintro rfl; exact hl rfl
  simp [this]
theorem adK (a b : Nd) : a = b ↔ a.kind = b.kind ∧ a.aG = b.aG ∧ a.info = b.info ∧ a.next = b.next ∧ a.weights = b.weights ∧ a.pay = b.pay := by
 cases a; cases b; simp
theorem aP (w : World) (a b : Obj) (n : Nat) : Below w.heap.size w (((w.alloc a).alloc b).drewN n) := by
 have h := (((Below.refl w.heap.size w).alloc (Nat.le_refl _) a).alloc (by simp) b);exact ⟨h.os, h.tape, h.output, h.size, h.block⟩
set_option maxHeartbeats 1600000 in
theorem qP (w : World) (F : Ac) (u1 u2 : Value) (n1 n2 : Nd) (h1 : AL w F u1 n1) (h2 : AL w F u2 n2)
  (hl1 : n1.next.length < 1000000 ∧ n1.weights.length < 1000000 ∧ n1.pay.length < 1000000) (hl2 : n2.next.length < 1000000 ∧ n2.weights.length < 1000000 ∧ n2.pay.length < 1000000) :
  Calls Tryz.prog 63 #[u1, u2] w (Ret w fun v _ => v = .bool (decide (n1 = n2))) := by
 obtain ⟨v3, v4, v5, rfl, h13, h14, h15⟩ := h1;obtain ⟨u3, u4, u5, rfl, h23, h24, h25⟩ := h2;obtain ⟨hl13, hl14, hl15⟩ := hl1;obtain ⟨hl23, hl24, hl25⟩ := hl2;have H13 := Lib.hid h13; clear h13;have H14 := Lib.hid h14; clear h14;have H15 := Lib.hid h15; clear h15;have H23 := Lib.hid h23; clear h23;have H24 := Lib.hid h24; clear h24;have H25 := Lib.hid h25; clear h25;have HE := Lib.hid (adK n1 n2);by_cases q0 : n1.kind = n2.kind
 case neg =>
  have d0 : (n1.kind == n2.kind) = false := by simp [q0]
  have HF := Lib.hid (show decide (n1 = n2) = false by simp only [decide_eq_false_iff_not]; exact fun h => q0 (HE.out.1 h).1);clear q0;go_enter Tryz.func63, Tryz.ntmps63;go_wp2
  go_ret;exact ⟨_, rfl, aP _ _ _ 0, by rw [HF.out]; rfl⟩
 have d0 : (n1.kind == n2.kind) = true := by simp [q0]
 have Q0 := Lib.hid q0; clear q0;by_cases q1 : n1.aG = n2.aG
 case neg =>
  have d1 : (n1.aG == n2.aG) = false := by simp [q1]
  have HF := Lib.hid (show decide (n1 = n2) = false by simp only [decide_eq_false_iff_not]; exact fun h => q1 (HE.out.1 h).2.1);clear q1;go_enter Tryz.func63, Tryz.ntmps63;go_wp2
  go_ret;exact ⟨_, rfl, aP _ _ _ 0, by rw [HF.out]; rfl⟩
 have d1 : (n1.aG == n2.aG) = true := by simp [q1]
 have Q1 := Lib.hid q1; clear q1;by_cases q2 : n1.info = n2.info
 case neg =>
  have d2 : (n1.info == n2.info) = false := by simp [q2]
  have HF := Lib.hid (show decide (n1 = n2) = false by simp only [decide_eq_false_iff_not]; exact fun h => q2 (HE.out.1 h).2.2.1);clear q2;go_enter Tryz.func63, Tryz.ntmps63;go_wp2
  go_ret;exact ⟨_, rfl, aP _ _ _ 0, by rw [HF.out]; rfl⟩
 have d2 : (n1.info == n2.info) = true := by simp [q2]
 have Q2 := Lib.hid q2; clear q2;by_cases q3 : n1.next = n2.next
 case neg =>
  have d3 : decide (n1.next = n2.next) = false := by simp [q3]
  have HF := Lib.hid (show decide (n1 = n2) = false by simp only [decide_eq_false_iff_not]; exact fun h => q3 (HE.out.1 h).2.2.2.1);clear q3;go_enter Tryz.func63, Tryz.ntmps63;go_wp2_with (first | (go_at_call 99; (with_reducible refine (dF _ F _ _ n1.next n2.next (H13.out.on ?_) (H23.out.on ?_) hl13 hl23).mono ?_); exact (by repeat (first | exact Same.refl _ _ | exact Same.drewN _ _ _ | exact Same.alloc _ _ _ | refine Same.trans ?_ (Same.drewN _ _ _) | refine Same.trans ?_ (Same.alloc _ _ _))); exact (by repeat (first | exact Same.refl _ _ | exact Same.drewN _ _ _ | exact Same.alloc _ _ _ | refine Same.trans ?_ (Same.drewN _ _ _) | refine Same.trans ?_ (Same.alloc _ _ _))); rintro e w' ⟨rfl, m, rfl⟩) | (go_at_call 99; (with_reducible refine (dF _ F _ _ n1.weights n2.weights (H14.out.on ?_) (H24.out.on ?_) hl14 hl24).mono ?_); exact (by repeat (first | exact Same.refl _ _ | exact Same.drewN _ _ _ | exact Same.alloc _ _ _ | refine Same.trans ?_ (Same.drewN _ _ _) | refine Same.trans ?_ (Same.alloc _ _ _))); exact (by repeat (first | exact Same.refl _ _ | exact Same.drewN _ _ _ | exact Same.alloc _ _ _ | refine Same.trans ?_ (Same.drewN _ _ _) | refine Same.trans ?_ (Same.alloc _ _ _))); rintro e w' ⟨rfl, m, rfl⟩) | (go_at_call 99; (with_reducible refine (dF _ F _ _ n1.pay n2.pay (H15.out.on ?_) (H25.out.on ?_) hl15 hl25).mono ?_); exact (by repeat (first | exact Same.refl _ _ | exact Same.drewN _ _ _ | exact Same.alloc _ _ _ | refine Same.trans ?_ (Same.drewN _ _ _) | refine Same.trans ?_ (Same.alloc _ _ _))); exact (by repeat (first | exact Same.refl _ _ | exact Same.drewN _ _ _ | exact Same.alloc _ _ _ | refine Same.trans ?_ (Same.drewN _ _ _) | refine Same.trans ?_ (Same.alloc _ _ _))); rintro e w' ⟨rfl, m, rfl⟩))
  go_ret;exact ⟨_, rfl, aP _ _ _ _, by rw [HF.out]; rfl⟩
 have d3 : decide (n1.next = n2.next) = true := by simp [q3]
 have Q3 := Lib.hid q3; clear q3;by_cases q4 : n1.weights = n2.weights
 case neg =>
  have d4 : decide (n1.weights = n2.weights) = false := by simp [q4]
  have HF := Lib.hid (show decide (n1 = n2) = false by simp only [decide_eq_false_iff_not]; exact fun h => q4 (HE.out.1 h).2.2.2.2.1);clear q4;go_enter Tryz.func63, Tryz.ntmps63;go_wp2_with (first | (go_at_call 99; (with_reducible refine (dF _ F _ _ n1.next n2.next (H13.out.on ?_) (H23.out.on ?_) hl13 hl23).mono ?_); exact (by repeat (first | exact Same.refl _ _ | exact Same.drewN _ _ _ | exact Same.alloc _ _ _ | refine Same.trans ?_ (Same.drewN _ _ _) | refine Same.trans ?_ (Same.alloc _ _ _))); exact (by repeat (first | exact Same.refl _ _ | exact Same.drewN _ _ _ | exact Same.alloc _ _ _ | refine Same.trans ?_ (Same.drewN _ _ _) | refine Same.trans ?_ (Same.alloc _ _ _))); rintro e w' ⟨rfl, m, rfl⟩) | (go_at_call 99; (with_reducible refine (dF _ F _ _ n1.weights n2.weights (H14.out.on ?_) (H24.out.on ?_) hl14 hl24).mono ?_); exact (by repeat (first | exact Same.refl _ _ | exact Same.drewN _ _ _ | exact Same.alloc _ _ _ | refine Same.trans ?_ (Same.drewN _ _ _) | refine Same.trans ?_ (Same.alloc _ _ _))); exact (by repeat (first | exact Same.refl _ _ | exact Same.drewN _ _ _ | exact Same.alloc _ _ _ | refine Same.trans ?_ (Same.drewN _ _ _) | refine Same.trans ?_ (Same.alloc _ _ _))); rintro e w' ⟨rfl, m, rfl⟩) | (go_at_call 99; (with_reducible refine (dF _ F _ _ n1.pay n2.pay (H15.out.on ?_) (H25.out.on ?_) hl15 hl25).mono ?_); exact (by repeat (first | exact Same.refl _ _ | exact Same.drewN _ _ _ | exact Same.alloc _ _ _ | refine Same.trans ?_ (Same.drewN _ _ _) | refine Same.trans ?_ (Same.alloc _ _ _))); exact (by repeat (first | exact Same.refl _ _ | exact Same.drewN _ _ _ | exact Same.alloc _ _ _ | refine Same.trans ?_ (Same.drewN _ _ _) | refine Same.trans ?_ (Same.alloc _ _ _))); rintro e w' ⟨rfl, m, rfl⟩))
  go_ret;exact ⟨_, rfl, aP _ _ _ _, by rw [HF.out]; rfl⟩
 have d4 : decide (n1.weights = n2.weights) = true := by simp [q4]
 have Q4 := Lib.hid q4; clear q4;by_cases q5 : n1.pay = n2.pay
 case neg =>
  have d5 : decide (n1.pay = n2.pay) = false := by simp [q5]
  have HF := Lib.hid (show decide (n1 = n2) = false by simp only [decide_eq_false_iff_not]; exact fun h => q5 (HE.out.1 h).2.2.2.2.2);clear q5;go_enter Tryz.func63, Tryz.ntmps63;go_wp2_with (first | (go_at_call 99; (with_reducible refine (dF _ F _ _ n1.next n2.next (H13.out.on ?_) (H23.out.on ?_) hl13 hl23).mono ?_); exact (by repeat (first | exact Same.refl _ _ | exact Same.drewN _ _ _ | exact Same.alloc _ _ _ | refine Same.trans ?_ (Same.drewN _ _ _) | refine Same.trans ?_ (Same.alloc _ _ _))); exact (by repeat (first | exact Same.refl _ _ | exact Same.drewN _ _ _ | exact Same.alloc _ _ _ | refine Same.trans ?_ (Same.drewN _ _ _) | refine Same.trans ?_ (Same.alloc _ _ _))); rintro e w' ⟨rfl, m, rfl⟩) | (go_at_call 99; (with_reducible refine (dF _ F _ _ n1.weights n2.weights (H14.out.on ?_) (H24.out.on ?_) hl14 hl24).mono ?_); exact (by repeat (first | exact Same.refl _ _ | exact Same.drewN _ _ _ | exact Same.alloc _ _ _ | refine Same.trans ?_ (Same.drewN _ _ _) | refine Same.trans ?_ (Same.alloc _ _ _))); exact (by repeat (first | exact Same.refl _ _ | exact Same.drewN _ _ _ | exact Same.alloc _ _ _ | refine Same.trans ?_ (Same.drewN _ _ _) | refine Same.trans ?_ (Same.alloc _ _ _))); rintro e w' ⟨rfl, m, rfl⟩) | (go_at_call 99; (with_reducible refine (dF _ F _ _ n1.pay n2.pay (H15.out.on ?_) (H25.out.on ?_) hl15 hl25).mono ?_); exact (by repeat (first | exact Same.refl _ _ | exact Same.drewN _ _ _ | exact Same.alloc _ _ _ | refine Same.trans ?_ (Same.drewN _ _ _) | refine Same.trans ?_ (Same.alloc _ _ _))); exact (by repeat (first | exact Same.refl _ _ | exact Same.drewN _ _ _ | exact Same.alloc _ _ _ | refine Same.trans ?_ (Same.drewN _ _ _) | refine Same.trans ?_ (Same.alloc _ _ _))); rintro e w' ⟨rfl, m, rfl⟩))
  go_ret;exact ⟨_, rfl, aP _ _ _ _, by rw [HF.out]; rfl⟩
 have d5 : decide (n1.pay = n2.pay) = true := by simp [q5]
 have Q5 := Lib.hid q5; clear q5;have HF := Lib.hid (show decide (n1 = n2) = true by simp only [decide_eq_true_eq]; exact HE.out.2 ⟨Q0.out, Q1.out, Q2.out, Q3.out, Q4.out, Q5.out⟩);go_enter Tryz.func63, Tryz.ntmps63;go_wp2_with (first | (go_at_call 99; (with_reducible refine (dF _ F _ _ n1.next n2.next (H13.out.on ?_) (H23.out.on ?_) hl13 hl23).mono ?_); exact (by repeat (first | exact Same.refl _ _ | exact Same.drewN _ _ _ | exact Same.alloc _ _ _ | refine Same.trans ?_ (Same.drewN _ _ _) | refine Same.trans ?_ (Same.alloc _ _ _))); exact (by repeat (first | exact Same.refl _ _ | exact Same.drewN _ _ _ | exact Same.alloc _ _ _ | refine Same.trans ?_ (Same.drewN _ _ _) | refine Same.trans ?_ (Same.alloc _ _ _))); rintro e w' ⟨rfl, m, rfl⟩) | (go_at_call 99; (with_reducible refine (dF _ F _ _ n1.weights n2.weights (H14.out.on ?_) (H24.out.on ?_) hl14 hl24).mono ?_); exact (by repeat (first | exact Same.refl _ _ | exact Same.drewN _ _ _ | exact Same.alloc _ _ _ | refine Same.trans ?_ (Same.drewN _ _ _) | refine Same.trans ?_ (Same.alloc _ _ _))); exact (by repeat (first | exact Same.refl _ _ | exact Same.drewN _ _ _ | exact Same.alloc _ _ _ | refine Same.trans ?_ (Same.drewN _ _ _) | refine Same.trans ?_ (Same.alloc _ _ _))); rintro e w' ⟨rfl, m, rfl⟩) | (go_at_call 99; (with_reducible refine (dF _ F _ _ n1.pay n2.pay (H15.out.on ?_) (H25.out.on ?_) hl15 hl25).mono ?_); exact (by repeat (first | exact Same.refl _ _ | exact Same.drewN _ _ _ | exact Same.alloc _ _ _ | refine Same.trans ?_ (Same.drewN _ _ _) | refine Same.trans ?_ (Same.alloc _ _ _))); exact (by repeat (first | exact Same.refl _ _ | exact Same.drewN _ _ _ | exact Same.alloc _ _ _ | refine Same.trans ?_ (Same.drewN _ _ _) | refine Same.trans ?_ (Same.alloc _ _ _))); rintro e w' ⟨rfl, m, rfl⟩))
 go_ret;exact ⟨_, rfl, aP _ _ _ _, by rw [HF.out]; rfl⟩
theorem neF {a b : Int} (h : a = b) : (a != b) = false := by simp [h]
theorem neT {a b : Int} (h : a ≠ b) : (a != b) = true := by simp [h]
theorem eqF {a b : Int} (h : a ≠ b) : (a == b) = false := by simp [h]
theorem eqT {a b : Int} (h : a = b) : (a == b) = true := by simp [h]
def outside (lo hi : Int) (l : List Int) : Bool := l.any fun x => decide (x < lo) || decide (hi < x)
def bK (x : Nd) : Int :=
 if x.aG ≠ 0 ∨ x.info ≠ 0 ∨ 0 < x.pay.length ∨ x.next.length < 1 ∨ 60 < x.next.length ∨ x.weights.length ≠ x.next.length then 3 else if outside 1 1000 x.weights then 2 else 0
def dB (ak : Int) (ni : Nat) (x : Nd) : Int :=
 if 0 < x.pay.length ∨ 0 < x.weights.length ∨ x.next.length < 1 ∨ 10 < x.next.length then 3 else if x.aG < 0 ∨ ak ≤ x.aG ∨ x.info < 0 ∨ (ni : Int) ≤ x.info then 2 else 0
def gy (ak : Int) (x : Nd) : Int :=
 if x.aG ≠ 0 ∨ x.info ≠ 0 ∨ 0 < x.next.length ∨ 0 < x.weights.length ∨ (x.pay.length : Int) ≠ ak then 3 else if outside (-1000000) 1000000 x.pay then 2 else 0
def aN (ak : Int) (ni : Nat) (x : Nd) : Int :=
 if x.kind = 1 then bK x else if x.kind = 2 then dB ak ni x else if x.kind = 3 then gy ak x else 3
set_option maxRecDepth 100000 in
set_option maxHeartbeats 3200000 in
theorem aeW (w : World) (F : Ac) (u ux : Value) (g : Gm) (x : Nd) (hg : Aj w F u g) (hx : AL w F ux x) (hl : x.next.length < 1000000 ∧ x.weights.length < 1000000 ∧ x.pay.length < 1000000) (hni : g.infos.length < 1000000) :
  Calls Tryz.prog 128 #[u, ux] w (Ret w fun v _ => v = .int .i64 (aN g.ak g.infos.length x)) := by
 obtain ⟨vn, vi, rfl, ⟨A, c, rfl, hc, hN⟩, ⟨Ai, ci, rfl, hci, hI⟩⟩ := hg;clear hN hI;obtain ⟨v3, v4, v5, rfl, ⟨A3, c3, rfl, hc3, h3⟩, ⟨A4, c4, rfl, hc4, h4⟩, ⟨A5, c5, rfl, hc5, h5⟩⟩ := hx;obtain ⟨hl3, hl4, hl5⟩ := hl;have H4 := Lib.hid h4; clear h4;have H5 := Lib.hid h5; clear h5 h3;by_cases k1 : x.kind = 1
 ·have e1 : (x.kind == 1) = true := by simp [k1]
  by_cases q0 : x.aG ≠ 0
  ·have HF := Lib.hid (show aN g.ak g.infos.length x = 3 by unfold aN bK; rw [if_pos k1, if_pos (by omega)]);have d0 : (x.aG != 0) = true := neT (by omega);clear k1;go_enter Tryz.func128, Tryz.ntmps128;go_wp2
   go_ret;exact ⟨_, rfl, aP _ _ _ 0, by rw [HF.out]; rfl⟩
  have d0 : (x.aG != 0) = false := neF (by omega);by_cases q1 : x.info ≠ 0
  ·have HF := Lib.hid (show aN g.ak g.infos.length x = 3 by unfold aN bK; rw [if_pos k1, if_pos (by omega)]);have d1 : (x.info != 0) = true := neT (by omega);clear k1;go_enter Tryz.func128, Tryz.ntmps128;go_wp2
   go_ret;exact ⟨_, rfl, aP _ _ _ 0, by rw [HF.out]; rfl⟩
  have d1 : (x.info != 0) = false := neF (by omega);by_cases q2 : 0 < x.pay.length
  ·have HF := Lib.hid (show aN g.ak g.infos.length x = 3 by unfold aN bK; rw [if_pos k1, if_pos (by omega)]);clear k1;go_enter Tryz.func128, Tryz.ntmps128;go_wp2
   go_ret;exact ⟨_, rfl, aP _ _ _ 0, by rw [HF.out]; rfl⟩
  have d2 : decide ((0 : Int) < (x.pay.length : Int)) = false := decide_eq_false (by omega);by_cases q3 : x.next.length < 1
  ·have HF := Lib.hid (show aN g.ak g.infos.length x = 3 by unfold aN bK; rw [if_pos k1, if_pos (by omega)]);clear k1;go_enter Tryz.func128, Tryz.ntmps128;go_wp2
   go_ret;exact ⟨_, rfl, aP _ _ _ 0, by rw [HF.out]; rfl⟩
  have d3 : decide ((x.next.length : Int) < 1) = false := decide_eq_false (by omega);by_cases q4 : 60 < x.next.length
  ·have HF := Lib.hid (show aN g.ak g.infos.length x = 3 by unfold aN bK; rw [if_pos k1, if_pos (by omega)]);clear k1;go_enter Tryz.func128, Tryz.ntmps128;go_wp2
   go_ret;exact ⟨_, rfl, aP _ _ _ 0, by rw [HF.out]; rfl⟩
  have d4 : decide ((60 : Int) < (x.next.length : Int)) = false := decide_eq_false (by omega);by_cases q5 : x.weights.length ≠ x.next.length
  ·have HF := Lib.hid (show aN g.ak g.infos.length x = 3 by unfold aN bK; rw [if_pos k1, if_pos (by omega)]);have d5 : ((x.weights.length : Int) != (x.next.length : Int)) = true := neT (by omega);clear k1;go_enter Tryz.func128, Tryz.ntmps128;go_wp2
   go_ret;exact ⟨_, rfl, aP _ _ _ 0, by rw [HF.out]; rfl⟩
  have d5 : ((x.weights.length : Int) != (x.next.length : Int)) = false := neF (by omega);have HV := Lib.hid (show aN g.ak g.infos.length x = if outside 1 1000 x.weights then 2 else 0 by unfold aN bK; rw [if_pos k1, if_neg (by omega)]);clear k1 q0 q1 q5;go_enter Tryz.func128, Tryz.ntmps128;go_wp2
  go_loop [5] (fun i => ∃ k : Nat, k ≤ x.weights.length ∧ i = .int .i64 k ∧ outside 1 1000 (x.weights.take k) = false) (fun i => x.weights.length - (intOf i).toNat)
  case atStart => exact ⟨0, by omega, rfl, rfl⟩
  case round =>
   obtain ⟨k, hk, rfl, hpre⟩ := hrel;have HP := Lib.hid hpre; clear hpre;by_cases hlt : k < x.weights.length
   ·obtain ⟨b, o, rfl, _, hb, hx⟩ := H4.out (by omega);obtain ⟨y, hy⟩ := aA hlt;have ey := hx k y hy;unfold jE at ey; rw [Nat.mul_one] at ey;have BAD := Lib.hid (show (y < 1 ∨ 1000 < y) → aN g.ak g.infos.length x = 2 by
     intro hb; rw [HV.out, if_pos (show outside _ _ _ = true from List.any_eq_true.2 ⟨y, List.mem_of_getElem? hy, by simpa using hb⟩)])
    have HX := Lib.hid hy; clear hx hy;by_cases pl : y < 1
    ·have HF := Lib.hid (BAD.out (.inl pl));go_wp2
     go_ret;exact ⟨_, rfl, aP _ _ _ 0, by rw [HF.out]; rfl⟩
    have fl : decide (y < 1) = false := decide_eq_false (by omega);by_cases pr : 1000 < y
    ·have HF := Lib.hid (BAD.out (.inr pr));go_wp2
     go_ret;exact ⟨_, rfl, aP _ _ _ 0, by rw [HF.out]; rfl⟩
    have fr : decide ((1000 : Int) < y) = false := decide_eq_false (by omega);go_wp2
    go_round
    case rel => exact ⟨k + 1, by omega, by go_num, jq HX.out HP.out (by simp; omega)⟩
    case measure => simp [intOf]; omega
   ·go_wp2
    go_ret;refine ⟨_, rfl, aP _ _ _ 0, ?_⟩;have h := HP.out; rw [List.take_of_length_le (by omega)] at h;rw [HV.out, h]; rfl
 have e1 : (x.kind == 1) = false := by simp [k1]
 by_cases k2 : x.kind = 2
 ·have e2 : (x.kind == 2) = true := by simp [k2]
  by_cases q0 : 0 < x.pay.length
  ·have HF := Lib.hid (show aN g.ak g.infos.length x = 3 by unfold aN dB; rw [if_neg k1, if_pos k2, if_pos (by omega)]);clear k1 k2;go_enter Tryz.func128, Tryz.ntmps128;go_wp2
   go_ret;exact ⟨_, rfl, aP _ _ _ 0, by rw [HF.out]; rfl⟩
  have d0 : decide ((0 : Int) < (x.pay.length : Int)) = false := decide_eq_false (by omega);by_cases q1 : 0 < x.weights.length
  ·have HF := Lib.hid (show aN g.ak g.infos.length x = 3 by unfold aN dB; rw [if_neg k1, if_pos k2, if_pos (by omega)]);clear k1 k2;go_enter Tryz.func128, Tryz.ntmps128;go_wp2
   go_ret;exact ⟨_, rfl, aP _ _ _ 0, by rw [HF.out]; rfl⟩
  have d1 : decide ((0 : Int) < (x.weights.length : Int)) = false := decide_eq_false (by omega);by_cases q2 : x.next.length < 1
  ·have HF := Lib.hid (show aN g.ak g.infos.length x = 3 by unfold aN dB; rw [if_neg k1, if_pos k2, if_pos (by omega)]);clear k1 k2;go_enter Tryz.func128, Tryz.ntmps128;go_wp2
   go_ret;exact ⟨_, rfl, aP _ _ _ 0, by rw [HF.out]; rfl⟩
  have d2 : decide ((x.next.length : Int) < 1) = false := decide_eq_false (by omega);by_cases q3 : 10 < x.next.length
  ·have HF := Lib.hid (show aN g.ak g.infos.length x = 3 by unfold aN dB; rw [if_neg k1, if_pos k2, if_pos (by omega)]);clear k1 k2;go_enter Tryz.func128, Tryz.ntmps128;go_wp2
   go_ret;exact ⟨_, rfl, aP _ _ _ 0, by rw [HF.out]; rfl⟩
  have d3 : decide ((10 : Int) < (x.next.length : Int)) = false := decide_eq_false (by omega);by_cases r0 : x.aG < 0
  ·have HF := Lib.hid (show aN g.ak g.infos.length x = 2 by unfold aN dB; rw [if_neg k1, if_pos k2, if_neg (by omega), if_pos (by omega)]);clear k1 k2;go_enter Tryz.func128, Tryz.ntmps128;go_wp2
   go_ret;exact ⟨_, rfl, aP _ _ _ 0, by rw [HF.out]; rfl⟩
  have s0 : decide (x.aG < 0) = false := decide_eq_false (by omega);by_cases r1 : g.ak ≤ x.aG
  ·have HF := Lib.hid (show aN g.ak g.infos.length x = 2 by unfold aN dB; rw [if_neg k1, if_pos k2, if_neg (by omega), if_pos (by omega)]);clear k1 k2;go_enter Tryz.func128, Tryz.ntmps128;go_wp2
   go_ret;exact ⟨_, rfl, aP _ _ _ 0, by rw [HF.out]; rfl⟩
  have s1 : decide (g.ak ≤ x.aG) = false := decide_eq_false (by omega);by_cases r2 : x.info < 0
  ·have HF := Lib.hid (show aN g.ak g.infos.length x = 2 by unfold aN dB; rw [if_neg k1, if_pos k2, if_neg (by omega), if_pos (by omega)]);clear k1 k2;go_enter Tryz.func128, Tryz.ntmps128;go_wp2
   go_ret;exact ⟨_, rfl, aP _ _ _ 0, by rw [HF.out]; rfl⟩
  have s2 : decide (x.info < 0) = false := decide_eq_false (by omega);by_cases r3 : (g.infos.length : Int) ≤ x.info
  ·have HF := Lib.hid (show aN g.ak g.infos.length x = 2 by unfold aN dB; rw [if_neg k1, if_pos k2, if_neg (by omega), if_pos (by omega)]);clear k1 k2;go_enter Tryz.func128, Tryz.ntmps128;go_wp2
   go_ret;exact ⟨_, rfl, aP _ _ _ 0, by rw [HF.out]; rfl⟩
  have s3 : decide ((g.infos.length : Int) ≤ x.info) = false := decide_eq_false (by omega);have HF := Lib.hid (show aN g.ak g.infos.length x = 0 by unfold aN dB; rw [if_neg k1, if_pos k2, if_neg (by omega), if_neg (by omega)]);clear k1 k2;go_enter Tryz.func128, Tryz.ntmps128;go_wp2
  go_ret;exact ⟨_, rfl, aP _ _ _ 0, by rw [HF.out]; rfl⟩
 have e2 : (x.kind == 2) = false := by simp [k2]
 by_cases k3 : x.kind = 3
 ·have e3 : (x.kind == 3) = true := by simp [k3]
  by_cases q0 : x.aG ≠ 0
  ·have HF := Lib.hid (show aN g.ak g.infos.length x = 3 by unfold aN gy; rw [if_neg k1, if_neg k2, if_pos k3, if_pos (by omega)]);have d0 : (x.aG != 0) = true := neT (by omega);clear k1 k2 k3;go_enter Tryz.func128, Tryz.ntmps128;go_wp2
   go_ret;exact ⟨_, rfl, aP _ _ _ 0, by rw [HF.out]; rfl⟩
  have d0 : (x.aG != 0) = false := neF (by omega);by_cases q1 : x.info ≠ 0
  ·have HF := Lib.hid (show aN g.ak g.infos.length x = 3 by unfold aN gy; rw [if_neg k1, if_neg k2, if_pos k3, if_pos (by omega)]);have d1 : (x.info != 0) = true := neT (by omega);clear k1 k2 k3;go_enter Tryz.func128, Tryz.ntmps128;go_wp2
   go_ret;exact ⟨_, rfl, aP _ _ _ 0, by rw [HF.out]; rfl⟩
  have d1 : (x.info != 0) = false := neF (by omega);by_cases q2 : 0 < x.next.length
  ·have HF := Lib.hid (show aN g.ak g.infos.length x = 3 by unfold aN gy; rw [if_neg k1, if_neg k2, if_pos k3, if_pos (by omega)]);clear k1 k2 k3;go_enter Tryz.func128, Tryz.ntmps128;go_wp2
   go_ret;exact ⟨_, rfl, aP _ _ _ 0, by rw [HF.out]; rfl⟩
  have d2 : decide ((0 : Int) < (x.next.length : Int)) = false := decide_eq_false (by omega);by_cases q3 : 0 < x.weights.length
  ·have HF := Lib.hid (show aN g.ak g.infos.length x = 3 by unfold aN gy; rw [if_neg k1, if_neg k2, if_pos k3, if_pos (by omega)]);clear k1 k2 k3;go_enter Tryz.func128, Tryz.ntmps128;go_wp2
   go_ret;exact ⟨_, rfl, aP _ _ _ 0, by rw [HF.out]; rfl⟩
  have d3 : decide ((0 : Int) < (x.weights.length : Int)) = false := decide_eq_false (by omega);by_cases q4 : (x.pay.length : Int) ≠ g.ak
  ·have HF := Lib.hid (show aN g.ak g.infos.length x = 3 by unfold aN gy; rw [if_neg k1, if_neg k2, if_pos k3, if_pos (by omega)]);have d4 : ((x.pay.length : Int) != g.ak) = true := neT (by omega);clear k1 k2 k3;go_enter Tryz.func128, Tryz.ntmps128;go_wp2
   go_ret;exact ⟨_, rfl, aP _ _ _ 0, by rw [HF.out]; rfl⟩
  have d4 : ((x.pay.length : Int) != g.ak) = false := neF (by omega);have HV := Lib.hid (show aN g.ak g.infos.length x = if outside (-1000000) 1000000 x.pay then 2 else 0 by unfold aN gy; rw [if_neg k1, if_neg k2, if_pos k3, if_neg (by omega)]);clear k1 k2 k3 q0 q1 q4;go_enter Tryz.func128, Tryz.ntmps128;go_wp2
  go_loop [6] (fun i => ∃ k : Nat, k ≤ x.pay.length ∧ i = .int .i64 k ∧ outside (-1000000) 1000000 (x.pay.take k) = false) (fun i => x.pay.length - (intOf i).toNat)
  case atStart => exact ⟨0, by omega, rfl, rfl⟩
  case round =>
   obtain ⟨k, hk, rfl, hpre⟩ := hrel;have HP := Lib.hid hpre; clear hpre;by_cases hlt : k < x.pay.length
   ·obtain ⟨b, o, rfl, _, hb, hx⟩ := H5.out (by omega);obtain ⟨y, hy⟩ := aA hlt;have ey := hx k y hy;unfold jE at ey; rw [Nat.mul_one] at ey;have BAD := Lib.hid (show (y < (-1000000) ∨ 1000000 < y) → aN g.ak g.infos.length x = 2 by
     intro hb; rw [HV.out, if_pos (show outside _ _ _ = true from List.any_eq_true.2 ⟨y, List.mem_of_getElem? hy, by simpa using hb⟩)])
    have HX := Lib.hid hy; clear hx hy;by_cases pl : y < (-1000000)
    ·have HF := Lib.hid (BAD.out (.inl pl));go_wp2
     go_ret;exact ⟨_, rfl, aP _ _ _ 0, by rw [HF.out]; rfl⟩
    have fl : decide (y < (-1000000)) = false := decide_eq_false (by omega);by_cases pr : 1000000 < y
    ·have HF := Lib.hid (BAD.out (.inr pr));go_wp2
     go_ret;exact ⟨_, rfl, aP _ _ _ 0, by rw [HF.out]; rfl⟩
    have fr : decide ((1000000 : Int) < y) = false := decide_eq_false (by omega);go_wp2
    go_round
    case rel => exact ⟨k + 1, by omega, by go_num, jq HX.out HP.out (by simp; omega)⟩
    case measure => simp [intOf]; omega
   ·go_wp2
    go_ret;refine ⟨_, rfl, aP _ _ _ 0, ?_⟩;have h := HP.out; rw [List.take_of_length_le (by omega)] at h;rw [HV.out, h]; rfl
 have e3 : (x.kind == 3) = false := by simp [k3]
 have HF := Lib.hid (show aN g.ak g.infos.length x = 3 by unfold aN; rw [if_neg k1, if_neg k2, if_neg k3]);clear k1 k2 k3;go_enter Tryz.func128, Tryz.ntmps128;go_wp2
 go_ret;exact ⟨_, rfl, aP _ _ _ 0, by rw [HF.out]; rfl⟩
end Go.Proofs.YtkcheepafifjaaaGreatDoor

/- Words for memory that all contracts of this seat share: slices that read as lists, rows of cells, worlds that keep some blocks. -/
import Derived.Test.YthmklhapjegfdaaGreatDoorProg
import Derived.WalkKit
import Derived.Deep.QuietTactic
import Derived.BigQuiet
import Derived.Lib.Hide
import Derived.Deep.OwnRows
set_option linter.all false
set_option maxRecDepth 100000
set_option maxHeartbeats 12800000
namespace Go.Proofs.YthmklhapjegfdaaGreatDoor
open Lib renaming hid → Ac
open Go.RowKit
abbrev Ag:=Nat→Prop
structure Same (F:Ag) (w w':World):Prop where
 size:w.heap.size≤w'.heap.size
 block:∀ b,F b→b < w.heap.size→w'.heap[b]? = w.heap[b]?
section
variable {F G:Ag} {w w' w'':World}
theorem Same.cell (h:Same F w w') {b:Nat} (hb:F b) (hl:b < w.heap.size) (o:Nat):w'.cell? ⟨b,o,none⟩=w.cell? ⟨b,o,none⟩:=World.cell?_of_block (w:=w) (h.block b hb hl)
theorem Same.refl (F:Ag) (w:World):Same F w w:=⟨Nat.le_refl _,fun _ _ _=>rfl⟩
theorem Same.trans (h:Same F w w') (k:Same F w' w''):Same F w w'':=⟨Nat.le_trans h.size k.size,fun i hi hl=>(k.block i hi (Nat.lt_of_lt_of_le hl h.size)).trans (h.block i hi hl)⟩
theorem Same.mono (h:Same F w w') (hG:∀ b,G b→F b):Same G w w':=⟨h.size,fun b hb hl=>h.block b (hG b hb) hl⟩
theorem Below.same' (h:Below w.heap.size w w') (F:Ag):Same F w w':=⟨h.size,fun b _ hl=>h.block b hl⟩
theorem Same.alloc (F:Ag) (w:World) (o:Obj):Same F w (w.alloc o):=⟨by simp,fun b _ hl=>Below.heap_alloc w o b hl⟩
theorem Same.drewN (F:Ag) (w:World) (n:Nat):Same F w (w.drewN n):=⟨Nat.le_refl _,fun _ _ _=>rfl⟩
theorem Same.setCell (F:Ag) (w:World) {p:Addr} (hp:¬ F p.block) (v:Value):Same F w (w.setCell p v) :=
 ⟨by simp,fun b hb _=>Below.heap_setCell w p v b (fun e=>hp (e▸hb))⟩
end
theorem ak {α:Type} {l:List α} {k:Nat} (h:k < l.length):∃ x,l[k]? = some x:=⟨l[k],by simp[h]⟩
theorem aG {α:Type} {l:List α} {k:Nat} {x:α} (h:l[k]? = some x):k < l.length:=by
 rcases Nat.lt_or_ge k l.length with h1 | h1
 ·exact h1
 ·rw[List.getElem?_eq_none h1] at h; cases h
theorem take_snoc {α:Type} {l:List α} {k:Nat} {x:α} (h:l[k]? = some x):l.take (k+1)=l.take k ++ [x]:=by
 rw[List.take_succ_eq_append_getElem (aG h)]; congr 2;have:=aG h;simpa [this] using h
def BG {α:Type} (sz:Nat) (E:World→Ag→Nat→Nat→α→Prop) (w:World) (F:Ag) (v:Value) (l:List α):Prop :=
 ∃ A c,v = .slice A l.length c∧l.length≤c∧(0 < l.length→∃ b o,A=some ⟨b,o,none⟩∧F b∧b < w.heap.size∧∀ k x,l[k]? = some x→E w F b (o+k*sz) x)
theorem BG.keep {α:Type} {sz:Nat} {E:World→Ag→Nat→Nat→α→Prop} {w w':World} {F G:Ag} {v:Value} {l:List α}
  (h:BG sz E w F v l) (hFG:∀ b,F b→b < w.heap.size→G b) (hsz:w.heap.size≤w'.heap.size) (hE:∀ b o x,x∈l→F b→b < w.heap.size→E w F b o x→E w' G b o x):BG sz E w' G v l:=by
 obtain⟨A,c,rfl,hc,hr⟩:=h;refine⟨A,c,rfl,hc,fun h0=>?_⟩;obtain⟨b,o,rfl,hb,hl,hx⟩:=hr h0;exact⟨b,o,rfl,hFG b hb hl,Nat.lt_of_lt_of_le hl hsz,fun k x hk=>hE b _ x (List.mem_of_getElem? hk) hb hl (hx k x hk)⟩
def fF (k:IntKind) (w:World) (_:Ag) (b o:Nat) (x:Int):Prop:=w.cell? ⟨b,o,none⟩=some (.int k x)
def qm (w:World) (_:Ag) (b o:Nat) (x:Bool):Prop:=w.cell? ⟨b,o,none⟩=some (.bool x)
def uM {α:Type} (S:World→Ag→Value→α→Prop) (w:World) (F:Ag) (b o:Nat) (x:α):Prop:=∃ v,w.cell? ⟨b,o,none⟩=some v∧S w F v x
def Ak (w:World) (F:Ag) (v:Value) (l:List Int):Prop:=BG 1 (fF .i64) w F v l
def AQ (w:World) (F:Ag) (v:Value) (l:List Bool):Prop:=BG 1 qm w F v l
def Bq (w:World) (F:Ag) (v:Value) (l:List (List Int)):Prop:=BG 1 (uM Ak) w F v l
theorem Ak.keep {w w':World} {F G:Ag} {v:Value} {l:List Int} (h:Ak w F v l) (hFG:∀ b,F b→b < w.heap.size→G b) (hs:Same F w w'):Ak w' G v l :=
 BG.keep h hFG hs.size fun b o x _ hb hl hx=>by unfold fF at *; rw[hs.cell hb hl]; exact hx
theorem AQ.keep {w w':World} {F G:Ag} {v:Value} {l:List Bool} (h:AQ w F v l) (hFG:∀ b,F b→b < w.heap.size→G b) (hs:Same F w w'):AQ w' G v l :=
 BG.keep h hFG hs.size fun b o x _ hb hl hx=>by unfold qm at *; rw[hs.cell hb hl]; exact hx
theorem Bq.keep {w w':World} {F G:Ag} {v:Value} {l:List (List Int)} (h:Bq w F v l) (hFG:∀ b,F b→b < w.heap.size→G b) (hs:Same F w w'):Bq w' G v l :=
 BG.keep h hFG hs.size fun b o x _ hb hl hx=>by
  obtain⟨u,hu,hr⟩:=hx;exact⟨u,by rw[hs.cell hb hl]; exact hu,hr.keep hFG hs⟩
structure Nd where
 kind:Int
 aI:Int
 info:Int
 next:List Int
 weights:List Int
 pay:List Int
 deriving Inhabited,DecidableEq
structure Inf where
 aI:Int
 actions:Int
 deriving Inhabited,DecidableEq
structure Gm where
 aj:Int
 nodes:List Nd
 infos:List Inf
 deriving Inhabited,DecidableEq
structure C9 (w:World) (F:Ag) (b o:Nat) (n:Nd):Prop where
 c0:w.cell? ⟨b,o,none⟩=some (.int .i64 n.kind)
 c1:w.cell? ⟨b,o+1,none⟩=some (.int .i64 n.aI)
 c2:w.cell? ⟨b,o+2,none⟩=some (.int .i64 n.info)
 c3:uM Ak w F b (o+3) n.next
 c4:uM Ak w F b (o+4) n.weights
 c5:uM Ak w F b (o+5) n.pay
structure Dq (w:World) (_:Ag) (b o:Nat) (n:Inf):Prop where
 c0:w.cell? ⟨b,o,none⟩=some (.int .i64 n.aI)
 c1:w.cell? ⟨b,o+1,none⟩=some (.int .i64 n.actions)
theorem oU {w w':World} {F G:Ag} {b o:Nat} {l:List Int} (h:uM Ak w F b o l) (hFG:∀ b,F b→b < w.heap.size→G b) (hs:Same F w w') (hb:F b) (hl:b < w.heap.size):uM Ak w' G b o l:=by
 obtain⟨u,hu,hr⟩:=h;exact⟨u,by rw[hs.cell hb hl]; exact hu,hr.keep hFG hs⟩
theorem C9.keep {w w':World} {F G:Ag} {b o:Nat} {n:Nd} (h:C9 w F b o n) (hFG:∀ b,F b→b < w.heap.size→G b) (hs:Same F w w') (hb:F b) (hl:b < w.heap.size):C9 w' G b o n :=
 ⟨by rw[hs.cell hb hl]; exact h.c0,by rw[hs.cell hb hl]; exact h.c1,by rw[hs.cell hb hl]; exact h.c2,oU h.c3 hFG hs hb hl,oU h.c4 hFG hs hb hl,oU h.c5 hFG hs hb hl⟩
def AO (w:World) (F:Ag) (v:Value) (l:List Nd):Prop:=BG 6 C9 w F v l
def AY (w:World) (F:Ag) (v:Value) (l:List Inf):Prop:=BG 2 Dq w F v l
theorem AO.keep {w w':World} {F G:Ag} {v:Value} {l:List Nd} (h:AO w F v l) (hFG:∀ b,F b→b < w.heap.size→G b) (hs:Same F w w'):AO w' G v l :=
 BG.keep h hFG hs.size fun _ _ _ _ hb hl hx=>hx.keep hFG hs hb hl
theorem AY.keep {w w':World} {F G:Ag} {v:Value} {l:List Inf} (h:AY w F v l) (hFG:∀ b,F b→b < w.heap.size→G b) (hs:Same F w w'):AY w' G v l :=
 BG.keep h hFG hs.size fun _ _ _ _ hb hl hx=>⟨by rw[hs.cell hb hl]; exact hx.c0,by rw[hs.cell hb hl]; exact hx.c1⟩
def Az (w:World) (F:Ag) (v:Value) (g:Gm):Prop :=
 ∃ vn vi,v = .agg #[.int .i64 g.aj,vn,vi]∧AO w F vn g.nodes∧AY w F vi g.infos
theorem Az.keep {w w':World} {F G:Ag} {v:Value} {g:Gm} (h:Az w F v g) (hFG:∀ b,F b→b < w.heap.size→G b) (hs:Same F w w'):Az w' G v g:=by
 obtain⟨vn,vi,rfl,hn,hi⟩:=h;exact⟨vn,vi,rfl,hn.keep hFG hs,hi.keep hFG hs⟩
def Row (w:World) (b:Nat) (t:TypeId) (vs:List Value):Prop:=w.heap[b]? = some (.cells vs.toArray t (0,0))
section
variable {w w':World} {b:Nat} {t:TypeId} {vs:List Value}
theorem Row.cell (h:Row w b t vs) {i:Nat} {v:Value} (hi:vs[i]? = some v):w.cell? ⟨b,i,none⟩=some v:=by
 unfold Row at h; simp[World.cell?,h,hi]
theorem Row.frozen (h:Row w b t vs) (i:Nat):w.frozen? ⟨b,i,none⟩=false:=by
 unfold Row at h; simp[World.frozen?,h]
theorem Row.lt (h:Row w b t vs):b < w.heap.size:=by
 obtain⟨hlt,_⟩:=Array.getElem?_eq_some_iff.1 h;exact hlt
theorem Row.of_block (h:Row w b t vs) (e:w'.heap[b]? = w.heap[b]?):Row w' b t vs:=e.trans h
theorem Row.set (h:Row w b t vs) (i:Nat) (v:Value):Row (w.setCell ⟨b,i,none⟩ v) b t (vs.set i v):=by
 unfold Row at *;simp[World.setCell,Array.getElem?_modify,h]
theorem Row.other (h:Row w b t vs) {a:Addr} (ha:b≠a.block) (v:Value):Row (w.setCell a v) b t vs:=h.of_block (Below.heap_setCell _ _ _ _ ha)
theorem Row.alloc (h:Row w b t vs) (o:Obj):Row (w.alloc o) b t vs:=h.of_block (Below.heap_alloc _ _ _ h.lt)
theorem Row.drew (h:Row w b t vs):Row w.drew b t vs:=h
theorem Row.below {B:Nat} (h:Row w b t vs) (hb:Below B w w') (hB:b < B):Row w' b t vs:=h.of_block (hb.block b hB)
theorem Row.new (w:World) (t:TypeId) (c:Array Value):Row (w.alloc (.cells c t)) w.heap.size t c.toList:=by
 unfold Row; show(w.heap.push _)[w.heap.size]? = _; simp
end
theorem Row.made (w:World) (z:Value) (n:Nat) (t:TypeId):Row (w.alloc (.cells (madeCells #[z] n) t)) w.heap.size t (List.replicate n z):=by
 have h:=Row.new w t (madeCells #[z] n);have e:(madeCells #[z] n).toList=List.replicate n z:=by
  apply List.ext_getElem?
  intro i;by_cases hi:i < n
  ·simp[madeCells,hi,Nat.mod_one]
  ·simp[madeCells,hi]
 rw[e] at h; exact h
def Bf (w:World) (F:Ag) (v:Value) (n:Nd):Prop :=
 ∃ v3 v4 v5,v = .agg #[.int .i64 n.kind,.int .i64 n.aI,.int .i64 n.info,v3,v4,v5]∧Ak w F v3 n.next∧Ak w F v4 n.weights∧Ak w F v5 n.pay
theorem Bf.keep {w w':World} {F G:Ag} {v:Value} {n:Nd} (h:Bf w F v n) (hFG:∀ b,F b→b < w.heap.size→G b) (hs:Same F w w'):Bf w' G v n:=by
 obtain⟨v3,v4,v5,rfl,h3,h4,h5⟩:=h;exact⟨v3,v4,v5,rfl,h3.keep hFG hs,h4.keep hFG hs,h5.keep hFG hs⟩
theorem Ak.on {w w':World} {F:Ag} {v:Value} {l:List Int} (h:Ak w F v l) (hs:Same F w w'):Ak w' F v l:=h.keep (fun _ h _=>h) hs
theorem AQ.on {w w':World} {F:Ag} {v:Value} {l:List Bool} (h:AQ w F v l) (hs:Same F w w'):AQ w' F v l:=h.keep (fun _ h _=>h) hs
theorem Bq.on {w w':World} {F:Ag} {v:Value} {l:List (List Int)} (h:Bq w F v l) (hs:Same F w w'):Bq w' F v l:=h.keep (fun _ h _=>h) hs
theorem AO.on {w w':World} {F:Ag} {v:Value} {l:List Nd} (h:AO w F v l) (hs:Same F w w'):AO w' F v l:=h.keep (fun _ h _=>h) hs
theorem AY.on {w w':World} {F:Ag} {v:Value} {l:List Inf} (h:AY w F v l) (hs:Same F w w'):AY w' F v l:=h.keep (fun _ h _=>h) hs
theorem Az.on {w w':World} {F:Ag} {v:Value} {g:Gm} (h:Az w F v g) (hs:Same F w w'):Az w' F v g:=h.keep (fun _ h _=>h) hs
theorem Bf.on {w w':World} {F:Ag} {v:Value} {n:Nd} (h:Bf w F v n) (hs:Same F w w'):Bf w' F v n:=h.keep (fun _ h _=>h) hs
theorem aF {B:Nat} {a w:World} (h:Below B a w) (n:Nat):Below B a (w.drewN n):=⟨h.os,h.tape,h.output,h.size,h.block⟩
theorem Row.dN {w:World} {b:Nat} {t:TypeId} {vs:List Value} (h:Row w b t vs) (n:Nat):Row (w.drewN n) b t vs:=h
theorem aA {B:Nat} {w w':World} (h:Below B w w'):∀ b o,b < B→w'.cell? ⟨b,o,none⟩=w.cell? ⟨b,o,none⟩:=fun b o hb=>h.cell (p:=⟨b,o,none⟩) hb
theorem Row.ints {w:World} {b:Nat} {t:TypeId} {l:List Int} (h:Row w b t (l.map (Value.int .i64))) {F:Ag} (hF:F b) {c:Nat} (hc:l.length≤c):Ak w F (.slice (some ⟨b,0,none⟩) l.length c) l :=
 ⟨_,c,rfl,hc,fun _=>⟨b,0,rfl,hF,h.lt,fun k x hk=>by unfold fF; simp only[Nat.mul_one,Nat.zero_add]; exact h.cell (by simp[hk])⟩⟩
theorem Row.bools {w:World} {b:Nat} {t:TypeId} {l:List Bool} (h:Row w b t (l.map Value.bool)) {F:Ag} (hF:F b) {c:Nat} (hc:l.length≤c):AQ w F (.slice (some ⟨b,0,none⟩) l.length c) l :=
 ⟨_,c,rfl,hc,fun _=>⟨b,0,rfl,hF,h.lt,fun k x hk=>by unfold qm; simp only[Nat.mul_one,Nat.zero_add]; exact h.cell (by simp[hk])⟩⟩
theorem eX {P:Program} (w:World) {ops:Array Oper} {rest:List Oper} {o:Oper} {a:Act} {Q:Exit→Act→World→Prop}
  (hg:o.guard=none) (l c:Operand) (t:TypeId) (hop:o.op=Op.makeSlice t l c)
  (e:TypeId) (z:Value) (bytes:Nat) (ht:P.underlying t=some (.slice e)) (hinfo:(P.info? e).map (fun i=>(i.zero,i.size,i.bytes))=some (some z,1,bytes)) (hz1:z.cells = #[z])
  (n:Nat) (hl:a.eval l = .int .i64 (n:Int)) (hc:a.eval c = .int .i64 (n:Int)) (hn:n≤1000000) (hb:bytes≤1000)
  (hK:∀ w1,Below w.heap.size w w1→w1.heap.size=w.heap.size+1→Row w1 w.heap.size e (List.replicate n z) →
   wpList P ops Q rest (a.put o.dst (.slice (some ⟨w.heap.size,0,none⟩) n n)) w1) :
  wpList P ops Q (o :: rest) a w:=by
 refine wpList_plain hg fun K hK'=>?_
 have hbytes:bytes*n≤281474976710656:=by
  have:bytes*n≤1000*1000000:=Nat.mul_le_mul hb hn;omega
 have hrun:=run_make_row' (P:=P) t e z bytes ht hinfo hz1 .i64 .i64 n hbytes (by omega) w;unfold Oper.wp;simp[execOp,hop,hl,hc,hrun,Result.andThen];have hbel:Below w.heap.size w (w.alloc (.cells (madeCells #[z] n) e)):=(Below.refl _ _).alloc (Nat.le_refl _) _;exact hK' _ _ (hK _ hbel (by simp) (Row.made w z n e))
theorem Tryz.infoInt:(Tryz.prog.info? 3).map (fun i=>(i.zero,i.size,i.bytes))=some (some (.int .i64 0),1,8):=by kernel_rfl
theorem Tryz.infoBool:(Tryz.prog.info? 4).map (fun i=>(i.zero,i.size,i.bytes))=some (some (.bool false),1,1):=by kernel_rfl
theorem Tryz.infoInts:(Tryz.prog.info? 26).map (fun i=>(i.zero,i.size,i.bytes))=some (some (.slice none 0 0),1,24):=by kernel_rfl
def Ret (w:World) (R:Value→World→Prop) (e:Ending) (w':World):Prop:=∃ v,e = .returned v∧Below w.heap.size w w'∧R v w'
theorem iY {α:Type} {l:List α} {p:α→Bool} {k:Nat} {x:α} (h:l[k]? = some x) (hn:(l.take k).any p=false) (hx:p x=false):(l.take (k+1)).any p=false:=by
 rw[take_snoc h,List.any_append]; simp[hn,hx]
def iV (l:List Int) (i:Int) (p:List Int):List Int:=l.foldl (fun p c=>p.set c.toNat i) p
def jW (nodes:List Nd):Nat→List Int
 | 0=>(List.replicate nodes.length 0).set 0 (-1)
 | k+1=>match nodes[k]? with
  | some n=>iV n.next k (jW nodes k)
  | none=>jW nodes k
def dV (nodes:List Nd):List Int:=jW nodes nodes.length
theorem abl {l:List Int} {i:Int} {p:List Int} {k:Nat} {c:Int} (h:l[k]? = some c):iV (l.take (k+1)) i p=(iV (l.take k) i p).set c.toNat i:=by
 rw[take_snoc h]; simp[iV,List.foldl_append]
theorem qB (l:List Int) (i:Int) (p:List Int):(iV l i p).length=p.length:=by
 unfold iV;induction l generalizing p with
 | nil=>rfl
 | cons c l ih=>simp only[List.foldl_cons]; rw[ih]; simp
theorem fP (nodes:List Nd) (k:Nat):(jW nodes k).length=nodes.length:=by
 induction k with
 | zero=>simp[jW]
 | succ k ih =>
  unfold jW;split
  ·rw[qB,ih]
  ·exact ih
theorem tJ {nodes:List Nd} {k:Nat} {n:Nd} (h:nodes[k]? = some n):jW nodes (k+1)=iV n.next k (jW nodes k):=by
 simp[jW,h]
theorem aag {l:List Int} {i:Int} {p:List Int} {n:Nat} (hi:0≤i∧i < n) (hp:∀ k x,p[k]? = some x→k≠0→0≤x∧x < (n:Int)):∀ k x,(iV l i p)[k]? = some x→k≠0→0≤x∧x < (n:Int):=by
 unfold iV;induction l generalizing p with
 | nil=>exact hp
 | cons c l ih =>
  simp only[List.foldl_cons];refine ih fun k x hk h0=>?_
  rw[List.getElem?_set] at hk;split at hk
  ·split at hk
   ·cases hk; exact hi
   ·cases hk
  ·exact hp k x hk h0
theorem ach (nodes:List Nd) (k:Nat) (hk:k≤nodes.length):∀ i x,(jW nodes k)[i]? = some x→i≠0→0≤x∧x < (nodes.length:Int):=by
 induction k with
 | zero =>
  intro i x hi h0;unfold jW at hi;rw[List.getElem?_set_ne (by omega)] at hi;have:=aG hi;simp at this;simp[this] at hi;omega
 | succ k ih =>
  obtain⟨n,hn⟩:=ak (l:=nodes) (k:=k) (by omega);rw[tJ hn];exact aag ⟨by omega,by omega⟩ (ih (by omega))
def jL (roots:List Int) (l:List Bool):List Bool:=roots.foldl (fun l r=>l.set r.toNat true) l
def yH (par:List Int) (l:List Bool) (i:Nat):List Bool:=l.set i (l.getD i false||l.getD (par.getD i 0).toNat false)
def uN (par:List Int) (l:List Bool) (m:Nat):List Bool:=(List.range' 1 (m - 1)).foldl (yH par) l
def jo (nodes:List Nd) (roots:List Int):List Bool:=uN (dV nodes) (jL roots (List.replicate nodes.length false)) nodes.length
theorem adG {l:List Int} {p:List Bool} {k:Nat} {c:Int} (h:l[k]? = some c):jL (l.take (k+1)) p=(jL (l.take k) p).set c.toNat true:=by
 rw[take_snoc h]; simp[jL,List.foldl_append]
theorem lU (l:List Int) (p:List Bool):(jL l p).length=p.length:=by
 unfold jL;induction l generalizing p with
 | nil=>rfl
 | cons c l ih=>simp only[List.foldl_cons]; rw[ih]; simp
theorem aaN (par:List Int) (l:List Bool) (m:Nat) (h:1≤m):uN par l (m+1)=yH par (uN par l m) m:=by
 unfold uN;have:m+1 - 1=(m - 1)+1:=by omega
 rw[this,List.range'_concat,List.foldl_append];simp
 rw[show 1+(m - 1)=m by omega]
theorem qE (par:List Int) (l:List Bool) (m:Nat):(uN par l m).length=l.length:=by
 unfold uN;generalize List.range' 1 (m - 1)=r;induction r generalizing l with
 | nil=>rfl
 | cons c r ih=>simp only[List.foldl_cons]; rw[ih]; simp[yH]
def CQ (nodes:List Nd):Prop:=∀ n∈nodes,∀ c∈n.next,0≤c∧c < (nodes.length:Int)
structure Small (g:Gm):Prop where
 nodes:g.nodes.length≤100
 infos:g.infos.length≤100
 next:∀ n∈g.nodes,n.next.length≤100
 weights:∀ n∈g.nodes,n.weights.length≤100
 pay:∀ n∈g.nodes,n.pay.length≤100
theorem gQ {α:Type} {l1 l2:List α} {k:Nat} {x:α} (h1:l1[k]? = some x) (h2:l2[k]? = some x) (h:l1.take k=l2.take k):l1.take (k+1)=l2.take (k+1):=by
 rw[take_snoc h1,take_snoc h2,h]
theorem bJ (w:World) (F:Ag) (v1 v2:Value) (l1 l2:List Int) (h1:Ak w F v1 l1) (h2:Ak w F v2 l2) (hl1:l1.length < 1000000) (hl2:l2.length < 1000000) :
  Calls Tryz.prog 37 #[v1,v2] w fun e w'=>e = .returned (.bool (decide (l1=l2)))∧∃ n,w'=w.drewN n:=by
 obtain⟨A1,c1,rfl,hc1,r1⟩:=h1;obtain⟨A2,c2,rfl,hc2,r2⟩:=h2;by_cases hl:l1.length=l2.length
 ·have R1:=Ac r1; clear r1;have R2:=Ac r2; clear r2;have HL:=Ac hl;have hb:((l1.length:Int) != (l2.length:Int))=false:=by simp[hl]
  clear hl;go_enter Tryz.func37,Tryz.ntmps37;go_wp2
  go_loopw [5] (fun i wr=>∃ k:Nat,k≤l1.length∧i = .int .i64 k∧l1.take k=l2.take k∧∃ n,wr=w.drewN n) (fun i _=>l1.length - (intOf i).toNat)
  case atStart=>exact⟨0,by omega,rfl,by simp,0,rfl⟩
  case round =>
   obtain⟨k,hk,rfl,hpre,n,rfl⟩:=hrel;have HP:=Ac hpre; clear hpre;by_cases hlt:k < l1.length
   ·obtain⟨b1,o1,rfl,hb1,_,hcell1⟩:=R1.out (by omega);have hk2:k < l2.length:=by have:=HL.out; omega
    obtain⟨b2,o2,rfl,hb2,_,hcell2⟩:=R2.out (by omega);obtain⟨x,hx⟩:=ak hlt;obtain⟨y,hy⟩:=ak hk2;have e1:=hcell1 k x hx;have e2:=hcell2 k y hy;unfold fF at e1 e2;rw[Nat.mul_one] at e1 e2;clear hcell1 hcell2;have HX:=Ac hx; clear hx;have HY:=Ac hy; clear hy;by_cases he:x=y
    ·subst he;go_wp2
     go_quiet (fail)
     go_wp2
     go_roundw
     case rel=>exact⟨k+1,by omega,by go_num,gQ HX.out HY.out HP.out,_,rfl⟩
     case measure=>simp[intOf]; omega
    ·have hne:(x != y)=true:=by simp[he]
     have hfin:decide (l1=l2)=false:=by
      simp only[decide_eq_false_iff_not]; rintro rfl;have h3:=HX.out; rw[HY.out] at h3; cases h3; exact he rfl
     have HF:=Ac hfin; clear hfin he;go_wp2
     go_quiet (fail)
     go_wp2
     go_ret;exact⟨by rw[HF.out]; rfl,n+nq,by rw[World.drewN_drewN]⟩
   ·go_wp2
    go_ret;have:k=l1.length:=by omega
    have h3:=HP.out;have h4:=HL.out;refine⟨?_,_,rfl⟩;have h5:l1=l2:=by
     rw[List.take_of_length_le (by omega),List.take_of_length_le (by omega)] at h3; exact h3
    simp[h5]
 ·have hb:((l1.length:Int) != (l2.length:Int))=true:=by simp; omega
  go_enter Tryz.func37,Tryz.ntmps37;go_wp2
  go_ret;refine⟨?_,0,rfl⟩;have:l1≠l2:=by rintro rfl; exact hl rfl
  simp[this]
theorem rY (w:World) (F:Ag) (v1 v2:Value) (l1 l2:List Inf) (h1:AY w F v1 l1) (h2:AY w F v2 l2) (hl1:l1.length < 1000000) (hl2:l2.length < 1000000) :
  Calls Tryz.prog 79 #[v1,v2] w fun e w'=>e = .returned (.bool (decide (l1=l2)))∧∃ n,w'=w.drewN n:=by
 obtain⟨A1,c1,rfl,hc1,r1⟩:=h1;obtain⟨A2,c2,rfl,hc2,r2⟩:=h2;by_cases hl:l1.length=l2.length
 ·have R1:=Ac r1; clear r1;have R2:=Ac r2; clear r2;have HL:=Ac hl;have hb:((l1.length:Int) != (l2.length:Int))=false:=by simp[hl]
  clear hl;go_enter Tryz.func79,Tryz.ntmps79;go_wp2
  go_loopw [5] (fun i wr=>∃ k:Nat,k≤l1.length∧i = .int .i64 k∧l1.take k=l2.take k∧∃ n,wr=w.drewN n) (fun i _=>l1.length - (intOf i).toNat)
  case atStart=>exact⟨0,by omega,rfl,by simp,0,rfl⟩
  case round =>
   obtain⟨k,hk,rfl,hpre,n,rfl⟩:=hrel;have HP:=Ac hpre; clear hpre;by_cases hlt:k < l1.length
   ·obtain⟨b1,o1,rfl,hb1,_,hcell1⟩:=R1.out (by omega);have hk2:k < l2.length:=by have:=HL.out; omega
    obtain⟨b2,o2,rfl,hb2,_,hcell2⟩:=R2.out (by omega);obtain⟨x,hx⟩:=ak hlt;obtain⟨y,hy⟩:=ak hk2;have e1:=hcell1 k x hx;have e2:=hcell2 k y hy;obtain⟨e10,e11⟩:=e1;obtain⟨e20,e21⟩:=e2;clear hcell1 hcell2;obtain⟨xp,xa⟩:=x;obtain⟨yp,ya⟩:=y;dsimp only at e10 e11 e20 e21;have HX:=Ac hx; clear hx;have HY:=Ac hy; clear hy;by_cases he:xp=yp∧xa=ya
    ·obtain⟨rfl,rfl⟩:=he;go_wp2
     go_quiet (fail)
     go_wp2
     go_roundw
     case rel=>exact⟨k+1,by omega,by go_num,gQ HX.out HY.out HP.out,_,rfl⟩
     case measure=>simp[intOf]; omega
    ·have hfin:decide (l1=l2)=false:=by
      simp only[decide_eq_false_iff_not]; rintro rfl;have h3:=HX.out; rw[HY.out] at h3; cases h3; exact he ⟨rfl,rfl⟩
     have HF:=Ac hfin; clear hfin;by_cases h1:xp=yp
     ·subst h1;have hne:(xa==ya)=false:=by simp; exact fun h2=>he ⟨rfl,h2⟩
      clear he;go_wp2
      go_quiet (fail)
      go_wp2
      go_ret;exact⟨by rw[HF.out]; rfl,n+nq,by rw[World.drewN_drewN]⟩
     ·have hne:(xp==yp)=false:=by simp[h1]
      clear he h1;go_wp2
      go_quiet (fail)
      go_wp2
      go_ret;exact⟨by rw[HF.out]; rfl,n+nq,by rw[World.drewN_drewN]⟩
   ·go_wp2
    go_ret;have:k=l1.length:=by omega
    have h3:=HP.out;have h4:=HL.out;refine⟨?_,_,rfl⟩;have h5:l1=l2:=by
     rw[List.take_of_length_le (by omega),List.take_of_length_le (by omega)] at h3; exact h3
    simp[h5]
 ·have hb:((l1.length:Int) != (l2.length:Int))=true:=by simp; omega
  go_enter Tryz.func79,Tryz.ntmps79;go_wp2
  go_ret;refine⟨?_,0,rfl⟩;have:l1≠l2:=by rintro rfl; exact hl rfl
  simp[this]
theorem afg (a b:Nd):a=b↔a.kind=b.kind∧a.aI=b.aI∧a.info=b.info∧a.next=b.next∧a.weights=b.weights∧a.pay=b.pay:=by
 cases a; cases b; simp
theorem aS (w:World) (a b:Obj) (n:Nat):Below w.heap.size w (((w.alloc a).alloc b).drewN n):=by
 have h:=(((Below.refl w.heap.size w).alloc (Nat.le_refl _) a).alloc (by simp) b);exact⟨h.os,h.tape,h.output,h.size,h.block⟩
theorem rZ (w:World) (F:Ag) (u1 u2:Value) (n1 n2:Nd) (h1:Bf w F u1 n1) (h2:Bf w F u2 n2)
  (hl1:n1.next.length < 1000000∧n1.weights.length < 1000000∧n1.pay.length < 1000000) (hl2:n2.next.length < 1000000∧n2.weights.length < 1000000∧n2.pay.length < 1000000) :
  Calls Tryz.prog 80 #[u1,u2] w (Ret w fun v _=>v = .bool (decide (n1=n2))):=by
 obtain⟨v3,v4,v5,rfl,h13,h14,h15⟩:=h1;obtain⟨u3,u4,u5,rfl,h23,h24,h25⟩:=h2;obtain⟨hl13,hl14,hl15⟩:=hl1;obtain⟨hl23,hl24,hl25⟩:=hl2;have H13:=Ac h13; clear h13;have H14:=Ac h14; clear h14;have H15:=Ac h15; clear h15;have H23:=Ac h23; clear h23;have H24:=Ac h24; clear h24;have H25:=Ac h25; clear h25;have HE:=Ac (afg n1 n2);by_cases q0:n1.kind=n2.kind
 case neg =>
  have d0:(n1.kind==n2.kind)=false:=by simp[q0]
  have HF:=Ac (show decide (n1=n2)=false by simp only[decide_eq_false_iff_not]; exact fun h=>q0 (HE.out.1 h).1);clear q0;go_enter Tryz.func80,Tryz.ntmps80;go_wp2
  go_ret;exact⟨_,rfl,aS _ _ _ 0,by rw[HF.out]; rfl⟩
 have d0:(n1.kind==n2.kind)=true:=by simp[q0]
 have Q0:=Ac q0; clear q0;by_cases q1:n1.aI=n2.aI
 case neg =>
  have d1:(n1.aI==n2.aI)=false:=by simp[q1]
  have HF:=Ac (show decide (n1=n2)=false by simp only[decide_eq_false_iff_not]; exact fun h=>q1 (HE.out.1 h).2.1);clear q1;go_enter Tryz.func80,Tryz.ntmps80;go_wp2
  go_ret;exact⟨_,rfl,aS _ _ _ 0,by rw[HF.out]; rfl⟩
 have d1:(n1.aI==n2.aI)=true:=by simp[q1]
 have Q1:=Ac q1; clear q1;by_cases q2:n1.info=n2.info
 case neg =>
  have d2:(n1.info==n2.info)=false:=by simp[q2]
  have HF:=Ac (show decide (n1=n2)=false by simp only[decide_eq_false_iff_not]; exact fun h=>q2 (HE.out.1 h).2.2.1);clear q2;go_enter Tryz.func80,Tryz.ntmps80;go_wp2
  go_ret;exact⟨_,rfl,aS _ _ _ 0,by rw[HF.out]; rfl⟩
 have d2:(n1.info==n2.info)=true:=by simp[q2]
 have Q2:=Ac q2; clear q2;by_cases q3:n1.next=n2.next
 case neg =>
  have d3:decide (n1.next=n2.next)=false:=by simp[q3]
  have HF:=Ac (show decide (n1=n2)=false by simp only[decide_eq_false_iff_not]; exact fun h=>q3 (HE.out.1 h).2.2.2.1);clear q3;go_enter Tryz.func80,Tryz.ntmps80;go_wp2_with (first | (go_at_call 37; (with_reducible refine(bJ _ F _ _ n1.next n2.next (H13.out.on ?_) (H23.out.on ?_) hl13 hl23).mono ?_); exact(by repeat (first | exact Same.refl _ _ | exact Same.drewN _ _ _ | exact Same.alloc _ _ _ | refine Same.trans ?_ (Same.drewN _ _ _) | refine Same.trans ?_ (Same.alloc _ _ _))); exact(by repeat (first | exact Same.refl _ _ | exact Same.drewN _ _ _ | exact Same.alloc _ _ _ | refine Same.trans ?_ (Same.drewN _ _ _) | refine Same.trans ?_ (Same.alloc _ _ _))); rintro e w' ⟨rfl,m,rfl⟩) | (go_at_call 37; (with_reducible refine(bJ _ F _ _ n1.weights n2.weights (H14.out.on ?_) (H24.out.on ?_) hl14 hl24).mono ?_); exact(by repeat (first | exact Same.refl _ _ | exact Same.drewN _ _ _ | exact Same.alloc _ _ _ | refine Same.trans ?_ (Same.drewN _ _ _) | refine Same.trans ?_ (Same.alloc _ _ _))); exact(by repeat (first | exact Same.refl _ _ | exact Same.drewN _ _ _ | exact Same.alloc _ _ _ | refine Same.trans ?_ (Same.drewN _ _ _) | refine Same.trans ?_ (Same.alloc _ _ _))); rintro e w' ⟨rfl,m,rfl⟩) | (go_at_call 37; (with_reducible refine(bJ _ F _ _ n1.pay n2.pay (H15.out.on ?_) (H25.out.on ?_) hl15 hl25).mono ?_); exact(by repeat (first | exact Same.refl _ _ | exact Same.drewN _ _ _ | exact Same.alloc _ _ _ | refine Same.trans ?_ (Same.drewN _ _ _) | refine Same.trans ?_ (Same.alloc _ _ _))); exact(by repeat (first | exact Same.refl _ _ | exact Same.drewN _ _ _ | exact Same.alloc _ _ _ | refine Same.trans ?_ (Same.drewN _ _ _) | refine Same.trans ?_ (Same.alloc _ _ _))); rintro e w' ⟨rfl,m,rfl⟩))
  go_ret;exact⟨_,rfl,aS _ _ _ _,by rw[HF.out]; rfl⟩
 have d3:decide (n1.next=n2.next)=true:=by simp[q3]
 have Q3:=Ac q3; clear q3;by_cases q4:n1.weights=n2.weights
 case neg =>
  have d4:decide (n1.weights=n2.weights)=false:=by simp[q4]
  have HF:=Ac (show decide (n1=n2)=false by simp only[decide_eq_false_iff_not]; exact fun h=>q4 (HE.out.1 h).2.2.2.2.1);clear q4;go_enter Tryz.func80,Tryz.ntmps80;go_wp2_with (first | (go_at_call 37; (with_reducible refine(bJ _ F _ _ n1.next n2.next (H13.out.on ?_) (H23.out.on ?_) hl13 hl23).mono ?_); exact(by repeat (first | exact Same.refl _ _ | exact Same.drewN _ _ _ | exact Same.alloc _ _ _ | refine Same.trans ?_ (Same.drewN _ _ _) | refine Same.trans ?_ (Same.alloc _ _ _))); exact(by repeat (first | exact Same.refl _ _ | exact Same.drewN _ _ _ | exact Same.alloc _ _ _ | refine Same.trans ?_ (Same.drewN _ _ _) | refine Same.trans ?_ (Same.alloc _ _ _))); rintro e w' ⟨rfl,m,rfl⟩) | (go_at_call 37; (with_reducible refine(bJ _ F _ _ n1.weights n2.weights (H14.out.on ?_) (H24.out.on ?_) hl14 hl24).mono ?_); exact(by repeat (first | exact Same.refl _ _ | exact Same.drewN _ _ _ | exact Same.alloc _ _ _ | refine Same.trans ?_ (Same.drewN _ _ _) | refine Same.trans ?_ (Same.alloc _ _ _))); exact(by repeat (first | exact Same.refl _ _ | exact Same.drewN _ _ _ | exact Same.alloc _ _ _ | refine Same.trans ?_ (Same.drewN _ _ _) | refine Same.trans ?_ (Same.alloc _ _ _))); rintro e w' ⟨rfl,m,rfl⟩) | (go_at_call 37; (with_reducible refine(bJ _ F _ _ n1.pay n2.pay (H15.out.on ?_) (H25.out.on ?_) hl15 hl25).mono ?_); exact(by repeat (first | exact Same.refl _ _ | exact Same.drewN _ _ _ | exact Same.alloc _ _ _ | refine Same.trans ?_ (Same.drewN _ _ _) | refine Same.trans ?_ (Same.alloc _ _ _))); exact(by repeat (first | exact Same.refl _ _ | exact Same.drewN _ _ _ | exact Same.alloc _ _ _ | refine Same.trans ?_ (Same.drewN _ _ _) | refine Same.trans ?_ (Same.alloc _ _ _))); rintro e w' ⟨rfl,m,rfl⟩))
  go_ret;exact⟨_,rfl,aS _ _ _ _,by rw[HF.out]; rfl⟩
 have d4:decide (n1.weights=n2.weights)=true:=by simp[q4]
 have Q4:=Ac q4; clear q4;by_cases q5:n1.pay=n2.pay
 case neg =>
  have d5:decide (n1.pay=n2.pay)=false:=by simp[q5]
  have HF:=Ac (show decide (n1=n2)=false by simp only[decide_eq_false_iff_not]; exact fun h=>q5 (HE.out.1 h).2.2.2.2.2);clear q5;go_enter Tryz.func80,Tryz.ntmps80;go_wp2_with (first | (go_at_call 37; (with_reducible refine(bJ _ F _ _ n1.next n2.next (H13.out.on ?_) (H23.out.on ?_) hl13 hl23).mono ?_); exact(by repeat (first | exact Same.refl _ _ | exact Same.drewN _ _ _ | exact Same.alloc _ _ _ | refine Same.trans ?_ (Same.drewN _ _ _) | refine Same.trans ?_ (Same.alloc _ _ _))); exact(by repeat (first | exact Same.refl _ _ | exact Same.drewN _ _ _ | exact Same.alloc _ _ _ | refine Same.trans ?_ (Same.drewN _ _ _) | refine Same.trans ?_ (Same.alloc _ _ _))); rintro e w' ⟨rfl,m,rfl⟩) | (go_at_call 37; (with_reducible refine(bJ _ F _ _ n1.weights n2.weights (H14.out.on ?_) (H24.out.on ?_) hl14 hl24).mono ?_); exact(by repeat (first | exact Same.refl _ _ | exact Same.drewN _ _ _ | exact Same.alloc _ _ _ | refine Same.trans ?_ (Same.drewN _ _ _) | refine Same.trans ?_ (Same.alloc _ _ _))); exact(by repeat (first | exact Same.refl _ _ | exact Same.drewN _ _ _ | exact Same.alloc _ _ _ | refine Same.trans ?_ (Same.drewN _ _ _) | refine Same.trans ?_ (Same.alloc _ _ _))); rintro e w' ⟨rfl,m,rfl⟩) | (go_at_call 37; (with_reducible refine(bJ _ F _ _ n1.pay n2.pay (H15.out.on ?_) (H25.out.on ?_) hl15 hl25).mono ?_); exact(by repeat (first | exact Same.refl _ _ | exact Same.drewN _ _ _ | exact Same.alloc _ _ _ | refine Same.trans ?_ (Same.drewN _ _ _) | refine Same.trans ?_ (Same.alloc _ _ _))); exact(by repeat (first | exact Same.refl _ _ | exact Same.drewN _ _ _ | exact Same.alloc _ _ _ | refine Same.trans ?_ (Same.drewN _ _ _) | refine Same.trans ?_ (Same.alloc _ _ _))); rintro e w' ⟨rfl,m,rfl⟩))
  go_ret;exact⟨_,rfl,aS _ _ _ _,by rw[HF.out]; rfl⟩
 have d5:decide (n1.pay=n2.pay)=true:=by simp[q5]
 have Q5:=Ac q5; clear q5;have HF:=Ac (show decide (n1=n2)=true by simp only[decide_eq_true_eq]; exact HE.out.2 ⟨Q0.out,Q1.out,Q2.out,Q3.out,Q4.out,Q5.out⟩);go_enter Tryz.func80,Tryz.ntmps80;go_wp2_with (first | (go_at_call 37; (with_reducible refine(bJ _ F _ _ n1.next n2.next (H13.out.on ?_) (H23.out.on ?_) hl13 hl23).mono ?_); exact(by repeat (first | exact Same.refl _ _ | exact Same.drewN _ _ _ | exact Same.alloc _ _ _ | refine Same.trans ?_ (Same.drewN _ _ _) | refine Same.trans ?_ (Same.alloc _ _ _))); exact(by repeat (first | exact Same.refl _ _ | exact Same.drewN _ _ _ | exact Same.alloc _ _ _ | refine Same.trans ?_ (Same.drewN _ _ _) | refine Same.trans ?_ (Same.alloc _ _ _))); rintro e w' ⟨rfl,m,rfl⟩) | (go_at_call 37; (with_reducible refine(bJ _ F _ _ n1.weights n2.weights (H14.out.on ?_) (H24.out.on ?_) hl14 hl24).mono ?_); exact(by repeat (first | exact Same.refl _ _ | exact Same.drewN _ _ _ | exact Same.alloc _ _ _ | refine Same.trans ?_ (Same.drewN _ _ _) | refine Same.trans ?_ (Same.alloc _ _ _))); exact(by repeat (first | exact Same.refl _ _ | exact Same.drewN _ _ _ | exact Same.alloc _ _ _ | refine Same.trans ?_ (Same.drewN _ _ _) | refine Same.trans ?_ (Same.alloc _ _ _))); rintro e w' ⟨rfl,m,rfl⟩) | (go_at_call 37; (with_reducible refine(bJ _ F _ _ n1.pay n2.pay (H15.out.on ?_) (H25.out.on ?_) hl15 hl25).mono ?_); exact(by repeat (first | exact Same.refl _ _ | exact Same.drewN _ _ _ | exact Same.alloc _ _ _ | refine Same.trans ?_ (Same.drewN _ _ _) | refine Same.trans ?_ (Same.alloc _ _ _))); exact(by repeat (first | exact Same.refl _ _ | exact Same.drewN _ _ _ | exact Same.alloc _ _ _ | refine Same.trans ?_ (Same.drewN _ _ _) | refine Same.trans ?_ (Same.alloc _ _ _))); rintro e w' ⟨rfl,m,rfl⟩))
 go_ret;exact⟨_,rfl,aS _ _ _ _,by rw[HF.out]; rfl⟩
def bU (rec:Nat→Int→Int×Int):List Int→Int→Int→Int×Int
 | [],next,deep=>(next,deep)
 | c :: cs,next,deep=>if c≠next then (-1,deep) else if (rec next.toNat deep).1 < 0 then (-1,(rec next.toNat deep).2) else bU rec cs (rec next.toNat deep).1 (rec next.toNat deep).2
def bH (nodes:List Nd):Nat→Nat→Int→Int→Int×Int
 | 0,_,_,deep=>(-1,deep)
 | f+1,a,depth,deep=>match nodes[a]? with
  | none=>(-1,deep)
  | some n=>bU (fun a d=>bH nodes f a (depth+1) d) n.next ((a:Int)+1) (max deep depth)
theorem qF {rec:Nat→Int→Int×Int} {N lo:Nat} (hrec:∀ a d,lo≤a→(rec a d).1 = -1∨((a:Int) < (rec a d).1∧(rec a d).1≤N)):∀ (cs:List Int) (next deep:Int),(lo:Int)≤next→next≤N →
  (bU rec cs next deep).1 = -1∨((lo:Int)≤(bU rec cs next deep).1∧(bU rec cs next deep).1≤N)
 | [],next,deep,h1,h2=>.inr ⟨h1,h2⟩
 | c :: cs,next,deep,h1,h2=>by
  unfold bU;split
  ·exact .inl rfl
  ·split
   ·exact .inl rfl
   ·rcases hrec next.toNat deep (by omega) with h | h
    ·omega
    ·exact qF hrec cs _ _ (by omega) (by omega)
theorem nO (nodes:List Nd):∀ (f a:Nat) (depth deep:Int),(bH nodes f a depth deep).1 = -1∨((a:Int) < (bH nodes f a depth deep).1∧(bH nodes f a depth deep).1≤nodes.length)
 | 0,_,_,_=>.inl rfl
 | f+1,a,depth,deep=>by
  unfold bH;split
  ·exact .inl rfl
  ·rename_i n hn
   have:=aG hn;rcases qF (rec:=fun a d=>bH nodes f a (depth+1) d) (N:=nodes.length) (lo:=a+1) (fun a' d _=>nO nodes f a' (depth+1) d) n.next ((a:Int)+1) (max deep depth) (by omega) (by omega) with h | h
   ·exact .inl h
   ·exact .inr (by omega)
theorem su {rec:Nat→Int→Int×Int} {D:Int} (hrec:∀ a d,-1≤d→d≤D→-1≤(rec a d).2∧(rec a d).2≤D):∀ (cs:List Int) (next deep:Int),-1≤deep→deep≤D→-1≤(bU rec cs next deep).2∧(bU rec cs next deep).2≤D
 | [],next,deep,h1,h2=>⟨h1,h2⟩
 | c :: cs,next,deep,h1,h2=>by
  unfold bU;have:=hrec next.toNat deep h1 h2
  split
  ·exact⟨h1,h2⟩
  ·split
   ·exact this
   ·exact su hrec cs _ _ this.1 this.2
theorem oV (nodes:List Nd) (D:Int):∀ (f a:Nat) (depth deep:Int),depth+f≤D→-1≤deep→deep≤D→-1≤(bH nodes f a depth deep).2∧(bH nodes f a depth deep).2≤D
 | 0,_,_,_,_,h1,h2=>⟨h1,h2⟩
 | f+1,a,depth,deep,h,h1,h2=>by
  unfold bH;split
  ·exact⟨h1,h2⟩
  ·exact su (fun a' d g1 g2=>oV nodes D f a' (depth+1) d (by omega) g1 g2) _ _ _ (by omega) (by omega)
theorem Same.aci {w w':World} {b:Nat} (h:w.grownBy w' (some b)):Same (fun k=>k≠b) w w':=⟨h.size,fun k hk hl=>h.block k hl (by simpa using hk)⟩
theorem nP {a w:World} {row:Option Nat} (h:a.grownBy w row) (o:Obj):a.grownBy (w.alloc o) row :=
 ⟨h.os,h.tape,h.output,Nat.le_trans h.size (by simp),fun i hi hne=>(Below.heap_alloc w o i (Nat.lt_of_lt_of_le hi h.size)).trans (h.block i hi hne)⟩
theorem grown_setCell {a w:World} {g:Nat} (h:a.grownBy w (some g)) {p:Addr} (hp:p.block=g∨a.heap.size≤p.block) (u:Value):a.grownBy (w.setCell p u) (some g) :=
 ⟨h.os,h.tape,h.output,by simpa using h.size,fun i hi hne=>(Below.heap_setCell w p u i (by
  rintro rfl;rcases hp with hp | hp
  ·exact hne (by rw[hp])
  ·omega)).trans (h.block i hi hne)⟩
theorem mP (w:World) (row:Option Nat):w.grownBy w row:=⟨rfl,rfl,rfl,Nat.le_refl _,fun _ _ _=>rfl⟩
theorem qG {a b c:World} {row:Option Nat} (h:a.grownBy b row) (k:b.grownBy c row):a.grownBy c row :=
 ⟨k.os.trans h.os,k.tape.trans h.tape,k.output.trans h.output,Nat.le_trans h.size k.size,fun i hi hne=>(k.block i (Nat.lt_of_lt_of_le hi h.size) hne).trans (h.block i hi hne)⟩
theorem yI {w w':World} {d:Nat} (h:w.grownBy w' (some d)):∀ b o,b < w.heap.size→b≠d→w'.cell? ⟨b,o,none⟩=w.cell? ⟨b,o,none⟩:=fun b o hb hd=>World.cell?_of_block (h.block b hb (by simpa using hd))
theorem afh (g:Gm) (hsm:Small g):∀ (f a:Nat) (depth deep:Int) (w:World) (bd:Nat) (u:Value),Az w (fun b=>b≠bd) u g→Row w bd 3 [.int .i64 deep]→g.nodes.length < a+f→0≤depth→depth+f≤100000→-1≤deep→deep≤100000 →
  Calls Tryz.prog 96 #[u,.int .i64 a,.int .i64 depth,.pointer (some ⟨bd,0,none⟩)] w fun e w'=>e = .returned (.int .i64 (bH g.nodes f a depth deep).1)∧Row w' bd 3 [.int .i64 (bH g.nodes f a depth deep).2]∧w.grownBy w' (some bd):=by
 intro f;induction f with
 | zero =>
  intro a depth deep w bd u hg hrow hf hd0 hd1 hp0 hp1;obtain⟨vn,vi,rfl,⟨A,c,rfl,hc,hN⟩,⟨Ai,ci,rfl,hci,hI⟩⟩:=hg;clear hN hI;have hge:(g.nodes.length:Int)≤(a:Int):=by omega
  have hn:=hsm.nodes;have BQ:=Ac hrow; clear hrow;go_enter Tryz.func96,Tryz.ntmps96;go_wp2
  go_ret;exact⟨rfl,BQ.out.alloc _,nP (mP _ _) _⟩
 | succ f ih =>
  intro a depth deep w bd u hg hrow hf hd0 hd1 hp0 hp1;have HG:=Ac hg;obtain⟨vn,vi,rfl,⟨A,c,rfl,hc,hN⟩,⟨Ai,ci,rfl,hci,hI⟩⟩:=hg;have HN:=Ac hN; clear hN hI;have IH:=Ac ih; clear ih;have HSM:=Ac hsm;have hn:=hsm.nodes;clear hsm;have hbd:=hrow.lt;have xd:=hrow.cell (i:=0) rfl;have fd:=hrow.frozen 0;have BQ:=Ac hrow; clear hrow;by_cases hlt:a < g.nodes.length
  ·obtain⟨b,o,rfl,hbF,hb,hcell⟩:=HN.out (by omega);obtain⟨n,hn'⟩:=ak hlt;obtain⟨v3,e3,A3,c3,rfl,hc3,i3⟩:=(hcell a n hn').c3;have HX:=Ac hn';have hl3:=HSM.out.next n (List.mem_of_getElem? hn');have H3:=Ac i3; clear i3 hcell hn';have HW:=Ac (show bH g.nodes (f+1) a depth deep=bU (fun a d=>bH g.nodes f a (depth+1) d) n.next ((a:Int)+1) (max deep depth) by
    rw[bH]; simp only[HX.out])
   have hrl:∀ d,(max deep depth:Int)=d→∀ (w':World),Row w' bd 3 [.int .i64 deep]→Row (w'.setCell ⟨bd,0,none⟩ (.int .i64 d)) bd 3 [.int .i64 d]:=fun d _ w' h=>by simpa using h.set 0 (.int .i64 d)
   have HRL:=Ac hrl; clear hrl;by_cases hmx:deep < depth
   ·have HMX:=Ac (show(max deep depth:Int)=depth by omega);have hm0:-1≤depth∧depth≤100000:=by omega
    go_enter Tryz.func96,Tryz.ntmps96;go_wp2
    go_loopw [9,10] (fun nx i wr=>∃ (j:Nat) (next dp:Int),j≤n.next.length∧i = .int .i64 j∧nx = .int .i64 next∧(a:Int) < next∧next≤g.nodes.length∧-1≤dp∧dp≤100000∧Row wr w.heap.size 25 [.int .i64 g.aj,.slice (some ⟨b,o,none⟩) g.nodes.length c,.slice Ai g.infos.length ci]∧Row wr bd 3 [.int .i64 dp]∧w.grownBy wr (some bd)∧bH g.nodes (f+1) a depth deep=bU (fun a d=>bH g.nodes f a (depth+1) d) (n.next.drop j) next dp) (fun _ i _=>n.next.length - (intOf i).toNat)
    case atStart =>
     refine⟨0,(a:Int)+1,depth,by omega,rfl,rfl,by omega,by omega,hm0.1,hm0.2,?_,?_,?_,?_⟩
     ·have:=Row.new (w.setCell ⟨bd,0,none⟩ (.int .i64 depth)) 25 #[.int .i64 g.aj,.slice (some ⟨b,o,none⟩) g.nodes.length c,.slice Ai g.infos.length ci];simpa using this
     ·exact(HRL.out depth HMX.out w BQ.out).alloc _
     ·exact nP (grown_setCell (mP _ _) (.inl rfl) _) _
     ·rw[HW.out,HMX.out]; rfl
    case round =>
     obtain⟨j,next,dp,hj,rfl,rfl,aiD,hnx1,agx,agy,hbx,hrw,hgr,hval⟩:=hrel;have HV:=Ac hval; clear hval;have x1:=hbx.cell (i:=1) rfl;have x0:=hbx.cell (i:=0) rfl;have x2:=hbx.cell (i:=2) rfl;have hold:=yI hgr;by_cases hjt:j < n.next.length
     ·obtain⟨ch,hch⟩:=ak hjt;obtain⟨b3,o3,rfl,hb3,agz,hx3⟩:=H3.out (by omega);have ec:=hx3 j ch hch;unfold fF at ec; rw[Nat.mul_one] at ec;have HD:=Ac (show n.next.drop j=ch :: n.next.drop (j+1) by rw[List.drop_eq_getElem_cons hjt]; congr 1; simpa [hjt] using hch);clear hch hx3;by_cases hne:ch=next
      ·subst hne;obtain⟨q,rfl⟩:=Int.eq_ofNat_of_zero_le (show 0≤ch by omega);have hbd2:=nO g.nodes f q (depth+1) dp;have HV2:=Ac (show bU (fun a d=>bH g.nodes f a (depth+1) d) (n.next.drop j) (q:Int) dp=if (bH g.nodes f q (depth+1) dp).1 < 0 then (-1,(bH g.nodes f q (depth+1) dp).2) else bU (fun a d=>bH g.nodes f a (depth+1) d) (n.next.drop (j+1)) (bH g.nodes f q (depth+1) dp).1 (bH g.nodes f q (depth+1) dp).2 by
        rw[HD.out]; simp[bU])
       have HBD:=Ac hbd2; clear hbd2;go_wp2_with fail
       refine(IH.out q (depth+1) dp wr bd _ (HG.out.on (Same.aci hgr)) hrw (by omega) (by omega) (by omega) agx agy).mono ?_;rintro e w' ⟨rfl,adH,fC⟩;have hdd:=oV g.nodes 100000 f q (depth+1) dp (by omega) agx agy;have kT:Row w' w.heap.size _ _:=hbx.of_block (fC.block _ hbx.lt (by simp; omega));have hgg:=qG hgr fC;have hbb:=HBD.out;have HV3:=Ac (HV.out.trans HV2.out);generalize bH g.nodes f q (depth+1) dp=rr at *;obtain⟨rn,rd⟩:=rr;dsimp only at adH hdd hbb HV3 ⊢;clear HV2 HBD hold x0 x1 x2 hbx hrw hgr fC;by_cases hng:rn < 0
       ·have HF:=Ac (show bH g.nodes (f+1) a depth deep=(-1,rd) by rw[HV3.out,if_pos hng]);go_wp2
        go_ret;exact⟨by rw[HF.out]; rfl,by rw[HF.out]; exact adH,hgg⟩
       ·go_wp2
        go_roundw
        case rel=>exact⟨j+1,rn,rd,by omega,by go_num,rfl,by omega,by omega,hdd.1,hdd.2,kT,adH,hgg,by rw[HV3.out,if_neg hng]⟩
        case measure=>simp[intOf]; omega
      ·have hd:(ch != next)=true:=by simp[hne]
       have HF:=Ac (show bH g.nodes (f+1) a depth deep=(-1,dp) by rw[HV.out,HD.out]; simp[bU,hne]);clear hne;go_wp2
       go_ret;exact⟨by rw[HF.out]; rfl,by rw[HF.out]; exact hrw,hgr⟩
     ·go_wp2
      go_ret;have HF:bH g.nodes (f+1) a depth deep=(next,dp):=by rw[HV.out,List.drop_eq_nil_of_le (by omega)]; rfl
      exact⟨by rw[HF]; rfl,by rw[HF]; exact hrw,hgr⟩
   ·have HMX:=Ac (show(max deep depth:Int)=deep by omega);have hm0:-1≤deep∧deep≤100000:=by omega
    go_enter Tryz.func96,Tryz.ntmps96;go_wp2
    go_loopw [9,10] (fun nx i wr=>∃ (j:Nat) (next dp:Int),j≤n.next.length∧i = .int .i64 j∧nx = .int .i64 next∧(a:Int) < next∧next≤g.nodes.length∧-1≤dp∧dp≤100000∧Row wr w.heap.size 25 [.int .i64 g.aj,.slice (some ⟨b,o,none⟩) g.nodes.length c,.slice Ai g.infos.length ci]∧Row wr bd 3 [.int .i64 dp]∧w.grownBy wr (some bd)∧bH g.nodes (f+1) a depth deep=bU (fun a d=>bH g.nodes f a (depth+1) d) (n.next.drop j) next dp) (fun _ i _=>n.next.length - (intOf i).toNat)
    case atStart =>
     refine⟨0,(a:Int)+1,deep,by omega,rfl,rfl,by omega,by omega,hm0.1,hm0.2,?_,?_,?_,?_⟩
     ·have:=Row.new (w.setCell ⟨bd,0,none⟩ (.int .i64 deep)) 25 #[.int .i64 g.aj,.slice (some ⟨b,o,none⟩) g.nodes.length c,.slice Ai g.infos.length ci];simpa using this
     ·exact(HRL.out deep HMX.out w BQ.out).alloc _
     ·exact nP (grown_setCell (mP _ _) (.inl rfl) _) _
     ·rw[HW.out,HMX.out]; rfl
    case round =>
     obtain⟨j,next,dp,hj,rfl,rfl,aiD,hnx1,agx,agy,hbx,hrw,hgr,hval⟩:=hrel;have HV:=Ac hval; clear hval;have x1:=hbx.cell (i:=1) rfl;have x0:=hbx.cell (i:=0) rfl;have x2:=hbx.cell (i:=2) rfl;have hold:=yI hgr;by_cases hjt:j < n.next.length
     ·obtain⟨ch,hch⟩:=ak hjt;obtain⟨b3,o3,rfl,hb3,agz,hx3⟩:=H3.out (by omega);have ec:=hx3 j ch hch;unfold fF at ec; rw[Nat.mul_one] at ec;have HD:=Ac (show n.next.drop j=ch :: n.next.drop (j+1) by rw[List.drop_eq_getElem_cons hjt]; congr 1; simpa [hjt] using hch);clear hch hx3;by_cases hne:ch=next
      ·subst hne;obtain⟨q,rfl⟩:=Int.eq_ofNat_of_zero_le (show 0≤ch by omega);have hbd2:=nO g.nodes f q (depth+1) dp;have HV2:=Ac (show bU (fun a d=>bH g.nodes f a (depth+1) d) (n.next.drop j) (q:Int) dp=if (bH g.nodes f q (depth+1) dp).1 < 0 then (-1,(bH g.nodes f q (depth+1) dp).2) else bU (fun a d=>bH g.nodes f a (depth+1) d) (n.next.drop (j+1)) (bH g.nodes f q (depth+1) dp).1 (bH g.nodes f q (depth+1) dp).2 by
        rw[HD.out]; simp[bU])
       have HBD:=Ac hbd2; clear hbd2;go_wp2_with fail
       refine(IH.out q (depth+1) dp wr bd _ (HG.out.on (Same.aci hgr)) hrw (by omega) (by omega) (by omega) agx agy).mono ?_;rintro e w' ⟨rfl,adH,fC⟩;have hdd:=oV g.nodes 100000 f q (depth+1) dp (by omega) agx agy;have kT:Row w' w.heap.size _ _:=hbx.of_block (fC.block _ hbx.lt (by simp; omega));have hgg:=qG hgr fC;have hbb:=HBD.out;have HV3:=Ac (HV.out.trans HV2.out);generalize bH g.nodes f q (depth+1) dp=rr at *;obtain⟨rn,rd⟩:=rr;dsimp only at adH hdd hbb HV3 ⊢;clear HV2 HBD hold x0 x1 x2 hbx hrw hgr fC;by_cases hng:rn < 0
       ·have HF:=Ac (show bH g.nodes (f+1) a depth deep=(-1,rd) by rw[HV3.out,if_pos hng]);go_wp2
        go_ret;exact⟨by rw[HF.out]; rfl,by rw[HF.out]; exact adH,hgg⟩
       ·go_wp2
        go_roundw
        case rel=>exact⟨j+1,rn,rd,by omega,by go_num,rfl,by omega,by omega,hdd.1,hdd.2,kT,adH,hgg,by rw[HV3.out,if_neg hng]⟩
        case measure=>simp[intOf]; omega
      ·have hd:(ch != next)=true:=by simp[hne]
       have HF:=Ac (show bH g.nodes (f+1) a depth deep=(-1,dp) by rw[HV.out,HD.out]; simp[bU,hne]);clear hne;go_wp2
       go_ret;exact⟨by rw[HF.out]; rfl,by rw[HF.out]; exact hrw,hgr⟩
     ·go_wp2
      go_ret;have HF:bH g.nodes (f+1) a depth deep=(next,dp):=by rw[HV.out,List.drop_eq_nil_of_le (by omega)]; rfl
      exact⟨by rw[HF]; rfl,by rw[HF]; exact hrw,hgr⟩
  ·have hge:(g.nodes.length:Int)≤(a:Int):=by omega
   have HF:=Ac (show bH g.nodes (f+1) a depth deep=(-1,deep) by
    rw[bH]; rw[List.getElem?_eq_none (by omega)])
   go_enter Tryz.func96,Tryz.ntmps96;go_wp2
   go_ret;exact⟨by rw[HF.out]; rfl,by rw[HF.out]; exact BQ.out.alloc _,nP (mP _ _) _⟩
def CJ (w:World) (fid:FuncId) (caps:Array Value) (l:List Int) (p:Int→Bool):Prop :=
 (∀ (args:Array Value) (w':World),(callFunc fid args).run Tryz.prog w' = .ok (.enter fid args) w') ∧
 ∀ (n:Nat) (x:Int),x∈l→Calls Tryz.prog fid (#[.int .i64 x]++caps) (w.drewN n) fun e w'=>e = .returned (.bool (p x))∧∃ m,w'=w.drewN m
def idxOf (p:Int→Bool) (l:List Int):Int:=match l.findIdx? p with | some i=>(i:Int) | none=>-1
theorem idxOf_hit {p:Int→Bool} {l:List Int} {k:Nat} {x:Int} (h:l[k]? = some x) (hp:p x=true) (hn:(l.take k).any p=false):idxOf p l=k:=by
 have hk:=aG h;have:l.findIdx? p=some k:=by
  rw[List.findIdx?_eq_some_iff_getElem];refine⟨hk,?_,fun j hj=>?_⟩
  ·have:l[k]=x:=by simpa [hk] using h
   rw[this]; exact hp
  ·have h1:=List.any_eq_false.1 hn l[j] (by rw[List.mem_take_iff_getElem]; exact⟨j,by omega,rfl⟩);simpa using h1
 simp[idxOf,this]
theorem yJ {p:Int→Bool} {l:List Int} (hn:l.any p=false):idxOf p l = -1:=by
 have:l.findIdx? p=none:=by
  rw[List.findIdx?_eq_none_iff];intro x hx;have:=List.any_eq_false.1 hn x hx;simpa using this
 simp[idxOf,this]
theorem afi (p:Int→Bool) (l:List Int):decide (0≤idxOf p l)=l.any p:=by
 cases h:l.any p with
 | false=>rw[yJ h]; rfl
 | true =>
  obtain⟨x,hx,hp⟩:=List.any_eq_true.1 h;unfold idxOf;split
  ·rw[decide_eq_true_iff]; omega
  ·rename_i h1
   rw[List.findIdx?_eq_none_iff] at h1;have:=h1 x hx;rw[hp] at this; cases this
theorem aah (w:World) (F:Ag) (v:Value) (l:List Int) (fid:FuncId) (caps:Array Value) (p:Int→Bool) (hv:Ak w F v l) (hl:l.length≤1000000) (ha:CJ w fid caps l p) :
  Calls Tryz.prog 182 #[v,.func (.func fid) #[] caps] w fun e w'=>e = .returned (.int .i64 (idxOf p l))∧∃ n,w'=w.drewN n:=by
 obtain⟨A,c,rfl,hc,hr⟩:=hv;have HR:=Ac hr; clear hr;obtain⟨hcf,hcl⟩:=ha;have HCL:=Ac hcl; clear hcl;go_enter Tryz.func182,Tryz.ntmps182;go_wp2
 go_loopw [8] (fun i wr=>∃ k n:Nat,k≤l.length∧i = .int .i64 k∧(l.take k).any p=false∧wr=w.drewN n) (fun i _=>l.length - (intOf i).toNat)
 case atStart=>exact⟨0,0,by omega,rfl,rfl,rfl⟩
 case round =>
  obtain⟨k,n,hk,rfl,hpre,rfl⟩:=hrel;have HP:=Ac hpre; clear hpre;by_cases hlt:k < l.length
  ·obtain⟨b,o,rfl,_,hb,hx⟩:=HR.out (by omega);obtain⟨x,hxx⟩:=ak hlt;have ex:=hx k x hxx;unfold fF at ex;rw[Nat.mul_one] at ex;have HX:=Ac hxx; clear hxx hx;go_wp2_with fail
   refine(HCL.out n x (List.mem_of_getElem? HX.out)).mono ?_;rintro e w' ⟨rfl,m,rfl⟩;dsimp only;cases hpx:p x
   ·have HPX:=Ac hpx; clear hpx;go_wp2
    go_roundw
    case rel=>exact⟨k+1,m,by omega,by go_num,iY HX.out HP.out HPX.out,rfl⟩
    case measure=>simp[intOf]; omega
   ·have HF:=Ac (idxOf_hit HX.out hpx HP.out); clear hpx;go_wp2
    go_ret;exact⟨by rw[HF.out]; rfl,m,rfl⟩
  ·go_wp2
   go_ret;have h:=HP.out;rw[List.take_of_length_le (by omega)] at h;exact⟨by rw[yJ h]; rfl,n,rfl⟩
theorem oI (w:World) (F:Ag) (v:Value) (l:List Int) (fid:FuncId) (caps:Array Value) (p:Int→Bool) (hv:Ak w F v l) (hl:l.length≤1000000) (ha:CJ w fid caps l p) :
  Calls Tryz.prog 139 #[v,.func (.func fid) #[] caps] w fun e w'=>e = .returned (.bool (l.any p))∧∃ n,w'=w.drewN n:=by
 have HV:=Ac hv; clear hv;have HA:=Ac ha; clear ha;go_enter Tryz.func139,Tryz.ntmps139;go_wp2_with fail
 refine(aah w F v l fid caps p HV.out hl HA.out).mono ?_;rintro e w' ⟨rfl,n,rfl⟩;dsimp only;have HF:=Ac (afi p l);generalize idxOf p l=q at *;go_wp2
 all_goals
  go_ret;refine⟨?_,n,rfl⟩;rw[← HF.out];first | rfl | (simp; omega)
theorem neF {a b:Int} (h:a=b):(a != b)=false:=by simp[h]
theorem neT {a b:Int} (h:a≠b):(a != b)=true:=by simp[h]
theorem eqF {a b:Int} (h:a≠b):(a==b)=false:=by simp[h]
theorem eqT {a b:Int} (h:a=b):(a==b)=true:=by simp[h]
def outside (lo hi:Int) (l:List Int):Bool:=l.any fun x=>decide (x < lo)||decide (hi < x)
def bQ (x:Nd):Int :=
 if x.aI≠0∨x.info≠0∨0 < x.pay.length∨x.next.length < 1∨60 < x.next.length∨x.weights.length≠x.next.length then 3 else if outside 1 1000 x.weights then 2 else 0
def dF (aj:Int) (ni:Nat) (x:Nd):Int :=
 if 0 < x.pay.length∨0 < x.weights.length∨x.next.length < 1∨10 < x.next.length then 3 else if x.aI < 0∨aj≤x.aI∨x.info < 0∨(ni:Int)≤x.info then 2 else 0
def fZ (aj:Int) (x:Nd):Int :=
 if x.aI≠0∨x.info≠0∨0 < x.next.length∨0 < x.weights.length∨(x.pay.length:Int)≠aj then 3 else if outside (-1000000) 1000000 x.pay then 2 else 0
def aO (aj:Int) (ni:Nat) (x:Nd):Int :=
 if x.kind=1 then bQ x else if x.kind=2 then dF aj ni x else if x.kind=3 then fZ aj x else 3
theorem agA (w:World) (F:Ag) (u ux:Value) (g:Gm) (x:Nd) (hg:Az w F u g) (hx:Bf w F ux x) (hl:x.next.length < 1000000∧x.weights.length < 1000000∧x.pay.length < 1000000) (hni:g.infos.length < 1000000) :
  Calls Tryz.prog 95 #[u,ux] w (Ret w fun v _=>v = .int .i64 (aO g.aj g.infos.length x)):=by
 obtain⟨vn,vi,rfl,⟨A,c,rfl,hc,hN⟩,⟨Ai,ci,rfl,hci,hI⟩⟩:=hg;clear hN hI;obtain⟨v3,v4,v5,rfl,⟨A3,c3,rfl,hc3,h3⟩,⟨A4,c4,rfl,hc4,h4⟩,⟨A5,c5,rfl,hc5,h5⟩⟩:=hx;obtain⟨hl3,hl4,hl5⟩:=hl;have H4:=Ac h4; clear h4;have H5:=Ac h5; clear h5 h3;by_cases k1:x.kind=1
 ·have e1:(x.kind==1)=true:=by simp[k1]
  by_cases q0:x.aI≠0
  ·have HF:=Ac (show aO g.aj g.infos.length x=3 by unfold aO bQ; rw[if_pos k1,if_pos (by omega)]);have d0:(x.aI != 0)=true:=neT (by omega);clear k1;go_enter Tryz.func95,Tryz.ntmps95;go_wp2
   go_ret;exact⟨_,rfl,aS _ _ _ 0,by rw[HF.out]; rfl⟩
  have d0:(x.aI != 0)=false:=neF (by omega);by_cases q1:x.info≠0
  ·have HF:=Ac (show aO g.aj g.infos.length x=3 by unfold aO bQ; rw[if_pos k1,if_pos (by omega)]);have d1:(x.info != 0)=true:=neT (by omega);clear k1;go_enter Tryz.func95,Tryz.ntmps95;go_wp2
   go_ret;exact⟨_,rfl,aS _ _ _ 0,by rw[HF.out]; rfl⟩
  have d1:(x.info != 0)=false:=neF (by omega);by_cases q2:0 < x.pay.length
  ·have HF:=Ac (show aO g.aj g.infos.length x=3 by unfold aO bQ; rw[if_pos k1,if_pos (by omega)]);clear k1;go_enter Tryz.func95,Tryz.ntmps95;go_wp2
   go_ret;exact⟨_,rfl,aS _ _ _ 0,by rw[HF.out]; rfl⟩
  have d2:decide ((0:Int) < (x.pay.length:Int))=false:=decide_eq_false (by omega);by_cases q3:x.next.length < 1
  ·have HF:=Ac (show aO g.aj g.infos.length x=3 by unfold aO bQ; rw[if_pos k1,if_pos (by omega)]);clear k1;go_enter Tryz.func95,Tryz.ntmps95;go_wp2
   go_ret;exact⟨_,rfl,aS _ _ _ 0,by rw[HF.out]; rfl⟩
  have d3:decide ((x.next.length:Int) < 1)=false:=decide_eq_false (by omega);by_cases q4:60 < x.next.length
  ·have HF:=Ac (show aO g.aj g.infos.length x=3 by unfold aO bQ; rw[if_pos k1,if_pos (by omega)]);clear k1;go_enter Tryz.func95,Tryz.ntmps95;go_wp2
   go_ret;exact⟨_,rfl,aS _ _ _ 0,by rw[HF.out]; rfl⟩
  have d4:decide ((60:Int) < (x.next.length:Int))=false:=decide_eq_false (by omega);by_cases q5:x.weights.length≠x.next.length
  ·have HF:=Ac (show aO g.aj g.infos.length x=3 by unfold aO bQ; rw[if_pos k1,if_pos (by omega)]);have d5:((x.weights.length:Int) != (x.next.length:Int))=true:=neT (by omega);clear k1;go_enter Tryz.func95,Tryz.ntmps95;go_wp2
   go_ret;exact⟨_,rfl,aS _ _ _ 0,by rw[HF.out]; rfl⟩
  have d5:((x.weights.length:Int) != (x.next.length:Int))=false:=neF (by omega);have HV:=Ac (show aO g.aj g.infos.length x=if outside 1 1000 x.weights then 2 else 0 by unfold aO bQ; rw[if_pos k1,if_neg (by omega)]);clear k1 q0 q1 q5;go_enter Tryz.func95,Tryz.ntmps95;go_wp2
  go_loop [5] (fun i=>∃ k:Nat,k≤x.weights.length∧i = .int .i64 k∧outside 1 1000 (x.weights.take k)=false) (fun i=>x.weights.length - (intOf i).toNat)
  case atStart=>exact⟨0,by omega,rfl,rfl⟩
  case round =>
   obtain⟨k,hk,rfl,hpre⟩:=hrel;have HP:=Ac hpre; clear hpre;by_cases hlt:k < x.weights.length
   ·obtain⟨b,o,rfl,_,hb,hx⟩:=H4.out (by omega);obtain⟨y,hy⟩:=ak hlt;have ey:=hx k y hy;unfold fF at ey; rw[Nat.mul_one] at ey;have BAD:=Ac (show(y < 1∨1000 < y)→aO g.aj g.infos.length x=2 by
     intro hb; rw[HV.out,if_pos (show outside _ _ _=true from List.any_eq_true.2 ⟨y,List.mem_of_getElem? hy,by simpa using hb⟩)])
    have HX:=Ac hy; clear hx hy;by_cases pl:y < 1
    ·have HF:=Ac (BAD.out (.inl pl));go_wp2
     go_ret;exact⟨_,rfl,aS _ _ _ 0,by rw[HF.out]; rfl⟩
    have fl:decide (y < 1)=false:=decide_eq_false (by omega);by_cases pr:1000 < y
    ·have HF:=Ac (BAD.out (.inr pr));go_wp2
     go_ret;exact⟨_,rfl,aS _ _ _ 0,by rw[HF.out]; rfl⟩
    have fr:decide ((1000:Int) < y)=false:=decide_eq_false (by omega);go_wp2
    go_round
    case rel=>exact⟨k+1,by omega,by go_num,iY HX.out HP.out (by simp; omega)⟩
    case measure=>simp[intOf]; omega
   ·go_wp2
    go_ret;refine⟨_,rfl,aS _ _ _ 0,?_⟩;have h:=HP.out; rw[List.take_of_length_le (by omega)] at h;rw[HV.out,h]; rfl
 have e1:(x.kind==1)=false:=by simp[k1]
 by_cases k2:x.kind=2
 ·have e2:(x.kind==2)=true:=by simp[k2]
  by_cases q0:0 < x.pay.length
  ·have HF:=Ac (show aO g.aj g.infos.length x=3 by unfold aO dF; rw[if_neg k1,if_pos k2,if_pos (by omega)]);clear k1 k2;go_enter Tryz.func95,Tryz.ntmps95;go_wp2
   go_ret;exact⟨_,rfl,aS _ _ _ 0,by rw[HF.out]; rfl⟩
  have d0:decide ((0:Int) < (x.pay.length:Int))=false:=decide_eq_false (by omega);by_cases q1:0 < x.weights.length
  ·have HF:=Ac (show aO g.aj g.infos.length x=3 by unfold aO dF; rw[if_neg k1,if_pos k2,if_pos (by omega)]);clear k1 k2;go_enter Tryz.func95,Tryz.ntmps95;go_wp2
   go_ret;exact⟨_,rfl,aS _ _ _ 0,by rw[HF.out]; rfl⟩
  have d1:decide ((0:Int) < (x.weights.length:Int))=false:=decide_eq_false (by omega);by_cases q2:x.next.length < 1
  ·have HF:=Ac (show aO g.aj g.infos.length x=3 by unfold aO dF; rw[if_neg k1,if_pos k2,if_pos (by omega)]);clear k1 k2;go_enter Tryz.func95,Tryz.ntmps95;go_wp2
   go_ret;exact⟨_,rfl,aS _ _ _ 0,by rw[HF.out]; rfl⟩
  have d2:decide ((x.next.length:Int) < 1)=false:=decide_eq_false (by omega);by_cases q3:10 < x.next.length
  ·have HF:=Ac (show aO g.aj g.infos.length x=3 by unfold aO dF; rw[if_neg k1,if_pos k2,if_pos (by omega)]);clear k1 k2;go_enter Tryz.func95,Tryz.ntmps95;go_wp2
   go_ret;exact⟨_,rfl,aS _ _ _ 0,by rw[HF.out]; rfl⟩
  have d3:decide ((10:Int) < (x.next.length:Int))=false:=decide_eq_false (by omega);by_cases r0:x.aI < 0
  ·have HF:=Ac (show aO g.aj g.infos.length x=2 by unfold aO dF; rw[if_neg k1,if_pos k2,if_neg (by omega),if_pos (by omega)]);clear k1 k2;go_enter Tryz.func95,Tryz.ntmps95;go_wp2
   go_ret;exact⟨_,rfl,aS _ _ _ 0,by rw[HF.out]; rfl⟩
  have s0:decide (x.aI < 0)=false:=decide_eq_false (by omega);by_cases r1:g.aj≤x.aI
  ·have HF:=Ac (show aO g.aj g.infos.length x=2 by unfold aO dF; rw[if_neg k1,if_pos k2,if_neg (by omega),if_pos (by omega)]);clear k1 k2;go_enter Tryz.func95,Tryz.ntmps95;go_wp2
   go_ret;exact⟨_,rfl,aS _ _ _ 0,by rw[HF.out]; rfl⟩
  have s1:decide (g.aj≤x.aI)=false:=decide_eq_false (by omega);by_cases r2:x.info < 0
  ·have HF:=Ac (show aO g.aj g.infos.length x=2 by unfold aO dF; rw[if_neg k1,if_pos k2,if_neg (by omega),if_pos (by omega)]);clear k1 k2;go_enter Tryz.func95,Tryz.ntmps95;go_wp2
   go_ret;exact⟨_,rfl,aS _ _ _ 0,by rw[HF.out]; rfl⟩
  have s2:decide (x.info < 0)=false:=decide_eq_false (by omega);by_cases r3:(g.infos.length:Int)≤x.info
  ·have HF:=Ac (show aO g.aj g.infos.length x=2 by unfold aO dF; rw[if_neg k1,if_pos k2,if_neg (by omega),if_pos (by omega)]);clear k1 k2;go_enter Tryz.func95,Tryz.ntmps95;go_wp2
   go_ret;exact⟨_,rfl,aS _ _ _ 0,by rw[HF.out]; rfl⟩
  have s3:decide ((g.infos.length:Int)≤x.info)=false:=decide_eq_false (by omega);have HF:=Ac (show aO g.aj g.infos.length x=0 by unfold aO dF; rw[if_neg k1,if_pos k2,if_neg (by omega),if_neg (by omega)]);clear k1 k2;go_enter Tryz.func95,Tryz.ntmps95;go_wp2
  go_ret;exact⟨_,rfl,aS _ _ _ 0,by rw[HF.out]; rfl⟩
 have e2:(x.kind==2)=false:=by simp[k2]
 by_cases k3:x.kind=3
 ·have e3:(x.kind==3)=true:=by simp[k3]
  by_cases q0:x.aI≠0
  ·have HF:=Ac (show aO g.aj g.infos.length x=3 by unfold aO fZ; rw[if_neg k1,if_neg k2,if_pos k3,if_pos (by omega)]);have d0:(x.aI != 0)=true:=neT (by omega);clear k1 k2 k3;go_enter Tryz.func95,Tryz.ntmps95;go_wp2
   go_ret;exact⟨_,rfl,aS _ _ _ 0,by rw[HF.out]; rfl⟩
  have d0:(x.aI != 0)=false:=neF (by omega);by_cases q1:x.info≠0
  ·have HF:=Ac (show aO g.aj g.infos.length x=3 by unfold aO fZ; rw[if_neg k1,if_neg k2,if_pos k3,if_pos (by omega)]);have d1:(x.info != 0)=true:=neT (by omega);clear k1 k2 k3;go_enter Tryz.func95,Tryz.ntmps95;go_wp2
   go_ret;exact⟨_,rfl,aS _ _ _ 0,by rw[HF.out]; rfl⟩
  have d1:(x.info != 0)=false:=neF (by omega);by_cases q2:0 < x.next.length
  ·have HF:=Ac (show aO g.aj g.infos.length x=3 by unfold aO fZ; rw[if_neg k1,if_neg k2,if_pos k3,if_pos (by omega)]);clear k1 k2 k3;go_enter Tryz.func95,Tryz.ntmps95;go_wp2
   go_ret;exact⟨_,rfl,aS _ _ _ 0,by rw[HF.out]; rfl⟩
  have d2:decide ((0:Int) < (x.next.length:Int))=false:=decide_eq_false (by omega);by_cases q3:0 < x.weights.length
  ·have HF:=Ac (show aO g.aj g.infos.length x=3 by unfold aO fZ; rw[if_neg k1,if_neg k2,if_pos k3,if_pos (by omega)]);clear k1 k2 k3;go_enter Tryz.func95,Tryz.ntmps95;go_wp2
   go_ret;exact⟨_,rfl,aS _ _ _ 0,by rw[HF.out]; rfl⟩
  have d3:decide ((0:Int) < (x.weights.length:Int))=false:=decide_eq_false (by omega);by_cases q4:(x.pay.length:Int)≠g.aj
  ·have HF:=Ac (show aO g.aj g.infos.length x=3 by unfold aO fZ; rw[if_neg k1,if_neg k2,if_pos k3,if_pos (by omega)]);have d4:((x.pay.length:Int) != g.aj)=true:=neT (by omega);clear k1 k2 k3;go_enter Tryz.func95,Tryz.ntmps95;go_wp2
   go_ret;exact⟨_,rfl,aS _ _ _ 0,by rw[HF.out]; rfl⟩
  have d4:((x.pay.length:Int) != g.aj)=false:=neF (by omega);have HV:=Ac (show aO g.aj g.infos.length x=if outside (-1000000) 1000000 x.pay then 2 else 0 by unfold aO fZ; rw[if_neg k1,if_neg k2,if_pos k3,if_neg (by omega)]);clear k1 k2 k3 q0 q1 q4;go_enter Tryz.func95,Tryz.ntmps95;go_wp2
  go_loop [6] (fun i=>∃ k:Nat,k≤x.pay.length∧i = .int .i64 k∧outside (-1000000) 1000000 (x.pay.take k)=false) (fun i=>x.pay.length - (intOf i).toNat)
  case atStart=>exact⟨0,by omega,rfl,rfl⟩
  case round =>
   obtain⟨k,hk,rfl,hpre⟩:=hrel;have HP:=Ac hpre; clear hpre;by_cases hlt:k < x.pay.length
   ·obtain⟨b,o,rfl,_,hb,hx⟩:=H5.out (by omega);obtain⟨y,hy⟩:=ak hlt;have ey:=hx k y hy;unfold fF at ey; rw[Nat.mul_one] at ey;have BAD:=Ac (show(y < (-1000000)∨1000000 < y)→aO g.aj g.infos.length x=2 by
     intro hb; rw[HV.out,if_pos (show outside _ _ _=true from List.any_eq_true.2 ⟨y,List.mem_of_getElem? hy,by simpa using hb⟩)])
    have HX:=Ac hy; clear hx hy;by_cases pl:y < (-1000000)
    ·have HF:=Ac (BAD.out (.inl pl));go_wp2
     go_ret;exact⟨_,rfl,aS _ _ _ 0,by rw[HF.out]; rfl⟩
    have fl:decide (y < (-1000000))=false:=decide_eq_false (by omega);by_cases pr:1000000 < y
    ·have HF:=Ac (BAD.out (.inr pr));go_wp2
     go_ret;exact⟨_,rfl,aS _ _ _ 0,by rw[HF.out]; rfl⟩
    have fr:decide ((1000000:Int) < y)=false:=decide_eq_false (by omega);go_wp2
    go_round
    case rel=>exact⟨k+1,by omega,by go_num,iY HX.out HP.out (by simp; omega)⟩
    case measure=>simp[intOf]; omega
   ·go_wp2
    go_ret;refine⟨_,rfl,aS _ _ _ 0,?_⟩;have h:=HP.out; rw[List.take_of_length_le (by omega)] at h;rw[HV.out,h]; rfl
 have e3:(x.kind==3)=false:=by simp[k3]
 have HF:=Ac (show aO g.aj g.infos.length x=3 by unfold aO; rw[if_neg k1,if_neg k2,if_neg k3]);clear k1 k2 k3;go_enter Tryz.func95,Tryz.ntmps95;go_wp2
 go_ret;exact⟨_,rfl,aS _ _ _ 0,by rw[HF.out]; rfl⟩
theorem aai (w:World) (F:Ag) (v:Value) (g:Gm) (hg:Az w F v g) (hsm:Small g) (h0:0 < g.nodes.length) (hk:CQ g.nodes) :
  Calls Tryz.prog 46 #[v] w (Ret w fun v w'=>Ak w' (fun b=>w.heap.size≤b) v (dV g.nodes)):=by
 obtain⟨vn,vi,rfl,⟨A,c,rfl,hc,hN⟩,hI⟩:=hg;obtain⟨b,o,rfl,hbF,hbB,hN⟩:=hN h0;have HN:=Ac hN; clear hN;have HK:=Ac hk; clear hk;have hn:=hsm.nodes;have HS:=Ac hsm; clear hsm;go_enter Tryz.func46,Tryz.ntmps46;go_wp2_with (at_make; refine eX _ rfl _ _ 26 rfl 3 (.int .i64 0) 8 Tryz.underlying26 Tryz.infoInt rfl g.nodes.length rfl rfl (by omega) (by omega) ?_; intro w1 sF hsz1 hrow1; have r0:=hrow1.cell (i:=0) (v:=.int .i64 0) (by simp[h0]); have f0:=hrow1.frozen 0; simp at r0 f0)
 go_loopw [4] (fun i wr=>∃ k:Nat,k≤g.nodes.length∧i = .int .i64 k∧wr.cell? ⟨w.heap.size,1,none⟩=some (.slice (some ⟨b,o,none⟩) g.nodes.length c)∧Row wr (w.heap.size+1) 3 ((jW g.nodes k).map (Value.int .i64))∧Below w.heap.size w wr) (fun i _=>g.nodes.length - (intOf i).toNat)
 case atStart =>
  refine⟨0,by omega,rfl,?_,?_,?_⟩
  ·rw[World.cell?_setCell_other _ _ _ _ (by simp),aA sF _ _ (by simp)]; simp
  ·have:=hrow1.set 0 (.int .i64 (-1));simp only[World.size_alloc] at this;simpa [jW,List.map_set] using this
  ·exact(((Below.refl _ _).alloc (Nat.le_refl _) _).trans (sF.mono (by simp))).setCell (by simp) _
 case round =>
  obtain⟨k,hk,rfl,hbox,hrow,hbel⟩:=hrel;by_cases hlt:k < g.nodes.length
  ·obtain⟨n,hn'⟩:=ak hlt;have aeR:=HN.out k n hn';obtain⟨v3,e3,A3,c3,rfl,hc3,hN3⟩:=aeR.c3;have hl3:=HS.out.next n (List.mem_of_getElem? hn');have HN3:=Ac hN3; clear hN3 aeR;have HN':=Ac hn'; clear hn';have hold:=aA hbel;go_wp2
   go_loopw [5] (fun i wi=>∃ j:Nat,j≤n.next.length∧i = .int .i64 j∧wi.cell? ⟨w.heap.size,1,none⟩=some (.slice (some ⟨b,o,none⟩) g.nodes.length c)∧Row wi (w.heap.size+1) 3 ((iV (n.next.take j) k (jW g.nodes k)).map (Value.int .i64))∧Below w.heap.size w wi) (fun i _=>n.next.length - (intOf i).toNat)
   case atStart=>exact⟨0,by omega,rfl,hbox,by simpa [iV] using hrow,hbel⟩
   case round =>
    clear hbox hrow hold;obtain⟨j,hj,rfl,hbox,hrow,dJ⟩:=hrel;have hold:=aA dJ;by_cases hjt:j < n.next.length
    ·obtain⟨ch,hch⟩:=ak hjt;obtain⟨b3,o3,rfl,hb3,hb3B,hx3⟩:=HN3.out (by omega);have ec:=hx3 j ch hch;unfold fF at ec;rw[Nat.mul_one] at ec;obtain⟨ahC,hch1⟩:=HK.out n (List.mem_of_getElem? HN'.out) ch (List.mem_of_getElem? hch);have HCH:=Ac hch; clear hch hx3;obtain⟨x,hx⟩:=ak (l:=iV (n.next.take j) k (jW g.nodes k)) (k:=ch.toNat) (by rw[qB,fP]; omega);have rc:=hrow.cell (i:=ch.toNat) (v:=.int .i64 x) (by simp[hx]);have fc:=hrow.frozen ch.toNat;clear hx;go_wp2
     go_roundw
     case rel =>
      refine⟨j+1,by omega,by go_num,?_,?_,dJ.setCell (by simp) _⟩
      ·rw[World.cell?_setCell_other _ _ _ _ (by simp)]; exact hbox
      ·have:=hrow.set ch.toNat (.int .i64 k);rw[abl HCH.out];simpa [List.map_set] using this
     case measure=>simp[intOf]; omega
    ·go_wp2
     go_roundw
     case rel =>
      have:j=n.next.length:=by omega
      subst this;refine⟨k+1,by omega,by go_num,hbox,?_,dJ⟩;rw[tJ HN'.out];simpa using hrow
     case measure=>simp[intOf]; omega
  ·go_wp2
   go_ret;have:k=g.nodes.length:=by omega
   subst this;refine⟨_,rfl,hbel,?_⟩;have hl:(dV g.nodes).length=g.nodes.length:=fP _ _;have:=hrow.ints (F:=fun b=>w.heap.size≤b) (by omega) (c:=g.nodes.length) (by rw[fP]; omega);rw[fP] at this;exact this
theorem aaO (w:World) (F:Ag) (u vr:Value) (g:Gm) (roots:List Int) (hg:Az w F u g) (hr:Ak w F vr roots) (hsm:Small g) (h0:0 < g.nodes.length) (hk:CQ g.nodes)
  (hl:roots.length≤1000) (hin:∀ r∈roots,0≤r∧r < (g.nodes.length:Int)) :
  Calls Tryz.prog 127 #[u,vr] w (Ret w fun v w'=>AQ w' (fun b=>w.heap.size≤b) v (jo g.nodes roots)):=by
 have HG:=Ac hg;obtain⟨vn,vi,rfl,⟨A,c,rfl,hc,hN⟩,hI⟩:=hg;clear hN hI;have HR:=Ac hr; clear hr;have HK:=Ac hk; clear hk;have hn:=hsm.nodes;have HS:=Ac hsm; clear hsm;have HIN:=Ac hin; clear hin;go_enter Tryz.func127,Tryz.ntmps127;go_wp2_with fail
 refine(aai _ F _ g (HG.out.on (Same.alloc _ _ _)) HS.out h0 HK.out).mono ?_;rintro e w1 ⟨vp,rfl,hb1,hpar⟩;have hbx:=(Row.new w 25 #[.int .i64 g.aj,.slice A g.nodes.length c,vi]).below hb1 (by simp);have x1:=hbx.cell (i:=1) rfl;have hz1:=hb1.size;simp only[World.size_alloc] at hz1;have HP:=Ac hpar; clear hpar;go_wp2_with (at_make; refine eX _ rfl _ _ 70 rfl 4 (.bool false) 1 Tryz.underlying70 Tryz.infoBool rfl g.nodes.length rfl rfl (by omega) (by omega) ?_; intro w2 hb2 hz2 hrow2)
 obtain⟨Ar,cr,rfl,hcr,hRr⟩:=(HR.out.on (Same.alloc _ _ _)).on (Below.same' hb1 F);have HRr:=Ac hRr; clear hRr;go_loopw [7] (fun i wr=>∃ k:Nat,k≤roots.length∧i = .int .i64 k∧Row wr w1.heap.size 4 ((jL (roots.take k) (List.replicate g.nodes.length false)).map Value.bool)∧Below w1.heap.size w1 wr) (fun i _=>roots.length - (intOf i).toNat)
 case atStart=>exact⟨0,by omega,rfl,by simpa [jL] using hrow2,hb2⟩
 case round =>
  obtain⟨k,hk,rfl,hrow,hbel⟩:=hrel;have hold:=aA hbel;by_cases hlt:k < roots.length
  ·obtain⟨b,o,rfl,_,hb,hx⟩:=HRr.out (by omega);obtain⟨r,hr⟩:=ak hlt;have er:=hx k r hr;unfold fF at er;rw[Nat.mul_one] at er;obtain⟨hr0,hr1⟩:=HIN.out r (List.mem_of_getElem? hr);have HX:=Ac hr; clear hr hx;obtain⟨y,hy⟩:=ak (l:=jL (roots.take k) (List.replicate g.nodes.length false)) (k:=r.toNat) (by rw[lU]; simp; omega);have rc:=hrow.cell (i:=r.toNat) (v:=.bool y) (by simp[hy]);have fc:=hrow.frozen r.toNat;clear hy;go_wp2
   go_roundw
   case rel =>
    refine⟨k+1,by omega,by go_num,?_,hbel.setCell (Nat.le_refl _) _⟩;have:=hrow.set r.toNat (.bool true);rw[adG HX.out];simpa [List.map_set] using this
   case measure=>simp[intOf]; omega
  ·have hke:k=roots.length:=by omega
   have hrow':Row wr w1.heap.size 4 ((uN (dV g.nodes) (jL roots (List.replicate g.nodes.length false)) 1).map Value.bool):=by
    subst hke; simpa [uN] using hrow
   clear hrow hke;have x1':=hbx.below hbel hbx.lt;go_wp2
   go_loopw [8] (fun i wi=>∃ m:Nat,1≤m∧m≤g.nodes.length∧i = .int .i64 m∧Row wi w1.heap.size 4 ((uN (dV g.nodes) (jL roots (List.replicate g.nodes.length false)) m).map Value.bool)∧Below w1.heap.size w1 wi) (fun i _=>g.nodes.length - (intOf i).toNat)
   case atStart=>exact⟨1,by omega,by omega,rfl,hrow',hbel⟩
   case round =>
    clear hrow' hold x1';obtain⟨m,hm1,hm,rfl,hrow,dJ⟩:=hrel;have hold:=aA dJ;have hx1:=hbx.lt;by_cases hmt:m < g.nodes.length
    ·obtain⟨Ap,cp,rfl,hcp,hPp⟩:=HP.out;have hpl:(dV g.nodes).length=g.nodes.length:=fP _ _;obtain⟨bp,op,rfl,_,hbp,hxp⟩:=hPp (by omega);obtain⟨p,hp⟩:=ak (l:=dV g.nodes) (k:=m) (by omega);have ep:=hxp m p hp;unfold fF at ep;rw[Nat.mul_one] at ep;obtain⟨hp0,hp1⟩:=ach g.nodes g.nodes.length (Nat.le_refl _) m p hp (by omega);generalize hll:uN (dV g.nodes) (jL roots (List.replicate g.nodes.length false)) m=ll at *;have hlen:ll.length=g.nodes.length:=by rw[← hll,qE,lU]; simp
     obtain⟨y,hy⟩:=ak (l:=ll) (k:=m) (by omega);obtain⟨z,hz⟩:=ak (l:=ll) (k:=p.toNat) (by omega);have ry:=hrow.cell (i:=m) (v:=.bool y) (by simp[hy]);have rz:=hrow.cell (i:=p.toNat) (v:=.bool z) (by simp[hz]);have fc:=hrow.frozen m;have HL:=Ac hll; clear hll;have hpm:m < (dV g.nodes).length:=by omega
     clear hpl hlen;have HST:=Ac (show uN (dV g.nodes) (jL roots (List.replicate g.nodes.length false)) (m+1)=ll.set m (y||z) by
      rw[aaN _ _ _ hm1,HL.out]; unfold yH;simp[List.getD_eq_getElem?_getD,hy,hz,hp])
     clear hy hz hp hxp hPp;cases y
     ·go_wp2
      go_roundw
      case rel =>
       refine⟨m+1,by omega,by omega,by go_num,?_,dJ.setCell (Nat.le_refl _) _⟩;have:=hrow.set m (.bool z);rw[HST.out];simpa [List.map_set] using this
      case measure=>simp[intOf]; omega
     ·go_wp2
      go_roundw
      case rel =>
       refine⟨m+1,by omega,by omega,by go_num,?_,dJ.setCell (Nat.le_refl _) _⟩;have:=hrow.set m (.bool true);rw[HST.out];simpa [List.map_set] using this
      case measure=>simp[intOf]; omega
    ·go_wp2
     go_ret;have hme:m=g.nodes.length:=by omega
     subst hme;refine⟨_,rfl,?_,?_⟩
     ·exact((Below.refl w.heap.size w).alloc (Nat.le_refl _) _).trans ((hb1.mono (by simp)).trans (dJ.mono (by omega)))
     ·have hlen:(jo g.nodes roots).length=g.nodes.length:=by unfold jo; rw[qE,lU]; simp
      have:=Row.bools (l:=jo g.nodes roots) hrow (F:=fun b=>w.heap.size≤b) (by omega) (c:=g.nodes.length) (by omega);rw[hlen] at this;exact this
def oz (n:Nd):Bool:=decide (100 < n.next.length)||decide (100 < n.weights.length)||decide (100 < n.pay.length)
def kU (g:Gm) (nodes sets:Int):Bool:=decide (nodes < g.nodes.length)||decide (sets < g.infos.length)||g.nodes.any oz
theorem afj (w:World) (F:Ag) (u:Value) (g:Gm) (h:Az w F u g) (nodes sets:Int) (hn0:nodes≤1000) :
  Calls Tryz.prog 13 #[u,.int .i64 nodes,.int .i64 sets] w (Ret w fun v _=>v = .bool (kU g nodes sets)):=by
 obtain⟨vn,vi,rfl,⟨A,c,rfl,hc,hN⟩,⟨Ai,ci,rfl,hci,hI⟩⟩:=h;have HN:=Ac hN; clear hN hI;by_cases q0:nodes < g.nodes.length
 ·have HF:=Ac (show kU g nodes sets=true by simp[kU,q0]);go_enter Tryz.func13,Tryz.ntmps13;go_wp2
  go_ret;exact⟨_,rfl,(Below.refl _ _).alloc (Nat.le_refl _) _,by rw[HF.out]; rfl⟩
 have d0:decide (nodes < (g.nodes.length:Int))=false:=by simp; omega
 by_cases q1:sets < g.infos.length
 ·have HF:=Ac (show kU g nodes sets=true by simp[kU,q1]);go_enter Tryz.func13,Tryz.ntmps13;go_wp2
  go_ret;exact⟨_,rfl,(Below.refl _ _).alloc (Nat.le_refl _) _,by rw[HF.out]; rfl⟩
 have d1:decide (sets < (g.infos.length:Int))=false:=by simp; omega
 go_enter Tryz.func13,Tryz.ntmps13;go_wp2
 go_loopw [7] (fun i wr=>∃ k:Nat,k≤g.nodes.length∧i = .int .i64 k∧(g.nodes.take k).any oz=false∧Row wr w.heap.size 25 [.int .i64 g.aj,.slice A g.nodes.length c,.slice Ai g.infos.length ci]∧Below w.heap.size w wr) (fun i _=>g.nodes.length - (intOf i).toNat)
 case atStart=>exact⟨0,by omega,rfl,by simp,Row.new w _ _,(Below.refl _ _).alloc (Nat.le_refl _) _⟩
 case round =>
  obtain⟨k,hk,rfl,hpre,hr,hbel⟩:=hrel;have HP:=Ac hpre; clear hpre;have x1:=hr.cell (i:=1) rfl;by_cases hlt:k < g.nodes.length
  ·obtain⟨b,o,rfl,_,hb,hcell⟩:=HN.out (by omega);obtain⟨n,hn⟩:=ak hlt;obtain⟨e0,e1,e2,⟨v3,e3,A3,c3,rfl,hc3,i3⟩,⟨v4,e4,A4,c4,rfl,hc4,i4⟩,⟨v5,e5,A5,c5,rfl,hc5,i5⟩⟩:=hcell k n hn;clear i3 i4 i5 hcell;have HX:=Ac hn; clear hn;have hold:=aA hbel;have LT:=Ac (show oz n=true→kU g nodes sets=true by
    intro h;unfold kU;have:g.nodes.any oz=true:=List.any_eq_true.2 ⟨n,List.mem_of_getElem? HX.out,h⟩;rw[this]; simp)
   by_cases q3:100 < n.next.length
   ·have HF:=Ac (LT.out (by unfold oz; simp[q3]));go_wp2
    go_ret;exact⟨_,rfl,by repeat (first | exact hbel | refine Below.alloc ?_ hbel.size _ | refine Below.setCell ?_ hbel.size _),by rw[HF.out]; rfl⟩
   have d3:decide ((100:Int) < (n.next.length:Int))=false:=by simp; omega
   by_cases q4:100 < n.weights.length
   ·have HF:=Ac (LT.out (by unfold oz; simp[q4]));go_wp2
    go_ret;exact⟨_,rfl,by repeat (first | exact hbel | refine Below.alloc ?_ hbel.size _ | refine Below.setCell ?_ hbel.size _),by rw[HF.out]; rfl⟩
   have d4:decide ((100:Int) < (n.weights.length:Int))=false:=by simp; omega
   by_cases q5:100 < n.pay.length
   ·have HF:=Ac (LT.out (by unfold oz; simp[q5]));go_wp2
    go_ret;exact⟨_,rfl,by repeat (first | exact hbel | refine Below.alloc ?_ hbel.size _ | refine Below.setCell ?_ hbel.size _),by rw[HF.out]; rfl⟩
   have d5:decide ((100:Int) < (n.pay.length:Int))=false:=by simp; omega
   have LF:=Ac (show oz n=false by unfold oz; simp; omega);go_wp2
   go_roundw
   case rel=>exact⟨k+1,by omega,by go_num,iY HX.out HP.out LF.out,by repeat (first | exact hr | refine Row.alloc ?_ _ | refine Row.other ?_ (by have:=hr.lt; simp; omega) _),by repeat (first | exact hbel | refine Below.alloc ?_ hbel.size _ | refine Below.setCell ?_ hbel.size _)⟩
   case measure=>simp[intOf]; omega
  ·go_wp2
   go_ret;refine⟨_,rfl,hbel,?_⟩;have h3:=HP.out;rw[List.take_of_length_le (by omega)] at h3;have:kU g nodes sets=false:=by unfold kU; rw[h3,d0,d1]; rfl
   rw[this]; rfl
end Go.Proofs.YthmklhapjegfdaaGreatDoor

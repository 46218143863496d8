/- Words for memory that all contracts of this seat share: slices that read as lists, rows of cells, worlds that keep some blocks. -/
import Derived.Test.YthmklhapjegfdaaGreatDoorProg
import Derived.WalkKit
import Derived.Deep.QuietTactic
import Derived.BigQuiet
import Derived.Lib.Hide
import Derived.Deep.OwnRows
set_option linter.all false
set_option maxRecDepth 100000
set_option maxHeartbeats 12800000
namespace Go.Proofs.YthmklhapjegfdaaGreatDoor
open Lib renaming hid → Aa
open Go.RowKit
abbrev Ac:=Nat→Prop
structure Same (F:Ac) (w w':World):Prop where
 size:w.heap.size≤w'.heap.size
 block:∀ b,F b→b < w.heap.size→w'.heap[b]? = w.heap[b]?
section
variable {F G:Ac} {w w' w'':World}
theorem Same.cell (h:Same F w w') {b:Nat} (hb:F b) (hl:b < w.heap.size) (o:Nat):w'.cell? ⟨b,o,none⟩=w.cell? ⟨b,o,none⟩:=World.cell?_of_block (w:=w) (h.block b hb hl)
theorem Same.refl (F:Ac) (w:World):Same F w w:=⟨Nat.le_refl _,fun _ _ _=>rfl⟩
theorem Same.trans (h:Same F w w') (k:Same F w' w''):Same F w w'':=⟨Nat.le_trans h.size k.size,fun i hi hl=>(k.block i hi (Nat.lt_of_lt_of_le hl h.size)).trans (h.block i hi hl)⟩
theorem Same.mono (h:Same F w w') (hG:∀ b,G b→F b):Same G w w':=⟨h.size,fun b hb hl=>h.block b (hG b hb) hl⟩
theorem Below.same' (h:Below w.heap.size w w') (F:Ac):Same F w w':=⟨h.size,fun b _ hl=>h.block b hl⟩
theorem Same.alloc (F:Ac) (w:World) (o:Obj):Same F w (w.alloc o):=⟨by simp,fun b _ hl=>Below.heap_alloc w o b hl⟩
theorem Same.drewN (F:Ac) (w:World) (n:Nat):Same F w (w.drewN n):=⟨Nat.le_refl _,fun _ _ _=>rfl⟩
theorem Same.setCell (F:Ac) (w:World) {p:Addr} (hp:¬ F p.block) (v:Value):Same F w (w.setCell p v) :=
 ⟨by simp,fun b hb _=>Below.heap_setCell w p v b (fun e=>hp (e▸hb))⟩
end
theorem au {α:Type} {l:List α} {k:Nat} (h:k < l.length):∃ x,l[k]? = some x:=⟨l[k],by simp[h]⟩
theorem aB {α:Type} {l:List α} {k:Nat} {x:α} (h:l[k]? = some x):k < l.length:=by
 rcases Nat.lt_or_ge k l.length with h1 | h1
 ·exact h1
 ·rw[List.getElem?_eq_none h1] at h; cases h
theorem take_snoc {α:Type} {l:List α} {k:Nat} {x:α} (h:l[k]? = some x):l.take (k+1)=l.take k ++ [x]:=by
 rw[List.take_succ_eq_append_getElem (aB h)]; congr 2;have:=aB h;simpa [this] using h
def BI {α:Type} (sz:Nat) (E:World→Ac→Nat→Nat→α→Prop) (w:World) (F:Ac) (v:Value) (l:List α):Prop :=
 ∃ A c,v = .slice A l.length c∧l.length≤c∧(0 < l.length→∃ b o,A=some ⟨b,o,none⟩∧F b∧b < w.heap.size∧∀ k x,l[k]? = some x→E w F b (o+k*sz) x)
theorem BI.keep {α:Type} {sz:Nat} {E:World→Ac→Nat→Nat→α→Prop} {w w':World} {F G:Ac} {v:Value} {l:List α}
  (h:BI sz E w F v l) (hFG:∀ b,F b→b < w.heap.size→G b) (hsz:w.heap.size≤w'.heap.size) (hE:∀ b o x,x∈l→F b→b < w.heap.size→E w F b o x→E w' G b o x):BI sz E w' G v l:=by
 obtain⟨A,c,rfl,hc,hr⟩:=h;refine⟨A,c,rfl,hc,fun h0=>?_⟩;obtain⟨b,o,rfl,hb,hl,hx⟩:=hr h0;exact⟨b,o,rfl,hFG b hb hl,Nat.lt_of_lt_of_le hl hsz,fun k x hk=>hE b _ x (List.mem_of_getElem? hk) hb hl (hx k x hk)⟩
def iH (k:IntKind) (w:World) (_:Ac) (b o:Nat) (x:Int):Prop:=w.cell? ⟨b,o,none⟩=some (.int k x)
def tC (w:World) (_:Ac) (b o:Nat) (x:Bool):Prop:=w.cell? ⟨b,o,none⟩=some (.bool x)
def wK {α:Type} (S:World→Ac→Value→α→Prop) (w:World) (F:Ac) (b o:Nat) (x:α):Prop:=∃ v,w.cell? ⟨b,o,none⟩=some v∧S w F v x
def Ae (w:World) (F:Ac) (v:Value) (l:List Int):Prop:=BI 1 (iH .i64) w F v l
def AO (w:World) (F:Ac) (v:Value) (l:List Bool):Prop:=BI 1 tC w F v l
def AY (w:World) (F:Ac) (v:Value) (l:List (List Int)):Prop:=BI 1 (wK Ae) w F v l
theorem Ae.keep {w w':World} {F G:Ac} {v:Value} {l:List Int} (h:Ae w F v l) (hFG:∀ b,F b→b < w.heap.size→G b) (hs:Same F w w'):Ae w' G v l :=
 BI.keep h hFG hs.size fun b o x _ hb hl hx=>by unfold iH at *; rw[hs.cell hb hl]; exact hx
theorem AO.keep {w w':World} {F G:Ac} {v:Value} {l:List Bool} (h:AO w F v l) (hFG:∀ b,F b→b < w.heap.size→G b) (hs:Same F w w'):AO w' G v l :=
 BI.keep h hFG hs.size fun b o x _ hb hl hx=>by unfold tC at *; rw[hs.cell hb hl]; exact hx
theorem AY.keep {w w':World} {F G:Ac} {v:Value} {l:List (List Int)} (h:AY w F v l) (hFG:∀ b,F b→b < w.heap.size→G b) (hs:Same F w w'):AY w' G v l :=
 BI.keep h hFG hs.size fun b o x _ hb hl hx=>by
  obtain⟨u,hu,hr⟩:=hx;exact⟨u,by rw[hs.cell hb hl]; exact hu,hr.keep hFG hs⟩
structure Nd where
 kind:Int
 ak:Int
 info:Int
 next:List Int
 weights:List Int
 pay:List Int
 deriving Inhabited,DecidableEq
structure Inf where
 ak:Int
 actions:Int
 deriving Inhabited,DecidableEq
structure Gm where
 aj:Int
 nodes:List Nd
 infos:List Inf
 deriving Inhabited,DecidableEq
structure Dx (w:World) (F:Ac) (b o:Nat) (n:Nd):Prop where
 c0:w.cell? ⟨b,o,none⟩=some (.int .i64 n.kind)
 c1:w.cell? ⟨b,o+1,none⟩=some (.int .i64 n.ak)
 c2:w.cell? ⟨b,o+2,none⟩=some (.int .i64 n.info)
 c3:wK Ae w F b (o+3) n.next
 c4:wK Ae w F b (o+4) n.weights
 c5:wK Ae w F b (o+5) n.pay
structure Eh (w:World) (_:Ac) (b o:Nat) (n:Inf):Prop where
 c0:w.cell? ⟨b,o,none⟩=some (.int .i64 n.ak)
 c1:w.cell? ⟨b,o+1,none⟩=some (.int .i64 n.actions)
theorem pR {w w':World} {F G:Ac} {b o:Nat} {l:List Int} (h:wK Ae w F b o l) (hFG:∀ b,F b→b < w.heap.size→G b) (hs:Same F w w') (hb:F b) (hl:b < w.heap.size):wK Ae w' G b o l:=by
 obtain⟨u,hu,hr⟩:=h;exact⟨u,by rw[hs.cell hb hl]; exact hu,hr.keep hFG hs⟩
theorem Dx.keep {w w':World} {F G:Ac} {b o:Nat} {n:Nd} (h:Dx w F b o n) (hFG:∀ b,F b→b < w.heap.size→G b) (hs:Same F w w') (hb:F b) (hl:b < w.heap.size):Dx w' G b o n :=
 ⟨by rw[hs.cell hb hl]; exact h.c0,by rw[hs.cell hb hl]; exact h.c1,by rw[hs.cell hb hl]; exact h.c2,pR h.c3 hFG hs hb hl,pR h.c4 hFG hs hb hl,pR h.c5 hFG hs hb hl⟩
def AB (w:World) (F:Ac) (v:Value) (l:List Nd):Prop:=BI 6 Dx w F v l
def AX (w:World) (F:Ac) (v:Value) (l:List Inf):Prop:=BI 2 Eh w F v l
theorem AB.keep {w w':World} {F G:Ac} {v:Value} {l:List Nd} (h:AB w F v l) (hFG:∀ b,F b→b < w.heap.size→G b) (hs:Same F w w'):AB w' G v l :=
 BI.keep h hFG hs.size fun _ _ _ _ hb hl hx=>hx.keep hFG hs hb hl
theorem AX.keep {w w':World} {F G:Ac} {v:Value} {l:List Inf} (h:AX w F v l) (hFG:∀ b,F b→b < w.heap.size→G b) (hs:Same F w w'):AX w' G v l :=
 BI.keep h hFG hs.size fun _ _ _ _ hb hl hx=>⟨by rw[hs.cell hb hl]; exact hx.c0,by rw[hs.cell hb hl]; exact hx.c1⟩
def Az (w:World) (F:Ac) (v:Value) (g:Gm):Prop :=
 ∃ vn vi,v = .agg #[.int .i64 g.aj,vn,vi]∧AB w F vn g.nodes∧AX w F vi g.infos
theorem Az.keep {w w':World} {F G:Ac} {v:Value} {g:Gm} (h:Az w F v g) (hFG:∀ b,F b→b < w.heap.size→G b) (hs:Same F w w'):Az w' G v g:=by
 obtain⟨vn,vi,rfl,hn,hi⟩:=h;exact⟨vn,vi,rfl,hn.keep hFG hs,hi.keep hFG hs⟩
def Row (w:World) (b:Nat) (t:TypeId) (vs:List Value):Prop:=w.heap[b]? = some (.cells vs.toArray t (0,0))
section
variable {w w':World} {b:Nat} {t:TypeId} {vs:List Value}
theorem Row.cell (h:Row w b t vs) {i:Nat} {v:Value} (hi:vs[i]? = some v):w.cell? ⟨b,i,none⟩=some v:=by
 unfold Row at h; simp[World.cell?,h,hi]
theorem Row.frozen (h:Row w b t vs) (i:Nat):w.frozen? ⟨b,i,none⟩=false:=by
 unfold Row at h; simp[World.frozen?,h]
theorem Row.lt (h:Row w b t vs):b < w.heap.size:=by
 obtain⟨hlt,_⟩:=Array.getElem?_eq_some_iff.1 h;exact hlt
theorem Row.of_block (h:Row w b t vs) (e:w'.heap[b]? = w.heap[b]?):Row w' b t vs:=e.trans h
theorem Row.set (h:Row w b t vs) (i:Nat) (v:Value):Row (w.setCell ⟨b,i,none⟩ v) b t (vs.set i v):=by
 unfold Row at *;simp[World.setCell,Array.getElem?_modify,h]
theorem Row.other (h:Row w b t vs) {a:Addr} (ha:b≠a.block) (v:Value):Row (w.setCell a v) b t vs:=h.of_block (Below.heap_setCell _ _ _ _ ha)
theorem ste {W:World} {i:Nat} {v:Value} (hw:W=w.setCell ⟨b,i,none⟩ v) (h:Row w b t vs):Row W b t (vs.set i v):=hw▸h.set i v
theorem Row.alloc (h:Row w b t vs) (o:Obj):Row (w.alloc o) b t vs:=h.of_block (Below.heap_alloc _ _ _ h.lt)
theorem Row.drew (h:Row w b t vs):Row w.drew b t vs:=h
theorem Row.below {B:Nat} (h:Row w b t vs) (hb:Below B w w') (hB:b < B):Row w' b t vs:=h.of_block (hb.block b hB)
theorem Row.new (w:World) (t:TypeId) (c:Array Value):Row (w.alloc (.cells c t)) w.heap.size t c.toList:=by
 unfold Row; show(w.heap.push _)[w.heap.size]? = _; simp
end
theorem Row.made (w:World) (z:Value) (n:Nat) (t:TypeId):Row (w.alloc (.cells (madeCells #[z] n) t)) w.heap.size t (List.replicate n z):=by
 have h:=Row.new w t (madeCells #[z] n);have e:(madeCells #[z] n).toList=List.replicate n z:=by
  apply List.ext_getElem?
  intro i;by_cases hi:i < n
  ·simp[madeCells,hi,Nat.mod_one]
  ·simp[madeCells,hi]
 rw[e] at h; exact h
def Bf (w:World) (F:Ac) (v:Value) (n:Nd):Prop :=
 ∃ v3 v4 v5,v = .agg #[.int .i64 n.kind,.int .i64 n.ak,.int .i64 n.info,v3,v4,v5]∧Ae w F v3 n.next∧Ae w F v4 n.weights∧Ae w F v5 n.pay
theorem Bf.keep {w w':World} {F G:Ac} {v:Value} {n:Nd} (h:Bf w F v n) (hFG:∀ b,F b→b < w.heap.size→G b) (hs:Same F w w'):Bf w' G v n:=by
 obtain⟨v3,v4,v5,rfl,h3,h4,h5⟩:=h;exact⟨v3,v4,v5,rfl,h3.keep hFG hs,h4.keep hFG hs,h5.keep hFG hs⟩
theorem Ae.on {w w':World} {F:Ac} {v:Value} {l:List Int} (h:Ae w F v l) (hs:Same F w w'):Ae w' F v l:=h.keep (fun _ h _=>h) hs
theorem AO.on {w w':World} {F:Ac} {v:Value} {l:List Bool} (h:AO w F v l) (hs:Same F w w'):AO w' F v l:=h.keep (fun _ h _=>h) hs
theorem AY.on {w w':World} {F:Ac} {v:Value} {l:List (List Int)} (h:AY w F v l) (hs:Same F w w'):AY w' F v l:=h.keep (fun _ h _=>h) hs
theorem AB.on {w w':World} {F:Ac} {v:Value} {l:List Nd} (h:AB w F v l) (hs:Same F w w'):AB w' F v l:=h.keep (fun _ h _=>h) hs
theorem AX.on {w w':World} {F:Ac} {v:Value} {l:List Inf} (h:AX w F v l) (hs:Same F w w'):AX w' F v l:=h.keep (fun _ h _=>h) hs
theorem Az.on {w w':World} {F:Ac} {v:Value} {g:Gm} (h:Az w F v g) (hs:Same F w w'):Az w' F v g:=h.keep (fun _ h _=>h) hs
theorem Bf.on {w w':World} {F:Ac} {v:Value} {n:Nd} (h:Bf w F v n) (hs:Same F w w'):Bf w' F v n:=h.keep (fun _ h _=>h) hs
theorem aG {B:Nat} {a w:World} (h:Below B a w) (n:Nat):Below B a (w.drewN n):=⟨h.os,h.tape,h.output,h.size,h.block⟩
theorem Row.dN {w:World} {b:Nat} {t:TypeId} {vs:List Value} (h:Row w b t vs) (n:Nat):Row (w.drewN n) b t vs:=h
theorem aA {B:Nat} {w w':World} (h:Below B w w'):∀ b o,b < B→w'.cell? ⟨b,o,none⟩=w.cell? ⟨b,o,none⟩:=fun b o hb=>h.cell (p:=⟨b,o,none⟩) hb
theorem Row.ints {w:World} {b:Nat} {t:TypeId} {l:List Int} (h:Row w b t (l.map (Value.int .i64))) {F:Ac} (hF:F b) {c:Nat} (hc:l.length≤c):Ae w F (.slice (some ⟨b,0,none⟩) l.length c) l :=
 ⟨_,c,rfl,hc,fun _=>⟨b,0,rfl,hF,h.lt,fun k x hk=>by unfold iH; simp only[Nat.mul_one,Nat.zero_add]; exact h.cell (by simp[hk])⟩⟩
theorem Row.bools {w:World} {b:Nat} {t:TypeId} {l:List Bool} (h:Row w b t (l.map Value.bool)) {F:Ac} (hF:F b) {c:Nat} (hc:l.length≤c):AO w F (.slice (some ⟨b,0,none⟩) l.length c) l :=
 ⟨_,c,rfl,hc,fun _=>⟨b,0,rfl,hF,h.lt,fun k x hk=>by unfold tC; simp only[Nat.mul_one,Nat.zero_add]; exact h.cell (by simp[hk])⟩⟩
theorem fG {P:Program} (w:World) {ops:Array Oper} {rest:List Oper} {o:Oper} {a:Act} {Q:Exit→Act→World→Prop}
  (hg:o.guard=none) (l c:Operand) (t:TypeId) (hop:o.op=Op.makeSlice t l c)
  (e:TypeId) (z:Value) (bytes:Nat) (ht:P.underlying t=some (.slice e)) (hinfo:(P.info? e).map (fun i=>(i.zero,i.size,i.bytes))=some (some z,1,bytes)) (hz1:z.cells = #[z])
  (n:Nat) (hl:a.eval l = .int .i64 (n:Int)) (hc:a.eval c = .int .i64 (n:Int)) (hn:n≤1000000) (hb:bytes≤1000)
  (hK:∀ w1,Below w.heap.size w w1→w1.heap.size=w.heap.size+1→Row w1 w.heap.size e (List.replicate n z) →
   wpList P ops Q rest (a.put o.dst (.slice (some ⟨w.heap.size,0,none⟩) n n)) w1) :
  wpList P ops Q (o :: rest) a w:=by
 refine wpList_plain hg fun K hK'=>?_
 have hbytes:bytes*n≤281474976710656:=by
  have:bytes*n≤1000*1000000:=Nat.mul_le_mul hb hn;omega
 have hrun:=run_make_row' (P:=P) t e z bytes ht hinfo hz1 .i64 .i64 n hbytes (by omega) w;unfold Oper.wp;simp[execOp,hop,hl,hc,hrun,Result.andThen];have hbel:Below w.heap.size w (w.alloc (.cells (madeCells #[z] n) e)):=(Below.refl _ _).alloc (Nat.le_refl _) _;exact hK' _ _ (hK _ hbel (by simp) (Row.made w z n e))
theorem Tryz.infoInt:(Tryz.prog.info? 3).map (fun i=>(i.zero,i.size,i.bytes))=some (some (.int .i64 0),1,8):=by kernel_rfl
theorem Tryz.infoBool:(Tryz.prog.info? 4).map (fun i=>(i.zero,i.size,i.bytes))=some (some (.bool false),1,1):=by kernel_rfl
theorem Tryz.infoInts:(Tryz.prog.info? 26).map (fun i=>(i.zero,i.size,i.bytes))=some (some (.slice none 0 0),1,24):=by kernel_rfl
def Ret (w:World) (R:Value→World→Prop) (e:Ending) (w':World):Prop:=∃ v,e = .returned v∧Below w.heap.size w w'∧R v w'
theorem vJ {α:Type} {l:List α} {p:α→Bool} {k:Nat} {x:α} (h:l[k]? = some x) (hn:(l.take k).any p=false) (hx:p x=false):(l.take (k+1)).any p=false:=by
 rw[take_snoc h,List.any_append]; simp[hn,hx]
def iT (l:List Int) (i:Int) (p:List Int):List Int:=l.foldl (fun p c=>p.set c.toNat i) p
def lT (nodes:List Nd):Nat→List Int
 | 0=>(List.replicate nodes.length 0).set 0 (-1)
 | k+1=>match nodes[k]? with
  | some n=>iT n.next k (lT nodes k)
  | none=>lT nodes k
def aW (nodes:List Nd):List Int:=lT nodes nodes.length
theorem ab5 {l:List Int} {i:Int} {p:List Int} {k:Nat} {c:Int} (h:l[k]? = some c):iT (l.take (k+1)) i p=(iT (l.take k) i p).set c.toNat i:=by
 rw[take_snoc h]; simp[iT,List.foldl_append]
theorem qW (l:List Int) (i:Int) (p:List Int):(iT l i p).length=p.length:=by
 unfold iT;induction l generalizing p with
 | nil=>rfl
 | cons c l ih=>simp only[List.foldl_cons]; rw[ih]; simp
theorem iU (nodes:List Nd) (k:Nat):(lT nodes k).length=nodes.length:=by
 induction k with
 | zero=>simp[lT]
 | succ k ih =>
  unfold lT;split
  ·rw[qW,ih]
  ·exact ih
theorem zI {nodes:List Nd} {k:Nat} {n:Nd} (h:nodes[k]? = some n):lT nodes (k+1)=iT n.next k (lT nodes k):=by
 simp[lT,h]
def dV (roots:List Int) (l:List Bool):List Bool:=roots.foldl (fun l r=>l.set r.toNat true) l
def ab6 (par:List Int) (l:List Bool) (i:Nat):List Bool:=l.set i (l.getD i false||l.getD (par.getD i 0).toNat false)
def ab7 (par:List Int) (l:List Bool) (m:Nat):List Bool:=(List.range' 1 (m - 1)).foldl (ab6 par) l
def fK (nodes:List Nd) (roots:List Int):List Bool:=ab7 (aW nodes) (dV roots (List.replicate nodes.length false)) nodes.length
theorem iV (l:List Int) (p:List Bool):(dV l p).length=p.length:=by
 unfold dV;induction l generalizing p with
 | nil=>rfl
 | cons c l ih=>simp only[List.foldl_cons]; rw[ih]; simp
theorem af7 (par:List Int) (l:List Bool) (m:Nat) (h:1≤m):ab7 par l (m+1)=ab6 par (ab7 par l m) m:=by
 unfold ab7;have:m+1 - 1=(m - 1)+1:=by omega
 rw[this,List.range'_concat,List.foldl_append];simp
 rw[show 1+(m - 1)=m by omega]
theorem ac4 (par:List Int) (l:List Bool) (m:Nat):(ab7 par l m).length=l.length:=by
 unfold ab7;generalize List.range' 1 (m - 1)=r;induction r generalizing l with
 | nil=>rfl
 | cons c r ih=>simp only[List.foldl_cons]; rw[ih]; simp[ab6]
def DT (nodes:List Nd):Prop:=∀ n∈nodes,∀ c∈n.next,0≤c∧c < (nodes.length:Int)
structure Small (g:Gm):Prop where
 nodes:g.nodes.length≤100
 infos:g.infos.length≤100
 next:∀ n∈g.nodes,n.next.length≤100
 weights:∀ n∈g.nodes,n.weights.length≤100
 pay:∀ n∈g.nodes,n.pay.length≤100
theorem iJ {α:Type} {l1 l2:List α} {k:Nat} {x:α} (h1:l1[k]? = some x) (h2:l2[k]? = some x) (h:l1.take k=l2.take k):l1.take (k+1)=l2.take (k+1):=by
 rw[take_snoc h1,take_snoc h2,h]
theorem aX (w:World) (F:Ac) (v1 v2:Value) (l1 l2:List Int) (h1:Ae w F v1 l1) (h2:Ae w F v2 l2) (hl1:l1.length < 1000000) (hl2:l2.length < 1000000) :
  Calls Tryz.prog 37 #[v1,v2] w fun e w'=>e = .returned (.bool (decide (l1=l2)))∧∃ n,w'=w.drewN n:=by
 obtain⟨A1,c1,rfl,hc1,r1⟩:=h1;obtain⟨A2,c2,rfl,hc2,r2⟩:=h2;by_cases hl:l1.length=l2.length
 ·have R1:=Aa r1; clear r1;have R2:=Aa r2; clear r2;have HL:=Aa hl;have hb:((l1.length:Int) != (l2.length:Int))=false:=by simp[hl]
  clear hl;go_enter Tryz.func37,Tryz.ntmps37;go_wp2
  go_loopw [5] (fun i wr=>∃ k:Nat,k≤l1.length∧i = .int .i64 k∧l1.take k=l2.take k∧∃ n,wr=w.drewN n) (fun i _=>l1.length - (intOf i).toNat)
  case atStart=>exact⟨0,by omega,rfl,by simp,0,rfl⟩
  case round =>
   obtain⟨k,hk,rfl,hpre,n,rfl⟩:=hrel;have HP:=Aa hpre; clear hpre;by_cases hlt:k < l1.length
   ·obtain⟨b1,o1,rfl,hb1,_,hcell1⟩:=R1.out (by omega);have hk2:k < l2.length:=by have:=HL.out; omega
    obtain⟨b2,o2,rfl,hb2,_,hcell2⟩:=R2.out (by omega);obtain⟨x,hx⟩:=au hlt;obtain⟨y,hy⟩:=au hk2;have e1:=hcell1 k x hx;have e2:=hcell2 k y hy;unfold iH at e1 e2;rw[Nat.mul_one] at e1 e2;clear hcell1 hcell2;have HX:=Aa hx; clear hx;have HY:=Aa hy; clear hy;by_cases he:x=y
    ·subst he;go_wp2
     go_quiet (fail)
     go_wp2
     go_roundw
     case rel=>exact⟨k+1,by omega,by go_num,iJ HX.out HY.out HP.out,_,rfl⟩
     case measure=>simp[intOf]; omega
    ·have hne:(x != y)=true:=by simp[he]
     have hfin:decide (l1=l2)=false:=by
      simp only[decide_eq_false_iff_not]; rintro rfl;have h3:=HX.out; rw[HY.out] at h3; cases h3; exact he rfl
     have HF:=Aa hfin; clear hfin he;go_wp2
     go_quiet (fail)
     go_wp2
     go_ret;exact⟨by rw[HF.out]; rfl,n+nq,by rw[World.drewN_drewN]⟩
   ·go_wp2
    go_ret;have:k=l1.length:=by omega
    have h3:=HP.out;have h4:=HL.out;refine⟨?_,_,rfl⟩;have h5:l1=l2:=by
     rw[List.take_of_length_le (by omega),List.take_of_length_le (by omega)] at h3; exact h3
    simp[h5]
 ·have hb:((l1.length:Int) != (l2.length:Int))=true:=by simp; omega
  go_enter Tryz.func37,Tryz.ntmps37;go_wp2
  go_ret;refine⟨?_,0,rfl⟩;have:l1≠l2:=by rintro rfl; exact hl rfl
  simp[this]
theorem tH (w:World) (F:Ac) (v1 v2:Value) (l1 l2:List Inf) (h1:AX w F v1 l1) (h2:AX w F v2 l2) (hl1:l1.length < 1000000) (hl2:l2.length < 1000000) :
  Calls Tryz.prog 79 #[v1,v2] w fun e w'=>e = .returned (.bool (decide (l1=l2)))∧∃ n,w'=w.drewN n:=by
 obtain⟨A1,c1,rfl,hc1,r1⟩:=h1;obtain⟨A2,c2,rfl,hc2,r2⟩:=h2;by_cases hl:l1.length=l2.length
 ·have R1:=Aa r1; clear r1;have R2:=Aa r2; clear r2;have HL:=Aa hl;have hb:((l1.length:Int) != (l2.length:Int))=false:=by simp[hl]
  clear hl;go_enter Tryz.func79,Tryz.ntmps79;go_wp2
  go_loopw [5] (fun i wr=>∃ k:Nat,k≤l1.length∧i = .int .i64 k∧l1.take k=l2.take k∧∃ n,wr=w.drewN n) (fun i _=>l1.length - (intOf i).toNat)
  case atStart=>exact⟨0,by omega,rfl,by simp,0,rfl⟩
  case round =>
   obtain⟨k,hk,rfl,hpre,n,rfl⟩:=hrel;have HP:=Aa hpre; clear hpre;by_cases hlt:k < l1.length
   ·obtain⟨b1,o1,rfl,hb1,_,hcell1⟩:=R1.out (by omega);have hk2:k < l2.length:=by have:=HL.out; omega
    obtain⟨b2,o2,rfl,hb2,_,hcell2⟩:=R2.out (by omega);obtain⟨x,hx⟩:=au hlt;obtain⟨y,hy⟩:=au hk2;have e1:=hcell1 k x hx;have e2:=hcell2 k y hy;obtain⟨e10,e11⟩:=e1;obtain⟨e20,e21⟩:=e2;clear hcell1 hcell2;obtain⟨xp,xa⟩:=x;obtain⟨yp,ya⟩:=y;dsimp only at e10 e11 e20 e21;have HX:=Aa hx; clear hx;have HY:=Aa hy; clear hy;by_cases he:xp=yp∧xa=ya
    ·obtain⟨rfl,rfl⟩:=he;go_wp2
     go_quiet (fail)
     go_wp2
     go_roundw
     case rel=>exact⟨k+1,by omega,by go_num,iJ HX.out HY.out HP.out,_,rfl⟩
     case measure=>simp[intOf]; omega
    ·have hfin:decide (l1=l2)=false:=by
      simp only[decide_eq_false_iff_not]; rintro rfl;have h3:=HX.out; rw[HY.out] at h3; cases h3; exact he ⟨rfl,rfl⟩
     have HF:=Aa hfin; clear hfin;by_cases h1:xp=yp
     ·subst h1;have hne:(xa==ya)=false:=by simp; exact fun h2=>he ⟨rfl,h2⟩
      clear he;go_wp2
      go_quiet (fail)
      go_wp2
      go_ret;exact⟨by rw[HF.out]; rfl,n+nq,by rw[World.drewN_drewN]⟩
     ·have hne:(xp==yp)=false:=by simp[h1]
      clear he h1;go_wp2
      go_quiet (fail)
      go_wp2
      go_ret;exact⟨by rw[HF.out]; rfl,n+nq,by rw[World.drewN_drewN]⟩
   ·go_wp2
    go_ret;have:k=l1.length:=by omega
    have h3:=HP.out;have h4:=HL.out;refine⟨?_,_,rfl⟩;have h5:l1=l2:=by
     rw[List.take_of_length_le (by omega),List.take_of_length_le (by omega)] at h3; exact h3
    simp[h5]
 ·have hb:((l1.length:Int) != (l2.length:Int))=true:=by simp; omega
  go_enter Tryz.func79,Tryz.ntmps79;go_wp2
  go_ret;refine⟨?_,0,rfl⟩;have:l1≠l2:=by rintro rfl; exact hl rfl
  simp[this]
theorem af8 (a b:Nd):a=b↔a.kind=b.kind∧a.ak=b.ak∧a.info=b.info∧a.next=b.next∧a.weights=b.weights∧a.pay=b.pay:=by
 cases a; cases b; simp
theorem dh (w:World) (a b:Obj) (n:Nat):Below w.heap.size w (((w.alloc a).alloc b).drewN n):=by
 have h:=(((Below.refl w.heap.size w).alloc (Nat.le_refl _) a).alloc (by simp) b);exact⟨h.os,h.tape,h.output,h.size,h.block⟩
theorem tJ (w:World) (F:Ac) (u1 u2:Value) (n1 n2:Nd) (h1:Bf w F u1 n1) (h2:Bf w F u2 n2)
  (hl1:n1.next.length < 1000000∧n1.weights.length < 1000000∧n1.pay.length < 1000000) (hl2:n2.next.length < 1000000∧n2.weights.length < 1000000∧n2.pay.length < 1000000) :
  Calls Tryz.prog 80 #[u1,u2] w (Ret w fun v _=>v = .bool (decide (n1=n2))):=by
 obtain⟨v3,v4,v5,rfl,h13,h14,h15⟩:=h1;obtain⟨u3,u4,u5,rfl,h23,h24,h25⟩:=h2;obtain⟨hl13,hl14,hl15⟩:=hl1;obtain⟨hl23,hl24,hl25⟩:=hl2;have H13:=Aa h13; clear h13;have H14:=Aa h14; clear h14;have H15:=Aa h15; clear h15;have H23:=Aa h23; clear h23;have H24:=Aa h24; clear h24;have H25:=Aa h25; clear h25;have HE:=Aa (af8 n1 n2);by_cases q0:n1.kind=n2.kind
 case neg =>
  have d0:(n1.kind==n2.kind)=false:=by simp[q0]
  have HF:=Aa (show decide (n1=n2)=false by simp only[decide_eq_false_iff_not]; exact fun h=>q0 (HE.out.1 h).1);clear q0;go_enter Tryz.func80,Tryz.ntmps80;go_wp2
  go_ret;exact⟨_,rfl,dh _ _ _ 0,by rw[HF.out]; rfl⟩
 have d0:(n1.kind==n2.kind)=true:=by simp[q0]
 have Q0:=Aa q0; clear q0;by_cases q1:n1.ak=n2.ak
 case neg =>
  have d1:(n1.ak==n2.ak)=false:=by simp[q1]
  have HF:=Aa (show decide (n1=n2)=false by simp only[decide_eq_false_iff_not]; exact fun h=>q1 (HE.out.1 h).2.1);clear q1;go_enter Tryz.func80,Tryz.ntmps80;go_wp2
  go_ret;exact⟨_,rfl,dh _ _ _ 0,by rw[HF.out]; rfl⟩
 have d1:(n1.ak==n2.ak)=true:=by simp[q1]
 have Q1:=Aa q1; clear q1;by_cases q2:n1.info=n2.info
 case neg =>
  have d2:(n1.info==n2.info)=false:=by simp[q2]
  have HF:=Aa (show decide (n1=n2)=false by simp only[decide_eq_false_iff_not]; exact fun h=>q2 (HE.out.1 h).2.2.1);clear q2;go_enter Tryz.func80,Tryz.ntmps80;go_wp2
  go_ret;exact⟨_,rfl,dh _ _ _ 0,by rw[HF.out]; rfl⟩
 have d2:(n1.info==n2.info)=true:=by simp[q2]
 have Q2:=Aa q2; clear q2;by_cases q3:n1.next=n2.next
 case neg =>
  have d3:decide (n1.next=n2.next)=false:=by simp[q3]
  have HF:=Aa (show decide (n1=n2)=false by simp only[decide_eq_false_iff_not]; exact fun h=>q3 (HE.out.1 h).2.2.2.1);clear q3;go_enter Tryz.func80,Tryz.ntmps80;go_wp2_with (first | (go_at_call 37; (with_reducible refine(aX _ F _ _ n1.next n2.next (H13.out.on ?_) (H23.out.on ?_) hl13 hl23).mono ?_); exact(by repeat (first | exact Same.refl _ _ | exact Same.drewN _ _ _ | exact Same.alloc _ _ _ | refine Same.trans ?_ (Same.drewN _ _ _) | refine Same.trans ?_ (Same.alloc _ _ _))); exact(by repeat (first | exact Same.refl _ _ | exact Same.drewN _ _ _ | exact Same.alloc _ _ _ | refine Same.trans ?_ (Same.drewN _ _ _) | refine Same.trans ?_ (Same.alloc _ _ _))); rintro e w' ⟨rfl,m,rfl⟩) | (go_at_call 37; (with_reducible refine(aX _ F _ _ n1.weights n2.weights (H14.out.on ?_) (H24.out.on ?_) hl14 hl24).mono ?_); exact(by repeat (first | exact Same.refl _ _ | exact Same.drewN _ _ _ | exact Same.alloc _ _ _ | refine Same.trans ?_ (Same.drewN _ _ _) | refine Same.trans ?_ (Same.alloc _ _ _))); exact(by repeat (first | exact Same.refl _ _ | exact Same.drewN _ _ _ | exact Same.alloc _ _ _ | refine Same.trans ?_ (Same.drewN _ _ _) | refine Same.trans ?_ (Same.alloc _ _ _))); rintro e w' ⟨rfl,m,rfl⟩) | (go_at_call 37; (with_reducible refine(aX _ F _ _ n1.pay n2.pay (H15.out.on ?_) (H25.out.on ?_) hl15 hl25).mono ?_); exact(by repeat (first | exact Same.refl _ _ | exact Same.drewN _ _ _ | exact Same.alloc _ _ _ | refine Same.trans ?_ (Same.drewN _ _ _) | refine Same.trans ?_ (Same.alloc _ _ _))); exact(by repeat (first | exact Same.refl _ _ | exact Same.drewN _ _ _ | exact Same.alloc _ _ _ | refine Same.trans ?_ (Same.drewN _ _ _) | refine Same.trans ?_ (Same.alloc _ _ _))); rintro e w' ⟨rfl,m,rfl⟩))
  go_ret;exact⟨_,rfl,dh _ _ _ _,by rw[HF.out]; rfl⟩
 have d3:decide (n1.next=n2.next)=true:=by simp[q3]
 have Q3:=Aa q3; clear q3;by_cases q4:n1.weights=n2.weights
 case neg =>
  have d4:decide (n1.weights=n2.weights)=false:=by simp[q4]
  have HF:=Aa (show decide (n1=n2)=false by simp only[decide_eq_false_iff_not]; exact fun h=>q4 (HE.out.1 h).2.2.2.2.1);clear q4;go_enter Tryz.func80,Tryz.ntmps80;go_wp2_with (first | (go_at_call 37; (with_reducible refine(aX _ F _ _ n1.next n2.next (H13.out.on ?_) (H23.out.on ?_) hl13 hl23).mono ?_); exact(by repeat (first | exact Same.refl _ _ | exact Same.drewN _ _ _ | exact Same.alloc _ _ _ | refine Same.trans ?_ (Same.drewN _ _ _) | refine Same.trans ?_ (Same.alloc _ _ _))); exact(by repeat (first | exact Same.refl _ _ | exact Same.drewN _ _ _ | exact Same.alloc _ _ _ | refine Same.trans ?_ (Same.drewN _ _ _) | refine Same.trans ?_ (Same.alloc _ _ _))); rintro e w' ⟨rfl,m,rfl⟩) | (go_at_call 37; (with_reducible refine(aX _ F _ _ n1.weights n2.weights (H14.out.on ?_) (H24.out.on ?_) hl14 hl24).mono ?_); exact(by repeat (first | exact Same.refl _ _ | exact Same.drewN _ _ _ | exact Same.alloc _ _ _ | refine Same.trans ?_ (Same.drewN _ _ _) | refine Same.trans ?_ (Same.alloc _ _ _))); exact(by repeat (first | exact Same.refl _ _ | exact Same.drewN _ _ _ | exact Same.alloc _ _ _ | refine Same.trans ?_ (Same.drewN _ _ _) | refine Same.trans ?_ (Same.alloc _ _ _))); rintro e w' ⟨rfl,m,rfl⟩) | (go_at_call 37; (with_reducible refine(aX _ F _ _ n1.pay n2.pay (H15.out.on ?_) (H25.out.on ?_) hl15 hl25).mono ?_); exact(by repeat (first | exact Same.refl _ _ | exact Same.drewN _ _ _ | exact Same.alloc _ _ _ | refine Same.trans ?_ (Same.drewN _ _ _) | refine Same.trans ?_ (Same.alloc _ _ _))); exact(by repeat (first | exact Same.refl _ _ | exact Same.drewN _ _ _ | exact Same.alloc _ _ _ | refine Same.trans ?_ (Same.drewN _ _ _) | refine Same.trans ?_ (Same.alloc _ _ _))); rintro e w' ⟨rfl,m,rfl⟩))
  go_ret;exact⟨_,rfl,dh _ _ _ _,by rw[HF.out]; rfl⟩
 have d4:decide (n1.weights=n2.weights)=true:=by simp[q4]
 have Q4:=Aa q4; clear q4;by_cases q5:n1.pay=n2.pay
 case neg =>
  have d5:decide (n1.pay=n2.pay)=false:=by simp[q5]
  have HF:=Aa (show decide (n1=n2)=false by simp only[decide_eq_false_iff_not]; exact fun h=>q5 (HE.out.1 h).2.2.2.2.2);clear q5;go_enter Tryz.func80,Tryz.ntmps80;go_wp2_with (first | (go_at_call 37; (with_reducible refine(aX _ F _ _ n1.next n2.next (H13.out.on ?_) (H23.out.on ?_) hl13 hl23).mono ?_); exact(by repeat (first | exact Same.refl _ _ | exact Same.drewN _ _ _ | exact Same.alloc _ _ _ | refine Same.trans ?_ (Same.drewN _ _ _) | refine Same.trans ?_ (Same.alloc _ _ _))); exact(by repeat (first | exact Same.refl _ _ | exact Same.drewN _ _ _ | exact Same.alloc _ _ _ | refine Same.trans ?_ (Same.drewN _ _ _) | refine Same.trans ?_ (Same.alloc _ _ _))); rintro e w' ⟨rfl,m,rfl⟩) | (go_at_call 37; (with_reducible refine(aX _ F _ _ n1.weights n2.weights (H14.out.on ?_) (H24.out.on ?_) hl14 hl24).mono ?_); exact(by repeat (first | exact Same.refl _ _ | exact Same.drewN _ _ _ | exact Same.alloc _ _ _ | refine Same.trans ?_ (Same.drewN _ _ _) | refine Same.trans ?_ (Same.alloc _ _ _))); exact(by repeat (first | exact Same.refl _ _ | exact Same.drewN _ _ _ | exact Same.alloc _ _ _ | refine Same.trans ?_ (Same.drewN _ _ _) | refine Same.trans ?_ (Same.alloc _ _ _))); rintro e w' ⟨rfl,m,rfl⟩) | (go_at_call 37; (with_reducible refine(aX _ F _ _ n1.pay n2.pay (H15.out.on ?_) (H25.out.on ?_) hl15 hl25).mono ?_); exact(by repeat (first | exact Same.refl _ _ | exact Same.drewN _ _ _ | exact Same.alloc _ _ _ | refine Same.trans ?_ (Same.drewN _ _ _) | refine Same.trans ?_ (Same.alloc _ _ _))); exact(by repeat (first | exact Same.refl _ _ | exact Same.drewN _ _ _ | exact Same.alloc _ _ _ | refine Same.trans ?_ (Same.drewN _ _ _) | refine Same.trans ?_ (Same.alloc _ _ _))); rintro e w' ⟨rfl,m,rfl⟩))
  go_ret;exact⟨_,rfl,dh _ _ _ _,by rw[HF.out]; rfl⟩
 have d5:decide (n1.pay=n2.pay)=true:=by simp[q5]
 have Q5:=Aa q5; clear q5;have HF:=Aa (show decide (n1=n2)=true by simp only[decide_eq_true_eq]; exact HE.out.2 ⟨Q0.out,Q1.out,Q2.out,Q3.out,Q4.out,Q5.out⟩);go_enter Tryz.func80,Tryz.ntmps80;go_wp2_with (first | (go_at_call 37; (with_reducible refine(aX _ F _ _ n1.next n2.next (H13.out.on ?_) (H23.out.on ?_) hl13 hl23).mono ?_); exact(by repeat (first | exact Same.refl _ _ | exact Same.drewN _ _ _ | exact Same.alloc _ _ _ | refine Same.trans ?_ (Same.drewN _ _ _) | refine Same.trans ?_ (Same.alloc _ _ _))); exact(by repeat (first | exact Same.refl _ _ | exact Same.drewN _ _ _ | exact Same.alloc _ _ _ | refine Same.trans ?_ (Same.drewN _ _ _) | refine Same.trans ?_ (Same.alloc _ _ _))); rintro e w' ⟨rfl,m,rfl⟩) | (go_at_call 37; (with_reducible refine(aX _ F _ _ n1.weights n2.weights (H14.out.on ?_) (H24.out.on ?_) hl14 hl24).mono ?_); exact(by repeat (first | exact Same.refl _ _ | exact Same.drewN _ _ _ | exact Same.alloc _ _ _ | refine Same.trans ?_ (Same.drewN _ _ _) | refine Same.trans ?_ (Same.alloc _ _ _))); exact(by repeat (first | exact Same.refl _ _ | exact Same.drewN _ _ _ | exact Same.alloc _ _ _ | refine Same.trans ?_ (Same.drewN _ _ _) | refine Same.trans ?_ (Same.alloc _ _ _))); rintro e w' ⟨rfl,m,rfl⟩) | (go_at_call 37; (with_reducible refine(aX _ F _ _ n1.pay n2.pay (H15.out.on ?_) (H25.out.on ?_) hl15 hl25).mono ?_); exact(by repeat (first | exact Same.refl _ _ | exact Same.drewN _ _ _ | exact Same.alloc _ _ _ | refine Same.trans ?_ (Same.drewN _ _ _) | refine Same.trans ?_ (Same.alloc _ _ _))); exact(by repeat (first | exact Same.refl _ _ | exact Same.drewN _ _ _ | exact Same.alloc _ _ _ | refine Same.trans ?_ (Same.drewN _ _ _) | refine Same.trans ?_ (Same.alloc _ _ _))); rintro e w' ⟨rfl,m,rfl⟩))
 go_ret;exact⟨_,rfl,dh _ _ _ _,by rw[HF.out]; rfl⟩
def dA (rec:Nat→Int→Int×Int):List Int→Int→Int→Int×Int
 | [],next,deep=>(next,deep)
 | c :: cs,next,deep=>if c≠next then (-1,deep) else if (rec next.toNat deep).1 < 0 then (-1,(rec next.toNat deep).2) else dA rec cs (rec next.toNat deep).1 (rec next.toNat deep).2
def eX (nodes:List Nd):Nat→Nat→Int→Int→Int×Int
 | 0,_,_,deep=>(-1,deep)
 | f+1,a,depth,deep=>match nodes[a]? with
  | none=>(-1,deep)
  | some n=>dA (fun a d=>eX nodes f a (depth+1) d) n.next ((a:Int)+1) (max deep depth)
theorem qX {rec:Nat→Int→Int×Int} {N lo:Nat} (hrec:∀ a d,lo≤a→(rec a d).1 = -1∨((a:Int) < (rec a d).1∧(rec a d).1≤N)):∀ (cs:List Int) (next deep:Int),(lo:Int)≤next→next≤N →
  (dA rec cs next deep).1 = -1∨((lo:Int)≤(dA rec cs next deep).1∧(dA rec cs next deep).1≤N)
 | [],next,deep,h1,h2=>.inr ⟨h1,h2⟩
 | c :: cs,next,deep,h1,h2=>by
  unfold dA;split
  ·exact .inl rfl
  ·split
   ·exact .inl rfl
   ·rcases hrec next.toNat deep (by omega) with h | h
    ·omega
    ·exact qX hrec cs _ _ (by omega) (by omega)
theorem xP (nodes:List Nd):∀ (f a:Nat) (depth deep:Int),(eX nodes f a depth deep).1 = -1∨((a:Int) < (eX nodes f a depth deep).1∧(eX nodes f a depth deep).1≤nodes.length)
 | 0,_,_,_=>.inl rfl
 | f+1,a,depth,deep=>by
  unfold eX;split
  ·exact .inl rfl
  ·rename_i n hn
   have:=aB hn;rcases qX (rec:=fun a d=>eX nodes f a (depth+1) d) (N:=nodes.length) (lo:=a+1) (fun a' d _=>xP nodes f a' (depth+1) d) n.next ((a:Int)+1) (max deep depth) (by omega) (by omega) with h | h
   ·exact .inl h
   ·exact .inr (by omega)
theorem grown_setCell {a w:World} {g:Nat} (h:a.grownBy w (some g)) {p:Addr} (hp:p.block=g∨a.heap.size≤p.block) (u:Value):a.grownBy (w.setCell p u) (some g) :=
 ⟨h.os,h.tape,h.output,by simpa using h.size,fun i hi hne=>(Below.heap_setCell w p u i (by
  rintro rfl;rcases hp with hp | hp
  ·exact hne (by rw[hp])
  ·omega)).trans (h.block i hi hne)⟩
theorem aes (w:World) (row:Option Nat):w.grownBy w row:=⟨rfl,rfl,rfl,Nat.le_refl _,fun _ _ _=>rfl⟩
theorem ac5 {a b c:World} {row:Option Nat} (h:a.grownBy b row) (k:b.grownBy c row):a.grownBy c row :=
 ⟨k.os.trans h.os,k.tape.trans h.tape,k.output.trans h.output,Nat.le_trans h.size k.size,fun i hi hne=>(k.block i (Nat.lt_of_lt_of_le hi h.size) hne).trans (h.block i hi hne)⟩
def CV (w:World) (fid:FuncId) (caps:Array Value) (l:List Int) (p:Int→Bool):Prop :=
 (∀ (args:Array Value) (w':World),(callFunc fid args).run Tryz.prog w' = .ok (.enter fid args) w') ∧
 ∀ (n:Nat) (x:Int),x∈l→Calls Tryz.prog fid (#[.int .i64 x]++caps) (w.drewN n) fun e w'=>e = .returned (.bool (p x))∧∃ m,w'=w.drewN m
def idxOf (p:Int→Bool) (l:List Int):Int:=match l.findIdx? p with | some i=>(i:Int) | none=>-1
theorem idxOf_hit {p:Int→Bool} {l:List Int} {k:Nat} {x:Int} (h:l[k]? = some x) (hp:p x=true) (hn:(l.take k).any p=false):idxOf p l=k:=by
 have hk:=aB h;have:l.findIdx? p=some k:=by
  rw[List.findIdx?_eq_some_iff_getElem];refine⟨hk,?_,fun j hj=>?_⟩
  ·have:l[k]=x:=by simpa [hk] using h
   rw[this]; exact hp
  ·have h1:=List.any_eq_false.1 hn l[j] (by rw[List.mem_take_iff_getElem]; exact⟨j,by omega,rfl⟩);simpa using h1
 simp[idxOf,this]
theorem zJ {p:Int→Bool} {l:List Int} (hn:l.any p=false):idxOf p l = -1:=by
 have:l.findIdx? p=none:=by
  rw[List.findIdx?_eq_none_iff];intro x hx;have:=List.any_eq_false.1 hn x hx;simpa using this
 simp[idxOf,this]
theorem af9 (p:Int→Bool) (l:List Int):decide (0≤idxOf p l)=l.any p:=by
 cases h:l.any p with
 | false=>rw[zJ h]; rfl
 | true =>
  obtain⟨x,hx,hp⟩:=List.any_eq_true.1 h;unfold idxOf;split
  ·rw[decide_eq_true_iff]; omega
  ·rename_i h1
   rw[List.findIdx?_eq_none_iff] at h1;have:=h1 x hx;rw[hp] at this; cases this
theorem aa0 (w:World) (F:Ac) (v:Value) (l:List Int) (fid:FuncId) (caps:Array Value) (p:Int→Bool) (hv:Ae w F v l) (hl:l.length≤1000000) (ha:CV w fid caps l p) :
  Calls Tryz.prog 182 #[v,.func (.func fid) #[] caps] w fun e w'=>e = .returned (.int .i64 (idxOf p l))∧∃ n,w'=w.drewN n:=by
 obtain⟨A,c,rfl,hc,hr⟩:=hv;have HR:=Aa hr; clear hr;obtain⟨hcf,hcl⟩:=ha;have HCL:=Aa hcl; clear hcl;go_enter Tryz.func182,Tryz.ntmps182;go_wp2
 go_loopw [8] (fun i wr=>∃ k n:Nat,k≤l.length∧i = .int .i64 k∧(l.take k).any p=false∧wr=w.drewN n) (fun i _=>l.length - (intOf i).toNat)
 case atStart=>exact⟨0,0,by omega,rfl,rfl,rfl⟩
 case round =>
  obtain⟨k,n,hk,rfl,hpre,rfl⟩:=hrel;have HP:=Aa hpre; clear hpre;by_cases hlt:k < l.length
  ·obtain⟨b,o,rfl,_,hb,hx⟩:=HR.out (by omega);obtain⟨x,hxx⟩:=au hlt;have ex:=hx k x hxx;unfold iH at ex;rw[Nat.mul_one] at ex;have HX:=Aa hxx; clear hxx hx;go_wp2_with fail
   refine(HCL.out n x (List.mem_of_getElem? HX.out)).mono ?_;rintro e w' ⟨rfl,m,rfl⟩;dsimp only;cases hpx:p x
   ·have HPX:=Aa hpx; clear hpx;go_wp2
    go_roundw
    case rel=>exact⟨k+1,m,by omega,by go_num,vJ HX.out HP.out HPX.out,rfl⟩
    case measure=>simp[intOf]; omega
   ·have HF:=Aa (idxOf_hit HX.out hpx HP.out); clear hpx;go_wp2
    go_ret;exact⟨by rw[HF.out]; rfl,m,rfl⟩
  ·go_wp2
   go_ret;have h:=HP.out;rw[List.take_of_length_le (by omega)] at h;exact⟨by rw[zJ h]; rfl,n,rfl⟩
theorem oQ (w:World) (F:Ac) (v:Value) (l:List Int) (fid:FuncId) (caps:Array Value) (p:Int→Bool) (hv:Ae w F v l) (hl:l.length≤1000000) (ha:CV w fid caps l p) :
  Calls Tryz.prog 139 #[v,.func (.func fid) #[] caps] w fun e w'=>e = .returned (.bool (l.any p))∧∃ n,w'=w.drewN n:=by
 have HV:=Aa hv; clear hv;have HA:=Aa ha; clear ha;go_enter Tryz.func139,Tryz.ntmps139;go_wp2_with fail
 refine(aa0 w F v l fid caps p HV.out hl HA.out).mono ?_;rintro e w' ⟨rfl,n,rfl⟩;dsimp only;have HF:=Aa (af9 p l);generalize idxOf p l=q at *;go_wp2
 all_goals
  go_ret;refine⟨?_,n,rfl⟩;rw[← HF.out];first | rfl | (simp; omega)
theorem neF {a b:Int} (h:a=b):(a != b)=false:=by simp[h]
theorem neT {a b:Int} (h:a≠b):(a != b)=true:=by simp[h]
def outside (lo hi:Int) (l:List Int):Bool:=l.any fun x=>decide (x < lo)||decide (hi < x)
def dw (x:Nd):Int :=
 if x.ak≠0∨x.info≠0∨0 < x.pay.length∨x.next.length < 1∨60 < x.next.length∨x.weights.length≠x.next.length then 3 else if outside 1 1000 x.weights then 2 else 0
def fM (aj:Int) (ni:Nat) (x:Nd):Int :=
 if 0 < x.pay.length∨0 < x.weights.length∨x.next.length < 1∨10 < x.next.length then 3 else if x.ak < 0∨aj≤x.ak∨x.info < 0∨(ni:Int)≤x.info then 2 else 0
def jB (aj:Int) (x:Nd):Int :=
 if x.ak≠0∨x.info≠0∨0 < x.next.length∨0 < x.weights.length∨(x.pay.length:Int)≠aj then 3 else if outside (-1000000) 1000000 x.pay then 2 else 0
def dK (aj:Int) (ni:Nat) (x:Nd):Int :=
 if x.kind=1 then dw x else if x.kind=2 then fM aj ni x else if x.kind=3 then jB aj x else 3
theorem aa1 (w:World) (F:Ac) (v:Value) (g:Gm) (hg:Az w F v g) (hsm:Small g) (h0:0 < g.nodes.length) (hk:DT g.nodes) :
  Calls Tryz.prog 46 #[v] w (Ret w fun v w'=>Ae w' (fun b=>w.heap.size≤b) v (aW g.nodes)):=by
 obtain⟨vn,vi,rfl,⟨A,c,rfl,hc,hN⟩,hI⟩:=hg;obtain⟨b,o,rfl,hbF,hbB,hN⟩:=hN h0;have HN:=Aa hN; clear hN;have HK:=Aa hk; clear hk;have hn:=hsm.nodes;have HS:=Aa hsm; clear hsm;go_enter Tryz.func46,Tryz.ntmps46;go_wp2_with (at_make; refine fG _ rfl _ _ 26 rfl 3 (.int .i64 0) 8 Tryz.underlying26 Tryz.infoInt rfl g.nodes.length rfl rfl (by omega) (by omega) ?_; intro w1 tK hsz1 hrow1; have r0:=hrow1.cell (i:=0) (v:=.int .i64 0) (by simp[h0]); have f0:=hrow1.frozen 0; simp at r0 f0)
 go_loopw [4] (fun i wr=>∃ k:Nat,k≤g.nodes.length∧i = .int .i64 k∧wr.cell? ⟨w.heap.size,1,none⟩=some (.slice (some ⟨b,o,none⟩) g.nodes.length c)∧Row wr (w.heap.size+1) 3 ((lT g.nodes k).map (Value.int .i64))∧Below w.heap.size w wr) (fun i _=>g.nodes.length - (intOf i).toNat)
 case atStart =>
  refine⟨0,by omega,rfl,?_,?_,?_⟩
  ·rw[World.cell?_setCell_other _ _ _ _ (by simp),aA tK _ _ (by simp)]; simp
  ·have:=hrow1.set 0 (.int .i64 (-1));simp only[World.size_alloc] at this;simpa [lT,List.map_set] using this
  ·exact(((Below.refl _ _).alloc (Nat.le_refl _) _).trans (tK.mono (by simp))).setCell (by simp) _
 case round =>
  obtain⟨k,hk,rfl,hbox,hrow,hbel⟩:=hrel;by_cases hlt:k < g.nodes.length
  ·obtain⟨n,hn'⟩:=au hlt;have afH:=HN.out k n hn';obtain⟨v3,e3,A3,c3,rfl,hc3,hN3⟩:=afH.c3;have hl3:=HS.out.next n (List.mem_of_getElem? hn');have HN3:=Aa hN3; clear hN3 afH;have HN':=Aa hn'; clear hn';have hold:=aA hbel;go_wp2
   go_loopw [5] (fun i wi=>∃ j:Nat,j≤n.next.length∧i = .int .i64 j∧wi.cell? ⟨w.heap.size,1,none⟩=some (.slice (some ⟨b,o,none⟩) g.nodes.length c)∧Row wi (w.heap.size+1) 3 ((iT (n.next.take j) k (lT g.nodes k)).map (Value.int .i64))∧Below w.heap.size w wi) (fun i _=>n.next.length - (intOf i).toNat)
   case atStart=>exact⟨0,by omega,rfl,hbox,by simpa [iT] using hrow,hbel⟩
   case round =>
    clear hbox hrow hold;obtain⟨j,hj,rfl,hbox,hrow,dR⟩:=hrel;have hold:=aA dR;by_cases hjt:j < n.next.length
    ·obtain⟨ch,hch⟩:=au hjt;obtain⟨b3,o3,rfl,hb3,hb3B,hx3⟩:=HN3.out (by omega);have ec:=hx3 j ch hch;unfold iH at ec;rw[Nat.mul_one] at ec;obtain⟨aiE,hch1⟩:=HK.out n (List.mem_of_getElem? HN'.out) ch (List.mem_of_getElem? hch);have HCH:=Aa hch; clear hch hx3;obtain⟨x,hx⟩:=au (l:=iT (n.next.take j) k (lT g.nodes k)) (k:=ch.toNat) (by rw[qW,iU]; omega);have rc:=hrow.cell (i:=ch.toNat) (v:=.int .i64 x) (by simp[hx]);have fc:=hrow.frozen ch.toNat;clear hx;go_wp2
     go_roundw
     case rel =>
      refine⟨j+1,by omega,by go_num,?_,?_,dR.setCell (by simp) _⟩
      ·rw[World.cell?_setCell_other _ _ _ _ (by simp)]; exact hbox
      ·have:=hrow.set ch.toNat (.int .i64 k);rw[ab5 HCH.out];simpa [List.map_set] using this
     case measure=>simp[intOf]; omega
    ·go_wp2
     go_roundw
     case rel =>
      have:j=n.next.length:=by omega
      subst this;refine⟨k+1,by omega,by go_num,hbox,?_,dR⟩;rw[zI HN'.out];simpa using hrow
     case measure=>simp[intOf]; omega
  ·go_wp2
   go_ret;have:k=g.nodes.length:=by omega
   subst this;refine⟨_,rfl,hbel,?_⟩;have hl:(aW g.nodes).length=g.nodes.length:=iU _ _;have:=hrow.ints (F:=fun b=>w.heap.size≤b) (by omega) (c:=g.nodes.length) (by rw[iU]; omega);rw[iU] at this;exact this
end Go.Proofs.YthmklhapjegfdaaGreatDoor

/- Words for memory that all contracts of this seat share: slices that read as lists, rows of cells, worlds that keep some blocks. -/
import Derived.Test.YtkcheepafifjaaaGreatDoorProg
import Derived.WalkKit
import Derived.Deep.QuietTactic
import Derived.BigQuiet
import Derived.Lib.Hide
import Derived.Deep.OwnRows
set_option linter.all false
set_option maxRecDepth 100000
set_option maxHeartbeats 12800000
namespace Go.Proofs.YtkcheepafifjaaaGreatDoor
open Lib renaming hid → Ac
open Go.RowKit
abbrev Ag:=Nat→Prop
structure Same (F:Ag) (w w':World):Prop where
 size:w.heap.size≤w'.heap.size
 block:∀ b,F b→b < w.heap.size→w'.heap[b]? = w.heap[b]?
section
variable {F G:Ag} {w w' w'':World}
theorem Same.cell (h:Same F w w') {b:Nat} (hb:F b) (hl:b < w.heap.size) (o:Nat):w'.cell? ⟨b,o,none⟩=w.cell? ⟨b,o,none⟩:=World.cell?_of_block (w:=w) (h.block b hb hl)
theorem Same.refl (F:Ag) (w:World):Same F w w:=⟨Nat.le_refl _,fun _ _ _=>rfl⟩
theorem Same.trans (h:Same F w w') (k:Same F w' w''):Same F w w'':=⟨Nat.le_trans h.size k.size,fun i hi hl=>(k.block i hi (Nat.lt_of_lt_of_le hl h.size)).trans (h.block i hi hl)⟩
theorem Same.mono (h:Same F w w') (hG:∀ b,G b→F b):Same G w w':=⟨h.size,fun b hb hl=>h.block b (hG b hb) hl⟩
theorem Below.same' (h:Below w.heap.size w w') (F:Ag):Same F w w':=⟨h.size,fun b _ hl=>h.block b hl⟩
theorem Same.alloc (F:Ag) (w:World) (o:Obj):Same F w (w.alloc o):=⟨by simp,fun b _ hl=>Below.heap_alloc w o b hl⟩
theorem Same.drewN (F:Ag) (w:World) (n:Nat):Same F w (w.drewN n):=⟨Nat.le_refl _,fun _ _ _=>rfl⟩
theorem Same.setCell (F:Ag) (w:World) {p:Addr} (hp:¬ F p.block) (v:Value):Same F w (w.setCell p v) :=
 ⟨by simp,fun b hb _=>Below.heap_setCell w p v b (fun e=>hp (e▸hb))⟩
end
theorem aB {α:Type} {l:List α} {k:Nat} (h:k < l.length):∃ x,l[k]? = some x:=⟨l[k],by simp[h]⟩
theorem aF {α:Type} {l:List α} {k:Nat} {x:α} (h:l[k]? = some x):k < l.length:=by
 rcases Nat.lt_or_ge k l.length with h1 | h1
 ·exact h1
 ·rw[List.getElem?_eq_none h1] at h; cases h
theorem take_snoc {α:Type} {l:List α} {k:Nat} {x:α} (h:l[k]? = some x):l.take (k+1)=l.take k ++ [x]:=by
 rw[List.take_succ_eq_append_getElem (aF h)]; congr 2;have:=aF h;simpa [this] using h
def BQ {α:Type} (sz:Nat) (E:World→Ag→Nat→Nat→α→Prop) (w:World) (F:Ag) (v:Value) (l:List α):Prop :=
 ∃ A c,v = .slice A l.length c∧l.length≤c∧(0 < l.length→∃ b o,A=some ⟨b,o,none⟩∧F b∧b < w.heap.size∧∀ k x,l[k]? = some x→E w F b (o+k*sz) x)
theorem BQ.keep {α:Type} {sz:Nat} {E:World→Ag→Nat→Nat→α→Prop} {w w':World} {F G:Ag} {v:Value} {l:List α}
  (h:BQ sz E w F v l) (hFG:∀ b,F b→b < w.heap.size→G b) (hsz:w.heap.size≤w'.heap.size) (hE:∀ b o x,x∈l→F b→b < w.heap.size→E w F b o x→E w' G b o x):BQ sz E w' G v l:=by
 obtain⟨A,c,rfl,hc,hr⟩:=h;refine⟨A,c,rfl,hc,fun h0=>?_⟩;obtain⟨b,o,rfl,hb,hl,hx⟩:=hr h0;exact⟨b,o,rfl,hFG b hb hl,Nat.lt_of_lt_of_le hl hsz,fun k x hk=>hE b _ x (List.mem_of_getElem? hk) hb hl (hx k x hk)⟩
def lY (k:IntKind) (w:World) (_:Ag) (b o:Nat) (x:Int):Prop:=w.cell? ⟨b,o,none⟩=some (.int k x)
def ai8 (w:World) (_:Ag) (b o:Nat) (x:Bool):Prop:=w.cell? ⟨b,o,none⟩=some (.bool x)
def xk {α:Type} (S:World→Ag→Value→α→Prop) (w:World) (F:Ag) (b o:Nat) (x:α):Prop:=∃ v,w.cell? ⟨b,o,none⟩=some v∧S w F v x
def AA (w:World) (F:Ag) (v:Value) (l:List Int):Prop:=BQ 1 (lY .i64) w F v l
def BZ (w:World) (F:Ag) (v:Value) (l:List Bool):Prop:=BQ 1 ai8 w F v l
def BA (w:World) (F:Ag) (v:Value) (l:List (List Int)):Prop:=BQ 1 (xk AA) w F v l
theorem AA.keep {w w':World} {F G:Ag} {v:Value} {l:List Int} (h:AA w F v l) (hFG:∀ b,F b→b < w.heap.size→G b) (hs:Same F w w'):AA w' G v l :=
 BQ.keep h hFG hs.size fun b o x _ hb hl hx=>by unfold lY at *; rw[hs.cell hb hl]; exact hx
theorem BZ.keep {w w':World} {F G:Ag} {v:Value} {l:List Bool} (h:BZ w F v l) (hFG:∀ b,F b→b < w.heap.size→G b) (hs:Same F w w'):BZ w' G v l :=
 BQ.keep h hFG hs.size fun b o x _ hb hl hx=>by unfold ai8 at *; rw[hs.cell hb hl]; exact hx
theorem BA.keep {w w':World} {F G:Ag} {v:Value} {l:List (List Int)} (h:BA w F v l) (hFG:∀ b,F b→b < w.heap.size→G b) (hs:Same F w w'):BA w' G v l :=
 BQ.keep h hFG hs.size fun b o x _ hb hl hx=>by
  obtain⟨u,hu,hr⟩:=hx;exact⟨u,by rw[hs.cell hb hl]; exact hu,hr.keep hFG hs⟩
structure Nd where
 kind:Int
 aA:Int
 info:Int
 next:List Int
 weights:List Int
 pay:List Int
 deriving Inhabited,DecidableEq
structure Inf where
 aA:Int
 actions:Int
 deriving Inhabited,DecidableEq
structure Gm where
 au:Int
 nodes:List Nd
 infos:List Inf
 deriving Inhabited,DecidableEq
structure Dp (w:World) (F:Ag) (b o:Nat) (n:Nd):Prop where
 c0:w.cell? ⟨b,o,none⟩=some (.int .i64 n.kind)
 c1:w.cell? ⟨b,o+1,none⟩=some (.int .i64 n.aA)
 c2:w.cell? ⟨b,o+2,none⟩=some (.int .i64 n.info)
 c3:xk AA w F b (o+3) n.next
 c4:xk AA w F b (o+4) n.weights
 c5:xk AA w F b (o+5) n.pay
structure Ea (w:World) (_:Ag) (b o:Nat) (n:Inf):Prop where
 c0:w.cell? ⟨b,o,none⟩=some (.int .i64 n.aA)
 c1:w.cell? ⟨b,o+1,none⟩=some (.int .i64 n.actions)
theorem qM {w w':World} {F G:Ag} {b o:Nat} {l:List Int} (h:xk AA w F b o l) (hFG:∀ b,F b→b < w.heap.size→G b) (hs:Same F w w') (hb:F b) (hl:b < w.heap.size):xk AA w' G b o l:=by
 obtain⟨u,hu,hr⟩:=h;exact⟨u,by rw[hs.cell hb hl]; exact hu,hr.keep hFG hs⟩
theorem Dp.keep {w w':World} {F G:Ag} {b o:Nat} {n:Nd} (h:Dp w F b o n) (hFG:∀ b,F b→b < w.heap.size→G b) (hs:Same F w w') (hb:F b) (hl:b < w.heap.size):Dp w' G b o n :=
 ⟨by rw[hs.cell hb hl]; exact h.c0,by rw[hs.cell hb hl]; exact h.c1,by rw[hs.cell hb hl]; exact h.c2,qM h.c3 hFG hs hb hl,qM h.c4 hFG hs hb hl,qM h.c5 hFG hs hb hl⟩
def Bj (w:World) (F:Ag) (v:Value) (l:List Nd):Prop:=BQ 6 Dp w F v l
def Bv (w:World) (F:Ag) (v:Value) (l:List Inf):Prop:=BQ 2 Ea w F v l
theorem Bj.keep {w w':World} {F G:Ag} {v:Value} {l:List Nd} (h:Bj w F v l) (hFG:∀ b,F b→b < w.heap.size→G b) (hs:Same F w w'):Bj w' G v l :=
 BQ.keep h hFG hs.size fun _ _ _ _ hb hl hx=>hx.keep hFG hs hb hl
theorem Bv.keep {w w':World} {F G:Ag} {v:Value} {l:List Inf} (h:Bv w F v l) (hFG:∀ b,F b→b < w.heap.size→G b) (hs:Same F w w'):Bv w' G v l :=
 BQ.keep h hFG hs.size fun _ _ _ _ hb hl hx=>⟨by rw[hs.cell hb hl]; exact hx.c0,by rw[hs.cell hb hl]; exact hx.c1⟩
def AX (w:World) (F:Ag) (v:Value) (g:Gm):Prop :=
 ∃ vn vi,v = .agg #[.int .i64 g.au,vn,vi]∧Bj w F vn g.nodes∧Bv w F vi g.infos
theorem AX.keep {w w':World} {F G:Ag} {v:Value} {g:Gm} (h:AX w F v g) (hFG:∀ b,F b→b < w.heap.size→G b) (hs:Same F w w'):AX w' G v g:=by
 obtain⟨vn,vi,rfl,hn,hi⟩:=h;exact⟨vn,vi,rfl,hn.keep hFG hs,hi.keep hFG hs⟩
def Row (w:World) (b:Nat) (t:TypeId) (vs:List Value):Prop:=w.heap[b]? = some (.cells vs.toArray t (0,0))
section
variable {w w':World} {b:Nat} {t:TypeId} {vs:List Value}
theorem Row.cell (h:Row w b t vs) {i:Nat} {v:Value} (hi:vs[i]? = some v):w.cell? ⟨b,i,none⟩=some v:=by
 unfold Row at h; simp[World.cell?,h,hi]
theorem Row.frozen (h:Row w b t vs) (i:Nat):w.frozen? ⟨b,i,none⟩=false:=by
 unfold Row at h; simp[World.frozen?,h]
theorem Row.lt (h:Row w b t vs):b < w.heap.size:=by
 obtain⟨hlt,_⟩:=Array.getElem?_eq_some_iff.1 h;exact hlt
theorem Row.of_block (h:Row w b t vs) (e:w'.heap[b]? = w.heap[b]?):Row w' b t vs:=e.trans h
theorem Row.set (h:Row w b t vs) (i:Nat) (v:Value):Row (w.setCell ⟨b,i,none⟩ v) b t (vs.set i v):=by
 unfold Row at *;simp[World.setCell,Array.getElem?_modify,h]
theorem Row.other (h:Row w b t vs) {a:Addr} (ha:b≠a.block) (v:Value):Row (w.setCell a v) b t vs:=h.of_block (Below.heap_setCell _ _ _ _ ha)
theorem sto {W:World} {a:Addr} {v:Value} (hw:W=w.setCell a v) (h:Row w b t vs) (ha:b≠a.block):Row W b t vs:=hw▸h.other ha v
theorem ste {W:World} {i:Nat} {v:Value} (hw:W=w.setCell ⟨b,i,none⟩ v) (h:Row w b t vs):Row W b t (vs.set i v):=hw▸h.set i v
theorem stb {W w0:World} {B:Nat} {p:Addr} {v:Value} (hw:W=w.setCell p v) (h:Below B w0 w) (hp:B≤p.block):Below B w0 W:=hw▸h.setCell hp v
theorem Row.alloc (h:Row w b t vs) (o:Obj):Row (w.alloc o) b t vs:=h.of_block (Below.heap_alloc _ _ _ h.lt)
theorem Row.drew (h:Row w b t vs):Row w.drew b t vs:=h
theorem Row.below {B:Nat} (h:Row w b t vs) (hb:Below B w w') (hB:b < B):Row w' b t vs:=h.of_block (hb.block b hB)
theorem Row.new (w:World) (t:TypeId) (c:Array Value):Row (w.alloc (.cells c t)) w.heap.size t c.toList:=by
 unfold Row; show(w.heap.push _)[w.heap.size]? = _; simp
end
theorem Row.made (w:World) (z:Value) (n:Nat) (t:TypeId):Row (w.alloc (.cells (madeCells #[z] n) t)) w.heap.size t (List.replicate n z):=by
 have h:=Row.new w t (madeCells #[z] n);have e:(madeCells #[z] n).toList=List.replicate n z:=by
  apply List.ext_getElem?
  intro i;by_cases hi:i < n
  ·simp[madeCells,hi,Nat.mod_one]
  ·simp[madeCells,hi]
 rw[e] at h; exact h
def Bf (w:World) (F:Ag) (v:Value) (n:Nd):Prop :=
 ∃ v3 v4 v5,v = .agg #[.int .i64 n.kind,.int .i64 n.aA,.int .i64 n.info,v3,v4,v5]∧AA w F v3 n.next∧AA w F v4 n.weights∧AA w F v5 n.pay
theorem Bf.keep {w w':World} {F G:Ag} {v:Value} {n:Nd} (h:Bf w F v n) (hFG:∀ b,F b→b < w.heap.size→G b) (hs:Same F w w'):Bf w' G v n:=by
 obtain⟨v3,v4,v5,rfl,h3,h4,h5⟩:=h;exact⟨v3,v4,v5,rfl,h3.keep hFG hs,h4.keep hFG hs,h5.keep hFG hs⟩
theorem AA.on {w w':World} {F:Ag} {v:Value} {l:List Int} (h:AA w F v l) (hs:Same F w w'):AA w' F v l:=h.keep (fun _ h _=>h) hs
theorem BZ.on {w w':World} {F:Ag} {v:Value} {l:List Bool} (h:BZ w F v l) (hs:Same F w w'):BZ w' F v l:=h.keep (fun _ h _=>h) hs
theorem BA.on {w w':World} {F:Ag} {v:Value} {l:List (List Int)} (h:BA w F v l) (hs:Same F w w'):BA w' F v l:=h.keep (fun _ h _=>h) hs
theorem Bj.on {w w':World} {F:Ag} {v:Value} {l:List Nd} (h:Bj w F v l) (hs:Same F w w'):Bj w' F v l:=h.keep (fun _ h _=>h) hs
theorem Bv.on {w w':World} {F:Ag} {v:Value} {l:List Inf} (h:Bv w F v l) (hs:Same F w w'):Bv w' F v l:=h.keep (fun _ h _=>h) hs
theorem AX.on {w w':World} {F:Ag} {v:Value} {g:Gm} (h:AX w F v g) (hs:Same F w w'):AX w' F v g:=h.keep (fun _ h _=>h) hs
theorem Bf.on {w w':World} {F:Ag} {v:Value} {n:Nd} (h:Bf w F v n) (hs:Same F w w'):Bf w' F v n:=h.keep (fun _ h _=>h) hs
theorem aG {B:Nat} {a w:World} (h:Below B a w) (n:Nat):Below B a (w.drewN n):=⟨h.os,h.tape,h.output,h.size,h.block⟩
theorem Row.dN {w:World} {b:Nat} {t:TypeId} {vs:List Value} (h:Row w b t vs) (n:Nat):Row (w.drewN n) b t vs:=h
theorem aO {B:Nat} {w w':World} (h:Below B w w'):∀ b o,b < B→w'.cell? ⟨b,o,none⟩=w.cell? ⟨b,o,none⟩:=fun b o hb=>h.cell (p:=⟨b,o,none⟩) hb
theorem Row.ints {w:World} {b:Nat} {t:TypeId} {l:List Int} (h:Row w b t (l.map (Value.int .i64))) {F:Ag} (hF:F b) {c:Nat} (hc:l.length≤c):AA w F (.slice (some ⟨b,0,none⟩) l.length c) l :=
 ⟨_,c,rfl,hc,fun _=>⟨b,0,rfl,hF,h.lt,fun k x hk=>by unfold lY; simp only[Nat.mul_one,Nat.zero_add]; exact h.cell (by simp[hk])⟩⟩
theorem gq {P:Program} (w:World) {ops:Array Oper} {rest:List Oper} {o:Oper} {a:Act} {Q:Exit→Act→World→Prop}
  (hg:o.guard=none) (l c:Operand) (t:TypeId) (hop:o.op=Op.makeSlice t l c)
  (e:TypeId) (z:Value) (bytes:Nat) (ht:P.underlying t=some (.slice e)) (hinfo:(P.info? e).map (fun i=>(i.zero,i.size,i.bytes))=some (some z,1,bytes)) (hz1:z.cells = #[z])
  (n:Nat) (hl:a.eval l = .int .i64 (n:Int)) (hc:a.eval c = .int .i64 (n:Int)) (hn:n≤1000000) (hb:bytes≤1000)
  (hK:∀ w1,Below w.heap.size w w1→w1.heap.size=w.heap.size+1→Row w1 w.heap.size e (List.replicate n z) →
   wpList P ops Q rest (a.put o.dst (.slice (some ⟨w.heap.size,0,none⟩) n n)) w1) :
  wpList P ops Q (o :: rest) a w:=by
 refine wpList_plain hg fun K hK'=>?_
 have hbytes:bytes*n≤281474976710656:=by
  have:bytes*n≤1000*1000000:=Nat.mul_le_mul hb hn;omega
 have hrun:=run_make_row' (P:=P) t e z bytes ht hinfo hz1 .i64 .i64 n hbytes (by omega) w;unfold Oper.wp;simp[execOp,hop,hl,hc,hrun,Result.andThen];have hbel:Below w.heap.size w (w.alloc (.cells (madeCells #[z] n) e)):=(Below.refl _ _).alloc (Nat.le_refl _) _;exact hK' _ _ (hK _ hbel (by simp) (Row.made w z n e))
theorem Tryz.infoInt:(Tryz.prog.info? 3).map (fun i=>(i.zero,i.size,i.bytes))=some (some (.int .i64 0),1,8):=by kernel_rfl
def Ret (w:World) (R:Value→World→Prop) (e:Ending) (w':World):Prop:=∃ v,e = .returned v∧Below w.heap.size w w'∧R v w'
theorem zL {α:Type} {l:List α} {p:α→Bool} {k:Nat} {x:α} (h:l[k]? = some x) (hn:(l.take k).any p=false) (hx:p x=false):(l.take (k+1)).any p=false:=by
 rw[take_snoc h,List.any_append]; simp[hn,hx]
structure Small (g:Gm):Prop where
 nodes:g.nodes.length≤100
 infos:g.infos.length≤100
 next:∀ n∈g.nodes,n.next.length≤100
 weights:∀ n∈g.nodes,n.weights.length≤100
 pay:∀ n∈g.nodes,n.pay.length≤100
theorem lS {α:Type} {l1 l2:List α} {k:Nat} {x:α} (h1:l1[k]? = some x) (h2:l2[k]? = some x) (h:l1.take k=l2.take k):l1.take (k+1)=l2.take (k+1):=by
 rw[take_snoc h1,take_snoc h2,h]
theorem vW (w:World) (F:Ag) (v1 v2:Value) (l1 l2:List Int) (h1:AA w F v1 l1) (h2:AA w F v2 l2) (hl1:l1.length < 1000000) (hl2:l2.length < 1000000) :
  Calls Tryz.prog 99 #[v1,v2] w fun e w'=>e = .returned (.bool (decide (l1=l2)))∧∃ n,w'=w.drewN n:=by
 obtain⟨A1,c1,rfl,hc1,r1⟩:=h1;obtain⟨A2,c2,rfl,hc2,r2⟩:=h2;by_cases hl:l1.length=l2.length
 ·have R1:=Ac r1; clear r1;have R2:=Ac r2; clear r2;have HL:=Ac hl;have hb:((l1.length:Int) != (l2.length:Int))=false:=by simp[hl]
  clear hl;go_enter Tryz.func99,Tryz.ntmps99;go_wp2
  go_loopw [5] (fun i wr=>∃ k:Nat,k≤l1.length∧i = .int .i64 k∧l1.take k=l2.take k∧∃ n,wr=w.drewN n) (fun i _=>l1.length - (intOf i).toNat)
  case atStart=>exact⟨0,by omega,rfl,by simp,0,rfl⟩
  case round =>
   obtain⟨k,hk,rfl,hpre,n,rfl⟩:=hrel;have HP:=Ac hpre; clear hpre;by_cases hlt:k < l1.length
   ·obtain⟨b1,o1,rfl,hb1,_,hcell1⟩:=R1.out (by omega);have hk2:k < l2.length:=by have:=HL.out; omega
    obtain⟨b2,o2,rfl,hb2,_,hcell2⟩:=R2.out (by omega);obtain⟨x,hx⟩:=aB hlt;obtain⟨y,hy⟩:=aB hk2;have e1:=hcell1 k x hx;have e2:=hcell2 k y hy;unfold lY at e1 e2;rw[Nat.mul_one] at e1 e2;clear hcell1 hcell2;have HX:=Ac hx; clear hx;have HY:=Ac hy; clear hy;by_cases he:x=y
    ·subst he;go_wp2
     go_quiet (fail)
     go_wp2
     go_roundw
     case rel=>exact⟨k+1,by omega,by go_num,lS HX.out HY.out HP.out,_,rfl⟩
     case measure=>simp[intOf]; omega
    ·have hne:(x != y)=true:=by simp[he]
     have hfin:decide (l1=l2)=false:=by
      simp only[decide_eq_false_iff_not]; rintro rfl;have h3:=HX.out; rw[HY.out] at h3; cases h3; exact he rfl
     have HF:=Ac hfin; clear hfin he;go_wp2
     go_quiet (fail)
     go_wp2
     go_ret;exact⟨by rw[HF.out]; rfl,n+nq,by rw[World.drewN_drewN]⟩
   ·go_wp2
    go_ret;have:k=l1.length:=by omega
    have h3:=HP.out;have h4:=HL.out;refine⟨?_,_,rfl⟩;have h5:l1=l2:=by
     rw[List.take_of_length_le (by omega),List.take_of_length_le (by omega)] at h3; exact h3
    simp[h5]
 ·have hb:((l1.length:Int) != (l2.length:Int))=true:=by simp; omega
  go_enter Tryz.func99,Tryz.ntmps99;go_wp2
  go_ret;refine⟨?_,0,rfl⟩;have:l1≠l2:=by rintro rfl; exact hl rfl
  simp[this]
theorem tK (w:World) (a b:Obj) (n:Nat):Below w.heap.size w (((w.alloc a).alloc b).drewN n):=by
 have h:=(((Below.refl w.heap.size w).alloc (Nat.le_refl _) a).alloc (by simp) b);exact⟨h.os,h.tape,h.output,h.size,h.block⟩
def dL (rec:Nat→Int→Int×Int):List Int→Int→Int→Int×Int
 | [],next,deep=>(next,deep)
 | c :: cs,next,deep=>if c≠next then (-1,deep) else if (rec next.toNat deep).1 < 0 then (-1,(rec next.toNat deep).2) else dL rec cs (rec next.toNat deep).1 (rec next.toNat deep).2
def fQ (nodes:List Nd):Nat→Nat→Int→Int→Int×Int
 | 0,_,_,deep=>(-1,deep)
 | f+1,a,depth,deep=>match nodes[a]? with
  | none=>(-1,deep)
  | some n=>dL (fun a d=>fQ nodes f a (depth+1) d) n.next ((a:Int)+1) (max deep depth)
theorem rU {rec:Nat→Int→Int×Int} {N lo:Nat} (hrec:∀ a d,lo≤a→(rec a d).1 = -1∨((a:Int) < (rec a d).1∧(rec a d).1≤N)):∀ (cs:List Int) (next deep:Int),(lo:Int)≤next→next≤N →
  (dL rec cs next deep).1 = -1∨((lo:Int)≤(dL rec cs next deep).1∧(dL rec cs next deep).1≤N)
 | [],next,deep,h1,h2=>.inr ⟨h1,h2⟩
 | c :: cs,next,deep,h1,h2=>by
  unfold dL;split
  ·exact .inl rfl
  ·split
   ·exact .inl rfl
   ·rcases hrec next.toNat deep (by omega) with h | h
    ·omega
    ·exact rU hrec cs _ _ (by omega) (by omega)
theorem yI (nodes:List Nd):∀ (f a:Nat) (depth deep:Int),(fQ nodes f a depth deep).1 = -1∨((a:Int) < (fQ nodes f a depth deep).1∧(fQ nodes f a depth deep).1≤nodes.length)
 | 0,_,_,_=>.inl rfl
 | f+1,a,depth,deep=>by
  unfold fQ;split
  ·exact .inl rfl
  ·rename_i n hn
   have:=aF hn;rcases rU (rec:=fun a d=>fQ nodes f a (depth+1) d) (N:=nodes.length) (lo:=a+1) (fun a' d _=>yI nodes f a' (depth+1) d) n.next ((a:Int)+1) (max deep depth) (by omega) (by omega) with h | h
   ·exact .inl h
   ·exact .inr (by omega)
theorem Same.zM {w w':World} {b:Nat} (h:w.grownBy w' (some b)):Same (fun k=>k≠b) w w':=⟨h.size,fun k hk hl=>h.block k hl (by simpa using hk)⟩
theorem grown_setCell {a w:World} {g:Nat} (h:a.grownBy w (some g)) {p:Addr} (hp:p.block=g∨a.heap.size≤p.block) (u:Value):a.grownBy (w.setCell p u) (some g) :=
 ⟨h.os,h.tape,h.output,by simpa using h.size,fun i hi hne=>(Below.heap_setCell w p u i (by
  rintro rfl;rcases hp with hp | hp
  ·exact hne (by rw[hp])
  ·omega)).trans (h.block i hi hne)⟩
theorem qN (w:World) (row:Option Nat):w.grownBy w row:=⟨rfl,rfl,rfl,Nat.le_refl _,fun _ _ _=>rfl⟩
theorem jI {a b c:World} {row:Option Nat} (h:a.grownBy b row) (k:b.grownBy c row):a.grownBy c row :=
 ⟨k.os.trans h.os,k.tape.trans h.tape,k.output.trans h.output,Nat.le_trans h.size k.size,fun i hi hne=>(k.block i (Nat.lt_of_lt_of_le hi h.size) hne).trans (h.block i hi hne)⟩
theorem zN {w w':World} {d:Nat} (h:w.grownBy w' (some d)):∀ b o,b < w.heap.size→b≠d→w'.cell? ⟨b,o,none⟩=w.cell? ⟨b,o,none⟩:=fun b o hb hd=>World.cell?_of_block (h.block b hb (by simpa using hd))
def Di (w:World) (fid:FuncId) (caps:Array Value) (l:List Int) (p:Int→Bool):Prop :=
 (∀ (args:Array Value) (w':World),(callFunc fid args).run Tryz.prog w' = .ok (.enter fid args) w') ∧
 ∀ (n:Nat) (x:Int),x∈l→Calls Tryz.prog fid (#[.int .i64 x]++caps) (w.drewN n) fun e w'=>e = .returned (.bool (p x))∧∃ m,w'=w.drewN m
def idxOf (p:Int→Bool) (l:List Int):Int:=match l.findIdx? p with | some i=>(i:Int) | none=>-1
theorem idxOf_hit {p:Int→Bool} {l:List Int} {k:Nat} {x:Int} (h:l[k]? = some x) (hp:p x=true) (hn:(l.take k).any p=false):idxOf p l=k:=by
 have hk:=aF h;have:l.findIdx? p=some k:=by
  rw[List.findIdx?_eq_some_iff_getElem];refine⟨hk,?_,fun j hj=>?_⟩
  ·have:l[k]=x:=by simpa [hk] using h
   rw[this]; exact hp
  ·have h1:=List.any_eq_false.1 hn l[j] (by rw[List.mem_take_iff_getElem]; exact⟨j,by omega,rfl⟩);simpa using h1
 simp[idxOf,this]
theorem zO {p:Int→Bool} {l:List Int} (hn:l.any p=false):idxOf p l = -1:=by
 have:l.findIdx? p=none:=by
  rw[List.findIdx?_eq_none_iff];intro x hx;have:=List.any_eq_false.1 hn x hx;simpa using this
 simp[idxOf,this]
theorem afY (p:Int→Bool) (l:List Int):decide (0≤idxOf p l)=l.any p:=by
 cases h:l.any p with
 | false=>rw[zO h]; rfl
 | true =>
  obtain⟨x,hx,hp⟩:=List.any_eq_true.1 h;unfold idxOf;split
  ·rw[decide_eq_true_iff]; omega
  ·rename_i h1
   rw[List.findIdx?_eq_none_iff] at h1;have:=h1 x hx;rw[hp] at this; cases this
theorem aaT (w:World) (F:Ag) (v:Value) (l:List Int) (fid:FuncId) (caps:Array Value) (p:Int→Bool) (hv:AA w F v l) (hl:l.length≤1000000) (ha:Di w fid caps l p) :
  Calls Tryz.prog 193 #[v,.func (.func fid) #[] caps] w fun e w'=>e = .returned (.int .i64 (idxOf p l))∧∃ n,w'=w.drewN n:=by
 obtain⟨A,c,rfl,hc,hr⟩:=hv;have HR:=Ac hr; clear hr;obtain⟨hcf,hcl⟩:=ha;have HCL:=Ac hcl; clear hcl;go_enter Tryz.func193,Tryz.ntmps193;go_wp2
 go_loopw [8] (fun i wr=>∃ k n:Nat,k≤l.length∧i = .int .i64 k∧(l.take k).any p=false∧wr=w.drewN n) (fun i _=>l.length - (intOf i).toNat)
 case atStart=>exact⟨0,0,by omega,rfl,rfl,rfl⟩
 case round =>
  obtain⟨k,n,hk,rfl,hpre,rfl⟩:=hrel;have HP:=Ac hpre; clear hpre;by_cases hlt:k < l.length
  ·obtain⟨b,o,rfl,_,hb,hx⟩:=HR.out (by omega);obtain⟨x,hxx⟩:=aB hlt;have ex:=hx k x hxx;unfold lY at ex;rw[Nat.mul_one] at ex;have HX:=Ac hxx; clear hxx hx;go_wp2_with fail
   refine(HCL.out n x (List.mem_of_getElem? HX.out)).mono ?_;rintro e w' ⟨rfl,m,rfl⟩;dsimp only;cases hpx:p x
   ·have HPX:=Ac hpx; clear hpx;go_wp2
    go_roundw
    case rel=>exact⟨k+1,m,by omega,by go_num,zL HX.out HP.out HPX.out,rfl⟩
    case measure=>simp[intOf]; omega
   ·have HF:=Ac (idxOf_hit HX.out hpx HP.out); clear hpx;go_wp2
    go_ret;exact⟨by rw[HF.out]; rfl,m,rfl⟩
  ·go_wp2
   go_ret;have h:=HP.out;rw[List.take_of_length_le (by omega)] at h;exact⟨by rw[zO h]; rfl,n,rfl⟩
theorem xq (w:World) (F:Ag) (v:Value) (l:List Int) (fid:FuncId) (caps:Array Value) (p:Int→Bool) (hv:AA w F v l) (hl:l.length≤1000000) (ha:Di w fid caps l p) :
  Calls Tryz.prog 182 #[v,.func (.func fid) #[] caps] w fun e w'=>e = .returned (.bool (l.any p))∧∃ n,w'=w.drewN n:=by
 have HV:=Ac hv; clear hv;have HA:=Ac ha; clear ha;go_enter Tryz.func182,Tryz.ntmps182;go_wp2_with fail
 refine(aaT w F v l fid caps p HV.out hl HA.out).mono ?_;rintro e w' ⟨rfl,n,rfl⟩;dsimp only;have HF:=Ac (afY p l);generalize idxOf p l=q at *;go_wp2
 all_goals
  go_ret;refine⟨?_,n,rfl⟩;rw[← HF.out];first | rfl | (simp; omega)
theorem neF {a b:Int} (h:a=b):(a != b)=false:=by simp[h]
theorem neT {a b:Int} (h:a≠b):(a != b)=true:=by simp[h]
def outside (lo hi:Int) (l:List Int):Bool:=l.any fun x=>decide (x < lo)||decide (hi < x)
def dJ (x:Nd):Int :=
 if x.aA≠0∨x.info≠0∨0 < x.pay.length∨x.next.length < 1∨60 < x.next.length∨x.weights.length≠x.next.length then 3 else if outside 1 1000 x.weights then 2 else 0
def gG (au:Int) (ni:Nat) (x:Nd):Int :=
 if 0 < x.pay.length∨0 < x.weights.length∨x.next.length < 1∨10 < x.next.length then 3 else if x.aA < 0∨au≤x.aA∨x.info < 0∨(ni:Int)≤x.info then 2 else 0
def jJ (au:Int) (x:Nd):Int :=
 if x.aA≠0∨x.info≠0∨0 < x.next.length∨0 < x.weights.length∨(x.pay.length:Int)≠au then 3 else if outside (-1000000) 1000000 x.pay then 2 else 0
def dU (au:Int) (ni:Nat) (x:Nd):Int :=
 if x.kind=1 then dJ x else if x.kind=2 then gG au ni x else if x.kind=3 then jJ au x else 3
end Go.Proofs.YtkcheepafifjaaaGreatDoor

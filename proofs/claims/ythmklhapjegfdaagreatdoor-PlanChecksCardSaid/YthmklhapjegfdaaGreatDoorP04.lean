/- Words for memory that all contracts of this seat share: slices that read as lists, rows of cells, worlds that keep some blocks. -/
import Derived.Test.YthmklhapjegfdaaGreatDoorP03
import Derived.Test.YthmklhapjegfdaaGreatDoorP01
import Derived.Test.YthmklhapjegfdaaGreatDoorProg
import Derived.WalkKit
import Derived.Deep.QuietTactic
import Derived.BigQuiet
import Derived.Lib.Hide
import Derived.Deep.OwnRows
set_option linter.all false
set_option maxRecDepth 100000
set_option maxHeartbeats 12800000
namespace Go.Proofs.YthmklhapjegfdaaGreatDoor
open Lib renaming hid → Ae
open Go.RowKit
abbrev Ah:=Nat→Prop
structure Same (F:Ah) (w w':World):Prop where
 size:w.heap.size≤w'.heap.size
 block:∀ b,F b→b < w.heap.size→w'.heap[b]? = w.heap[b]?
section
variable {F G:Ah} {w w' w'':World}
theorem Same.cell (h:Same F w w') {b:Nat} (hb:F b) (hl:b < w.heap.size) (o:Nat):w'.cell? ⟨b,o,none⟩=w.cell? ⟨b,o,none⟩:=World.cell?_of_block (w:=w) (h.block b hb hl)
theorem Same.refl (F:Ah) (w:World):Same F w w:=⟨Nat.le_refl _,fun _ _ _=>rfl⟩
theorem Same.trans (h:Same F w w') (k:Same F w' w''):Same F w w'':=⟨Nat.le_trans h.size k.size,fun i hi hl=>(k.block i hi (Nat.lt_of_lt_of_le hl h.size)).trans (h.block i hi hl)⟩
theorem Same.mono (h:Same F w w') (hG:∀ b,G b→F b):Same G w w':=⟨h.size,fun b hb hl=>h.block b (hG b hb) hl⟩
theorem Below.same' (h:Below w.heap.size w w') (F:Ah):Same F w w':=⟨h.size,fun b _ hl=>h.block b hl⟩
theorem Same.alloc (F:Ah) (w:World) (o:Obj):Same F w (w.alloc o):=⟨ay,fun b _ hl=>Below.heap_alloc w o b hl⟩
theorem Same.drewN (F:Ah) (w:World) (n:Nat):Same F w (w.drewN n):=⟨Nat.le_refl _,fun _ _ _=>rfl⟩
theorem Same.setCell (F:Ah) (w:World) {p:Addr} (hp:¬ F p.block) (v:Value):Same F w (w.setCell p v) :=
 ⟨ay,fun b hb _=>Below.heap_setCell w p v b (fun e=>hp (e▸hb))⟩
end
theorem aC {α:Type} {l:List α} {k:Nat} (h:k < l.length):∃ x,l[k]? = some x:=⟨l[k],by simp[h]⟩
theorem aK {α:Type} {l:List α} {k:Nat} {x:α} (h:l[k]? = some x):k < l.length:=by
 rcases Nat.lt_or_ge k l.length with h1 | h1
 ·exact h1
 ·rw[List.getElem?_eq_none h1] at h; cases h
theorem take_snoc {α:Type} {l:List α} {k:Nat} {x:α} (h:l[k]? = some x):l.take (k+1)=l.take k ++ [x]:=by
 rw[List.take_succ_eq_append_getElem (aK h)]; congr 2;have:=aK h;simpa [this] using h
def BF {α:Type} (sz:Nat) (E:World→Ah→Nat→Nat→α→Prop) (w:World) (F:Ah) (v:Value) (l:List α):Prop :=
 ∃ A c,v = .slice A l.length c∧l.length≤c∧(0 < l.length→∃ b o,A=some ⟨b,o,none⟩∧F b∧b < w.heap.size∧∀ k x,l[k]? = some x→E w F b (o+k*sz) x)
theorem BF.keep {α:Type} {sz:Nat} {E:World→Ah→Nat→Nat→α→Prop} {w w':World} {F G:Ah} {v:Value} {l:List α}
  (h:BF sz E w F v l) (hFG:∀ b,F b→b < w.heap.size→G b) (hsz:w.heap.size≤w'.heap.size) (hE:∀ b o x,x∈l→F b→b < w.heap.size→E w F b o x→E w' G b o x):BF sz E w' G v l:=by
 obtain⟨A,c,rfl,hc,hr⟩:=h;refine⟨A,c,rfl,hc,fun h0=>?_⟩;obtain⟨b,o,rfl,hb,hl,hx⟩:=hr h0;exact⟨b,o,rfl,hFG b hb hl,Nat.lt_of_lt_of_le hl hsz,fun k x hk=>hE b _ x (List.mem_of_getElem? hk) hb hl (hx k x hk)⟩
def jF (k:IntKind) (w:World) (_:Ah) (b o:Nat) (x:Int):Prop:=w.cell? ⟨b,o,none⟩=some (.int k x)
def vC {α:Type} (S:World→Ah→Value→α→Prop) (w:World) (F:Ah) (b o:Nat) (x:α):Prop:=∃ v,w.cell? ⟨b,o,none⟩=some v∧S w F v x
def AA (w:World) (F:Ah) (v:Value) (l:List Int):Prop:=BF 1 (jF .i64) w F v l
def Bj (w:World) (F:Ah) (v:Value) (l:List (List Int)):Prop:=BF 1 (vC AA) w F v l
theorem AA.keep {w w':World} {F G:Ah} {v:Value} {l:List Int} (h:AA w F v l) (hFG:∀ b,F b→b < w.heap.size→G b) (hs:Same F w w'):AA w' G v l :=
 BF.keep h hFG hs.size fun b o x _ hb hl hx=>by unfold jF at *; rw[hs.cell hb hl]; exact hx
theorem Bj.keep {w w':World} {F G:Ah} {v:Value} {l:List (List Int)} (h:Bj w F v l) (hFG:∀ b,F b→b < w.heap.size→G b) (hs:Same F w w'):Bj w' G v l :=
 BF.keep h hFG hs.size fun b o x _ hb hl hx=>by
  obtain⟨u,hu,hr⟩:=hx;exact⟨u,by rw[hs.cell hb hl]; exact hu,hr.keep hFG hs⟩
structure Nd where
 kind:Int
 aI:Int
 info:Int
 next:List Int
 weights:List Int
 pay:List Int
 deriving Inhabited,DecidableEq
structure Inf where
 aI:Int
 actions:Int
 deriving Inhabited,DecidableEq
structure Gm where
 aA:Int
 nodes:List Nd
 infos:List Inf
 deriving Inhabited,DecidableEq
structure CJ (w:World) (F:Ah) (b o:Nat) (n:Nd):Prop where
 c0:w.cell? ⟨b,o,none⟩=some (.int .i64 n.kind)
 c1:w.cell? ⟨b,o+1,none⟩=some (.int .i64 n.aI)
 c2:w.cell? ⟨b,o+2,none⟩=some (.int .i64 n.info)
 c3:vC AA w F b (o+3) n.next
 c4:vC AA w F b (o+4) n.weights
 c5:vC AA w F b (o+5) n.pay
structure Dj (w:World) (_:Ah) (b o:Nat) (n:Inf):Prop where
 c0:w.cell? ⟨b,o,none⟩=some (.int .i64 n.aI)
 c1:w.cell? ⟨b,o+1,none⟩=some (.int .i64 n.actions)
theorem o8 {w w':World} {F G:Ah} {b o:Nat} {l:List Int} (h:vC AA w F b o l) (hFG:∀ b,F b→b < w.heap.size→G b) (hs:Same F w w') (hb:F b) (hl:b < w.heap.size):vC AA w' G b o l:=by
 obtain⟨u,hu,hr⟩:=h;exact⟨u,by rw[hs.cell hb hl]; exact hu,hr.keep hFG hs⟩
theorem CJ.keep {w w':World} {F G:Ah} {b o:Nat} {n:Nd} (h:CJ w F b o n) (hFG:∀ b,F b→b < w.heap.size→G b) (hs:Same F w w') (hb:F b) (hl:b < w.heap.size):CJ w' G b o n :=
 ⟨by rw[hs.cell hb hl]; exact h.c0,by rw[hs.cell hb hl]; exact h.c1,by rw[hs.cell hb hl]; exact h.c2,o8 h.c3 hFG hs hb hl,o8 h.c4 hFG hs hb hl,o8 h.c5 hFG hs hb hl⟩
def Bc (w:World) (F:Ah) (v:Value) (l:List Nd):Prop:=BF 6 CJ w F v l
def AU (w:World) (F:Ah) (v:Value) (l:List Inf):Prop:=BF 2 Dj w F v l
theorem Bc.keep {w w':World} {F G:Ah} {v:Value} {l:List Nd} (h:Bc w F v l) (hFG:∀ b,F b→b < w.heap.size→G b) (hs:Same F w w'):Bc w' G v l :=
 BF.keep h hFG hs.size fun _ _ _ _ hb hl hx=>hx.keep hFG hs hb hl
theorem AU.keep {w w':World} {F G:Ah} {v:Value} {l:List Inf} (h:AU w F v l) (hFG:∀ b,F b→b < w.heap.size→G b) (hs:Same F w w'):AU w' G v l :=
 BF.keep h hFG hs.size fun _ _ _ _ hb hl hx=>⟨by rw[hs.cell hb hl]; exact hx.c0,by rw[hs.cell hb hl]; exact hx.c1⟩
def AP (w:World) (F:Ah) (v:Value) (g:Gm):Prop :=
 ∃ vn vi,v = .agg #[.int .i64 g.aA,vn,vi]∧Bc w F vn g.nodes∧AU w F vi g.infos
theorem AP.keep {w w':World} {F G:Ah} {v:Value} {g:Gm} (h:AP w F v g) (hFG:∀ b,F b→b < w.heap.size→G b) (hs:Same F w w'):AP w' G v g:=by
 obtain⟨vn,vi,rfl,hn,hi⟩:=h;exact⟨vn,vi,rfl,hn.keep hFG hs,hi.keep hFG hs⟩
def Row (w:World) (b:Nat) (t:TypeId) (vs:List Value):Prop:=w.heap[b]? = some (.cells vs.toArray t (0,0))
section
variable {w w':World} {b:Nat} {t:TypeId} {vs:List Value}
theorem Row.cell (h:Row w b t vs) {i:Nat} {v:Value} (hi:vs[i]? = some v):w.cell? ⟨b,i,none⟩=some v:=by
 unfold Row at h; simp[World.cell?,h,hi]
theorem Row.frozen (h:Row w b t vs) (i:Nat):w.frozen? ⟨b,i,none⟩=false:=by
 unfold Row at h; simp[World.frozen?,h]
theorem Row.lt (h:Row w b t vs):b < w.heap.size:=by
 obtain⟨hlt,_⟩:=Array.getElem?_eq_some_iff.1 h;exact hlt
theorem Row.of_block (h:Row w b t vs) (e:w'.heap[b]? = w.heap[b]?):Row w' b t vs:=e.trans h
theorem Row.set (h:Row w b t vs) (i:Nat) (v:Value):Row (w.setCell ⟨b,i,none⟩ v) b t (vs.set i v):=by
 unfold Row at *;simp[World.setCell,Array.getElem?_modify,h]
theorem Row.other (h:Row w b t vs) {a:Addr} (ha:b≠a.block) (v:Value):Row (w.setCell a v) b t vs:=h.of_block (Below.heap_setCell _ _ _ _ ha)
theorem Row.alloc (h:Row w b t vs) (o:Obj):Row (w.alloc o) b t vs:=h.of_block (Below.heap_alloc _ _ _ h.lt)
theorem Row.drew (h:Row w b t vs):Row w.drew b t vs:=h
theorem Row.below {B:Nat} (h:Row w b t vs) (hb:Below B w w') (hB:b < B):Row w' b t vs:=h.of_block (hb.block b hB)
theorem Row.new (w:World) (t:TypeId) (c:Array Value):Row (w.alloc (.cells c t)) w.heap.size t c.toList:=by
 unfold Row; show(w.heap.push _)[w.heap.size]? = _; simp
end
theorem Row.made (w:World) (z:Value) (n:Nat) (t:TypeId):Row (w.alloc (.cells (madeCells #[z] n) t)) w.heap.size t (List.replicate n z):=by
 have h:=Row.new w t (madeCells #[z] n);have e:(madeCells #[z] n).toList=List.replicate n z:=by
  apply List.ext_getElem?
  intro i;by_cases hi:i < n
  ·simp[madeCells,hi,Nat.mod_one]
  ·simp[madeCells,hi]
 rw[e] at h; exact h
def Bl (w:World) (F:Ah) (v:Value) (n:Nd):Prop :=
 ∃ v3 v4 v5,v = .agg #[.int .i64 n.kind,.int .i64 n.aI,.int .i64 n.info,v3,v4,v5]∧AA w F v3 n.next∧AA w F v4 n.weights∧AA w F v5 n.pay
theorem Bl.keep {w w':World} {F G:Ah} {v:Value} {n:Nd} (h:Bl w F v n) (hFG:∀ b,F b→b < w.heap.size→G b) (hs:Same F w w'):Bl w' G v n:=by
 obtain⟨v3,v4,v5,rfl,h3,h4,h5⟩:=h;exact⟨v3,v4,v5,rfl,h3.keep hFG hs,h4.keep hFG hs,h5.keep hFG hs⟩
theorem AA.on {w w':World} {F:Ah} {v:Value} {l:List Int} (h:AA w F v l) (hs:Same F w w'):AA w' F v l:=h.keep (fun _ h _=>h) hs
theorem Bj.on {w w':World} {F:Ah} {v:Value} {l:List (List Int)} (h:Bj w F v l) (hs:Same F w w'):Bj w' F v l:=h.keep (fun _ h _=>h) hs
theorem Bc.on {w w':World} {F:Ah} {v:Value} {l:List Nd} (h:Bc w F v l) (hs:Same F w w'):Bc w' F v l:=h.keep (fun _ h _=>h) hs
theorem AU.on {w w':World} {F:Ah} {v:Value} {l:List Inf} (h:AU w F v l) (hs:Same F w w'):AU w' F v l:=h.keep (fun _ h _=>h) hs
theorem AP.on {w w':World} {F:Ah} {v:Value} {g:Gm} (h:AP w F v g) (hs:Same F w w'):AP w' F v g:=h.keep (fun _ h _=>h) hs
theorem Bl.on {w w':World} {F:Ah} {v:Value} {n:Nd} (h:Bl w F v n) (hs:Same F w w'):Bl w' F v n:=h.keep (fun _ h _=>h) hs
theorem aH {B:Nat} {a w:World} (h:Below B a w) (n:Nat):Below B a (w.drewN n):=⟨h.os,h.tape,h.output,h.size,h.block⟩
theorem Row.dN {w:World} {b:Nat} {t:TypeId} {vs:List Value} (h:Row w b t vs) (n:Nat):Row (w.drewN n) b t vs:=h
theorem aN {B:Nat} {w w':World} (h:Below B w w'):∀ b o,b < B→w'.cell? ⟨b,o,none⟩=w.cell? ⟨b,o,none⟩:=fun b o hb=>h.cell (p:=⟨b,o,none⟩) hb
theorem Row.ints {w:World} {b:Nat} {t:TypeId} {l:List Int} (h:Row w b t (l.map (Value.int .i64))) {F:Ah} (hF:F b) {c:Nat} (hc:l.length≤c):AA w F (.slice (some ⟨b,0,none⟩) l.length c) l :=
 ⟨_,c,rfl,hc,fun _=>⟨b,0,rfl,hF,h.lt,fun k x hk=>by unfold jF; simp only[Nat.mul_one,Nat.zero_add]; exact h.cell (by simp[hk])⟩⟩
theorem eU {P:Program} (w:World) {ops:Array Oper} {rest:List Oper} {o:Oper} {a:Act} {Q:Exit→Act→World→Prop}
  (hg:o.guard=none) (l c:Operand) (t:TypeId) (hop:o.op=Op.makeSlice t l c)
  (e:TypeId) (z:Value) (bytes:Nat) (ht:P.underlying t=some (.slice e)) (hinfo:(P.info? e).map (fun i=>(i.zero,i.size,i.bytes))=some (some z,1,bytes)) (hz1:z.cells = #[z])
  (n:Nat) (hl:a.eval l = .int .i64 (n:Int)) (hc:a.eval c = .int .i64 (n:Int)) (hn:n≤1000000) (hb:bytes≤1000)
  (hK:∀ w1,Below w.heap.size w w1→w1.heap.size=w.heap.size+1→Row w1 w.heap.size e (List.replicate n z) →
   wpList P ops Q rest (a.put o.dst (.slice (some ⟨w.heap.size,0,none⟩) n n)) w1) :
  wpList P ops Q (o :: rest) a w:=by
 refine wpList_plain hg fun K hK'=>?_
 have hbytes:bytes*n≤281474976710656:=by
  have:bytes*n≤1000*1000000:=Nat.mul_le_mul hb hn;omega
 have hrun:=run_make_row' (P:=P) t e z bytes ht hinfo hz1 .i64 .i64 n hbytes byOmega w;unfold Oper.wp;simp[execOp,hop,hl,hc,hrun,Result.andThen];have hbel:Below w.heap.size w (w.alloc (.cells (madeCells #[z] n) e)):=(Below.refl _ _).alloc (Nat.le_refl _) _;exact hK' _ _ (hK _ hbel ay (Row.made w z n e))
theorem Tryz.infoInt:(Tryz.prog.info? 3).map (fun i=>(i.zero,i.size,i.bytes))=some (some (.int .i64 0),1,8):=aj
theorem Tryz.infoInts:(Tryz.prog.info? 26).map (fun i=>(i.zero,i.size,i.bytes))=some (some (.slice none 0 0),1,24):=aj
def Ret (w:World) (R:Value→World→Prop) (e:Ending) (w':World):Prop:=∃ v,e = .returned v∧Below w.heap.size w w'∧R v w'
theorem ku {α:Type} {l:List α} {p:α→Bool} {k:Nat} {x:α} (h:l[k]? = some x) (hn:(l.take k).any p=false) (hx:p x=false):(l.take (k+1)).any p=false:=by
 rw[take_snoc h,List.any_append]; simp[hn,hx]
def jD (l:List Int) (i:Int) (p:List Int):List Int:=l.foldl (fun p c=>p.set c.toNat i) p
def lJ (nodes:List Nd):Nat→List Int
 | 0=>(List.replicate nodes.length 0).set 0 (-1)
 | k+1=>match nodes[k]? with
  | some n=>jD n.next k (lJ nodes k)
  | none=>lJ nodes k
def dD (nodes:List Nd):List Int:=lJ nodes nodes.length
theorem abj {l:List Int} {i:Int} {p:List Int} {k:Nat} {c:Int} (h:l[k]? = some c):jD (l.take (k+1)) i p=(jD (l.take k) i p).set c.toNat i:=by
 rw[take_snoc h]; simp[jD,List.foldl_append]
theorem qI (l:List Int) (i:Int) (p:List Int):(jD l i p).length=p.length:=by
 unfold jD;induction l generalizing p with
 | nil=>rfl
 | cons c l ih=>simp only[List.foldl_cons]; rw[ih]; simp
theorem iy (nodes:List Nd) (k:Nat):(lJ nodes k).length=nodes.length:=by
 induction k with
 | zero=>simp[lJ]
 | succ k ih =>
  unfold lJ;split
  ·rw[qI,ih]
  ·exact ih
theorem yZ {nodes:List Nd} {k:Nat} {n:Nd} (h:nodes[k]? = some n):lJ nodes (k+1)=jD n.next k (lJ nodes k):=by
 simp[lJ,h]
def Dy (nodes:List Nd):Prop:=∀ n∈nodes,∀ c∈n.next,0≤c∧c < (nodes.length:Int)
structure Small (g:Gm):Prop where
 nodes:g.nodes.length≤100
 infos:g.infos.length≤100
 next:∀ n∈g.nodes,n.next.length≤100
 weights:∀ n∈g.nodes,n.weights.length≤100
 pay:∀ n∈g.nodes,n.pay.length≤100
theorem gV {α:Type} {l1 l2:List α} {k:Nat} {x:α} (h1:l1[k]? = some x) (h2:l2[k]? = some x) (h:l1.take k=l2.take k):l1.take (k+1)=l2.take (k+1):=by
 rw[take_snoc h1,take_snoc h2,h]
theorem dP (w:World) (F:Ah) (v1 v2:Value) (l1 l2:List Int) (h1:AA w F v1 l1) (h2:AA w F v2 l2) (hl1:l1.length < 1000000) (hl2:l2.length < 1000000) :
  Calls Tryz.prog 37 #[v1,v2] w fun e w'=>e = .returned (.bool (decide (l1=l2)))∧∃ n,w'=w.drewN n:=by
 obtain⟨A1,c1,rfl,hc1,r1⟩:=h1;obtain⟨A2,c2,rfl,hc2,r2⟩:=h2;by_cases hl:l1.length=l2.length
 ·have R1:=Ae r1; clear r1;have R2:=Ae r2; clear r2;have HL:=Ae hl;have hb:((l1.length:Int) != (l2.length:Int))=false:=by simp[hl]
  clear hl;go_in
  go_wp2
  go_loopw [5] (fun i wr=>∃ k:Nat,k≤l1.length∧i = .int .i64 k∧l1.take k=l2.take k∧∃ n,wr=w.drewN n) (fun i _=>l1.length - (intOf i).toNat)
  case atStart=>exact⟨0,byOmega,rfl,ay,0,rfl⟩
  case round =>
   obtain⟨k,hk,rfl,hpre,n,rfl⟩:=hrel;have HP:=Ae hpre; clear hpre;by_cases hlt:k < l1.length
   ·obtain⟨b1,o1,rfl,hb1,_,hcell1⟩:=R1.out byOmega;have hk2:k < l2.length:=by have:=HL.out; omega
    obtain⟨b2,o2,rfl,hb2,_,hcell2⟩:=R2.out byOmega;obtain⟨x,hx⟩:=aC hlt;obtain⟨y,hy⟩:=aC hk2;have e1:=hcell1 k x hx;have e2:=hcell2 k y hy;unfold jF at e1 e2;rw[Nat.mul_one] at e1 e2;clear hcell1 hcell2;have HX:=Ae hx; clear hx;have HY:=Ae hy; clear hy;by_cases he:x=y
    ·subst he;go_wp2
     go_quiet (fail)
     go_wp2
     go_roundw
     case rel=>exact⟨k+1,byOmega,by go_num,gV HX.out HY.out HP.out,_,rfl⟩
     case measure=>simp[intOf]; omega
    ·have hne:(x != y)=true:=by simp[he]
     have hfin:decide (l1=l2)=false:=by
      simp only[decide_eq_false_iff_not]; rintro rfl;have h3:=HX.out; rw[HY.out] at h3; cases h3; exact he rfl
     have HF:=Ae hfin; clear hfin he;go_wp2
     go_quiet (fail)
     go_wp2
     go_ret;exact⟨by rw[HF.out]; rfl,n+nq,by rw[World.drewN_drewN]⟩
   ·go_wp2
    go_ret;have:k=l1.length:=byOmega;have h3:=HP.out;have h4:=HL.out;refine⟨?_,_,rfl⟩;have h5:l1=l2:=by
     rw[List.take_of_length_le byOmega,List.take_of_length_le byOmega] at h3; exact h3
    simp[h5]
 ·have hb:((l1.length:Int) != (l2.length:Int))=true:=au;go_in
  go_wp2
  go_ret;refine⟨?_,0,rfl⟩;have:l1≠l2:=by rintro rfl; exact hl rfl
  simp[this]
theorem sQ (w:World) (F:Ah) (v1 v2:Value) (l1 l2:List Inf) (h1:AU w F v1 l1) (h2:AU w F v2 l2) (hl1:l1.length < 1000000) (hl2:l2.length < 1000000) :
  Calls Tryz.prog 79 #[v1,v2] w fun e w'=>e = .returned (.bool (decide (l1=l2)))∧∃ n,w'=w.drewN n:=by
 obtain⟨A1,c1,rfl,hc1,r1⟩:=h1;obtain⟨A2,c2,rfl,hc2,r2⟩:=h2;by_cases hl:l1.length=l2.length
 ·have R1:=Ae r1; clear r1;have R2:=Ae r2; clear r2;have HL:=Ae hl;have hb:((l1.length:Int) != (l2.length:Int))=false:=by simp[hl]
  clear hl;go_in
  go_wp2
  go_loopw [5] (fun i wr=>∃ k:Nat,k≤l1.length∧i = .int .i64 k∧l1.take k=l2.take k∧∃ n,wr=w.drewN n) (fun i _=>l1.length - (intOf i).toNat)
  case atStart=>exact⟨0,byOmega,rfl,ay,0,rfl⟩
  case round =>
   obtain⟨k,hk,rfl,hpre,n,rfl⟩:=hrel;have HP:=Ae hpre; clear hpre;by_cases hlt:k < l1.length
   ·obtain⟨b1,o1,rfl,hb1,_,hcell1⟩:=R1.out byOmega;have hk2:k < l2.length:=by have:=HL.out; omega
    obtain⟨b2,o2,rfl,hb2,_,hcell2⟩:=R2.out byOmega;obtain⟨x,hx⟩:=aC hlt;obtain⟨y,hy⟩:=aC hk2;have e1:=hcell1 k x hx;have e2:=hcell2 k y hy;obtain⟨e10,e11⟩:=e1;obtain⟨e20,e21⟩:=e2;clear hcell1 hcell2;obtain⟨xp,xa⟩:=x;obtain⟨yp,ya⟩:=y;dsimp only at e10 e11 e20 e21;have HX:=Ae hx; clear hx;have HY:=Ae hy; clear hy;by_cases he:xp=yp∧xa=ya
    ·obtain⟨rfl,rfl⟩:=he;go_wp2
     go_quiet (fail)
     go_wp2
     go_roundw
     case rel=>exact⟨k+1,byOmega,by go_num,gV HX.out HY.out HP.out,_,rfl⟩
     case measure=>simp[intOf]; omega
    ·have hfin:decide (l1=l2)=false:=by
      simp only[decide_eq_false_iff_not]; rintro rfl;have h3:=HX.out; rw[HY.out] at h3; cases h3; exact he ⟨rfl,rfl⟩
     have HF:=Ae hfin; clear hfin;by_cases h1:xp=yp
     ·subst h1;have hne:(xa==ya)=false:=by simp; exact fun h2=>he ⟨rfl,h2⟩
      clear he;go_wp2
      go_quiet (fail)
      go_wp2
      go_ret;exact⟨by rw[HF.out]; rfl,n+nq,by rw[World.drewN_drewN]⟩
     ·have hne:(xp==yp)=false:=by simp[h1]
      clear he h1;go_wp2
      go_quiet (fail)
      go_wp2
      go_ret;exact⟨by rw[HF.out]; rfl,n+nq,by rw[World.drewN_drewN]⟩
   ·go_wp2
    go_ret;have:k=l1.length:=byOmega;have h3:=HP.out;have h4:=HL.out;refine⟨?_,_,rfl⟩;have h5:l1=l2:=by
     rw[List.take_of_length_le byOmega,List.take_of_length_le byOmega] at h3; exact h3
    simp[h5]
 ·have hb:((l1.length:Int) != (l2.length:Int))=true:=au;go_in
  go_wp2
  go_ret;refine⟨?_,0,rfl⟩;have:l1≠l2:=by rintro rfl; exact hl rfl
  simp[this]
theorem ae5 (a b:Nd):a=b↔a.kind=b.kind∧a.aI=b.aI∧a.info=b.info∧a.next=b.next∧a.weights=b.weights∧a.pay=b.pay:=by
 cases a; cases b; simp
theorem aV (w:World) (a b:Obj) (n:Nat):Below w.heap.size w (((w.alloc a).alloc b).drewN n):=by
 have h:=(((Below.refl w.heap.size w).alloc (Nat.le_refl _) a).alloc ay b);exact⟨h.os,h.tape,h.output,h.size,h.block⟩
theorem sS (w:World) (F:Ah) (u1 u2:Value) (n1 n2:Nd) (h1:Bl w F u1 n1) (h2:Bl w F u2 n2)
  (hl1:n1.next.length < 1000000∧n1.weights.length < 1000000∧n1.pay.length < 1000000) (hl2:n2.next.length < 1000000∧n2.weights.length < 1000000∧n2.pay.length < 1000000) :
  Calls Tryz.prog 80 #[u1,u2] w (Ret w fun v _=>v = .bool (decide (n1=n2))):=by
 obtain⟨v3,v4,v5,rfl,h13,h14,h15⟩:=h1;obtain⟨u3,u4,u5,rfl,h23,h24,h25⟩:=h2;obtain⟨hl13,hl14,hl15⟩:=hl1;obtain⟨hl23,hl24,hl25⟩:=hl2;have H13:=Ae h13; clear h13;have H14:=Ae h14; clear h14;have H15:=Ae h15; clear h15;have H23:=Ae h23; clear h23;have H24:=Ae h24; clear h24;have H25:=Ae h25; clear h25;have HE:=Ae (ae5 n1 n2);by_cases q0:n1.kind=n2.kind
 case neg =>
  have d0:(n1.kind==n2.kind)=false:=by simp[q0]
  have HF:=Ae (show decide (n1=n2)=false by simp only[decide_eq_false_iff_not]; exact fun h=>q0 (HE.out.1 h).1);clear q0;go_in
  go_wp2
  go_ret;exact⟨_,rfl,aV _ _ _ 0,by rw[HF.out]; rfl⟩
 have d0:(n1.kind==n2.kind)=true:=by simp[q0]
 have Q0:=Ae q0; clear q0;by_cases q1:n1.aI=n2.aI
 case neg =>
  have d1:(n1.aI==n2.aI)=false:=by simp[q1]
  have HF:=Ae (show decide (n1=n2)=false by simp only[decide_eq_false_iff_not]; exact fun h=>q1 (HE.out.1 h).2.1);clear q1;go_in
  go_wp2
  go_ret;exact⟨_,rfl,aV _ _ _ 0,by rw[HF.out]; rfl⟩
 have d1:(n1.aI==n2.aI)=true:=by simp[q1]
 have Q1:=Ae q1; clear q1;by_cases q2:n1.info=n2.info
 case neg =>
  have d2:(n1.info==n2.info)=false:=by simp[q2]
  have HF:=Ae (show decide (n1=n2)=false by simp only[decide_eq_false_iff_not]; exact fun h=>q2 (HE.out.1 h).2.2.1);clear q2;go_in
  go_wp2
  go_ret;exact⟨_,rfl,aV _ _ _ 0,by rw[HF.out]; rfl⟩
 have d2:(n1.info==n2.info)=true:=by simp[q2]
 have Q2:=Ae q2; clear q2;by_cases q3:n1.next=n2.next
 case neg =>
  have d3:decide (n1.next=n2.next)=false:=by simp[q3]
  have HF:=Ae (show decide (n1=n2)=false by simp only[decide_eq_false_iff_not]; exact fun h=>q3 (HE.out.1 h).2.2.2.1);clear q3;go_in
  go_wp2_with (first | (go_at_call 37; (with_reducible refine(dP _ F _ _ n1.next n2.next (H13.out.on ?_) (H23.out.on ?_) hl13 hl23).mono ?_); exact(by repeat (first | exact Same.refl _ _ | exact Same.drewN _ _ _ | exact Same.alloc _ _ _ | refine Same.trans ?_ (Same.drewN _ _ _) | refine Same.trans ?_ (Same.alloc _ _ _))); exact(by repeat (first | exact Same.refl _ _ | exact Same.drewN _ _ _ | exact Same.alloc _ _ _ | refine Same.trans ?_ (Same.drewN _ _ _) | refine Same.trans ?_ (Same.alloc _ _ _))); rintro e w' ⟨rfl,m,rfl⟩) | (go_at_call 37; (with_reducible refine(dP _ F _ _ n1.weights n2.weights (H14.out.on ?_) (H24.out.on ?_) hl14 hl24).mono ?_); exact(by repeat (first | exact Same.refl _ _ | exact Same.drewN _ _ _ | exact Same.alloc _ _ _ | refine Same.trans ?_ (Same.drewN _ _ _) | refine Same.trans ?_ (Same.alloc _ _ _))); exact(by repeat (first | exact Same.refl _ _ | exact Same.drewN _ _ _ | exact Same.alloc _ _ _ | refine Same.trans ?_ (Same.drewN _ _ _) | refine Same.trans ?_ (Same.alloc _ _ _))); rintro e w' ⟨rfl,m,rfl⟩) | (go_at_call 37; (with_reducible refine(dP _ F _ _ n1.pay n2.pay (H15.out.on ?_) (H25.out.on ?_) hl15 hl25).mono ?_); exact(by repeat (first | exact Same.refl _ _ | exact Same.drewN _ _ _ | exact Same.alloc _ _ _ | refine Same.trans ?_ (Same.drewN _ _ _) | refine Same.trans ?_ (Same.alloc _ _ _))); exact(by repeat (first | exact Same.refl _ _ | exact Same.drewN _ _ _ | exact Same.alloc _ _ _ | refine Same.trans ?_ (Same.drewN _ _ _) | refine Same.trans ?_ (Same.alloc _ _ _))); rintro e w' ⟨rfl,m,rfl⟩))
  go_ret;exact⟨_,rfl,aV _ _ _ _,by rw[HF.out]; rfl⟩
 have d3:decide (n1.next=n2.next)=true:=by simp[q3]
 have Q3:=Ae q3; clear q3;by_cases q4:n1.weights=n2.weights
 case neg =>
  have d4:decide (n1.weights=n2.weights)=false:=by simp[q4]
  have HF:=Ae (show decide (n1=n2)=false by simp only[decide_eq_false_iff_not]; exact fun h=>q4 (HE.out.1 h).2.2.2.2.1);clear q4;go_in
  go_wp2_with (first | (go_at_call 37; (with_reducible refine(dP _ F _ _ n1.next n2.next (H13.out.on ?_) (H23.out.on ?_) hl13 hl23).mono ?_); exact(by repeat (first | exact Same.refl _ _ | exact Same.drewN _ _ _ | exact Same.alloc _ _ _ | refine Same.trans ?_ (Same.drewN _ _ _) | refine Same.trans ?_ (Same.alloc _ _ _))); exact(by repeat (first | exact Same.refl _ _ | exact Same.drewN _ _ _ | exact Same.alloc _ _ _ | refine Same.trans ?_ (Same.drewN _ _ _) | refine Same.trans ?_ (Same.alloc _ _ _))); rintro e w' ⟨rfl,m,rfl⟩) | (go_at_call 37; (with_reducible refine(dP _ F _ _ n1.weights n2.weights (H14.out.on ?_) (H24.out.on ?_) hl14 hl24).mono ?_); exact(by repeat (first | exact Same.refl _ _ | exact Same.drewN _ _ _ | exact Same.alloc _ _ _ | refine Same.trans ?_ (Same.drewN _ _ _) | refine Same.trans ?_ (Same.alloc _ _ _))); exact(by repeat (first | exact Same.refl _ _ | exact Same.drewN _ _ _ | exact Same.alloc _ _ _ | refine Same.trans ?_ (Same.drewN _ _ _) | refine Same.trans ?_ (Same.alloc _ _ _))); rintro e w' ⟨rfl,m,rfl⟩) | (go_at_call 37; (with_reducible refine(dP _ F _ _ n1.pay n2.pay (H15.out.on ?_) (H25.out.on ?_) hl15 hl25).mono ?_); exact(by repeat (first | exact Same.refl _ _ | exact Same.drewN _ _ _ | exact Same.alloc _ _ _ | refine Same.trans ?_ (Same.drewN _ _ _) | refine Same.trans ?_ (Same.alloc _ _ _))); exact(by repeat (first | exact Same.refl _ _ | exact Same.drewN _ _ _ | exact Same.alloc _ _ _ | refine Same.trans ?_ (Same.drewN _ _ _) | refine Same.trans ?_ (Same.alloc _ _ _))); rintro e w' ⟨rfl,m,rfl⟩))
  go_ret;exact⟨_,rfl,aV _ _ _ _,by rw[HF.out]; rfl⟩
 have d4:decide (n1.weights=n2.weights)=true:=by simp[q4]
 have Q4:=Ae q4; clear q4;by_cases q5:n1.pay=n2.pay
 case neg =>
  have d5:decide (n1.pay=n2.pay)=false:=by simp[q5]
  have HF:=Ae (show decide (n1=n2)=false by simp only[decide_eq_false_iff_not]; exact fun h=>q5 (HE.out.1 h).2.2.2.2.2);clear q5;go_in
  go_wp2_with (first | (go_at_call 37; (with_reducible refine(dP _ F _ _ n1.next n2.next (H13.out.on ?_) (H23.out.on ?_) hl13 hl23).mono ?_); exact(by repeat (first | exact Same.refl _ _ | exact Same.drewN _ _ _ | exact Same.alloc _ _ _ | refine Same.trans ?_ (Same.drewN _ _ _) | refine Same.trans ?_ (Same.alloc _ _ _))); exact(by repeat (first | exact Same.refl _ _ | exact Same.drewN _ _ _ | exact Same.alloc _ _ _ | refine Same.trans ?_ (Same.drewN _ _ _) | refine Same.trans ?_ (Same.alloc _ _ _))); rintro e w' ⟨rfl,m,rfl⟩) | (go_at_call 37; (with_reducible refine(dP _ F _ _ n1.weights n2.weights (H14.out.on ?_) (H24.out.on ?_) hl14 hl24).mono ?_); exact(by repeat (first | exact Same.refl _ _ | exact Same.drewN _ _ _ | exact Same.alloc _ _ _ | refine Same.trans ?_ (Same.drewN _ _ _) | refine Same.trans ?_ (Same.alloc _ _ _))); exact(by repeat (first | exact Same.refl _ _ | exact Same.drewN _ _ _ | exact Same.alloc _ _ _ | refine Same.trans ?_ (Same.drewN _ _ _) | refine Same.trans ?_ (Same.alloc _ _ _))); rintro e w' ⟨rfl,m,rfl⟩) | (go_at_call 37; (with_reducible refine(dP _ F _ _ n1.pay n2.pay (H15.out.on ?_) (H25.out.on ?_) hl15 hl25).mono ?_); exact(by repeat (first | exact Same.refl _ _ | exact Same.drewN _ _ _ | exact Same.alloc _ _ _ | refine Same.trans ?_ (Same.drewN _ _ _) | refine Same.trans ?_ (Same.alloc _ _ _))); exact(by repeat (first | exact Same.refl _ _ | exact Same.drewN _ _ _ | exact Same.alloc _ _ _ | refine Same.trans ?_ (Same.drewN _ _ _) | refine Same.trans ?_ (Same.alloc _ _ _))); rintro e w' ⟨rfl,m,rfl⟩))
  go_ret;exact⟨_,rfl,aV _ _ _ _,by rw[HF.out]; rfl⟩
 have d5:decide (n1.pay=n2.pay)=true:=by simp[q5]
 have Q5:=Ae q5; clear q5;have HF:=Ae (show decide (n1=n2)=true by simp only[decide_eq_true_eq]; exact HE.out.2 ⟨Q0.out,Q1.out,Q2.out,Q3.out,Q4.out,Q5.out⟩);go_in
 go_wp2_with (first | (go_at_call 37; (with_reducible refine(dP _ F _ _ n1.next n2.next (H13.out.on ?_) (H23.out.on ?_) hl13 hl23).mono ?_); exact(by repeat (first | exact Same.refl _ _ | exact Same.drewN _ _ _ | exact Same.alloc _ _ _ | refine Same.trans ?_ (Same.drewN _ _ _) | refine Same.trans ?_ (Same.alloc _ _ _))); exact(by repeat (first | exact Same.refl _ _ | exact Same.drewN _ _ _ | exact Same.alloc _ _ _ | refine Same.trans ?_ (Same.drewN _ _ _) | refine Same.trans ?_ (Same.alloc _ _ _))); rintro e w' ⟨rfl,m,rfl⟩) | (go_at_call 37; (with_reducible refine(dP _ F _ _ n1.weights n2.weights (H14.out.on ?_) (H24.out.on ?_) hl14 hl24).mono ?_); exact(by repeat (first | exact Same.refl _ _ | exact Same.drewN _ _ _ | exact Same.alloc _ _ _ | refine Same.trans ?_ (Same.drewN _ _ _) | refine Same.trans ?_ (Same.alloc _ _ _))); exact(by repeat (first | exact Same.refl _ _ | exact Same.drewN _ _ _ | exact Same.alloc _ _ _ | refine Same.trans ?_ (Same.drewN _ _ _) | refine Same.trans ?_ (Same.alloc _ _ _))); rintro e w' ⟨rfl,m,rfl⟩) | (go_at_call 37; (with_reducible refine(dP _ F _ _ n1.pay n2.pay (H15.out.on ?_) (H25.out.on ?_) hl15 hl25).mono ?_); exact(by repeat (first | exact Same.refl _ _ | exact Same.drewN _ _ _ | exact Same.alloc _ _ _ | refine Same.trans ?_ (Same.drewN _ _ _) | refine Same.trans ?_ (Same.alloc _ _ _))); exact(by repeat (first | exact Same.refl _ _ | exact Same.drewN _ _ _ | exact Same.alloc _ _ _ | refine Same.trans ?_ (Same.drewN _ _ _) | refine Same.trans ?_ (Same.alloc _ _ _))); rintro e w' ⟨rfl,m,rfl⟩))
 go_ret;exact⟨_,rfl,aV _ _ _ _,by rw[HF.out]; rfl⟩
theorem neF {a b:Int} (h:a=b):(a != b)=false:=by simp[h]
theorem neT {a b:Int} (h:a≠b):(a != b)=true:=by simp[h]
theorem eqF {a b:Int} (h:a≠b):(a==b)=false:=by simp[h]
theorem eqT {a b:Int} (h:a=b):(a==b)=true:=by simp[h]
def outside (lo hi:Int) (l:List Int):Bool:=l.any fun x=>decide (x < lo)||decide (hi < x)
def dh (x:Nd):Int :=
 if x.aI≠0∨x.info≠0∨0 < x.pay.length∨x.next.length < 1∨60 < x.next.length∨x.weights.length≠x.next.length then 3 else if outside 1 1000 x.weights then 2 else 0
def dL (aA:Int) (ni:Nat) (x:Nd):Int :=
 if 0 < x.pay.length∨0 < x.weights.length∨x.next.length < 1∨10 < x.next.length then 3 else if x.aI < 0∨aA≤x.aI∨x.info < 0∨(ni:Int)≤x.info then 2 else 0
def gG (aA:Int) (x:Nd):Int :=
 if x.aI≠0∨x.info≠0∨0 < x.next.length∨0 < x.weights.length∨(x.pay.length:Int)≠aA then 3 else if outside (-1000000) 1000000 x.pay then 2 else 0
def aT (aA:Int) (ni:Nat) (x:Nd):Int :=
 if x.kind=1 then dh x else if x.kind=2 then dL aA ni x else if x.kind=3 then gG aA x else 3
theorem agu (w:World) (F:Ah) (u ux:Value) (g:Gm) (x:Nd) (hg:AP w F u g) (hx:Bl w F ux x) (hl:x.next.length < 1000000∧x.weights.length < 1000000∧x.pay.length < 1000000) (hni:g.infos.length < 1000000) :
  Calls Tryz.prog 95 #[u,ux] w (Ret w fun v _=>v = .int .i64 (aT g.aA g.infos.length x)):=by
 obtain⟨vn,vi,rfl,⟨A,c,rfl,hc,hN⟩,⟨Ai,ci,rfl,hci,hI⟩⟩:=hg;clear hN hI;obtain⟨v3,v4,v5,rfl,⟨A3,c3,rfl,hc3,h3⟩,⟨A4,c4,rfl,hc4,h4⟩,⟨A5,c5,rfl,hc5,h5⟩⟩:=hx;obtain⟨hl3,hl4,hl5⟩:=hl;have H4:=Ae h4; clear h4;have H5:=Ae h5; clear h5 h3;by_cases k1:x.kind=1
 ·have e1:(x.kind==1)=true:=by simp[k1]
  by_cases q0:x.aI≠0
  ·have HF:=Ae (show aT g.aA g.infos.length x=3 by unfold aT dh; rw[if_pos k1,if_pos byOmega]);have d0:(x.aI != 0)=true:=neT byOmega;clear k1;go_in
   go_wp2
   go_ret;exact⟨_,rfl,aV _ _ _ 0,by rw[HF.out]; rfl⟩
  have d0:(x.aI != 0)=false:=neF byOmega;by_cases q1:x.info≠0
  ·have HF:=Ae (show aT g.aA g.infos.length x=3 by unfold aT dh; rw[if_pos k1,if_pos byOmega]);have d1:(x.info != 0)=true:=neT byOmega;clear k1;go_in
   go_wp2
   go_ret;exact⟨_,rfl,aV _ _ _ 0,by rw[HF.out]; rfl⟩
  have d1:(x.info != 0)=false:=neF byOmega;by_cases q2:0 < x.pay.length
  ·have HF:=Ae (show aT g.aA g.infos.length x=3 by unfold aT dh; rw[if_pos k1,if_pos byOmega]);clear k1;go_in
   go_wp2
   go_ret;exact⟨_,rfl,aV _ _ _ 0,by rw[HF.out]; rfl⟩
  have d2:decide ((0:Int) < (x.pay.length:Int))=false:=decide_eq_false byOmega;by_cases q3:x.next.length < 1
  ·have HF:=Ae (show aT g.aA g.infos.length x=3 by unfold aT dh; rw[if_pos k1,if_pos byOmega]);clear k1;go_in
   go_wp2
   go_ret;exact⟨_,rfl,aV _ _ _ 0,by rw[HF.out]; rfl⟩
  have d3:decide ((x.next.length:Int) < 1)=false:=decide_eq_false byOmega;by_cases q4:60 < x.next.length
  ·have HF:=Ae (show aT g.aA g.infos.length x=3 by unfold aT dh; rw[if_pos k1,if_pos byOmega]);clear k1;go_in
   go_wp2
   go_ret;exact⟨_,rfl,aV _ _ _ 0,by rw[HF.out]; rfl⟩
  have d4:decide ((60:Int) < (x.next.length:Int))=false:=decide_eq_false byOmega;by_cases q5:x.weights.length≠x.next.length
  ·have HF:=Ae (show aT g.aA g.infos.length x=3 by unfold aT dh; rw[if_pos k1,if_pos byOmega]);have d5:((x.weights.length:Int) != (x.next.length:Int))=true:=neT byOmega;clear k1;go_in
   go_wp2
   go_ret;exact⟨_,rfl,aV _ _ _ 0,by rw[HF.out]; rfl⟩
  have d5:((x.weights.length:Int) != (x.next.length:Int))=false:=neF byOmega;have HV:=Ae (show aT g.aA g.infos.length x=if outside 1 1000 x.weights then 2 else 0 by unfold aT dh; rw[if_pos k1,if_neg byOmega]);clear k1 q0 q1 q5;go_in
  go_wp2
  go_loop [5] (fun i=>∃ k:Nat,k≤x.weights.length∧i = .int .i64 k∧outside 1 1000 (x.weights.take k)=false) (fun i=>x.weights.length - (intOf i).toNat)
  case atStart=>exact⟨0,byOmega,rfl,rfl⟩
  case round =>
   obtain⟨k,hk,rfl,hpre⟩:=hrel;have HP:=Ae hpre; clear hpre;by_cases hlt:k < x.weights.length
   ·obtain⟨b,o,rfl,_,hb,hx⟩:=H4.out byOmega;obtain⟨y,hy⟩:=aC hlt;have ey:=hx k y hy;unfold jF at ey; rw[Nat.mul_one] at ey;have BAD:=Ae (show(y < 1∨1000 < y)→aT g.aA g.infos.length x=2 by
     intro hb; rw[HV.out,if_pos (show outside _ _ _=true from List.any_eq_true.2 ⟨y,List.mem_of_getElem? hy,by simpa using hb⟩)])
    have HX:=Ae hy; clear hx hy;by_cases pl:y < 1
    ·have HF:=Ae (BAD.out (.inl pl));go_wp2
     go_ret;exact⟨_,rfl,aV _ _ _ 0,by rw[HF.out]; rfl⟩
    have fl:decide (y < 1)=false:=decide_eq_false byOmega;by_cases pr:1000 < y
    ·have HF:=Ae (BAD.out (.inr pr));go_wp2
     go_ret;exact⟨_,rfl,aV _ _ _ 0,by rw[HF.out]; rfl⟩
    have fr:decide ((1000:Int) < y)=false:=decide_eq_false byOmega;go_wp2
    go_round
    case rel=>exact⟨k+1,byOmega,by go_num,ku HX.out HP.out au⟩
    case measure=>simp[intOf]; omega
   ·go_wp2
    go_ret;refine⟨_,rfl,aV _ _ _ 0,?_⟩;have h:=HP.out; rw[List.take_of_length_le byOmega] at h;rw[HV.out,h]; rfl
 have e1:(x.kind==1)=false:=by simp[k1]
 by_cases k2:x.kind=2
 ·have e2:(x.kind==2)=true:=by simp[k2]
  by_cases q0:0 < x.pay.length
  ·have HF:=Ae (show aT g.aA g.infos.length x=3 by unfold aT dL; rw[if_neg k1,if_pos k2,if_pos byOmega]);clear k1 k2;go_in
   go_wp2
   go_ret;exact⟨_,rfl,aV _ _ _ 0,by rw[HF.out]; rfl⟩
  have d0:decide ((0:Int) < (x.pay.length:Int))=false:=decide_eq_false byOmega;by_cases q1:0 < x.weights.length
  ·have HF:=Ae (show aT g.aA g.infos.length x=3 by unfold aT dL; rw[if_neg k1,if_pos k2,if_pos byOmega]);clear k1 k2;go_in
   go_wp2
   go_ret;exact⟨_,rfl,aV _ _ _ 0,by rw[HF.out]; rfl⟩
  have d1:decide ((0:Int) < (x.weights.length:Int))=false:=decide_eq_false byOmega;by_cases q2:x.next.length < 1
  ·have HF:=Ae (show aT g.aA g.infos.length x=3 by unfold aT dL; rw[if_neg k1,if_pos k2,if_pos byOmega]);clear k1 k2;go_in
   go_wp2
   go_ret;exact⟨_,rfl,aV _ _ _ 0,by rw[HF.out]; rfl⟩
  have d2:decide ((x.next.length:Int) < 1)=false:=decide_eq_false byOmega;by_cases q3:10 < x.next.length
  ·have HF:=Ae (show aT g.aA g.infos.length x=3 by unfold aT dL; rw[if_neg k1,if_pos k2,if_pos byOmega]);clear k1 k2;go_in
   go_wp2
   go_ret;exact⟨_,rfl,aV _ _ _ 0,by rw[HF.out]; rfl⟩
  have d3:decide ((10:Int) < (x.next.length:Int))=false:=decide_eq_false byOmega;by_cases r0:x.aI < 0
  ·have HF:=Ae (show aT g.aA g.infos.length x=2 by unfold aT dL; rw[if_neg k1,if_pos k2,if_neg byOmega,if_pos byOmega]);clear k1 k2;go_in
   go_wp2
   go_ret;exact⟨_,rfl,aV _ _ _ 0,by rw[HF.out]; rfl⟩
  have s0:decide (x.aI < 0)=false:=decide_eq_false byOmega;by_cases r1:g.aA≤x.aI
  ·have HF:=Ae (show aT g.aA g.infos.length x=2 by unfold aT dL; rw[if_neg k1,if_pos k2,if_neg byOmega,if_pos byOmega]);clear k1 k2;go_in
   go_wp2
   go_ret;exact⟨_,rfl,aV _ _ _ 0,by rw[HF.out]; rfl⟩
  have s1:decide (g.aA≤x.aI)=false:=decide_eq_false byOmega;by_cases r2:x.info < 0
  ·have HF:=Ae (show aT g.aA g.infos.length x=2 by unfold aT dL; rw[if_neg k1,if_pos k2,if_neg byOmega,if_pos byOmega]);clear k1 k2;go_in
   go_wp2
   go_ret;exact⟨_,rfl,aV _ _ _ 0,by rw[HF.out]; rfl⟩
  have s2:decide (x.info < 0)=false:=decide_eq_false byOmega;by_cases r3:(g.infos.length:Int)≤x.info
  ·have HF:=Ae (show aT g.aA g.infos.length x=2 by unfold aT dL; rw[if_neg k1,if_pos k2,if_neg byOmega,if_pos byOmega]);clear k1 k2;go_in
   go_wp2
   go_ret;exact⟨_,rfl,aV _ _ _ 0,by rw[HF.out]; rfl⟩
  have s3:decide ((g.infos.length:Int)≤x.info)=false:=decide_eq_false byOmega;have HF:=Ae (show aT g.aA g.infos.length x=0 by unfold aT dL; rw[if_neg k1,if_pos k2,if_neg byOmega,if_neg byOmega]);clear k1 k2;go_in
  go_wp2
  go_ret;exact⟨_,rfl,aV _ _ _ 0,by rw[HF.out]; rfl⟩
 have e2:(x.kind==2)=false:=by simp[k2]
 by_cases k3:x.kind=3
 ·have e3:(x.kind==3)=true:=by simp[k3]
  by_cases q0:x.aI≠0
  ·have HF:=Ae (show aT g.aA g.infos.length x=3 by unfold aT gG; rw[if_neg k1,if_neg k2,if_pos k3,if_pos byOmega]);have d0:(x.aI != 0)=true:=neT byOmega;clear k1 k2 k3;go_in
   go_wp2
   go_ret;exact⟨_,rfl,aV _ _ _ 0,by rw[HF.out]; rfl⟩
  have d0:(x.aI != 0)=false:=neF byOmega;by_cases q1:x.info≠0
  ·have HF:=Ae (show aT g.aA g.infos.length x=3 by unfold aT gG; rw[if_neg k1,if_neg k2,if_pos k3,if_pos byOmega]);have d1:(x.info != 0)=true:=neT byOmega;clear k1 k2 k3;go_in
   go_wp2
   go_ret;exact⟨_,rfl,aV _ _ _ 0,by rw[HF.out]; rfl⟩
  have d1:(x.info != 0)=false:=neF byOmega;by_cases q2:0 < x.next.length
  ·have HF:=Ae (show aT g.aA g.infos.length x=3 by unfold aT gG; rw[if_neg k1,if_neg k2,if_pos k3,if_pos byOmega]);clear k1 k2 k3;go_in
   go_wp2
   go_ret;exact⟨_,rfl,aV _ _ _ 0,by rw[HF.out]; rfl⟩
  have d2:decide ((0:Int) < (x.next.length:Int))=false:=decide_eq_false byOmega;by_cases q3:0 < x.weights.length
  ·have HF:=Ae (show aT g.aA g.infos.length x=3 by unfold aT gG; rw[if_neg k1,if_neg k2,if_pos k3,if_pos byOmega]);clear k1 k2 k3;go_in
   go_wp2
   go_ret;exact⟨_,rfl,aV _ _ _ 0,by rw[HF.out]; rfl⟩
  have d3:decide ((0:Int) < (x.weights.length:Int))=false:=decide_eq_false byOmega;by_cases q4:(x.pay.length:Int)≠g.aA
  ·have HF:=Ae (show aT g.aA g.infos.length x=3 by unfold aT gG; rw[if_neg k1,if_neg k2,if_pos k3,if_pos byOmega]);have d4:((x.pay.length:Int) != g.aA)=true:=neT byOmega;clear k1 k2 k3;go_in
   go_wp2
   go_ret;exact⟨_,rfl,aV _ _ _ 0,by rw[HF.out]; rfl⟩
  have d4:((x.pay.length:Int) != g.aA)=false:=neF byOmega;have HV:=Ae (show aT g.aA g.infos.length x=if outside (-1000000) 1000000 x.pay then 2 else 0 by unfold aT gG; rw[if_neg k1,if_neg k2,if_pos k3,if_neg byOmega]);clear k1 k2 k3 q0 q1 q4;go_in
  go_wp2
  go_loop [6] (fun i=>∃ k:Nat,k≤x.pay.length∧i = .int .i64 k∧outside (-1000000) 1000000 (x.pay.take k)=false) (fun i=>x.pay.length - (intOf i).toNat)
  case atStart=>exact⟨0,byOmega,rfl,rfl⟩
  case round =>
   obtain⟨k,hk,rfl,hpre⟩:=hrel;have HP:=Ae hpre; clear hpre;by_cases hlt:k < x.pay.length
   ·obtain⟨b,o,rfl,_,hb,hx⟩:=H5.out byOmega;obtain⟨y,hy⟩:=aC hlt;have ey:=hx k y hy;unfold jF at ey; rw[Nat.mul_one] at ey;have BAD:=Ae (show(y < (-1000000)∨1000000 < y)→aT g.aA g.infos.length x=2 by
     intro hb; rw[HV.out,if_pos (show outside _ _ _=true from List.any_eq_true.2 ⟨y,List.mem_of_getElem? hy,by simpa using hb⟩)])
    have HX:=Ae hy; clear hx hy;by_cases pl:y < (-1000000)
    ·have HF:=Ae (BAD.out (.inl pl));go_wp2
     go_ret;exact⟨_,rfl,aV _ _ _ 0,by rw[HF.out]; rfl⟩
    have fl:decide (y < (-1000000))=false:=decide_eq_false byOmega;by_cases pr:1000000 < y
    ·have HF:=Ae (BAD.out (.inr pr));go_wp2
     go_ret;exact⟨_,rfl,aV _ _ _ 0,by rw[HF.out]; rfl⟩
    have fr:decide ((1000000:Int) < y)=false:=decide_eq_false byOmega;go_wp2
    go_round
    case rel=>exact⟨k+1,byOmega,by go_num,ku HX.out HP.out au⟩
    case measure=>simp[intOf]; omega
   ·go_wp2
    go_ret;refine⟨_,rfl,aV _ _ _ 0,?_⟩;have h:=HP.out; rw[List.take_of_length_le byOmega] at h;rw[HV.out,h]; rfl
 have e3:(x.kind==3)=false:=by simp[k3]
 have HF:=Ae (show aT g.aA g.infos.length x=3 by unfold aT; rw[if_neg k1,if_neg k2,if_neg k3]);clear k1 k2 k3;go_in
 go_wp2
 go_ret;exact⟨_,rfl,aV _ _ _ 0,by rw[HF.out]; rfl⟩
def dw (rec:Nat→Int→Int×Int):List Int→Int→Int→Int×Int
 | [],next,deep=>(next,deep)
 | c :: cs,next,deep=>if c≠next then (-1,deep) else if (rec next.toNat deep).1 < 0 then (-1,(rec next.toNat deep).2) else dw rec cs (rec next.toNat deep).1 (rec next.toNat deep).2
def bU (nodes:List Nd):Nat→Nat→Int→Int→Int×Int
 | 0,_,_,deep=>(-1,deep)
 | f+1,a,depth,deep=>match nodes[a]? with
  | none=>(-1,deep)
  | some n=>dw (fun a d=>bU nodes f a (depth+1) d) n.next ((a:Int)+1) (max deep depth)
theorem qJ {rec:Nat→Int→Int×Int} {N lo:Nat} (hrec:∀ a d,lo≤a→(rec a d).1 = -1∨((a:Int) < (rec a d).1∧(rec a d).1≤N)):∀ (cs:List Int) (next deep:Int),(lo:Int)≤next→next≤N →
  (dw rec cs next deep).1 = -1∨((lo:Int)≤(dw rec cs next deep).1∧(dw rec cs next deep).1≤N)
 | [],next,deep,h1,h2=>.inr ⟨h1,h2⟩
 | c :: cs,next,deep,h1,h2=>by
  unfold dw;split
  ·exact .inl rfl
  ·split
   ·exact .inl rfl
   ·rcases hrec next.toNat deep byOmega with h | h
    ·omega
    ·exact qJ hrec cs _ _ byOmega byOmega
theorem nI (nodes:List Nd):∀ (f a:Nat) (depth deep:Int),(bU nodes f a depth deep).1 = -1∨((a:Int) < (bU nodes f a depth deep).1∧(bU nodes f a depth deep).1≤nodes.length)
 | 0,_,_,_=>.inl rfl
 | f+1,a,depth,deep=>by
  unfold bU;split
  ·exact .inl rfl
  ·rename_i n hn
   have:=aK hn;rcases qJ (rec:=fun a d=>bU nodes f a (depth+1) d) (N:=nodes.length) (lo:=a+1) (fun a' d _=>nI nodes f a' (depth+1) d) n.next ((a:Int)+1) (max deep depth) byOmega byOmega with h | h
   ·exact .inl h
   ·exact .inr byOmega
theorem sU {rec:Nat→Int→Int×Int} {D:Int} (hrec:∀ a d,-1≤d→d≤D→-1≤(rec a d).2∧(rec a d).2≤D):∀ (cs:List Int) (next deep:Int),-1≤deep→deep≤D→-1≤(dw rec cs next deep).2∧(dw rec cs next deep).2≤D
 | [],next,deep,h1,h2=>⟨h1,h2⟩
 | c :: cs,next,deep,h1,h2=>by
  unfold dw;have:=hrec next.toNat deep h1 h2
  split
  ·exact⟨h1,h2⟩
  ·split
   ·exact this
   ·exact sU hrec cs _ _ this.1 this.2
theorem o9 (nodes:List Nd) (D:Int):∀ (f a:Nat) (depth deep:Int),depth+f≤D→-1≤deep→deep≤D→-1≤(bU nodes f a depth deep).2∧(bU nodes f a depth deep).2≤D
 | 0,_,_,_,_,h1,h2=>⟨h1,h2⟩
 | f+1,a,depth,deep,h,h1,h2=>by
  unfold bU;split
  ·exact⟨h1,h2⟩
  ·exact sU (fun a' d g1 g2=>o9 nodes D f a' (depth+1) d byOmega g1 g2) _ _ _ byOmega byOmega
theorem Same.ab9 {w w':World} {b:Nat} (h:w.grownBy w' (some b)):Same (fun k=>k≠b) w w':=⟨h.size,fun k hk hl=>h.block k hl (by simpa using hk)⟩
theorem nJ {a w:World} {row:Option Nat} (h:a.grownBy w row) (o:Obj):a.grownBy (w.alloc o) row :=
 ⟨h.os,h.tape,h.output,Nat.le_trans h.size ay,fun i hi hne=>(Below.heap_alloc w o i (Nat.lt_of_lt_of_le hi h.size)).trans (h.block i hi hne)⟩
theorem grown_setCell {a w:World} {g:Nat} (h:a.grownBy w (some g)) {p:Addr} (hp:p.block=g∨a.heap.size≤p.block) (u:Value):a.grownBy (w.setCell p u) (some g) :=
 ⟨h.os,h.tape,h.output,by simpa using h.size,fun i hi hne=>(Below.heap_setCell w p u i (by
  rintro rfl;rcases hp with hp | hp
  ·exact hne (by rw[hp])
  ·omega)).trans (h.block i hi hne)⟩
theorem pz (w:World) (row:Option Nat):w.grownBy w row:=⟨rfl,rfl,rfl,Nat.le_refl _,fun _ _ _=>rfl⟩
theorem xJ {a b c:World} {row:Option Nat} (h:a.grownBy b row) (k:b.grownBy c row):a.grownBy c row :=
 ⟨k.os.trans h.os,k.tape.trans h.tape,k.output.trans h.output,Nat.le_trans h.size k.size,fun i hi hne=>(k.block i (Nat.lt_of_lt_of_le hi h.size) hne).trans (h.block i hi hne)⟩
theorem y8 {w w':World} {d:Nat} (h:w.grownBy w' (some d)):∀ b o,b < w.heap.size→b≠d→w'.cell? ⟨b,o,none⟩=w.cell? ⟨b,o,none⟩:=fun b o hb hd=>World.cell?_of_block (h.block b hb (by simpa using hd))
theorem ae6 (g:Gm) (hsm:Small g):∀ (f a:Nat) (depth deep:Int) (w:World) (bd:Nat) (u:Value),AP w (fun b=>b≠bd) u g→Row w bd 3 [.int .i64 deep]→g.nodes.length < a+f→0≤depth→depth+f≤100000→-1≤deep→deep≤100000 →
  Calls Tryz.prog 96 #[u,.int .i64 a,.int .i64 depth,.pointer (some ⟨bd,0,none⟩)] w fun e w'=>e = .returned (.int .i64 (bU g.nodes f a depth deep).1)∧Row w' bd 3 [.int .i64 (bU g.nodes f a depth deep).2]∧w.grownBy w' (some bd):=by
 intro f;induction f with
 | zero =>
  intro a depth deep w bd u hg hrow hf hd0 hd1 hp0 hp1;obtain⟨vn,vi,rfl,⟨A,c,rfl,hc,hN⟩,⟨Ai,ci,rfl,hci,hI⟩⟩:=hg;clear hN hI;have hge:(g.nodes.length:Int)≤(a:Int):=byOmega;have hn:=hsm.nodes;have Bd:=Ae hrow; clear hrow;go_in
  go_wp2
  go_ret;exact⟨rfl,Bd.out.alloc _,nJ (pz _ _) _⟩
 | succ f ih =>
  intro a depth deep w bd u hg hrow hf hd0 hd1 hp0 hp1;have HG:=Ae hg;obtain⟨vn,vi,rfl,⟨A,c,rfl,hc,hN⟩,⟨Ai,ci,rfl,hci,hI⟩⟩:=hg;have HN:=Ae hN; clear hN hI;have IH:=Ae ih; clear ih;have HSM:=Ae hsm;have hn:=hsm.nodes;clear hsm;have hbd:=hrow.lt;have xd:=hrow.cell (i:=0) rfl;have fd:=hrow.frozen 0;have Bd:=Ae hrow; clear hrow;by_cases hlt:a < g.nodes.length
  ·obtain⟨b,o,rfl,hbF,hb,hcell⟩:=HN.out byOmega;obtain⟨n,hn'⟩:=aC hlt;obtain⟨v3,e3,A3,c3,rfl,hc3,i3⟩:=(hcell a n hn').c3;have HX:=Ae hn';have hl3:=HSM.out.next n (List.mem_of_getElem? hn');have H3:=Ae i3; clear i3 hcell hn';have HW:=Ae (show bU g.nodes (f+1) a depth deep=dw (fun a d=>bU g.nodes f a (depth+1) d) n.next ((a:Int)+1) (max deep depth) by
    rw[bU]; simp only[HX.out])
   have hrl:∀ d,(max deep depth:Int)=d→∀ (w':World),Row w' bd 3 [.int .i64 deep]→Row (w'.setCell ⟨bd,0,none⟩ (.int .i64 d)) bd 3 [.int .i64 d]:=fun d _ w' h=>by simpa using h.set 0 (.int .i64 d)
   have HRL:=Ae hrl; clear hrl;by_cases hmx:deep < depth
   ·have HMX:=Ae (show(max deep depth:Int)=depth by omega);have hm0:-1≤depth∧depth≤100000:=byOmega;go_in
    go_wp2
    go_loopw [9,10] (fun nx i wr=>∃ (j:Nat) (next dp:Int),j≤n.next.length∧i = .int .i64 j∧nx = .int .i64 next∧(a:Int) < next∧next≤g.nodes.length∧-1≤dp∧dp≤100000∧Row wr w.heap.size 25 [.int .i64 g.aA,.slice (some ⟨b,o,none⟩) g.nodes.length c,.slice Ai g.infos.length ci]∧Row wr bd 3 [.int .i64 dp]∧w.grownBy wr (some bd)∧bU g.nodes (f+1) a depth deep=dw (fun a d=>bU g.nodes f a (depth+1) d) (n.next.drop j) next dp) (fun _ i _=>n.next.length - (intOf i).toNat)
    case atStart =>
     refine⟨0,(a:Int)+1,depth,byOmega,rfl,rfl,byOmega,byOmega,hm0.1,hm0.2,?_,?_,?_,?_⟩
     ·have:=Row.new (w.setCell ⟨bd,0,none⟩ (.int .i64 depth)) 25 #[.int .i64 g.aA,.slice (some ⟨b,o,none⟩) g.nodes.length c,.slice Ai g.infos.length ci];simpa using this
     ·exact(HRL.out depth HMX.out w Bd.out).alloc _
     ·exact nJ (grown_setCell (pz _ _) (.inl rfl) _) _
     ·rw[HW.out,HMX.out]; rfl
    case round =>
     obtain⟨j,next,dp,hj,rfl,rfl,agv,hnx1,agw,agx,hbx,hrw,hgr,hval⟩:=hrel;have HV:=Ae hval; clear hval;have x1:=hbx.cell (i:=1) rfl;have x0:=hbx.cell (i:=0) rfl;have x2:=hbx.cell (i:=2) rfl;have hold:=y8 hgr;by_cases hjt:j < n.next.length
     ·obtain⟨ch,hch⟩:=aC hjt;obtain⟨b3,o3,rfl,hb3,agy,hx3⟩:=H3.out byOmega;have ec:=hx3 j ch hch;unfold jF at ec; rw[Nat.mul_one] at ec;have HD:=Ae (show n.next.drop j=ch :: n.next.drop (j+1) by rw[List.drop_eq_getElem_cons hjt]; congr 1; simpa [hjt] using hch);clear hch hx3;by_cases hne:ch=next
      ·subst hne;obtain⟨q,rfl⟩:=Int.eq_ofNat_of_zero_le (show 0≤ch by omega);have hbd2:=nI g.nodes f q (depth+1) dp;have HV2:=Ae (show dw (fun a d=>bU g.nodes f a (depth+1) d) (n.next.drop j) (q:Int) dp=if (bU g.nodes f q (depth+1) dp).1 < 0 then (-1,(bU g.nodes f q (depth+1) dp).2) else dw (fun a d=>bU g.nodes f a (depth+1) d) (n.next.drop (j+1)) (bU g.nodes f q (depth+1) dp).1 (bU g.nodes f q (depth+1) dp).2 by
        rw[HD.out]; simp[dw])
       have HBD:=Ae hbd2; clear hbd2;go_wp2_with fail
       refine(IH.out q (depth+1) dp wr bd _ (HG.out.on (Same.ab9 hgr)) hrw byOmega byOmega byOmega agw agx).mono ?_;rintro e w' ⟨rfl,adz,fE⟩;have hdd:=o9 g.nodes 100000 f q (depth+1) dp byOmega agw agx;have y9:Row w' w.heap.size _ _:=hbx.of_block (fE.block _ hbx.lt au);have hgg:=xJ hgr fE;have hbb:=HBD.out;have HV3:=Ae (HV.out.trans HV2.out);generalize bU g.nodes f q (depth+1) dp=rr at *;obtain⟨rn,rd⟩:=rr;dsimp only at adz hdd hbb HV3 ⊢;clear HV2 HBD hold x0 x1 x2 hbx hrw hgr fE;by_cases hng:rn < 0
       ·have HF:=Ae (show bU g.nodes (f+1) a depth deep=(-1,rd) by rw[HV3.out,if_pos hng]);go_wp2
        go_ret;exact⟨by rw[HF.out]; rfl,by rw[HF.out]; exact adz,hgg⟩
       ·go_wp2
        go_roundw
        case rel=>exact⟨j+1,rn,rd,byOmega,by go_num,rfl,byOmega,byOmega,hdd.1,hdd.2,y9,adz,hgg,by rw[HV3.out,if_neg hng]⟩
        case measure=>simp[intOf]; omega
      ·have hd:(ch != next)=true:=by simp[hne]
       have HF:=Ae (show bU g.nodes (f+1) a depth deep=(-1,dp) by rw[HV.out,HD.out]; simp[dw,hne]);clear hne;go_wp2
       go_ret;exact⟨by rw[HF.out]; rfl,by rw[HF.out]; exact hrw,hgr⟩
     ·go_wp2
      go_ret;have HF:bU g.nodes (f+1) a depth deep=(next,dp):=by rw[HV.out,List.drop_eq_nil_of_le byOmega]; rfl
      exact⟨by rw[HF]; rfl,by rw[HF]; exact hrw,hgr⟩
   ·have HMX:=Ae (show(max deep depth:Int)=deep by omega);have hm0:-1≤deep∧deep≤100000:=byOmega;go_in
    go_wp2
    go_loopw [9,10] (fun nx i wr=>∃ (j:Nat) (next dp:Int),j≤n.next.length∧i = .int .i64 j∧nx = .int .i64 next∧(a:Int) < next∧next≤g.nodes.length∧-1≤dp∧dp≤100000∧Row wr w.heap.size 25 [.int .i64 g.aA,.slice (some ⟨b,o,none⟩) g.nodes.length c,.slice Ai g.infos.length ci]∧Row wr bd 3 [.int .i64 dp]∧w.grownBy wr (some bd)∧bU g.nodes (f+1) a depth deep=dw (fun a d=>bU g.nodes f a (depth+1) d) (n.next.drop j) next dp) (fun _ i _=>n.next.length - (intOf i).toNat)
    case atStart =>
     refine⟨0,(a:Int)+1,deep,byOmega,rfl,rfl,byOmega,byOmega,hm0.1,hm0.2,?_,?_,?_,?_⟩
     ·have:=Row.new (w.setCell ⟨bd,0,none⟩ (.int .i64 deep)) 25 #[.int .i64 g.aA,.slice (some ⟨b,o,none⟩) g.nodes.length c,.slice Ai g.infos.length ci];simpa using this
     ·exact(HRL.out deep HMX.out w Bd.out).alloc _
     ·exact nJ (grown_setCell (pz _ _) (.inl rfl) _) _
     ·rw[HW.out,HMX.out]; rfl
    case round =>
     obtain⟨j,next,dp,hj,rfl,rfl,agv,hnx1,agw,agx,hbx,hrw,hgr,hval⟩:=hrel;have HV:=Ae hval; clear hval;have x1:=hbx.cell (i:=1) rfl;have x0:=hbx.cell (i:=0) rfl;have x2:=hbx.cell (i:=2) rfl;have hold:=y8 hgr;by_cases hjt:j < n.next.length
     ·obtain⟨ch,hch⟩:=aC hjt;obtain⟨b3,o3,rfl,hb3,agy,hx3⟩:=H3.out byOmega;have ec:=hx3 j ch hch;unfold jF at ec; rw[Nat.mul_one] at ec;have HD:=Ae (show n.next.drop j=ch :: n.next.drop (j+1) by rw[List.drop_eq_getElem_cons hjt]; congr 1; simpa [hjt] using hch);clear hch hx3;by_cases hne:ch=next
      ·subst hne;obtain⟨q,rfl⟩:=Int.eq_ofNat_of_zero_le (show 0≤ch by omega);have hbd2:=nI g.nodes f q (depth+1) dp;have HV2:=Ae (show dw (fun a d=>bU g.nodes f a (depth+1) d) (n.next.drop j) (q:Int) dp=if (bU g.nodes f q (depth+1) dp).1 < 0 then (-1,(bU g.nodes f q (depth+1) dp).2) else dw (fun a d=>bU g.nodes f a (depth+1) d) (n.next.drop (j+1)) (bU g.nodes f q (depth+1) dp).1 (bU g.nodes f q (depth+1) dp).2 by
        rw[HD.out]; simp[dw])
       have HBD:=Ae hbd2; clear hbd2;go_wp2_with fail
       refine(IH.out q (depth+1) dp wr bd _ (HG.out.on (Same.ab9 hgr)) hrw byOmega byOmega byOmega agw agx).mono ?_;rintro e w' ⟨rfl,adz,fE⟩;have hdd:=o9 g.nodes 100000 f q (depth+1) dp byOmega agw agx;have y9:Row w' w.heap.size _ _:=hbx.of_block (fE.block _ hbx.lt au);have hgg:=xJ hgr fE;have hbb:=HBD.out;have HV3:=Ae (HV.out.trans HV2.out);generalize bU g.nodes f q (depth+1) dp=rr at *;obtain⟨rn,rd⟩:=rr;dsimp only at adz hdd hbb HV3 ⊢;clear HV2 HBD hold x0 x1 x2 hbx hrw hgr fE;by_cases hng:rn < 0
       ·have HF:=Ae (show bU g.nodes (f+1) a depth deep=(-1,rd) by rw[HV3.out,if_pos hng]);go_wp2
        go_ret;exact⟨by rw[HF.out]; rfl,by rw[HF.out]; exact adz,hgg⟩
       ·go_wp2
        go_roundw
        case rel=>exact⟨j+1,rn,rd,byOmega,by go_num,rfl,byOmega,byOmega,hdd.1,hdd.2,y9,adz,hgg,by rw[HV3.out,if_neg hng]⟩
        case measure=>simp[intOf]; omega
      ·have hd:(ch != next)=true:=by simp[hne]
       have HF:=Ae (show bU g.nodes (f+1) a depth deep=(-1,dp) by rw[HV.out,HD.out]; simp[dw,hne]);clear hne;go_wp2
       go_ret;exact⟨by rw[HF.out]; rfl,by rw[HF.out]; exact hrw,hgr⟩
     ·go_wp2
      go_ret;have HF:bU g.nodes (f+1) a depth deep=(next,dp):=by rw[HV.out,List.drop_eq_nil_of_le byOmega]; rfl
      exact⟨by rw[HF]; rfl,by rw[HF]; exact hrw,hgr⟩
  ·have hge:(g.nodes.length:Int)≤(a:Int):=byOmega;have HF:=Ae (show bU g.nodes (f+1) a depth deep=(-1,deep) by
    rw[bU]; rw[List.getElem?_eq_none byOmega])
   go_in
   go_wp2
   go_ret;exact⟨by rw[HF.out]; rfl,by rw[HF.out]; exact Bd.out.alloc _,nJ (pz _ _) _⟩
theorem sV (w:World) (F:Ah) (v:Value) (g:Gm) (hg:AP w F v g) (hsm:Small g) (h0:0 < g.nodes.length) (hk:Dy g.nodes) :
  Calls Tryz.prog 46 #[v] w (Ret w fun v w'=>AA w' (fun b=>w.heap.size≤b) v (dD g.nodes)):=by
 obtain⟨vn,vi,rfl,⟨A,c,rfl,hc,hN⟩,hI⟩:=hg;obtain⟨b,o,rfl,hbF,hbB,hN⟩:=hN h0;have HN:=Ae hN; clear hN;have HK:=Ae hk; clear hk;have hn:=hsm.nodes;have HS:=Ae hsm; clear hsm;go_in
 go_wp2_with (at_make; refine eU _ rfl _ _ 26 rfl 3 (.int .i64 0) 8 Tryz.underlying26 Tryz.infoInt rfl g.nodes.length rfl rfl byOmega byOmega ?_; intro w1 zf hsz1 hrow1; have r0:=hrow1.cell (i:=0) (v:=.int .i64 0) (by simp[h0]); have f0:=hrow1.frozen 0; simp at r0 f0)
 go_loopw [4] (fun i wr=>∃ k:Nat,k≤g.nodes.length∧i = .int .i64 k∧wr.cell? ⟨w.heap.size,1,none⟩=some (.slice (some ⟨b,o,none⟩) g.nodes.length c)∧Row wr (w.heap.size+1) 3 ((lJ g.nodes k).map (Value.int .i64))∧Below w.heap.size w wr) (fun i _=>g.nodes.length - (intOf i).toNat)
 case atStart =>
  refine⟨0,byOmega,rfl,?_,?_,?_⟩
  ·rw[World.cell?_setCell_other _ _ _ _ ay,aN zf _ _ ay]; simp
  ·have:=hrow1.set 0 (.int .i64 (-1));simp only[World.size_alloc] at this;simpa [lJ,List.map_set] using this
  ·exact(((Below.refl _ _).alloc (Nat.le_refl _) _).trans (zf.mono ay)).setCell ay _
 case round =>
  obtain⟨k,hk,rfl,hbox,hrow,hbel⟩:=hrel;by_cases hlt:k < g.nodes.length
  ·obtain⟨n,hn'⟩:=aC hlt;have aeI:=HN.out k n hn';obtain⟨v3,e3,A3,c3,rfl,hc3,hN3⟩:=aeI.c3;have hl3:=HS.out.next n (List.mem_of_getElem? hn');have HN3:=Ae hN3; clear hN3 aeI;have HN':=Ae hn'; clear hn';have hold:=aN hbel;go_wp2
   go_loopw [5] (fun i wi=>∃ j:Nat,j≤n.next.length∧i = .int .i64 j∧wi.cell? ⟨w.heap.size,1,none⟩=some (.slice (some ⟨b,o,none⟩) g.nodes.length c)∧Row wi (w.heap.size+1) 3 ((jD (n.next.take j) k (lJ g.nodes k)).map (Value.int .i64))∧Below w.heap.size w wi) (fun i _=>n.next.length - (intOf i).toNat)
   case atStart=>exact⟨0,byOmega,rfl,hbox,by simpa [jD] using hrow,hbel⟩
   case round =>
    clear hbox hrow hold;obtain⟨j,hj,rfl,hbox,hrow,fZ⟩:=hrel;have hold:=aN fZ;by_cases hjt:j < n.next.length
    ·obtain⟨ch,hch⟩:=aC hjt;obtain⟨b3,o3,rfl,hb3,hb3B,hx3⟩:=HN3.out byOmega;have ec:=hx3 j ch hch;unfold jF at ec;rw[Nat.mul_one] at ec;obtain⟨hch0,hch1⟩:=HK.out n (List.mem_of_getElem? HN'.out) ch (List.mem_of_getElem? hch);have HCH:=Ae hch; clear hch hx3;obtain⟨x,hx⟩:=aC (l:=jD (n.next.take j) k (lJ g.nodes k)) (k:=ch.toNat) (by rw[qI,iy]; omega);have rc:=hrow.cell (i:=ch.toNat) (v:=.int .i64 x) (by simp[hx]);have fc:=hrow.frozen ch.toNat;clear hx;go_wp2
     go_roundw
     case rel =>
      refine⟨j+1,byOmega,by go_num,?_,?_,fZ.setCell ay _⟩
      ·rw[World.cell?_setCell_other _ _ _ _ ay]; exact hbox
      ·have:=hrow.set ch.toNat (.int .i64 k);rw[abj HCH.out];simpa [List.map_set] using this
     case measure=>simp[intOf]; omega
    ·go_wp2
     go_roundw
     case rel =>
      have:j=n.next.length:=byOmega;subst this;refine⟨k+1,byOmega,by go_num,hbox,?_,fZ⟩;rw[yZ HN'.out];simpa using hrow
     case measure=>simp[intOf]; omega
  ·go_wp2
   go_ret;have:k=g.nodes.length:=byOmega;subst this;refine⟨_,rfl,hbel,?_⟩;have hl:(dD g.nodes).length=g.nodes.length:=iy _ _;have:=hrow.ints (F:=fun b=>w.heap.size≤b) byOmega (c:=g.nodes.length) (by rw[iy]; omega);rw[iy] at this;exact this
def CO (w:World) (fid:FuncId) (caps:Array Value) (l:List Int) (p:Int→Bool):Prop :=
 (∀ (args:Array Value) (w':World),(callFunc fid args).run Tryz.prog w' = .ok (.enter fid args) w') ∧
 ∀ (n:Nat) (x:Int),x∈l→Calls Tryz.prog fid (#[.int .i64 x]++caps) (w.drewN n) fun e w'=>e = .returned (.bool (p x))∧∃ m,w'=w.drewN m
def idxOf (p:Int→Bool) (l:List Int):Int:=match l.findIdx? p with | some i=>(i:Int) | none=>-1
theorem idxOf_hit {p:Int→Bool} {l:List Int} {k:Nat} {x:Int} (h:l[k]? = some x) (hp:p x=true) (hn:(l.take k).any p=false):idxOf p l=k:=by
 have hk:=aK h;have:l.findIdx? p=some k:=by
  rw[List.findIdx?_eq_some_iff_getElem];refine⟨hk,?_,fun j hj=>?_⟩
  ·have:l[k]=x:=by simpa [hk] using h
   rw[this]; exact hp
  ·have h1:=List.any_eq_false.1 hn l[j] (by rw[List.mem_take_iff_getElem]; exact⟨j,byOmega,rfl⟩);simpa using h1
 simp[idxOf,this]
theorem zh {p:Int→Bool} {l:List Int} (hn:l.any p=false):idxOf p l = -1:=by
 have:l.findIdx? p=none:=by
  rw[List.findIdx?_eq_none_iff];intro x hx;have:=List.any_eq_false.1 hn x hx;simpa using this
 simp[idxOf,this]
theorem ae7 (p:Int→Bool) (l:List Int):decide (0≤idxOf p l)=l.any p:=by
 cases h:l.any p with
 | false=>rw[zh h]; rfl
 | true =>
  obtain⟨x,hx,hp⟩:=List.any_eq_true.1 h;unfold idxOf;split
  ·rw[decide_eq_true_iff]; omega
  ·rename_i h1
   rw[List.findIdx?_eq_none_iff] at h1;have:=h1 x hx;rw[hp] at this; cases this
theorem aal (w:World) (F:Ah) (v:Value) (l:List Int) (fid:FuncId) (caps:Array Value) (p:Int→Bool) (hv:AA w F v l) (hl:l.length≤1000000) (ha:CO w fid caps l p) :
  Calls Tryz.prog 182 #[v,.func (.func fid) #[] caps] w fun e w'=>e = .returned (.int .i64 (idxOf p l))∧∃ n,w'=w.drewN n:=by
 obtain⟨A,c,rfl,hc,hr⟩:=hv;have HR:=Ae hr; clear hr;obtain⟨hcf,hcl⟩:=ha;have HCL:=Ae hcl; clear hcl;go_in
 go_wp2
 go_loopw [8] (fun i wr=>∃ k n:Nat,k≤l.length∧i = .int .i64 k∧(l.take k).any p=false∧wr=w.drewN n) (fun i _=>l.length - (intOf i).toNat)
 case atStart=>exact⟨0,0,byOmega,rfl,rfl,rfl⟩
 case round =>
  obtain⟨k,n,hk,rfl,hpre,rfl⟩:=hrel;have HP:=Ae hpre; clear hpre;by_cases hlt:k < l.length
  ·obtain⟨b,o,rfl,_,hb,hx⟩:=HR.out byOmega;obtain⟨x,hxx⟩:=aC hlt;have ex:=hx k x hxx;unfold jF at ex;rw[Nat.mul_one] at ex;have HX:=Ae hxx; clear hxx hx;go_wp2_with fail
   refine(HCL.out n x (List.mem_of_getElem? HX.out)).mono ?_;rintro e w' ⟨rfl,m,rfl⟩;dsimp only;cases hpx:p x
   ·have HPX:=Ae hpx; clear hpx;go_wp2
    go_roundw
    case rel=>exact⟨k+1,m,byOmega,by go_num,ku HX.out HP.out HPX.out,rfl⟩
    case measure=>simp[intOf]; omega
   ·have HF:=Ae (idxOf_hit HX.out hpx HP.out); clear hpx;go_wp2
    go_ret;exact⟨by rw[HF.out]; rfl,m,rfl⟩
  ·go_wp2
   go_ret;have h:=HP.out;rw[List.take_of_length_le byOmega] at h;exact⟨by rw[zh h]; rfl,n,rfl⟩
theorem wP (w:World) (F:Ah) (v:Value) (l:List Int) (fid:FuncId) (caps:Array Value) (p:Int→Bool) (hv:AA w F v l) (hl:l.length≤1000000) (ha:CO w fid caps l p) :
  Calls Tryz.prog 139 #[v,.func (.func fid) #[] caps] w fun e w'=>e = .returned (.bool (l.any p))∧∃ n,w'=w.drewN n:=by
 have HV:=Ae hv; clear hv;have HA:=Ae ha; clear ha;go_in
 go_wp2_with fail
 refine(aal w F v l fid caps p HV.out hl HA.out).mono ?_;rintro e w' ⟨rfl,n,rfl⟩;dsimp only;have HF:=Ae (ae7 p l);generalize idxOf p l=q at *;go_wp2
 all_goals
  go_ret;refine⟨?_,n,rfl⟩;rw[← HF.out];first | rfl | (simp; omega)
def oD (n:Nd):Bool:=decide (100 < n.next.length)||decide (100 < n.weights.length)||decide (100 < n.pay.length)
def kT (g:Gm) (nodes sets:Int):Bool:=decide (nodes < g.nodes.length)||decide (sets < g.infos.length)||g.nodes.any oD
theorem ae8 (w:World) (F:Ah) (u:Value) (g:Gm) (h:AP w F u g) (nodes sets:Int) (hn0:nodes≤1000) :
  Calls Tryz.prog 13 #[u,.int .i64 nodes,.int .i64 sets] w (Ret w fun v _=>v = .bool (kT g nodes sets)):=by
 obtain⟨vn,vi,rfl,⟨A,c,rfl,hc,hN⟩,⟨Ai,ci,rfl,hci,hI⟩⟩:=h;have HN:=Ae hN; clear hN hI;by_cases q0:nodes < g.nodes.length
 ·have HF:=Ae (show kT g nodes sets=true by simp[kT,q0]);go_in
  go_wp2
  go_ret;exact⟨_,rfl,(Below.refl _ _).alloc (Nat.le_refl _) _,by rw[HF.out]; rfl⟩
 have d0:decide (nodes < (g.nodes.length:Int))=false:=au;by_cases q1:sets < g.infos.length
 ·have HF:=Ae (show kT g nodes sets=true by simp[kT,q1]);go_in
  go_wp2
  go_ret;exact⟨_,rfl,(Below.refl _ _).alloc (Nat.le_refl _) _,by rw[HF.out]; rfl⟩
 have d1:decide (sets < (g.infos.length:Int))=false:=au;go_in
 go_wp2
 go_loopw [7] (fun i wr=>∃ k:Nat,k≤g.nodes.length∧i = .int .i64 k∧(g.nodes.take k).any oD=false∧Row wr w.heap.size 25 [.int .i64 g.aA,.slice A g.nodes.length c,.slice Ai g.infos.length ci]∧Below w.heap.size w wr) (fun i _=>g.nodes.length - (intOf i).toNat)
 case atStart=>exact⟨0,byOmega,rfl,ay,Row.new w _ _,(Below.refl _ _).alloc (Nat.le_refl _) _⟩
 case round =>
  obtain⟨k,hk,rfl,hpre,hr,hbel⟩:=hrel;have HP:=Ae hpre; clear hpre;have x1:=hr.cell (i:=1) rfl;by_cases hlt:k < g.nodes.length
  ·obtain⟨b,o,rfl,_,hb,hcell⟩:=HN.out byOmega;obtain⟨n,hn⟩:=aC hlt;obtain⟨e0,e1,e2,⟨v3,e3,A3,c3,rfl,hc3,i3⟩,⟨v4,e4,A4,c4,rfl,hc4,i4⟩,⟨v5,e5,A5,c5,rfl,hc5,i5⟩⟩:=hcell k n hn;clear i3 i4 i5 hcell;have HX:=Ae hn; clear hn;have hold:=aN hbel;have LT:=Ae (show oD n=true→kT g nodes sets=true by
    intro h;unfold kT;have:g.nodes.any oD=true:=List.any_eq_true.2 ⟨n,List.mem_of_getElem? HX.out,h⟩;rw[this]; simp)
   by_cases q3:100 < n.next.length
   ·have HF:=Ae (LT.out (by unfold oD; simp[q3]));go_wp2
    go_ret;exact⟨_,rfl,by repeat (first | exact hbel | refine Below.alloc ?_ hbel.size _ | refine Below.setCell ?_ hbel.size _),by rw[HF.out]; rfl⟩
   have d3:decide ((100:Int) < (n.next.length:Int))=false:=au;by_cases q4:100 < n.weights.length
   ·have HF:=Ae (LT.out (by unfold oD; simp[q4]));go_wp2
    go_ret;exact⟨_,rfl,by repeat (first | exact hbel | refine Below.alloc ?_ hbel.size _ | refine Below.setCell ?_ hbel.size _),by rw[HF.out]; rfl⟩
   have d4:decide ((100:Int) < (n.weights.length:Int))=false:=au;by_cases q5:100 < n.pay.length
   ·have HF:=Ae (LT.out (by unfold oD; simp[q5]));go_wp2
    go_ret;exact⟨_,rfl,by repeat (first | exact hbel | refine Below.alloc ?_ hbel.size _ | refine Below.setCell ?_ hbel.size _),by rw[HF.out]; rfl⟩
   have d5:decide ((100:Int) < (n.pay.length:Int))=false:=au;have LF:=Ae (show oD n=false by unfold oD; simp; omega);go_wp2
   go_roundw
   case rel=>exact⟨k+1,byOmega,by go_num,ku HX.out HP.out LF.out,by repeat (first | exact hr | refine Row.alloc ?_ _ | refine Row.other ?_ (by have:=hr.lt; simp; omega) _),by repeat (first | exact hbel | refine Below.alloc ?_ hbel.size _ | refine Below.setCell ?_ hbel.size _)⟩
   case measure=>simp[intOf]; omega
  ·go_wp2
   go_ret;refine⟨_,rfl,hbel,?_⟩;have h3:=HP.out;rw[List.take_of_length_le byOmega] at h3;have:kT g nodes sets=false:=by unfold kT; rw[h3,d0,d1]; rfl
   rw[this]; rfl
end Go.Proofs.YthmklhapjegfdaaGreatDoor

/- Rows of rational numbers that a make has laid: its elements, a store of one. -/
import Derived.Test.YtnmeejofpkhlkaaGreatDoorR08
import Derived.Test.YtnmeejofpkhlkaaGreatDoorR13
set_option linter.all false
namespace Go.Proofs.YtnmeejofpkhlkaaGreatDoor
open Go.RowKit
def rv0:RV:=⟨⟨false,[],[]⟩,.slice none 0 0,.slice none 0 0⟩
theorem aiu (w:World) (F:Foot):rv0.fine w F:=⟨iF w F none 0,iF w F none 0⟩
theorem aiv:rv0.r=au 0:=by
 unfold au;rw[if_pos (show(0:Rat).den=1 from rfl),show(0:Rat).num=0 from rfl,Int.natAbs_zero,bD];rfl
theorem Ak.opened {w:World} {F:Foot} {v:Value} {r:Raw} (h:Ak w F v r):∃ (A:Option Addr) (c:Nat) (B:Option Addr) (d:Nat),v = .agg #[.bool r.neg,.slice A r.num.length c,.slice B r.den.length d]∧(⟨r,.slice A r.num.length c,.slice B r.den.length d⟩:RV).fine w F:=by
 obtain⟨vn,vd,rfl,h1,h2⟩:=h;have h1':=h1;have h2':=h2;obtain⟨A,c,rfl,_⟩:=h1;obtain⟨B,d,rfl,_⟩:=h2;exact⟨A,c,B,d,rfl,h1',h2'⟩
theorem adR:∀ (L:List RV) (k:Nat) (q:RV),(L.set k q).flatMap RV.cells=(((L.flatMap RV.cells).set (k*3) (.bool q.r.neg)).set (k*3+1) q.vn).set (k*3+2) q.vd
 | [],k,q=>by simp
 | p :: L,0,q=>by simp[RV.cells]
 | p :: L,k+1,q=>by
  have ih:=adR L k q;have e:(k+1)*3=k*3+3:=byOmega;rw[List.set_cons_succ,List.flatMap_cons,ih,List.flatMap_cons,e];simp[RV.cells,List.set_append,show k*3+3=(k*3+2)+1 by omega]
theorem ag6 (n:Nat):(madeCells #[.bool false,.slice none 0 0,.slice none 0 0] (n*3)).toList=(List.replicate n rv0).flatMap RV.cells:=by
 apply List.ext_getElem?
 intro i;by_cases hi:i < n*3
 ·obtain⟨k,j,hj,rfl⟩:∃ k j,j < 3∧i=k*3+j:=⟨i / 3,i % 3,Nat.mod_lt _ byOmega,byOmega⟩;rw[mV (f:=RV.cells) (s:=3) (fun _=>rfl) (List.replicate n rv0) k j rv0 (by rw[List.getElem?_replicate,if_pos byOmega]) hj];have hm:(k*3+j) % 3=j:=byOmega;have h3:j=0∨j=1∨j=2:=byOmega;have hi':k*3+j < n*3:=hi;rw[Array.getElem?_toList];unfold madeCells;rw[Array.getElem?_map,Array.getElem?_eq_getElem (by simpa using hi'),Array.getElem_range];rw[Option.map_some];have e3:(#[Value.bool false,Value.slice none 0 0,Value.slice none 0 0]:Array Value).size=3:=rfl;rw[e3,hm];rcases h3 with rfl | rfl | rfl <;> rfl
 ·rw[List.getElem?_eq_none (by simp[madeCells]; omega),List.getElem?_eq_none (by rw[agW,List.length_replicate]; omega)]
structure AX (w:World) (b:Nat) (t:TypeId) (F:Foot) (L:List RV):Prop where
 row:Row w b t (L.flatMap RV.cells)
 fine:∀ q∈L,q.fine w (fun c=>F c∧c≠b)
theorem AX.cell {w:World} {b:Nat} {t:TypeId} {F:Foot} {L:List RV} (h:AX w b t F L) {k j:Nat} {q:RV} {v:Value} (hk:L[k]? = some q) (hj:j < 3) (hv:q.cells[j]? = some v):w.cell? ⟨b,k*3+j,none⟩=some v :=
 h.row.cell (by rw[mV (f:=RV.cells) (s:=3) (fun _=>rfl) L k j q hk hj]; exact hv)
theorem AX.below {w w':World} {b:Nat} {t:TypeId} {F:Foot} {L:List RV} (h:AX w b t F L) (hb:Below w.heap.size w w'):AX w' b t F L:=⟨h.row.below hb h.row.lt,fun q hq=>(h.fine q hq).below hb⟩
theorem AX.on {w w':World} {b:Nat} {t:TypeId} {F:Foot} {L:List RV} (h:AX w b t F L) (hr:w'.heap[b]? = w.heap[b]?) (hs:Same F w w'):AX w' b t F L:=⟨h.row.of_block hr,fun q hq=>(h.fine q hq).keep (fun _ h _=>h) (hs.mono fun _ h=>h.1)⟩
theorem AX.raws {w:World} {b:Nat} {t:TypeId} {F G:Foot} {L:List RV} (h:AX w b t F L) (hF:∀ c,F c→G c) (hb:G b) {c:Nat} (hc:L.length≤c):RawsAt w G (.slice (some ⟨b,0,none⟩) L.length c) (L.map RV.r) :=
 h.row.lies.raws hb (fun q hq=>(h.fine q hq).keep (fun c hc _=>hF c hc.1) (Same.refl _ _)) hc
theorem AX.set {w:World} {b:Nat} {t:TypeId} {F:Foot} {L:List RV} (h:AX w b t F L) (k:Nat) (q:RV) (hq:q.fine w (fun c=>F c∧c≠b)) :
  ∃ W,W=(((w.setCell ⟨b,k*3,none⟩ (.bool q.r.neg)).setCell ⟨b,k*3+1,none⟩ q.vn).setCell ⟨b,k*3+2,none⟩ q.vd) ∧
  AX W b t F (L.set k q)∧(∀ B a,B≤b→Below B a w→Below B a W)∧(∀ G:Foot,¬ G b→Same G w W)∧W.heap.size=w.heap.size∧(∀ c,c≠b→W.heap[c]? = w.heap[c]?):=by
 have hs:∀ G:Foot,¬ G b→Same G w (((w.setCell ⟨b,k*3,none⟩ (.bool q.r.neg)).setCell ⟨b,k*3+1,none⟩ q.vn).setCell ⟨b,k*3+2,none⟩ q.vd):=fun G hG =>
  ((Same.setCell G w (p:=⟨b,k*3,none⟩) hG _).trans (Same.setCell G _ (p:=⟨b,k*3+1,none⟩) hG _)).trans (Same.setCell G _ (p:=⟨b,k*3+2,none⟩) hG _)
 refine⟨_,rfl,⟨?_,fun p hp=>?_⟩,fun B a hb hbel=>?_,hs,aB,fun c hc=>?_⟩
 ·rw[adR];exact((h.row.set _ _).set _ _).set _ _
 ·have hp':p.fine w (fun c=>F c∧c≠b):=by
   rcases List.mem_or_eq_of_mem_set hp with hp | rfl
   ·exact h.fine p hp
   ·exact hq
  exact hp'.keep (fun _ h _=>h) (hs _ fun h=>h.2 rfl)
 ·exact((hbel.setCell (p:=⟨b,k*3,none⟩) hb _).setCell (p:=⟨b,k*3+1,none⟩) hb _).setCell (p:=⟨b,k*3+2,none⟩) hb _
 ·exact((Below.heap_setCell _ _ _ _ (fun e=>hc e)).trans (Below.heap_setCell _ _ _ _ (fun e=>hc e))).trans (Below.heap_setCell _ _ _ _ (fun e=>hc e))
theorem ag7 {P:Program} (t e:TypeId) (bytes:Nat) (ht:P.underlying t=some (.slice e)) (hinfo:(P.info? e).map (fun i=>(i.zero,i.size,i.bytes))=some (some (.agg #[.bool false,.slice none 0 0,.slice none 0 0]),3,bytes))
  (n:Nat) (hn:n≤1000000) (hb0:bytes≤1000) (w:World) :
  (Instr.makeSlice t (.int .i64 (n:Int)) (.int .i64 (n:Int))).run P w = .ok (.slice (some ⟨w.heap.size,0,none⟩) n n) (w.alloc (.cells (madeCells #[.bool false,.slice none 0 0,.slice none 0 0] (n*3)) e)):=by
 obtain⟨i,hi,hzz⟩:=Option.map_eq_some_iff.1 hinfo;simp only[Prod.mk.injEq] at hzz;obtain⟨hz,hs,hb⟩:=hzz;have hb':(i.bytes:Int)*(n:Int)≤281474976710656:=by
  have h:((i.bytes*n:Nat):Int)≤281474976710656:=by
   have:i.bytes*n≤1000*1000000:=Nat.mul_le_mul byOmega hn;omega
  rwa [Int.natCast_mul] at h
 have hr:=run_make (P:=P) w t e i _ ht hi hz .i64 .i64 n n byOmega (Int.le_refl _) hb' byOmega;simp only[Int.toNat_natCast,hs] at hr;exact hr
theorem acF (w:World) (n:Nat) (t:TypeId) (F:Foot):AX (w.alloc (.cells (madeCells #[.bool false,.slice none 0 0,.slice none 0 0] (n*3)) t)) w.heap.size t F (List.replicate n rv0):=by
 refine⟨?_,fun q hq=>by rw[List.eq_of_mem_replicate hq]; exact aiu _ _⟩;have h:=Row.new w t (madeCells #[.bool false,.slice none 0 0,.slice none 0 0] (n*3));rw[ag6] at h;exact h
theorem ag8 {P:Program} (w:World) {ops:Array Oper} {rest:List Oper} {o:Oper} {a:Act} {Q:Exit→Act→World→Prop}
  (hg:o.guard=none) (l c:Operand) (t:TypeId) (hop:o.op=Op.makeSlice t l c)
  (e:TypeId) (ht:P.underlying t=some (.slice e)) (hinfo:(P.info? e).map (fun i=>(i.zero,i.size,i.bytes))=some (some (.agg #[.bool false,.slice none 0 0,.slice none 0 0]),3,56))
  (n:Nat) (hl:a.eval l = .int .i64 (n:Int)) (hc:a.eval c = .int .i64 (n:Int)) (hn:n≤1000000)
  (hK:∀ w1,Below w.heap.size w w1→w1.heap.size=w.heap.size+1→(∀ F,AX w1 w.heap.size e F (List.replicate n rv0)) →
   wpList P ops Q rest (a.put o.dst (.slice (some ⟨w.heap.size,0,none⟩) n n)) w1) :
  wpList P ops Q (o :: rest) a w:=by
 refine wpList_plain hg fun K hK'=>?_
 have hrun:=ag7 (P:=P) t e 56 ht hinfo n hn byOmega w;unfold Oper.wp;simp[execOp,hop,hl,hc,hrun,Result.andThen];exact hK' _ _ (hK _ ((Below.refl _ _).alloc (Nat.le_refl _) _) aB (fun F=>acF w n e F))
theorem ag9 (m n:Nat):(madeCells (Array.replicate m (.int .i64 0)) (n*m)).toList=List.replicate (n*m) (.int .i64 0):=by
 apply List.ext_getElem?
 intro i;by_cases hi:i < n*m
 ·have hm:0 < m:=by
   rcases Nat.eq_zero_or_pos m with h | h
   ·subst h;simp at hi
   ·exact h
  rw[List.getElem?_replicate,if_pos hi,Array.getElem?_toList];unfold madeCells;rw[Array.getElem?_map,Array.getElem?_eq_getElem (by simpa using hi),Array.getElem_range,Option.map_some];simp[Nat.mod_lt _ hm]
 ·rw[List.getElem?_eq_none (by simp[madeCells]; omega),List.getElem?_eq_none aF]
theorem abM {P:Program} (w:World) {ops:Array Oper} {rest:List Oper} {o:Oper} {a:Act} {Q:Exit→Act→World→Prop}
  (hg:o.guard=none) (l c:Operand) (t:TypeId) (hop:o.op=Op.makeSlice t l c)
  (e:TypeId) (z:Value) (m bytes:Nat) (ht:P.underlying t=some (.slice e)) (hinfo:(P.info? e).map (fun i=>(i.zero,i.size,i.bytes))=some (some z,m,bytes)) (hz:z.cells=Array.replicate m (.int .i64 0)) (hby:bytes≤1000)
  (n:Nat) (hl:a.eval l = .int .i64 (n:Int)) (hc:a.eval c = .int .i64 (n:Int)) (hn:n≤1000000)
  (hK:∀ w1,Below w.heap.size w w1→w1.heap.size=w.heap.size+1→Row w1 w.heap.size e (List.replicate (n*m) (.int .i64 0)) →
   wpList P ops Q rest (a.put o.dst (.slice (some ⟨w.heap.size,0,none⟩) n n)) w1) :
  wpList P ops Q (o :: rest) a w:=by
 refine wpList_plain hg fun K hK'=>?_
 obtain⟨i,hi,hzz⟩:=Option.map_eq_some_iff.1 hinfo;simp only[Prod.mk.injEq] at hzz;obtain⟨hz0,hs,hb⟩:=hzz;have hb':(i.bytes:Int)*(n:Int)≤281474976710656:=by
  have h:((i.bytes*n:Nat):Int)≤281474976710656:=by
   have:i.bytes*n≤1000*1000000:=Nat.mul_le_mul byOmega hn;omega
  rwa [Int.natCast_mul] at h
 have hr:=run_make (P:=P) w t e i _ ht hi hz0 .i64 .i64 n n byOmega (Int.le_refl _) hb' byOmega;simp only[Int.toNat_natCast,hs] at hr;have hrow:=Row.new w e (madeCells (Array.replicate m (.int .i64 0)) (n*m));rw[ag9] at hrow;rw[hz] at hr;unfold Oper.wp;simp[execOp,hop,hl,hc,hr,Result.andThen];exact hK' _ _ (hK _ ((Below.refl _ _).alloc (Nat.le_refl _) _) aB hrow)
end Go.Proofs.YtnmeejofpkhlkaaGreatDoor

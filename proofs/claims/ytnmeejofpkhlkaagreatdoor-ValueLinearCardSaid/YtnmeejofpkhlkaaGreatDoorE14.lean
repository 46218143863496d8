/- Part of a claim. -/
import Derived.Test.YtnmeejofpkhlkaaGreatDoorE08
import Derived.Test.YtnmeejofpkhlkaaGreatDoorE13
set_option linter.all false
namespace Go.Proofs.YtnmeejofpkhlkaaGreatDoor
open Go.RowKit.Below renaming heap_setCell->JC,refl->F9
open Go.Value renaming bool->Gj,slice->FQ
open Go renaming World->FW
open List renaming flatMap_cons->Kt,getElem?_eq_none->G9,replicate->F8
open Nat renaming le_refl->FV
open Same renaming refl->Gh,setCell->Lc
open Go.RowKit
variable {a:Act} {F G:FI} {b:Nat} {o:Oper} {t:TypeId} {v:Value}
def rv0:RV:=⟨⟨false,[],[]⟩,FQ none 0 0,FQ none 0 0⟩
theorem alH (w:FW) (F:FI):rv0.fine w F:=⟨iT w F none 0,iT w F none 0⟩
theorem agc:rv0.r=aB 0:=by
 unfold aB;rw[L8 (show(0:Rat).den=1 from rfl),show(0:Rat).num=0 from rfl,Int.natAbs_zero,bD];rfl
theorem Ah.opened {w:FW} {r:Raw} (h:Ah w F v r):∃ (A:Option Addr) (c:Nat) (B:Option Addr) (d:Nat),v = .agg #[Gj r.neg,FQ A r.num.length c,FQ B r.den.length d]/\(⟨r,FQ A r.num.length c,FQ B r.den.length d⟩:RV).fine w F:=by
 obtain⟨vn,vd,rfl,h1,h2⟩:=h;have h1':=h1;have h2':=h2;obtain⟨A,c,rfl,_⟩:=h1;obtain⟨B,d,rfl,_⟩:=h2;exact⟨A,c,B,d,rfl,h1',h2'⟩
theorem agd:∀ (L:List RV) (k:Nat) (q:RV),(L.set k q).flatMap RV.cells=(((L.flatMap RV.cells).set (k*3) (Gj q.r.neg)).set (k*3+1) q.vn).set (k*3+2) q.vd
 | [],k,q=>by simp
 | p :: L,0,q=>by simp[RV.cells]
 | p :: L,k+1,q=>by
  have ih:=agd L k q;have e:(k+1)*3=k*3+3:=EN;rw[List.set_cons_succ,Kt,ih,Kt,e];simp[RV.cells,List.set_append,show k*3+3=(k*3+2)+1 by omega]
theorem aj2 (n:Nat):(madeCells #[Gj false,FQ none 0 0,FQ none 0 0] (n*3)).toList=(F8 n rv0).flatMap RV.cells:=by
 apply List.ext_getElem?
 intro i;by_cases hi:i < n*3
 ·obtain⟨k,j,hj,rfl⟩:∃ k j,j < 3/\i=k*3+j:=⟨i / 3,i % 3,Nat.mod_lt _ EN,EN⟩;rw[qW (f:=RV.cells) (s:=3) (λ_=>rfl) (F8 n rv0) k j rv0 (by rw[List.getElem?_replicate,L8 EN]) hj];have hm:(k*3+j) % 3=j:=EN;have h3:j=0\/j=1\/j=2:=EN;have hi':k*3+j < n*3:=hi;rw[Array.getElem?_toList];unfold madeCells;rw[Array.getElem?_map,Array.getElem?_eq_getElem (by simpa using hi'),Array.getElem_range];rw[Option.map_some];have e3:(#[Value.bool false,Value.slice none 0 0,Value.slice none 0 0]:Array Value).size=3:=rfl;rw[e3,hm];rcases h3 with rfl | rfl | rfl <;> rfl
 ·rw[G9 (by simp[madeCells]; omega),G9 (by rw[ajS,List.length_replicate]; omega)]
structure AB (w:FW) (b:Nat) (t:TypeId) (F:FI) (L:List RV):Prop where
 row:Row w b t (L.flatMap RV.cells)
 fine:∀ q∈L,q.fine w (λc=>F c/\c≠b)
theorem AB.cell {w:FW} {L:List RV} (h:AB w b t F L) {k j:Nat} {q:RV} (hk:L[k]? = some q) (hj:j < 3) (hv:q.cells[j]? = some v):w.cell? ⟨b,k*3+j,none⟩=some v :=
 h.row.cell (by rw[qW (f:=RV.cells) (s:=3) (λ_=>rfl) L k j q hk hj]; exact hv)
theorem AB.below {w w':FW} {L:List RV} (h:AB w b t F L) (hb:Below w.heap.size w w'):AB w' b t F L:=⟨h.row.below hb h.row.lt,λq hq=>(h.fine q hq).below hb⟩
theorem AB.mono {w:FW} {L:List RV} (h:AB w b t F L) (hG:∀ c,F c->c < w.heap.size->G c):AB w b t G L:=⟨h.row,λq hq=>(h.fine q hq).keep (λc hc hl=>⟨hG c hc.1 hl,hc.2⟩) (Gh _ _)⟩
theorem AB.on {w w':FW} {L:List RV} (h:AB w b t F L) (hr:w'.heap[b]? = w.heap[b]?) (hs:Same F w w'):AB w' b t F L:=⟨h.row.of_block hr,λq hq=>(h.fine q hq).keep (λ_ h _=>h) (hs.mono λ_ h=>h.1)⟩
theorem AB.raws {w:FW} {L:List RV} (h:AB w b t F L) (hF:∀ c,F c->G c) (hb:G b) {c:Nat} (hc:L.length<=c):FK w G (FQ (some ⟨b,0,none⟩) L.length c) (L.map RV.r) :=
 h.row.lies.raws hb (λq hq=>(h.fine q hq).keep (λc hc _=>hF c hc.1) (Gh _ _)) hc
theorem AB.set {w:FW} {L:List RV} (h:AB w b t F L) (k:Nat) (q:RV) (hq:q.fine w (λc=>F c/\c≠b)) :
  ∃ W,W=(((w.setCell ⟨b,k*3,none⟩ (Gj q.r.neg)).setCell ⟨b,k*3+1,none⟩ q.vn).setCell ⟨b,k*3+2,none⟩ q.vd) /\
  AB W b t F (L.set k q)/\(∀ B a,B<=b->Below B a w->Below B a W)/\(∀ G:FI,¬ G b->Same G w W)/\W.heap.size=w.heap.size/\(∀ c,c≠b->W.heap[c]? = w.heap[c]?):=by
 have hs:∀ G:FI,¬ G b->Same G w (((w.setCell ⟨b,k*3,none⟩ (Gj q.r.neg)).setCell ⟨b,k*3+1,none⟩ q.vn).setCell ⟨b,k*3+2,none⟩ q.vd):=λG hG =>
  ((Lc G w (p:=⟨b,k*3,none⟩) hG _).trans (Lc G _ (p:=⟨b,k*3+1,none⟩) hG _)).trans (Lc G _ (p:=⟨b,k*3+2,none⟩) hG _)
 refine⟨_,rfl,⟨?_,λp hp=>?_⟩,λB a hb hbel=>?_,hs,aF,λc hc=>?_⟩
 ·rw[agd];exact((h.row.set _ _).set _ _).set _ _
 ·have hp':p.fine w (λc=>F c/\c≠b):=by
   rcases List.mem_or_eq_of_mem_set hp with hp | rfl
   ·exact h.fine p hp
   ·exact hq
  exact hp'.keep (λ_ h _=>h) (hs _ λh=>h.2 rfl)
 ·exact((hbel.setCell (p:=⟨b,k*3,none⟩) hb _).setCell (p:=⟨b,k*3+1,none⟩) hb _).setCell (p:=⟨b,k*3+2,none⟩) hb _
 ·exact((JC _ _ _ _ (λe=>hc e)).trans (JC _ _ _ _ (λe=>hc e))).trans (JC _ _ _ _ (λe=>hc e))
theorem ad6 {P:Program} (t e:TypeId) (bytes:Nat) (ht:P.underlying t=some (.slice e)) (hinfo:(P.info? e).map (λi=>(i.zero,i.size,i.bytes))=some (some (.agg #[Gj false,FQ none 0 0,FQ none 0 0]),3,bytes))
  (n:Nat) (hn:n<=1000000) (hb0:bytes<=1000) (w:FW) :
  (Instr.makeSlice t (.int .i64 (n:Int)) (.int .i64 (n:Int))).run P w = .ok (FQ (some ⟨w.heap.size,0,none⟩) n n) (w.alloc (.cells (madeCells #[Gj false,FQ none 0 0,FQ none 0 0] (n*3)) e)):=by
 obtain⟨i,hi,hzz⟩:=Option.map_eq_some_iff.1 hinfo;simp only[Prod.mk.injEq] at hzz;obtain⟨hz,hs,hb⟩:=hzz;have hb':(i.bytes:Int)*(n:Int)<=281474976710656:=by
  have h:((i.bytes*n:Nat):Int)<=281474976710656:=by
   have:i.bytes*n<=1000*1000000:=Nat.mul_le_mul EN hn;omega
  rwa [Int.natCast_mul] at h
 have hr:=run_make (P:=P) w t e i _ ht hi hz .i64 .i64 n n EN (Int.le_refl _) hb' EN;simp only[Int.toNat_natCast,hs] at hr;exact hr
theorem zO (w:FW) (n:Nat) (t:TypeId) (F:FI):AB (w.alloc (.cells (madeCells #[Gj false,FQ none 0 0,FQ none 0 0] (n*3)) t)) w.heap.size t F (F8 n rv0):=by
 refine⟨?_,λq hq=>by rw[List.eq_of_mem_replicate hq]; exact alH _ _⟩;have h:=Row.new w t (madeCells #[Gj false,FQ none 0 0,FQ none 0 0] (n*3));rw[aj2] at h;exact h
theorem xH {P:Program} (w:FW) {ops:Array Oper} {rest:List Oper} {Q:Exit->Act->FW->Prop}
  (hg:o.guard=none) (l c:Operand) (t:TypeId) (hop:o.op=Op.makeSlice t l c)
  (e:TypeId) (ht:P.underlying t=some (.slice e)) (hinfo:(P.info? e).map (λi=>(i.zero,i.size,i.bytes))=some (some (.agg #[Gj false,FQ none 0 0,FQ none 0 0]),3,56))
  (n:Nat) (hl:a.eval l = .int .i64 (n:Int)) (hc:a.eval c = .int .i64 (n:Int)) (hn:n<=1000000)
  (hK:∀ w1,Below w.heap.size w w1->w1.heap.size=w.heap.size+1->(∀ F,AB w1 w.heap.size e F (F8 n rv0)) ->
   wpList P ops Q rest (a.put o.dst (FQ (some ⟨w.heap.size,0,none⟩) n n)) w1) :
  wpList P ops Q (o :: rest) a w:=by
 refine wpList_plain hg λK hK'=>?_
 have hrun:=ad6 (P:=P) t e 56 ht hinfo n hn EN w;unfold Oper.wp;simp[execOp,hop,hl,hc,hrun,Result.andThen];exact hK' _ _ (hK _ ((F9 _ _).alloc (FV _) _) aF (λF=>zO w n e F))
theorem ahH {P:Program} (w:FW) {K:Act->FW->Prop} {Q:Exit->Act->FW->Prop} (l c:Operand) (t:TypeId) (hop:o.op=Op.makeSlice t l c)
  (e:TypeId) (ht:P.underlying t=some (.slice e)) (hinfo:(P.info? e).map (λi=>(i.zero,i.size,i.bytes))=some (some (.agg #[Gj false,FQ none 0 0,FQ none 0 0]),3,56))
  (n:Nat) (hl:a.eval l = .int .i64 (n:Int)) (hc:a.eval c = .int .i64 (n:Int)) (hn:n<=1000000)
  (hK:∀ w1,Below w.heap.size w w1->w1.heap.size=w.heap.size+1->(∀ F,AB w1 w.heap.size e F (F8 n rv0))->K (a.put o.dst (FQ (some ⟨w.heap.size,0,none⟩) n n)) w1) :
  Oper.wp P o a w K Q:=by
 have hrun:=ad6 (P:=P) t e 56 ht hinfo n hn EN w;unfold Oper.wp;simp[execOp,hop,hl,hc,hrun,Result.andThen];exact hK _ ((F9 _ _).alloc (FV _) _) aF (λF=>zO w n e F)
end Go.Proofs.YtnmeejofpkhlkaaGreatDoor

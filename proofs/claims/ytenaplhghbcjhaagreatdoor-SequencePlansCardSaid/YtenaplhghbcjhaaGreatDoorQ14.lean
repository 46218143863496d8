import Derived.Test.YtenaplhghbcjhaaGreatDoorQ08
import Derived.Test.YtenaplhghbcjhaaGreatDoorQ13
set_option linter.all false
namespace Go.Proofs.YtenaplhghbcjhaaGreatDoor
open _root_.Array renaming replicate->Ii
open Go.RowKit.Below renaming heap_setCell->JA
open Go.IntKind renaming i64->GU
open Go.Value renaming bool->G7,int->GV,slice->Gw
open Go renaming World->GK
open Int renaming toNat_natCast->Ic
open List renaming ext_getElem?->IW,getElem?_eq_none->Ij,getElem?_replicate->I4,replicate->GX
open Nat renaming mod_lt->Ja
open Same renaming refl->GZ,setCell->J5
open Go.RowKit
variable {a:Act} {ops:Array Oper} {F G:Gq} {rest:List Oper} {b:Nat} {o:Oper} {t:TypeId} {v:Value}
def rv0:RV:=⟨⟨false,[],[]⟩,Gw none 0 0,Gw none 0 0⟩
theorem agv (w:GK) (F:Gq):rv0.fine w F:=⟨gV w F none 0,gV w F none 0⟩
theorem alK:rv0.r=ay 0:=by unfold ay; rw[LH (show(0:Rat).den=1 from rfl),show(0:Rat).num=0 from rfl,Int.natAbs_zero,bK]; rfl
theorem Ak.opened {w:GK} {r:Raw} (h:Ak w F v r):∃ (A:Option Addr) (c:Nat) (B:Option Addr) (d:Nat),v = .agg #[G7 r.neg,Gw A r.num.length c,Gw B r.den.length d]/\(⟨r,Gw A r.num.length c,Gw B r.den.length d⟩:RV).fine w F:=by
 obtain⟨vn,vd,rfl,h1,h2⟩:=h;have h1':=h1;have h2':=h2;obtain⟨A,c,rfl,_⟩:=h1;obtain⟨B,d,rfl,_⟩:=h2;exact⟨A,c,B,d,rfl,h1',h2'⟩
theorem acU:∀ (L:List RV) (k:Nat) (q:RV),(L.set k q).flatMap RV.cells=(((L.flatMap RV.cells).set (k*3) (G7 q.r.neg)).set (k*3+1) q.vn).set (k*3+2) q.vd
 | [],k,q=>by simp
 | p :: L,0,q=>by simp[RV.cells]
 | p :: L,k+1,q=>by
  have ih:=acU L k q;have e:(k+1)*3=k*3+3:=FI;rw[List.set_cons_succ,List.flatMap_cons,ih,List.flatMap_cons,e];simp[RV.cells,List.set_append,show k*3+3=(k*3+2)+1 by omega]
theorem aj2 (n:Nat):(madeCells #[G7 false,Gw none 0 0,Gw none 0 0] (n*3)).toList=(GX n rv0).flatMap RV.cells:=by
 apply IW
 intro i;by_cases hi:i < n*3
 ·obtain⟨k,j,hj,rfl⟩:∃ k j,j < 3/\i=k*3+j:=⟨i / 3,i % 3,Ja _ FI,FI⟩;rw[lF (f:=RV.cells) (s:=3) (λ_=>rfl) (GX n rv0) k j rv0 (by rw[I4,LH FI]) hj];have hm:(k*3+j) % 3=j:=FI;have h3:j=0\/j=1\/j=2:=FI;have hi':k*3+j < n*3:=hi;rw[Array.getElem?_toList];unfold madeCells;rw[Array.getElem?_map,Array.getElem?_eq_getElem (by simpa using hi'),Array.getElem_range];rw[Option.map_some];have e3:(#[Value.bool false,Value.slice none 0 0,Value.slice none 0 0]:Array Value).size=3:=rfl;rw[e3,hm];rcases h3 with rfl | rfl | rfl <;> rfl
 ·rw[Ij (by simp[madeCells]; omega),Ij (by rw[aei,List.length_replicate]; omega)]
structure AO (w:GK) (b:Nat) (t:TypeId) (F:Gq) (L:List RV):Prop where
 row:Row w b t (L.flatMap RV.cells)
 fine:∀ q∈L,q.fine w (λc=>F c/\c≠b)
theorem AO.cell {w:GK} {L:List RV} (h:AO w b t F L) {k j:Nat} {q:RV} (hk:L[k]? = some q) (hj:j < 3) (hv:q.cells[j]? = some v):w.cell? ⟨b,k*3+j,none⟩=some v :=
 h.row.cell (by rw[lF (f:=RV.cells) (s:=3) (λ_=>rfl) L k j q hk hj]; exact hv)
theorem AO.below {w w':GK} {L:List RV} (h:AO w b t F L) (hb:Below w.heap.size w w'):AO w' b t F L:=⟨h.row.below hb h.row.lt,λq hq=>(h.fine q hq).below hb⟩
theorem AO.mono {w:GK} {L:List RV} (h:AO w b t F L) (hG:∀ c,F c->c < w.heap.size->G c):AO w b t G L:=⟨h.row,λq hq=>(h.fine q hq).keep (λc hc hl=>⟨hG c hc.1 hl,hc.2⟩) (GZ _ _)⟩
theorem AO.raws {w:GK} {L:List RV} (h:AO w b t F L) (hF:∀ c,F c->G c) (hb:G b) {c:Nat} (hc:L.length<=c):Gs w G (Gw (some ⟨b,0,none⟩) L.length c) (L.map RV.r) :=
 h.row.lies.raws hb (λq hq=>(h.fine q hq).keep (λc hc _=>hF c hc.1) (GZ _ _)) hc
theorem AO.set {w:GK} {L:List RV} (h:AO w b t F L) (k:Nat) (q:RV) (hq:q.fine w (λc=>F c/\c≠b)) :
  ∃ W,W=(((w.setCell ⟨b,k*3,none⟩ (G7 q.r.neg)).setCell ⟨b,k*3+1,none⟩ q.vn).setCell ⟨b,k*3+2,none⟩ q.vd) /\
  AO W b t F (L.set k q)/\(∀ B a,B<=b->Below B a w->Below B a W)/\(∀ G:Gq,¬ G b->Same G w W)/\W.heap.size=w.heap.size/\(∀ c,c≠b->W.heap[c]? = w.heap[c]?):=by
 have hs:∀ G:Gq,¬ G b->Same G w (((w.setCell ⟨b,k*3,none⟩ (G7 q.r.neg)).setCell ⟨b,k*3+1,none⟩ q.vn).setCell ⟨b,k*3+2,none⟩ q.vd):=λG hG =>
  ((J5 G w (p:=⟨b,k*3,none⟩) hG _).trans (J5 G _ (p:=⟨b,k*3+1,none⟩) hG _)).trans (J5 G _ (p:=⟨b,k*3+2,none⟩) hG _)
 refine⟨_,rfl,⟨?_,λp hp=>?_⟩,λB a hb hbel=>?_,hs,aA,λc hc=>?_⟩
 ·rw[acU];exact((h.row.set _ _).set _ _).set _ _
 ·have hp':p.fine w (λc=>F c/\c≠b):=by
   rcases List.mem_or_eq_of_mem_set hp with hp | rfl
   ·exact h.fine p hp
   ·exact hq
  exact hp'.keep (λ_ h _=>h) (hs _ λh=>h.2 rfl)
 ·exact((hbel.setCell (p:=⟨b,k*3,none⟩) hb _).setCell (p:=⟨b,k*3+1,none⟩) hb _).setCell (p:=⟨b,k*3+2,none⟩) hb _
 ·exact((JA _ _ _ _ (λe=>hc e)).trans (JA _ _ _ _ (λe=>hc e))).trans (JA _ _ _ _ (λe=>hc e))
theorem aj3 {P:Program} (t e:TypeId) (bytes:Nat) (ht:P.underlying t=some (.slice e)) (hinfo:(P.info? e).map (λi=>(i.zero,i.size,i.bytes))=some (some (.agg #[G7 false,Gw none 0 0,Gw none 0 0]),3,bytes))
  (n:Nat) (hn:n<=1000000) (hb0:bytes<=1000) (w:GK) :
  (Instr.makeSlice t (GV GU (n:Int)) (GV GU (n:Int))).run P w = .ok (Gw (some ⟨w.heap.size,0,none⟩) n n) (w.alloc (.cells (madeCells #[G7 false,Gw none 0 0,Gw none 0 0] (n*3)) e)):=by
 obtain⟨i,hi,hzz⟩:=Option.map_eq_some_iff.1 hinfo;simp only[Prod.mk.injEq] at hzz;obtain⟨hz,hs,hb⟩:=hzz;have hb':(i.bytes:Int)*(n:Int)<=281474976710656:=by
   have h:((i.bytes*n:Nat):Int)<=281474976710656:=by
     exact zc3
   grind
 have hr:=run_make (P:=P) w t e i _ ht hi hz .i64 .i64 n n FI (Int.le_refl _) hb' FI;simp only[Ic,hs] at hr;exact hr
theorem afh (w:GK) (n:Nat) (t:TypeId) (F:Gq):AO (w.alloc (.cells (madeCells #[G7 false,Gw none 0 0,Gw none 0 0] (n*3)) t)) w.heap.size t F (GX n rv0):=by
 refine⟨?_,λq hq=>by rw[List.eq_of_mem_replicate hq]; exact agv _ _⟩;grind [Row.new,aj2]
theorem abb {P:Program} (w:GK) {Q:Exit->Act->GK->Prop}
  (hg:o.guard=none) (l c:Operand) (t:TypeId) (hop:o.op=Op.makeSlice t l c)
  (e:TypeId) (ht:P.underlying t=some (.slice e)) (hinfo:(P.info? e).map (λi=>(i.zero,i.size,i.bytes))=some (some (.agg #[G7 false,Gw none 0 0,Gw none 0 0]),3,56))
  (n:Nat) (hl:a.eval l = GV GU (n:Int)) (hc:a.eval c = GV GU (n:Int)) (hn:n<=1000000)
  (hK:∀ w1,Below w.heap.size w w1->w1.heap.size=w.heap.size+1->(∀ F,AO w1 w.heap.size e F (GX n rv0)) ->
   wpList P ops Q rest (a.put o.dst (Gw (some ⟨w.heap.size,0,none⟩) n n)) w1) :
  wpList P ops Q (o :: rest) a w:=by
 refine wpList_plain hg λK hK'=>?_
 have hrun:=aj3 (P:=P) t e 56 ht hinfo n hn FI w;unfold Oper.wp;simp[execOp,hop,hl,hc,hrun,Result.andThen];exact hK' _ _ (hK _ ((Below.refl _ _).alloc (Nat.le_refl _) _) aA (λF=>afh w n e F))
theorem aj6 (m n:Nat):(madeCells (Ii m (GV GU 0)) (n*m)).toList=GX (n*m) (GV GU 0):=by
 apply IW
 intro i;by_cases hi:i < n*m
 ·have hm:0 < m:=by grind
  rw[I4,LH hi,Array.getElem?_toList];unfold madeCells;grind [Ja]
 ·rw[Ij (by simp[madeCells]; omega),Ij aB]
theorem aer {P:Program} (w:GK) {Q:Exit->Act->GK->Prop}
  (hg:o.guard=none) (l c:Operand) (t:TypeId) (hop:o.op=Op.makeSlice t l c)
  (e:TypeId) (z:Value) (m bytes:Nat) (ht:P.underlying t=some (.slice e)) (hinfo:(P.info? e).map (λi=>(i.zero,i.size,i.bytes))=some (some z,m,bytes)) (hz:z.cells=Ii m (GV GU 0)) (hby:bytes<=1000)
  (n:Nat) (hl:a.eval l = GV GU (n:Int)) (hc:a.eval c = GV GU (n:Int)) (hn:n<=1000000)
  (hK:∀ w1,Below w.heap.size w w1->w1.heap.size=w.heap.size+1->Row w1 w.heap.size e (GX (n*m) (GV GU 0)) ->
   wpList P ops Q rest (a.put o.dst (Gw (some ⟨w.heap.size,0,none⟩) n n)) w1) :
  wpList P ops Q (o :: rest) a w:=by
 refine wpList_plain hg λK hK'=>?_
 obtain⟨i,hi,hzz⟩:=Option.map_eq_some_iff.1 hinfo;simp only[Prod.mk.injEq] at hzz;obtain⟨hz0,hs,hb⟩:=hzz;have hb':(i.bytes:Int)*(n:Int)<=281474976710656:=by
  have h:((i.bytes*n:Nat):Int)<=281474976710656:=by
   exact zc3
  rwa [Int.natCast_mul] at h
 have hr:=run_make (P:=P) w t e i _ ht hi hz0 .i64 .i64 n n FI (Int.le_refl _) hb' FI;simp only[Ic,hs] at hr;have hrow:=Row.new w e (madeCells (Ii m (GV GU 0)) (n*m));rw[aj6] at hrow;rw[hz] at hr;exact zcI

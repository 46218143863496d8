/- Nodes of one's own: stores of several cells, appends of a node. -/
import Derived.Test.YtkcheepafifjaaaGreatDoorU09
import Derived.Test.YtkcheepafifjaaaGreatDoorU32
import Derived.Deep.LoopGhost
set_option linter.all false
namespace Go.Proofs.YtkcheepafifjaaaGreatDoor
open Go.RowKit
theorem ahO {w:World} {b:Nat} {t:TypeId} {a0 a1 a2:Value} (h:Row w b t [a0,a1,a2]) (v0 v1 v2:Value):∃ W,W=(((w.setCell ⟨b,0,none⟩ v0).setCell ⟨b,1,none⟩ v1).setCell ⟨b,2,none⟩ v2) ∧
  Row W b t [v0,v1,v2]∧Wrote (fun k=>k=b) w W:=by
 refine⟨_,rfl,((h.set 0 v0).set 1 v1).set 2 v2,?_⟩;have h0:Wrote (fun k=>k=b) w w:=Wrote.refl _ _;exact((h0.setCell (p:=⟨b,0,none⟩) (.inl rfl) v0).setCell (p:=⟨b,1,none⟩) (.inl rfl) v1).setCell (p:=⟨b,2,none⟩) (.inl rfl) v2
theorem aiJ {w:World} {b:Nat} {t:TypeId} {a0 a1 a2 a3 a4 a5:Value} (h:Row w b t [a0,a1,a2,a3,a4,a5]) (v3 v4 v5:Value):∃ W,W=(((w.setCell ⟨b,3,none⟩ v3).setCell ⟨b,4,none⟩ v4).setCell ⟨b,5,none⟩ v5) ∧
  Row W b t [a0,a1,a2,v3,v4,v5]∧Wrote (fun k=>k=b) w W:=by
 refine⟨_,rfl,((h.set 3 v3).set 4 v4).set 5 v5,?_⟩;have h0:Wrote (fun k=>k=b) w w:=Wrote.refl _ _;exact((h0.setCell (p:=⟨b,3,none⟩) (.inl rfl) v3).setCell (p:=⟨b,4,none⟩) (.inl rfl) v4).setCell (p:=⟨b,5,none⟩) (.inl rfl) v5
theorem Below.wrote {w w':World} (h:Below w.heap.size w w') (K:Ag):Wrote K w w':=⟨h.os,h.tape,h.output,h.size,fun i hi _=>h.block i hi⟩
theorem Tryz.infoNode:(Tryz.prog.info? 67).map (fun i=>(i.zero,i.size,i.bytes))=some (some (.agg #[.int .i64 0,.int .i64 0,.int .i64 0,.slice none 0 0,.slice none 0 0,.slice none 0 0]),6,96):=by kernel_rfl
theorem ai3 (L:List NV):(L.flatMap NV.cells).length=L.length*6:=by
 induction L with
 | nil=>rfl
 | cons q L ih=>rw[List.flatMap_cons,List.length_append,ih]; simp[NV.cells]; omega
theorem abE {w:World} {ops:Array Oper} {rest:List Oper} {o:Oper} {a:Act} {Q:Exit→Act→World→Prop} (hgd:o.guard=none) (s x:Operand)
  (ho:o.op = .call { callee:=.builtin .append,args:=#[s,x],argTypes:=#[22,22] })
  (base:Nat) (v:Value) (L:List NV) (hs:a.eval s=v) (hown:w.ownsRow base 67 6 v L.length (L.flatMap NV.cells))
  (B:Nat) (q:NV) (hx:a.eval x = .slice (some ⟨B,0,none⟩) 1 1) (hB:w.heap[B]? = some (.cells q.cells.toArray 67 (0,0))) (hone:q.v3.oneCell'=true∧q.v4.oneCell'=true∧q.v5.oneCell'=true) (hlen:L.length≤1000000) (hbase:base≤w.heap.size)
  (h:∀ g cap w',w'.ownsRow base 67 6 (.slice (some ⟨g,0,none⟩) (L.length+1) cap) (L ++ [q]).length ((L ++ [q]).flatMap NV.cells)→w.grownBy w' v.ownBlock→(v.ownBlock=some g∨w.heap.size≤g)→g < w'.heap.size →
   wpList Tryz.prog ops Q rest (a.put o.dst (.slice (some ⟨g,0,none⟩) (L.length+1) cap)) w') :
  wpList Tryz.prog ops Q (o :: rest) a w:=by
 obtain⟨i0,hi,hz0,hz1,hz2⟩:=info_parts Tryz.infoNode;refine wpList_append_lies w hgd s x _ ho base _ i0 _ 6 96 Tryz.underlying22 hi hz0 hz1 hz2 rfl (by omega) v L.length _ hs hown ⟨B,0,none⟩ 1 1 q.cells hx rfl (World.news_of_block hB) ?_ (by omega) (by unfold maxLen; omega) (by omega) hbase w.heap.size rfl ?_
 ·intro u hu;simp only[NV.cells,List.mem_cons,List.not_mem_nil,or_false] at hu;rcases hu with rfl | rfl | rfl | rfl | rfl | rfl
  ·rfl
  ·rfl
  ·rfl
  ·exact hone.1
  ·exact hone.2.1
  ·exact hone.2.2
 ·intro g cap w' h1 h2 h3 h4;refine h g cap w' ?_ h2 (h3.imp id fun e=>by omega) h4;have e1:(L ++ [q]).length=L.length+1:=by simp
  have e2:(L ++ [q]).flatMap NV.cells=L.flatMap NV.cells++q.cells:=by simp[List.flatMap_append]
  rw[e1,e2];exact h1
theorem aei {w:World} {base:Nat} {t:TypeId} {v:Value} {L:List NV} (h:w.ownsRow base t 6 v L.length (L.flatMap NV.cells)) {F:Ag} (hF:∀ b,v.ownBlock=some b→F b) (hL:∀ q∈L,q.fine w F):Bd w F v (L.map NV.n):=by
 rcases h.2 with⟨rfl,h0⟩ | ⟨g,cap,cur,rfl,hb,hg,hnc,_,hsz,htake⟩
 ·have:L = []:=List.eq_nil_of_length_eq_zero h0;subst this;exact⟨none,0,rfl,Nat.le_refl _,fun h=>absurd h (by simp)⟩
 ·refine Lies.nodes ⟨(Array.getElem?_eq_some_iff.1 hg).1,fun i u hi=>?_⟩ (hF g rfl) hL hnc;rw[← htake,List.getElem?_take] at hi;split at hi
  ·simp[World.cell?,hg]; simpa using hi
  ·cases hi
end Go.Proofs.YtkcheepafifjaaaGreatDoor

/- Nodes of one's own: stores of several cells, appends of a node. -/
import Derived.Test.YtkcheepafifjaaaGreatDoorF08
import Derived.Test.YtkcheepafifjaaaGreatDoorF29
import Derived.Deep.LoopGhost
set_option linter.all false
namespace Go.Proofs.YtkcheepafifjaaaGreatDoor
open Go.RowKit
theorem set3 {w:World} {b:Nat} {t:TypeId} {a0 a1 a2:Value} (h:Row w b t [a0,a1,a2]) (v0 v1 v2:Value):∃ W,W=(((w.setCell ⟨b,0,none⟩ v0).setCell ⟨b,1,none⟩ v1).setCell ⟨b,2,none⟩ v2) ∧
  Row W b t [v0,v1,v2]∧Wrote (fun k=>k=b) w W:=by
 refine⟨_,rfl,((h.set 0 v0).set 1 v1).set 2 v2,?_⟩;have h0:Wrote (fun k=>k=b) w w:=Wrote.refl _ _;exact((h0.setCell (p:=⟨b,0,none⟩) (.inl rfl) v0).setCell (p:=⟨b,1,none⟩) (.inl rfl) v1).setCell (p:=⟨b,2,none⟩) (.inl rfl) v2
theorem Below.wrote {w w':World} (h:Below w.heap.size w w') (K:Ag):Wrote K w w':=⟨h.os,h.tape,h.output,h.size,fun i hi _=>h.block i hi⟩
theorem ah6 (L:List NV):(L.flatMap NV.cells).length=L.length*6:=by
 induction L with
 | nil=>rfl
 | cons q L ih=>rw[List.flatMap_cons,List.length_append,ih]; simp[NV.cells]; omega
theorem afg {w:World} {base:Nat} {t:TypeId} {v:Value} {L:List NV} (h:w.ownsRow base t 6 v L.length (L.flatMap NV.cells)) {F:Ag} (hF:∀ b,v.ownBlock=some b→F b) (hL:∀ q∈L,q.fine w F):Bj w F v (L.map NV.n):=by
 rcases h.2 with⟨rfl,h0⟩ | ⟨g,cap,cur,rfl,hb,hg,hnc,_,hsz,htake⟩
 ·have:L = []:=List.eq_nil_of_length_eq_zero h0;subst this;exact⟨none,0,rfl,Nat.le_refl _,fun h=>absurd h (by simp)⟩
 ·refine Lies.nodes ⟨(Array.getElem?_eq_some_iff.1 hg).1,fun i u hi=>?_⟩ (hF g rfl) hL hnc;rw[← htake,List.getElem?_take] at hi;split at hi
  ·simp[World.cell?,hg]; simpa using hi
  ·cases hi
end Go.Proofs.YtkcheepafifjaaaGreatDoor

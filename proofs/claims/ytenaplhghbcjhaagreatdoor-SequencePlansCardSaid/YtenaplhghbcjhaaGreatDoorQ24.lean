import Derived.RangeFuncNested
import Derived.RangeFuncBound
import Derived.RangeFuncCalls
import Derived.RangeFuncLeaves
import Derived.RangeFuncWrites
import Derived.Shelf.Abstract
import Derived.Shelf.RegionOpen
import Derived.WalkKit
import Derived.OwnWalkIn
import Derived.TacticsInMore
import Derived.LoopNIn
import Derived.LoopIn
import Derived.Test.YtenaplhghbcjhaaGreatDoorQ21
set_option linter.all false
namespace Go.Proofs.YtenaplhghbcjhaaGreatDoor
open Nat renaming lt_of_lt_of_le->Hz
open Go.RowKit
variable {F:Gq} {b:Nat} {v:Value}
section
variable {W W':World} {row:Option Nat}
theorem Row.kept {t:TypeId} {cs:List Value} (h:Row W b t cs) (hg:W.grownBy W' row) (hr:∀ r,row=some r->∃ o:Obj,W.heap[r]? = some o/\o.isCells=false):Row W' b t cs :=
 (grownBy_keeps_cells hg hr h rfl).trans h
theorem Aj.kept {l:List Nat} (h:Aj W F v l) (hg:W.grownBy W' row) (hr:∀ r,row=some r->∃ o:Obj,W.heap[r]? = some o/\o.isCells=false):Aj W' F v l:=by
 obtain⟨A,c,rfl,hc,hx⟩:=h;refine⟨A,c,rfl,hc,λh0=>?_⟩;obtain⟨b,o,rfl,hF,hb,hx⟩:=hx h0;exact⟨b,o,rfl,hF,Hz hb hg.size,λk x hk=>cell_kept (hx k x hk) hg hr⟩
theorem DY.kept {o:Nat} {r:Raw} (h:DY W F b o r) (hg:W.grownBy W' row) (hr:∀ r,row=some r->∃ o:Obj,W.heap[r]? = some o/\o.isCells=false):DY W' F b o r:=by
 obtain⟨h0,⟨u,h1,h2⟩,⟨v,h3,h4⟩⟩:=h;exact⟨cell_kept h0 hg hr,⟨u,cell_kept h1 hg hr,h2.kept hg hr⟩,⟨v,cell_kept h3 hg hr,h4.kept hg hr⟩⟩
theorem Gs.kept {l:List Raw} (h:Gs W F v l) (hg:W.grownBy W' row) (hr:∀ r,row=some r->∃ o:Obj,W.heap[r]? = some o/\o.isCells=false):Gs W' F v l:=by
 obtain⟨A,c,rfl,hc,hx⟩:=h;refine⟨A,c,rfl,hc,λh0=>?_⟩;obtain⟨b,o,rfl,hF,hb,hx⟩:=hx h0;exact⟨b,o,rfl,hF,Hz hb hg.size,λk x hk=>(hx k x hk).kept hg hr⟩
end
theorem wB {W W':World} (h:Below W.heap.size W W') (B:Nat):KeepsFrom B W W':=⟨h.size,λk o _ hk _=>(h.block k (Array.getElem?_eq_some_iff.1 hk).1).trans hk⟩

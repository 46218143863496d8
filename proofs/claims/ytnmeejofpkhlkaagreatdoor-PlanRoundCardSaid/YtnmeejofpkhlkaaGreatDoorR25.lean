/- What is said of cells stays where another block is turned that holds no cells. -/
import Derived.RangeFuncNested
import Derived.RangeFuncBound
import Derived.RangeFuncCalls
import Derived.RangeFuncLeaves
import Derived.RangeFuncWrites
import Derived.Shelf.Abstract
import Derived.Shelf.RegionOpen
import Derived.WalkKit
import Derived.OwnWalkIn
import Derived.TacticsInMore
import Derived.LoopNIn
import Derived.LoopIn
import Derived.Test.YtnmeejofpkhlkaaGreatDoorR22
set_option linter.all false
namespace Go.Proofs.YtnmeejofpkhlkaaGreatDoor
open Go.RowKit
section
variable {W W':World} {row:Option Nat}
theorem Row.kept {b:Nat} {t:TypeId} {cs:List Value} (h:Row W b t cs) (hg:W.grownBy W' row) (hr:∀ r,row=some r→∃ o:Obj,W.heap[r]? = some o∧o.isCells=false):Row W' b t cs :=
 (grownBy_keeps_cells hg hr h rfl).trans h
theorem Aj.kept {F:Foot} {v:Value} {l:List Nat} (h:Aj W F v l) (hg:W.grownBy W' row) (hr:∀ r,row=some r→∃ o:Obj,W.heap[r]? = some o∧o.isCells=false):Aj W' F v l:=by
 obtain⟨A,c,rfl,hc,hx⟩:=h;refine⟨A,c,rfl,hc,fun h0=>?_⟩;obtain⟨b,o,rfl,hF,hb,hx⟩:=hx h0;exact⟨b,o,rfl,hF,Nat.lt_of_lt_of_le hb hg.size,fun k x hk=>cell_kept (hx k x hk) hg hr⟩
theorem Dw.kept {F:Foot} {b o:Nat} {r:Raw} (h:Dw W F b o r) (hg:W.grownBy W' row) (hr:∀ r,row=some r→∃ o:Obj,W.heap[r]? = some o∧o.isCells=false):Dw W' F b o r:=by
 obtain⟨h0,⟨u,h1,h2⟩,⟨v,h3,h4⟩⟩:=h;exact⟨cell_kept h0 hg hr,⟨u,cell_kept h1 hg hr,h2.kept hg hr⟩,⟨v,cell_kept h3 hg hr,h4.kept hg hr⟩⟩
theorem RawsAt.kept {F:Foot} {v:Value} {l:List Raw} (h:RawsAt W F v l) (hg:W.grownBy W' row) (hr:∀ r,row=some r→∃ o:Obj,W.heap[r]? = some o∧o.isCells=false):RawsAt W' F v l:=by
 obtain⟨A,c,rfl,hc,hx⟩:=h;refine⟨A,c,rfl,hc,fun h0=>?_⟩;obtain⟨b,o,rfl,hF,hb,hx⟩:=hx h0;exact⟨b,o,rfl,hF,Nat.lt_of_lt_of_le hb hg.size,fun k x hk=>(hx k x hk).kept hg hr⟩
end
theorem jV {W W':World} (h:Below W.heap.size W W') (B:Nat):KeepsFrom B W W':=⟨h.size,fun k o _ hk _=>(h.block k (Array.getElem?_eq_some_iff.1 hk).1).trans hk⟩
end Go.Proofs.YtnmeejofpkhlkaaGreatDoor

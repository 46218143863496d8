/- package value: the walk over the nodes with their parents, as a range over a function. -/
import Derived.RangeFuncNested
import Derived.RangeFuncBound
import Derived.RangeFuncCalls
import Derived.RangeFuncLeaves
import Derived.RangeFuncWrites
import Derived.Shelf.Abstract
import Derived.Shelf.RegionOpen
import Derived.WalkKit
import Derived.OwnWalkIn
import Derived.TacticsInMore
import Derived.LoopNIn
import Derived.LoopIn
import Derived.Test.YthmklhapjegfdaaGreatDoorL34
set_option linter.all false
set_option maxRecDepth 100000
set_option maxHeartbeats 12800000
namespace Go.Proofs.YthmklhapjegfdaaGreatDoor
open Go.RowKit Go.Shelf
attribute [local go_sem] Oper.semAt_some
def yP (N k:Nat):List (Fin N):=(List.finRange N).take k
theorem acS {N k:Nat} (h:k≤N):(yP N k).length=k:=by unfold yP; rw[List.length_take,List.length_finRange]; omega
theorem afz {N k:Nat} (h:k < N):yP N (k+1)=yP N k ++ [⟨k,h⟩]:=by
 unfold yP;exact take_snoc (by simp[h])
open Go.RowKit
section
variable {W W':World} {row:Option Nat}
theorem Row.kept {b:Nat} {t:TypeId} {cs:List Value} (h:Row W b t cs) (hg:W.grownBy W' row) (hr:∀ r,row=some r→∃ o:Obj,W.heap[r]? = some o∧o.isCells=false):Row W' b t cs :=
 (grownBy_keeps_cells hg hr h rfl).trans h
theorem Ah.kept {F:Ac} {v:Value} {l:List Nat} (h:Ah W F v l) (hg:W.grownBy W' row) (hr:∀ r,row=some r→∃ o:Obj,W.heap[r]? = some o∧o.isCells=false):Ah W' F v l:=by
 obtain⟨A,c,rfl,hc,hx⟩:=h;refine⟨A,c,rfl,hc,fun h0=>?_⟩;obtain⟨b,o,rfl,hF,hb,hx⟩:=hx h0;exact⟨b,o,rfl,hF,Nat.lt_of_lt_of_le hb hg.size,fun k x hk=>cell_kept (hx k x hk) hg hr⟩
theorem Di.kept {F:Ac} {b o:Nat} {r:Raw} (h:Di W F b o r) (hg:W.grownBy W' row) (hr:∀ r,row=some r→∃ o:Obj,W.heap[r]? = some o∧o.isCells=false):Di W' F b o r:=by
 obtain⟨h0,⟨u,h1,h2⟩,⟨v,h3,h4⟩⟩:=h;exact⟨cell_kept h0 hg hr,⟨u,cell_kept h1 hg hr,h2.kept hg hr⟩,⟨v,cell_kept h3 hg hr,h4.kept hg hr⟩⟩
theorem Aj.kept {F:Ac} {v:Value} {l:List Raw} (h:Aj W F v l) (hg:W.grownBy W' row) (hr:∀ r,row=some r→∃ o:Obj,W.heap[r]? = some o∧o.isCells=false):Aj W' F v l:=by
 obtain⟨A,c,rfl,hc,hx⟩:=h;refine⟨A,c,rfl,hc,fun h0=>?_⟩;obtain⟨b,o,rfl,hF,hb,hx⟩:=hx h0;exact⟨b,o,rfl,hF,Nat.lt_of_lt_of_le hb hg.size,fun k x hk=>(hx k x hk).kept hg hr⟩
theorem RV.fine.kept {F:Ac} {q:RV} (h:q.fine W F) (hg:W.grownBy W' row) (hr:∀ r,row=some r→∃ o:Obj,W.heap[r]? = some o∧o.isCells=false):q.fine W' F:=⟨h.1.kept hg hr,h.2.kept hg hr⟩
theorem Aw.kept {F:Ac} {b:Nat} {t:TypeId} {L:List RV} (h:Aw W b t F L) (hg:W.grownBy W' row) (hr:∀ r,row=some r→∃ o:Obj,W.heap[r]? = some o∧o.isCells=false):Aw W' b t F L:=⟨h.row.kept hg hr,fun q hq=>(h.fine q hq).kept hg hr⟩
end
end Go.Proofs.YthmklhapjegfdaaGreatDoor

/- parlourkit.maker in plain Lean: the game that numbers select. -/
import Derived.Test.YthmklhapjegfdaaGreatDoorX22
import Derived.Test.YthmklhapjegfdaaGreatDoorX28
import Derived.Deep.AppendSrc
import Derived.Deep.LoopGhost
set_option linter.all false
namespace Go.Proofs.YthmklhapjegfdaaGreatDoor
open Go.RowKit
structure Place where
 aJ:Int
 many:Int
 seen:Int
 deriving Inhabited
structure View where
 aJ:Int
 level:Int
 seen:List Int
 info:Int
structure MC where
 L:List Int
 levels:List Place
 aF:Int
 most:Int
 zero:Bool
structure MS where
 at':Nat
 views:List View
 pending:Int
 nodes:List Nd
 infos:List Inf
def akJ (p:Place) (i:Nat) (seen:List (List Int)):List (List Int) :=
 seen.mapIdx fun q l=>l ++ [if (q:Int)=p.aJ∨(p.seen.toNat >>> q) % 2=1 then (i:Int) else -1]
structure VV where
 v:View
 vs:Value
structure ML where
 base:Nat
 mb:Nat
 db:Nat
 F:Aj
 A:Option Addr
 c:Nat
 vl:Value
section
variable {C:MC} {M:ML} {Fd:Aj} {vv vn vi:Value} {Lv:List VV} {Ln:List NV} {s:MS} {W W':World}
end
end Go.Proofs.YthmklhapjegfdaaGreatDoor

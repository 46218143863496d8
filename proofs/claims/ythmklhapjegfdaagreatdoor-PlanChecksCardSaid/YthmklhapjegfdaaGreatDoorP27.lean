/- package value: what the walk of values holds. -/
import Derived.Test.YthmklhapjegfdaaGreatDoorP22
import Derived.Test.YthmklhapjegfdaaGreatDoorP26
set_option linter.all false
set_option maxRecDepth 100000
set_option maxHeartbeats 12800000
namespace Go.Proofs.YthmklhapjegfdaaGreatDoor
open Go.RowKit
section
variable {F:Ah} {g:Gm} {m:List (List Rat)} {bb pl:Nat} {w:World} {BR:List Value} {i a:Nat} {n:Nd} {chv:Value} {acc:List Rat} {L:List RV} {BRc:List Value} {W W':World}
end
section
variable {w w':World} {F:Ah} {bp:Nat} {g:Gm} {m:List (List Rat)} {up place:List Int} {vn vi vu vp vm:Value} {pb xb fb bb:Nat} {BR BR':List Value}
end
section
variable {g:Gm} {m:List (List Rat)} {bo:Nat} {Fd Fe:Ah} {lo hi:Nat} {vs:List Value} {W W':World}
end
end Go.Proofs.YthmklhapjegfdaaGreatDoor

/- package value: reach. -/
import Derived.Sort.CutIn
import Derived.Test.YthmklhapjegfdaaGreatDoorP28
import Derived.Test.YthmklhapjegfdaaGreatDoorP27
set_option linter.all false
set_option maxRecDepth 100000
set_option maxHeartbeats 12800000
namespace Go.Proofs.YthmklhapjegfdaaGreatDoor
open Go.RowKit Go.Shelf
attribute [local go_sem] Oper.semAt_some
open Go.RowKit
end Go.Proofs.YthmklhapjegfdaaGreatDoor

/- package value: reach. -/
import Derived.Sort.CutIn
import Derived.Test.YthmklhapjegfdaaGreatDoorL42
import Derived.Test.YthmklhapjegfdaaGreatDoorL35
set_option linter.all false
set_option maxRecDepth 100000
set_option maxHeartbeats 12800000
namespace Go.Proofs.YthmklhapjegfdaaGreatDoor
open Go.RowKit Go.Shelf
attribute [local go_sem] Oper.semAt_some
open Go.RowKit
end Go.Proofs.YthmklhapjegfdaaGreatDoor

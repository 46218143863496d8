/- Lists of lists of numbers that came in, opened. -/
import Derived.Test.YthmklhapjegfdaaGreatDoorL07
import Derived.Test.YthmklhapjegfdaaGreatDoorL20
set_option linter.all false
set_option maxRecDepth 100000
set_option maxHeartbeats 12800000
namespace Go.Proofs.YthmklhapjegfdaaGreatDoor
open Go.ChangeShapes Go.WideShapes Go.ChangeAt Go.RowKit Go.Joins Go.Deep
section
variable {H:Type} {enc:TypeId×Value→H} {w:World} {base:Nat} {spare:Nat→Bool} {held:Bool}
end
end Go.Proofs.YthmklhapjegfdaaGreatDoor

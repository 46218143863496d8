/- Lists of lists of numbers that came in, opened. -/
import Derived.Test.YtkcheepafifjaaaGreatDoorF07
import Derived.Test.YtkcheepafifjaaaGreatDoorF17
set_option linter.all false
set_option maxRecDepth 100000
set_option maxHeartbeats 12800000
namespace Go.Proofs.YtkcheepafifjaaaGreatDoor
open Go.ChangeShapes Go.WideShapes Go.ChangeAt Go.RowKit Go.Joins Go.Deep
section
variable {H:Type} {enc:TypeId×Value→H} {w:World} {base:Nat} {spare:Nat→Bool} {held:Bool}
end
end Go.Proofs.YtkcheepafifjaaaGreatDoor

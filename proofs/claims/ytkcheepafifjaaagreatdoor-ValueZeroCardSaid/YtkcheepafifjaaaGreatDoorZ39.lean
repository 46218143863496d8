/- parlourlaw17.large; what the laws of this package have in common. -/
import Derived.Test.YtkcheepafifjaaaGreatDoorZ37
import Derived.Test.YtkcheepafifjaaaGreatDoorZ38
set_option linter.all false
set_option maxRecDepth 100000
set_option maxHeartbeats 12800000
namespace Go.Proofs.YtkcheepafifjaaaGreatDoor
open Go.RowKit
theorem Af.none (w:World) (F:Ae):Af w F (.slice none 0 0) []:=Af.nil w F
end Go.Proofs.YtkcheepafifjaaaGreatDoor

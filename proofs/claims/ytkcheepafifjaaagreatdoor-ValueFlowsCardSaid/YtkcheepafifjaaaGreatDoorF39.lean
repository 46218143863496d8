/- parlourlaw17.large; what the laws of this package have in common. -/
import Derived.Test.YtkcheepafifjaaaGreatDoorF37
import Derived.Test.YtkcheepafifjaaaGreatDoorF38
set_option linter.all false
set_option maxRecDepth 100000
set_option maxHeartbeats 12800000
namespace Go.Proofs.YtkcheepafifjaaaGreatDoor
open Go.RowKit
theorem Ah.none (w:World) (F:Ag):Ah w F (.slice none 0 0) []:=Ah.nil w F
end Go.Proofs.YtkcheepafifjaaaGreatDoor

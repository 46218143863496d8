/- parlourref17.Reach. -/
import Derived.Test.YtkcheepafifjaaaGreatDoorF36
import Derived.Test.YtkcheepafifjaaaGreatDoorF32
set_option linter.all false
set_option maxRecDepth 100000
set_option maxHeartbeats 12800000
namespace Go.Proofs.YtkcheepafifjaaaGreatDoor
open Go.RowKit
end Go.Proofs.YtkcheepafifjaaaGreatDoor

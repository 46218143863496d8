/- parlourkit.OwnRat, OwnVec, OwnLists: copies in new memory. -/
import Derived.Test.YtkcheepafifjaaaGreatDoorF27
import Derived.Test.YtkcheepafifjaaaGreatDoorF22
set_option linter.all false
set_option maxRecDepth 100000
set_option maxHeartbeats 12800000
namespace Go.Proofs.YtkcheepafifjaaaGreatDoor
open Go.RowKit
end Go.Proofs.YtkcheepafifjaaaGreatDoor

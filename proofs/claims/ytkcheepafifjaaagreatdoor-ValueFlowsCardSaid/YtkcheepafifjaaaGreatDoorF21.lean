/- parlourkit.AlikeGame: whether two games are equal. -/
import Derived.Test.YtkcheepafifjaaaGreatDoorF02
import Derived.StillTailTactics
set_option linter.all false
set_option maxRecDepth 100000
set_option maxHeartbeats 12800000
namespace Go.Proofs.YtkcheepafifjaaaGreatDoor
open Go.RowKit
end Go.Proofs.YtkcheepafifjaaaGreatDoor

/- append of a whole slice onto an empty one: a copy in new memory. -/
import Derived.Test.YtkcheepafifjaaaGreatDoorF03
import Derived.Deep.AppendSrc
set_option linter.all false
namespace Go.Proofs.YtkcheepafifjaaaGreatDoor
open Go.RowKit
end Go.Proofs.YtkcheepafifjaaaGreatDoor

/- parlourref17.ValuesOf. -/
import Derived.Test.YtkcheepafifjaaaGreatDoorZ31
import Derived.Test.YtkcheepafifjaaaGreatDoorZ22
import Derived.Deep.Cut
set_option linter.all false
set_option maxRecDepth 100000
set_option maxHeartbeats 12800000
namespace Go.Proofs.YtkcheepafifjaaaGreatDoor
open Go.RowKit
theorem fV {w:World} {b o:Nat} {v:Value} (h:w.cell? ⟨b,o,none⟩=some v) (ob:Obj):(w.alloc ob).cell? ⟨b,o,none⟩=some v:=ah h ((Below.refl _ _).alloc (Nat.le_refl _) _)
end Go.Proofs.YtkcheepafifjaaaGreatDoor

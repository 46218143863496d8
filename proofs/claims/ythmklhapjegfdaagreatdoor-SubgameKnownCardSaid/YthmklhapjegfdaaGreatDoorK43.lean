/- The example's game and strategy: what it is worth. -/
import Derived.Test.YthmklhapjegfdaaGreatDoorK42
import Derived.Test.YthmklhapjegfdaaGreatDoorK26
set_option linter.all false
namespace Go.Proofs.YthmklhapjegfdaaGreatDoor
open Go.RowKit
end Go.Proofs.YthmklhapjegfdaaGreatDoor

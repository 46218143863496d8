/- parlourref17.Reach. -/
import Derived.Test.YthmklhapjegfdaaGreatDoorK42
import Derived.Test.YthmklhapjegfdaaGreatDoorK38
set_option linter.all false
namespace Go.Proofs.YthmklhapjegfdaaGreatDoor
open Go.RowKit
end Go.Proofs.YthmklhapjegfdaaGreatDoor

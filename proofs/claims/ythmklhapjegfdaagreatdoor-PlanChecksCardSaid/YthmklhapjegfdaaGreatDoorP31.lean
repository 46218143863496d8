/- parlourref17.Reach. -/
import Derived.Test.YthmklhapjegfdaaGreatDoorP29
import Derived.Test.YthmklhapjegfdaaGreatDoorP30
set_option linter.all false
namespace Go.Proofs.YthmklhapjegfdaaGreatDoor
open Go.RowKit
end Go.Proofs.YthmklhapjegfdaaGreatDoor

/- parlourref17.Reach. -/
import Derived.Test.YthmklhapjegfdaaGreatDoorL43
import Derived.Test.YthmklhapjegfdaaGreatDoorL39
set_option linter.all false
namespace Go.Proofs.YthmklhapjegfdaaGreatDoor
open Go.RowKit
end Go.Proofs.YthmklhapjegfdaaGreatDoor

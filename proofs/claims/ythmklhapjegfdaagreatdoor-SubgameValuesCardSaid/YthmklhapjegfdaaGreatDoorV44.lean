/- parlourkit.OwnRat, OwnVec, OwnLists: copies in new memory. -/
import Derived.Test.YthmklhapjegfdaaGreatDoorV23
import Derived.Test.YthmklhapjegfdaaGreatDoorV36
set_option linter.all false
set_option maxRecDepth 100000
set_option maxHeartbeats 12800000
namespace Go.Proofs.YthmklhapjegfdaaGreatDoor
open Go.RowKit
theorem Tryz.infoRats:(Tryz.prog.info? 64).map (fun i=>(i.zero,i.size,i.bytes))=some (some (.slice none 0 0),y8.n,24):=ak
end Go.Proofs.YthmklhapjegfdaaGreatDoor

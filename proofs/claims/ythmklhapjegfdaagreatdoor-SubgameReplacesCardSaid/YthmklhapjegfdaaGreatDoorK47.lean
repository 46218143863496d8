/- parlourkit.OwnRat, OwnVec, OwnLists: copies in new memory. -/
import Derived.Test.YthmklhapjegfdaaGreatDoorK31
import Derived.Test.YthmklhapjegfdaaGreatDoorK26
set_option linter.all false
set_option maxRecDepth 100000
set_option maxHeartbeats 12800000
namespace Go.Proofs.YthmklhapjegfdaaGreatDoor
open Go.RowKit
def Fact.empty:Fact:=⟨fun v _=>∃ b,v = .slice (some ⟨b,0,none⟩) 0 0,fun _ _ _ h _=>h⟩
theorem Tryz.infoRats:(Tryz.prog.info? 64).map (fun i=>(i.zero,i.size,i.bytes))=some (some (.slice none 0 0),wO.n,24):=by kernel_rfl
end Go.Proofs.YthmklhapjegfdaaGreatDoor

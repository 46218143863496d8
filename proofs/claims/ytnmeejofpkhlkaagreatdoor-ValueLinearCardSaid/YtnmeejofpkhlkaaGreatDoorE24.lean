/- Part of a claim. -/
import Derived.Test.YtnmeejofpkhlkaaGreatDoorE19
import Derived.Test.YtnmeejofpkhlkaaGreatDoorE23
set_option linter.all false
set_option maxRecDepth 100000
set_option maxHeartbeats 12800000
namespace Go.Proofs.YtnmeejofpkhlkaaGreatDoor
open Go.RowKit
theorem Tryz.infoRats:(Tryz.prog.info? 38).map (λi=>(i.zero,i.size,i.bytes))=some (some (.slice none 0 0),lV.n,24):=ak
def aaN (m:List (List Rat)):List (List Raw):=if kJ m.flatten≠0 then [] else m.map (List.map au)
end Go.Proofs.YtnmeejofpkhlkaaGreatDoor

/- A region that draws its order, within a round of a range over a function: walked as outside of one. -/
import Derived.Test.YthmklhapjegfdaaGreatDoorL03
import Derived.OrdersIn
import Derived.OwnWalkIn
import Derived.RangeFuncCalls
set_option linter.all false
namespace Go.Proofs.YthmklhapjegfdaaGreatDoor
open Go.RowKit
section
variable {P:Program} {ops:Array Oper} {Q:Exit→Act→World→Prop} {md:Region.Mode}
end
end Go.Proofs.YthmklhapjegfdaaGreatDoor

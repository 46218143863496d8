/- The world in which the listed table is laid. -/
import Derived.Test.YtnmeejofpkhlkaaGreatDoorR16
import Derived.Test.YtnmeejofpkhlkaaGreatDoorR10
import Derived.Test.YtnmeejofpkhlkaaGreatDoorR19
import Derived.LaidLaws
import Derived.JoinedOf
set_option linter.all false
namespace Go.Proofs.YtnmeejofpkhlkaaGreatDoor
open Go.ChangeShapes Go.WideShapes Go.ChangeAt Go.RowKit
theorem Tryz.own:ownKnob Tryz.prog.godebug=none:=ah
theorem Tryz.laidOut:laidOutB Tryz.prog=true:=ah
def tabCells:Array Value:=(Lib.deBruijn64tab.map fun x:Nat=>Value.int .u8 (x:Int)).toArray
noncomputable def laidWorld (os:Os):World :=
 let w0:=World.holding Tryz.prog os ⟨#[],#[],[]⟩
 { w0 with heap:=w0.heap.modify 0 fun
   | .cells _ t frozen=>.cells tabCells t frozen
   | o=>o }
abbrev zD:List (String×DataW Unit):=[("math/bits.deBruijn64tab",Rows.laid_math_bits_deBruijn64tab)]
theorem laidWorld_met (os:Os) (args:Array Value):laidMet Tryz.prog zD ((laidWorld os).forCall (fun _ _=>0) ⟨#[],args,[]⟩).memory :=
 laidMet_of_run' 8 ah ah
end Go.Proofs.YtnmeejofpkhlkaaGreatDoor

/- Part of a claim. -/
import Derived.Test.YtnmeejofpkhlkaaGreatDoorE16
import Derived.Test.YtnmeejofpkhlkaaGreatDoorE10
import Derived.Test.YtnmeejofpkhlkaaGreatDoorE19
import Derived.LaidLaws
import Derived.JoinedOf
set_option linter.all false
namespace Go.Proofs.YtnmeejofpkhlkaaGreatDoor
open Go.Proofs.Tryz renaming prog->FY
open Go.ChangeShapes Go.WideShapes Go.ChangeAt Go.RowKit
theorem Tryz.own:ownKnob Tryz.prog.godebug=none:=ak
theorem Tryz.laidOut:laidOutB FY=true:=ak
def tabCells:Array Value:=(Lib.deBruijn64tab.map λx:Nat=>Value.int .u8 (x:Int)).toArray
noncomputable def laidWorld (os:Os):World :=
 let w0:=World.holding FY os ⟨#[],#[],[]⟩
 { w0 with heap:=w0.heap.modify 0 fun
   | .cells _ t frozen=>.cells tabCells t frozen
   | o=>o }
abbrev abO:List (String×DataW Unit):=[("math/bits.deBruijn64tab",Rows.laid_math_bits_deBruijn64tab)]
theorem laidWorld_met (os:Os) (args:Array Value):laidMet FY abO ((laidWorld os).forCall (λ_ _=>0) ⟨#[],args,[]⟩).memory :=
 laidMet_of_run' 8 ak ak
end Go.Proofs.YtnmeejofpkhlkaaGreatDoor

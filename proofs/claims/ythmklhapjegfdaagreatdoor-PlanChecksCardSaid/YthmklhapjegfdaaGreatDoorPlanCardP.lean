/- The tied card of PlanChecks: for every game, strategy and list of numbers the statement returns true. -/
import Derived.Test.YthmklhapjegfdaaGreatDoorP47
import Derived.Test.YthmklhapjegfdaaGreatDoorCards
import Derived.Test.YthmklhapjegfdaaGreatDoorTie
import Derived.SevenTiedAt
set_option linter.all false
set_option maxRecDepth 100000
set_option maxHeartbeats 12800000
namespace Go.Proofs.YthmklhapjegfdaaGreatDoor
open Go
theorem planChecks_card:Rows.PlanChecksCardSaid :=
 Claim7.holds_tied_plain_at .later [] [.data] true (true, "2d00f3aeac36b61c52c6090584b86a58ae9f8b619a6dad9eef5f558641acb082") true
  planChecks_holds (fun _ h=>by cases h) aj (fun _ h=>by cases h) planChecks_row_tie rfl ⟨rfl,rfl⟩ aj rfl
  (fun f fn hf hfn=>by
   obtain rfl:f=4:=Option.some.inj ((show Tryz.prog.funcNamed "parlour/parlourlaw16.PlanChecks" = some 4 by kernel_rfl).symm.trans hf) |>.symm;obtain rfl:fn=Tryz.f4:=(Option.some.inj (Tryz.func4.symm.trans hfn)).symm;refine⟨aj,fun j t ht=>?_⟩;rw[Tryz.params4] at ht;rcases j with _ | _ | _ | j
   ·obtain rfl:t=25:=by simpa using ht.symm
    exact(show Tryz.prog.wantsStandIn 25=false by kernel_rfl)
   ·obtain rfl:t=28:=by simpa using ht.symm
    exact(show Tryz.prog.wantsStandIn 28=false by kernel_rfl)
   ·obtain rfl:t=26:=by simpa using ht.symm
    exact(show Tryz.prog.wantsStandIn 26=false by kernel_rfl)
   ·simp at ht)
  aj
#print axioms planChecks_card
end Go.Proofs.YthmklhapjegfdaaGreatDoor

/- The tied card of PlanMixes: for every game, two strategies and a number the statement returns true. -/
import Derived.Test.YthmklhapjegfdaaGreatDoorX48
import Derived.Test.YthmklhapjegfdaaGreatDoorCards
import Derived.Test.YthmklhapjegfdaaGreatDoorTie
import Derived.SevenTiedAt
set_option linter.all false
set_option maxRecDepth 100000
set_option maxHeartbeats 12800000
namespace Go.Proofs.YthmklhapjegfdaaGreatDoor
open Go
theorem planMixes_card:Rows.PlanMixesCardSaid :=
 Claim7.holds_tied_plain_at .later [] [.data] true (true, "2d00f3aeac36b61c52c6090584b86a58ae9f8b619a6dad9eef5f558641acb082") true
  planMixes_holds (fun _ h=>by cases h) aj (fun _ h=>by cases h) planMixes_row_tie rfl ⟨rfl,rfl⟩ aj rfl
  (fun f fn hf hfn=>by
   obtain rfl:f=8:=Option.some.inj ((show Tryz.prog.funcNamed "parlour/parlourlaw16.PlanMixes" = some 8 by kernel_rfl).symm.trans hf) |>.symm;obtain rfl:fn=Tryz.f8:=(Option.some.inj (Tryz.func8.symm.trans hfn)).symm;refine⟨aj,fun j t ht=>?_⟩;rw[Tryz.params8] at ht;rcases j with _ | _ | _ | _ | j
   ·obtain rfl:t=25:=by simpa using ht.symm
    exact(show Tryz.prog.wantsStandIn 25=false by kernel_rfl)
   ·obtain rfl:t=28:=by simpa using ht.symm
    exact(show Tryz.prog.wantsStandIn 28=false by kernel_rfl)
   ·obtain rfl:t=28:=by simpa using ht.symm
    exact(show Tryz.prog.wantsStandIn 28=false by kernel_rfl)
   ·obtain rfl:t=83:=by simpa using ht.symm
    exact(show Tryz.prog.wantsStandIn 83=false by kernel_rfl)
   ·simp at ht)
  aj
end Go.Proofs.YthmklhapjegfdaaGreatDoor

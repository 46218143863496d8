/- The tied card of PlanPure: for every two lists of numbers the statement returns true. -/
import Derived.Test.YthmklhapjegfdaaGreatDoorP42
import Derived.Test.YthmklhapjegfdaaGreatDoorCards
import Derived.Test.YthmklhapjegfdaaGreatDoorTie
import Derived.SevenTiedAt
set_option linter.all false
set_option maxRecDepth 100000
set_option maxHeartbeats 12800000
namespace Go.Proofs.YthmklhapjegfdaaGreatDoor
open Go
theorem planPure_card:Rows.PlanPureCardSaid :=
 Claim7.holds_tied_plain_at .later [] [.data] true (true, "2d00f3aeac36b61c52c6090584b86a58ae9f8b619a6dad9eef5f558641acb082") true
  planPure_holds (fun _ h=>by cases h) ah (fun _ h=>by cases h) planPure_row_tie rfl ⟨rfl,rfl⟩ ah rfl
  (fun f fn hf hfn=>by
   obtain rfl:f=12:=Option.some.inj ((show Tryz.prog.funcNamed "parlour/parlourlaw16.PlanPure" = some 12 by kernel_rfl).symm.trans hf) |>.symm;obtain rfl:fn=Tryz.f12:=(Option.some.inj (Tryz.func12.symm.trans hfn)).symm;refine⟨ah,fun j t ht=>?_⟩;rw[Tryz.params12] at ht;rcases j with _ | _ | j
   ·obtain rfl:t=26:=by simpa using ht.symm
    exact(show Tryz.prog.wantsStandIn 26=false by kernel_rfl)
   ·obtain rfl:t=26:=by simpa using ht.symm
    exact(show Tryz.prog.wantsStandIn 26=false by kernel_rfl)
   ·simp at ht)
  ah
#print axioms planPure_card
end Go.Proofs.YthmklhapjegfdaaGreatDoor

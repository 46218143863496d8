/- The tied card of PlanKnown: the statement, which has no argument, returns true. -/
import Derived.Test.YthmklhapjegfdaaGreatDoorX44
import Derived.Test.YthmklhapjegfdaaGreatDoorCards
import Derived.Test.YthmklhapjegfdaaGreatDoorTie
import Derived.SevenTiedAt
set_option linter.all false
set_option maxRecDepth 100000
set_option maxHeartbeats 12800000
namespace Go.Proofs.YthmklhapjegfdaaGreatDoor
open Go
theorem planKnown_card:Rows.PlanKnownCardSaid :=
 Claim7.holds_tied_plain_at .later [] [.data] true (true, "2d00f3aeac36b61c52c6090584b86a58ae9f8b619a6dad9eef5f558641acb082") true
  planKnown_holds (fun _ h=>by cases h) aj (fun _ h=>by cases h) planKnown_row_tie rfl ⟨rfl,rfl⟩ aj rfl
  (fun f fn hf hfn=>by
   obtain rfl:f=9:=Option.some.inj ((show Tryz.prog.funcNamed "parlour/parlourlaw16.PlanKnown" = some 9 by kernel_rfl).symm.trans hf) |>.symm;obtain rfl:fn=Tryz.f9:=(Option.some.inj (Tryz.func9.symm.trans hfn)).symm;refine⟨aj,fun j t ht=>?_⟩;rw[Tryz.params9] at ht;simp at ht)
  aj
end Go.Proofs.YthmklhapjegfdaaGreatDoor

/- The tied card of SubgameKnown: the statement, which has no argument, returns true. -/
import Derived.Test.YthmklhapjegfdaaGreatDoorK55
import Derived.Test.YthmklhapjegfdaaGreatDoorCards
import Derived.Test.YthmklhapjegfdaaGreatDoorTie
import Derived.SevenTiedAt
set_option linter.all false
set_option maxRecDepth 100000
set_option maxHeartbeats 12800000
namespace Go.Proofs.YthmklhapjegfdaaGreatDoor
open Go
theorem subgameKnown_card:Rows.SubgameKnownCardSaid :=
 Claim7.holds_tied_plain_at .later [] [.data] true (true, "2d00f3aeac36b61c52c6090584b86a58ae9f8b619a6dad9eef5f558641acb082") true
  subgameKnown_holds (fun _ h=>by cases h) (by kernel_rfl) (fun _ h=>by cases h) subgameKnown_row_tie rfl ⟨rfl,rfl⟩ (by kernel_rfl) rfl
  (fun f fn hf hfn=>by
   obtain rfl:f=5:=Option.some.inj ((show Tryz.prog.funcNamed "parlour/parlourlaw26.SubgameKnown" = some 5 by kernel_rfl).symm.trans hf) |>.symm;obtain rfl:fn=Tryz.f5:=(Option.some.inj (Tryz.func5.symm.trans hfn)).symm;refine⟨by kernel_rfl,fun j t ht=>?_⟩;rw[Tryz.params5] at ht;simp at ht)
  (by kernel_rfl)
end Go.Proofs.YthmklhapjegfdaaGreatDoor

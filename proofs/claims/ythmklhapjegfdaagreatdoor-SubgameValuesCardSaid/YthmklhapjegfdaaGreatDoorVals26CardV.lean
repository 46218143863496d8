/- The tied card of SubgameValues: for every two lists of numbers and every number the statement returns true. -/
import Derived.Test.YthmklhapjegfdaaGreatDoorV46
import Derived.Test.YthmklhapjegfdaaGreatDoorCards
import Derived.Test.YthmklhapjegfdaaGreatDoorTie
import Derived.SevenTiedAt
set_option linter.all false
set_option maxRecDepth 100000
set_option maxHeartbeats 12800000
namespace Go.Proofs.YthmklhapjegfdaaGreatDoor
open Go
theorem subgameValues_card:Rows.SubgameValuesCardSaid :=
 Claim7.holds_tied_plain_at .later [] [.data] true (true, "2d00f3aeac36b61c52c6090584b86a58ae9f8b619a6dad9eef5f558641acb082") true
  subgameValues_holds (fun _ h=>by cases h) ak (fun _ h=>by cases h) subgameValues_row_tie rfl ⟨rfl,rfl⟩ ak rfl
  (fun f fn hf hfn=>by
   obtain rfl:f=7:=Option.some.inj ((show Tryz.prog.funcNamed "parlour/parlourlaw26.SubgameValues" = some 7 by kernel_rfl).symm.trans hf) |>.symm;obtain rfl:fn=Tryz.f7:=(Option.some.inj (Tryz.func7.symm.trans hfn)).symm;refine⟨ak,fun j t ht=>?_⟩;rw[Tryz.params7] at ht;rcases j with _ | _ | _ | j
   ·obtain rfl:t=26:=by simpa using ht.symm
    exact(show Tryz.prog.wantsStandIn 26=false by kernel_rfl)
   ·obtain rfl:t=26:=by simpa using ht.symm
    exact(show Tryz.prog.wantsStandIn 26=false by kernel_rfl)
   ·obtain rfl:t=3:=by simpa using ht.symm
    exact(show Tryz.prog.wantsStandIn 3=false by kernel_rfl)
   ·simp at ht)
  ak
#print axioms subgameValues_card
end Go.Proofs.YthmklhapjegfdaaGreatDoor

/- The tied card of SubgameLeast: for every list of numbers and every three numbers the statement returns true. -/
import Derived.Test.YthmklhapjegfdaaGreatDoorL51
import Derived.Test.YthmklhapjegfdaaGreatDoorCards
import Derived.Test.YthmklhapjegfdaaGreatDoorTie
import Derived.SevenTiedAt
set_option linter.all false
set_option maxRecDepth 100000
set_option maxHeartbeats 12800000
namespace Go.Proofs.YthmklhapjegfdaaGreatDoor
open Go
theorem subgameLeast_card:Rows.SubgameLeastCardSaid :=
 Claim7.holds_tied_plain_at .later [] [.data] true (true, "2d00f3aeac36b61c52c6090584b86a58ae9f8b619a6dad9eef5f558641acb082") true
  subgameLeast_holds (fun _ h=>by cases h) (by kernel_rfl) (fun _ h=>by cases h) subgameLeast_row_tie rfl ⟨rfl,rfl⟩ (by kernel_rfl) rfl
  (fun f fn hf hfn=>by
   obtain rfl:f=6:=Option.some.inj ((show Tryz.prog.funcNamed "parlour/parlourlaw26.SubgameLeast" = some 6 by kernel_rfl).symm.trans hf) |>.symm;obtain rfl:fn=Tryz.f6:=(Option.some.inj (Tryz.func6.symm.trans hfn)).symm;refine⟨by kernel_rfl,fun j t ht=>?_⟩;rw[Tryz.params6] at ht;rcases j with _ | _ | _ | _ | j
   ·obtain rfl:t=26:=by simpa using ht.symm
    exact(show Tryz.prog.wantsStandIn 26=false by kernel_rfl)
   ·obtain rfl:t=3:=by simpa using ht.symm
    exact(show Tryz.prog.wantsStandIn 3=false by kernel_rfl)
   ·obtain rfl:t=3:=by simpa using ht.symm
    exact(show Tryz.prog.wantsStandIn 3=false by kernel_rfl)
   ·obtain rfl:t=3:=by simpa using ht.symm
    exact(show Tryz.prog.wantsStandIn 3=false by kernel_rfl)
   ·simp at ht)
  (by kernel_rfl)
#print axioms subgameLeast_card
end Go.Proofs.YthmklhapjegfdaaGreatDoor

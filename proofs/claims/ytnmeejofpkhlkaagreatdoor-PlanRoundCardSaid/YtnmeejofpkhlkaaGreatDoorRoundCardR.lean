/- The tied card of PlanRound: for every two lists of numbers and a number the statement returns true. -/
import Derived.Test.YtnmeejofpkhlkaaGreatDoorR42
import Derived.Test.YtnmeejofpkhlkaaGreatDoorCards
import Derived.Test.YtnmeejofpkhlkaaGreatDoorTie
import Derived.SevenTiedAt
set_option linter.all false
set_option maxRecDepth 100000
set_option maxHeartbeats 12800000
namespace Go.Proofs.YtnmeejofpkhlkaaGreatDoor
open Go
theorem planRound_card:Rows.PlanRoundCardSaid :=
 Claim7.holds_tied_plain_at .later [] [.data] true (true, "7d9a5963576cb2ddccf794616fb20018076335798606f700b39aeea40a0e3c7a") false
  planRound_holds (fun _ h=>by cases h) ah (fun _ h=>by cases h) planRound_row_tie rfl ⟨rfl,rfl⟩ ah rfl
  (fun f fn hf hfn=>by
   obtain rfl:f=4:=Option.some.inj ((show Tryz.prog.funcNamed "parlour/parlourlaw16.PlanRound" = some 4 by kernel_rfl).symm.trans hf) |>.symm;obtain rfl:fn=Tryz.f4:=(Option.some.inj (Tryz.func4.symm.trans hfn)).symm;refine⟨ah,fun j t ht=>?_⟩;rw[Tryz.params4] at ht;rcases j with _ | _ | _ | j
   ·obtain rfl:t=22:=by simpa using ht.symm
    exact(show Tryz.prog.wantsStandIn 22=false by kernel_rfl)
   ·obtain rfl:t=22:=by simpa using ht.symm
    exact(show Tryz.prog.wantsStandIn 22=false by kernel_rfl)
   ·obtain rfl:t=3:=by simpa using ht.symm
    exact(show Tryz.prog.wantsStandIn 3=false by kernel_rfl)
   ·simp at ht)
  ah
#print axioms planRound_card
end Go.Proofs.YtnmeejofpkhlkaaGreatDoor

/- Part of a claim. -/
import Derived.Test.YtnmeejofpkhlkaaGreatDoorE39
import Derived.Test.YtnmeejofpkhlkaaGreatDoorCards
import Derived.Test.YtnmeejofpkhlkaaGreatDoorTie
import Derived.SevenTiedAt
set_option linter.all false
set_option maxRecDepth 100000
set_option maxHeartbeats 12800000
namespace Go.Proofs.YtnmeejofpkhlkaaGreatDoor
open Option.some renaming inj->KJ
open Go
theorem valueLinear_card:Rows.ValueLinearCardSaid :=
 Claim7.holds_tied_plain_at .later [] [.data] true (true, "7d9a5963576cb2ddccf794616fb20018076335798606f700b39aeea40a0e3c7a") false
  valueLinear_holds (λ_ h=>by cases h) ak (λ_ h=>by cases h) valueLinear_row_tie rfl ⟨rfl,rfl⟩ ak rfl
  (λf fn hf hfn=>by
   obtain rfl:f=3:=KJ ((show Tryz.prog.funcNamed "parlour/parlourlaw17.ValueLinear" = some 3 by kernel_rfl).symm.trans hf) |>.symm;obtain rfl:fn=Tryz.f3:=(KJ (Tryz.func3.symm.trans hfn)).symm;refine⟨ak,λj t ht=>?_⟩;rw[Tryz.params3] at ht;rcases j with _ | _ | _ | _ | _ | _ | j
   ·obtain rfl:t=22:=by simpa using ht.symm
    exact(show Tryz.prog.wantsStandIn 22=false by kernel_rfl)
   ·obtain rfl:t=22:=by simpa using ht.symm
    exact(show Tryz.prog.wantsStandIn 22=false by kernel_rfl)
   ·obtain rfl:t=22:=by simpa using ht.symm
    exact(show Tryz.prog.wantsStandIn 22=false by kernel_rfl)
   ·obtain rfl:t=3:=by simpa using ht.symm
    exact(show Tryz.prog.wantsStandIn 3=false by kernel_rfl)
   ·obtain rfl:t=3:=by simpa using ht.symm
    exact(show Tryz.prog.wantsStandIn 3=false by kernel_rfl)
   ·obtain rfl:t=3:=by simpa using ht.symm
    exact(show Tryz.prog.wantsStandIn 3=false by kernel_rfl)
   ·simp at ht)
  ak
#print axioms valueLinear_card
end Go.Proofs.YtnmeejofpkhlkaaGreatDoor

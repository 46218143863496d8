/- The tied card of ValueFlows: for every two lists of numbers and every two numbers the statement returns true. -/
import Derived.Test.YtkcheepafifjaaaGreatDoorF48
import Derived.Test.YtkcheepafifjaaaGreatDoorCards
import Derived.Test.YtkcheepafifjaaaGreatDoorTie
import Derived.SevenTiedAt
set_option linter.all false
set_option maxRecDepth 100000
set_option maxHeartbeats 12800000
namespace Go.Proofs.YtkcheepafifjaaaGreatDoor
open Go
theorem valueFlows_card:Rows.ValueFlowsCardSaid :=
 Claim7.holds_tied_plain_at .later [] [.data] true (true, "5c8012e5a5723cec9db206065c6f20e2b8608e23ca89d4ee80e1c5906ce11bd5") false
  valueFlows_holds (fun _ h=>by cases h) (by kernel_rfl) (fun _ h=>by cases h) valueFlows_row_tie rfl ⟨rfl,rfl⟩ (by kernel_rfl) rfl
  (fun f fn hf hfn=>by
   obtain rfl:f=6:=Option.some.inj ((show Tryz.prog.funcNamed "parlour/parlourlaw17.ValueFlows" = some 6 by kernel_rfl).symm.trans hf) |>.symm;obtain rfl:fn=Tryz.f6:=(Option.some.inj (Tryz.func6.symm.trans hfn)).symm;refine⟨by kernel_rfl,fun j t ht=>?_⟩;rw[Tryz.params6] at ht;rcases j with _ | _ | _ | _ | j
   ·obtain rfl:t=57:=by simpa using ht.symm
    exact(show Tryz.prog.wantsStandIn 57=false by kernel_rfl)
   ·obtain rfl:t=57:=by simpa using ht.symm
    exact(show Tryz.prog.wantsStandIn 57=false by kernel_rfl)
   ·obtain rfl:t=3:=by simpa using ht.symm
    exact(show Tryz.prog.wantsStandIn 3=false by kernel_rfl)
   ·obtain rfl:t=3:=by simpa using ht.symm
    exact(show Tryz.prog.wantsStandIn 3=false by kernel_rfl)
   ·simp at ht)
  (by kernel_rfl)
#print axioms valueFlows_card
end Go.Proofs.YtkcheepafifjaaaGreatDoor

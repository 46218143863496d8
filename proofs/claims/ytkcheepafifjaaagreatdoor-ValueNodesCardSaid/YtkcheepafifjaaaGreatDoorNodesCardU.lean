/- The tied card of ValueNodes: for every game and every strategy the statement returns true and leaves its arguments as they were. -/
import Derived.Test.YtkcheepafifjaaaGreatDoorU49
import Derived.Test.YtkcheepafifjaaaGreatDoorCards
import Derived.Test.YtkcheepafifjaaaGreatDoorTie
import Derived.SevenTiedAt
set_option linter.all false
set_option maxRecDepth 100000
set_option maxHeartbeats 12800000
namespace Go.Proofs.YtkcheepafifjaaaGreatDoor
open Go
theorem valueNodes_card:Rows.ValueNodesCardSaid :=
 Claim7.holds_tied_plain_at .later [] [.data] true (true, "5c8012e5a5723cec9db206065c6f20e2b8608e23ca89d4ee80e1c5906ce11bd5") false
  valueNodes_holds (fun _ h=>by cases h) (by kernel_rfl) (fun _ h=>by cases h) valueNodes_row_tie rfl ⟨rfl,rfl⟩ (by kernel_rfl) rfl
  (fun f fn hf hfn=>by
   obtain rfl:f=4:=Option.some.inj ((show Tryz.prog.funcNamed "parlour/parlourlaw17.ValueNodes" = some 4 by kernel_rfl).symm.trans hf) |>.symm;obtain rfl:fn=Tryz.f4:=(Option.some.inj (Tryz.func4.symm.trans hfn)).symm;refine⟨by kernel_rfl,fun j t ht=>?_⟩;rw[Tryz.params4] at ht;have h3:t=25∨t=27:=by
    rcases j with _ | _ | j
    ·exact .inl (by simpa using ht.symm)
    ·exact .inr (by simpa using ht.symm)
    ·simp at ht
   rcases h3 with rfl | rfl
   ·exact(show Tryz.prog.wantsStandIn 25=false by kernel_rfl)
   ·exact(show Tryz.prog.wantsStandIn 27=false by kernel_rfl))
  (by kernel_rfl)
#print axioms valueNodes_card
end Go.Proofs.YtkcheepafifjaaaGreatDoor

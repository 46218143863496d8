/- The tied card of ValueZero: for every two lists of numbers the statement returns true. -/
import Derived.Test.YtkcheepafifjaaaGreatDoorZ48
import Derived.Test.YtkcheepafifjaaaGreatDoorCards
import Derived.Test.YtkcheepafifjaaaGreatDoorTie
import Derived.SevenTiedAt
set_option linter.all false
set_option maxRecDepth 100000
set_option maxHeartbeats 12800000
namespace Go.Proofs.YtkcheepafifjaaaGreatDoor
open Go
theorem valueZero_card:Rows.ValueZeroCardSaid :=
 Claim7.holds_tied_plain_at .later [] [.data] true (true, "5c8012e5a5723cec9db206065c6f20e2b8608e23ca89d4ee80e1c5906ce11bd5") false
  valueZero_holds (fun _ h=>by cases h) (by kernel_rfl) (fun _ h=>by cases h) valueZero_row_tie rfl ⟨rfl,rfl⟩ (by kernel_rfl) rfl
  (fun f fn hf hfn=>by
   obtain rfl:f=7:=Option.some.inj ((show Tryz.prog.funcNamed "parlour/parlourlaw17.ValueZero" = some 7 by kernel_rfl).symm.trans hf) |>.symm;obtain rfl:fn=Tryz.f7:=(Option.some.inj (Tryz.func7.symm.trans hfn)).symm;refine⟨by kernel_rfl,fun j t ht=>?_⟩;rw[Tryz.params7] at ht;have h3:t=57:=by
    rcases j with _ | _ | j
    ·simpa using ht.symm
    ·simpa using ht.symm
    ·simp at ht
   subst h3;exact(show Tryz.prog.wantsStandIn 57=false by kernel_rfl))
  (by kernel_rfl)
#print axioms valueZero_card
end Go.Proofs.YtkcheepafifjaaaGreatDoor

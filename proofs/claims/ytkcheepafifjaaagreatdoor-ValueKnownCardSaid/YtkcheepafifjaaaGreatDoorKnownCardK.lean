/- The tied card of ValueKnown: the statement, which has no argument, returns true. -/
import Derived.Test.YtkcheepafifjaaaGreatDoorK42
import Derived.Test.YtkcheepafifjaaaGreatDoorCards
import Derived.Test.YtkcheepafifjaaaGreatDoorTie
import Derived.SevenTiedAt
set_option linter.all false
set_option maxRecDepth 100000
set_option maxHeartbeats 12800000
namespace Go.Proofs.YtkcheepafifjaaaGreatDoor
open Go
theorem valueKnown_card:Rows.ValueKnownCardSaid :=
 Claim7.holds_tied_plain_at .later [] [.data] true (true, "5c8012e5a5723cec9db206065c6f20e2b8608e23ca89d4ee80e1c5906ce11bd5") false
  valueKnown_holds (fun _ h=>by cases h) (by kernel_rfl) (fun _ h=>by cases h) valueKnown_row_tie rfl ⟨rfl,rfl⟩ (by kernel_rfl) rfl
  (fun f fn hf hfn=>by
   obtain rfl:f=5:=Option.some.inj ((show Tryz.prog.funcNamed "parlour/parlourlaw17.ValueKnown" = some 5 by kernel_rfl).symm.trans hf) |>.symm;obtain rfl:fn=Tryz.f5:=(Option.some.inj (Tryz.func5.symm.trans hfn)).symm;refine⟨by kernel_rfl,fun j t ht=>?_⟩;rw[Tryz.params5] at ht;simp at ht)
  (by kernel_rfl)
#print axioms valueKnown_card
end Go.Proofs.YtkcheepafifjaaaGreatDoor

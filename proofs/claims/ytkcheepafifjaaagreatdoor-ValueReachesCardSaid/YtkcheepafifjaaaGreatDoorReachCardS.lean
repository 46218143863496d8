/- The tied card of ValueReaches. -/
import Derived.Test.YtkcheepafifjaaaGreatDoorS47
import Derived.Test.YtkcheepafifjaaaGreatDoorCards
import Derived.Test.YtkcheepafifjaaaGreatDoorTie
import Derived.SevenTiedAt
set_option linter.all false
namespace Go.Proofs.YtkcheepafifjaaaGreatDoor
open Go
set_option maxRecDepth 100000 in
theorem valueReaches_card : Rows.ValueReachesCardSaid :=
 Claim7.holds_tied_plain_at .later [] [.data] true (true, "5c8012e5a5723cec9db206065c6f20e2b8608e23ca89d4ee80e1c5906ce11bd5") false
  valueReaches_holds (fun _ h => by cases h) (by kernel_rfl) (fun _ h => by cases h) valueReaches_row_tie rfl ⟨rfl, rfl⟩ (by kernel_rfl) rfl
  (fun f fn hf hfn => by
   obtain rfl : f = 3 := Option.some.inj ((show Tryz.prog.funcNamed "parlour/parlourlaw17.ValueReaches" = some 3 by kernel_rfl).symm.trans hf) |>.symm;obtain rfl : fn = Tryz.f3 := (Option.some.inj (Tryz.func3.symm.trans hfn)).symm;refine ⟨by kernel_rfl, fun j t ht => ?_⟩;rw [Tryz.params3] at ht;have h3 : t = 25 ∨ t = 27 ∨ t = 3 := by
    rcases j with _ | _ | _ | j
    ·exact .inl (by simpa using ht.symm)
    ·exact .inr (.inl (by simpa using ht.symm))
    ·exact .inr (.inr (by simpa using ht.symm))
    ·simp at ht
   rcases h3 with rfl | rfl | rfl
   ·exact (show Tryz.prog.wantsStandIn 25 = false by kernel_rfl)
   ·exact (show Tryz.prog.wantsStandIn 27 = false by kernel_rfl)
   ·exact (show Tryz.prog.wantsStandIn 3 = false by kernel_rfl))
  (by kernel_rfl)
#print axioms valueReaches_card
end Go.Proofs.YtkcheepafifjaaaGreatDoor

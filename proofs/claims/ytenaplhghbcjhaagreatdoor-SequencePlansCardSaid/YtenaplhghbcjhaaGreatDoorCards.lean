/-
  DERIVED. GIVEN WITH THE SEED: THE CARDS: each row of YtenaplhghbcjhaaGreatDoorRows.lean that lists a variable, with what it lists TIED to the program's text (the seventh form; the later family's looks); each row that meets fmt, with fmt's text TOLD by the authors' own Lean function (tested against real Go, not proved from fmt's source: count such statements apart). THE CARD IS WHAT COUNTS. Prove the row's statement (the work); the ties are given (YtenaplhghbcjhaaGreatDoorTie.lean); close each card by the builder's one call (the guide's Derived/Test/ToyasCard.lean, 'card_holds'). Laid BY PROGRAM, IN A SANDBOX (cutbox-door.mjs). By AI agents, Wed Nov 11 2026. No macro, syntax, notation, axiom, sorry.
-/
import Derived.Test.YtenaplhghbcjhaaGreatDoorRows
import GoSem.ClaimSeven
namespace Go.Proofs.YtenaplhghbcjhaaGreatDoor
namespace Rows

/-- THE TIED CARD OF 'parlourlaw22.SequencePlans'. -/
def sequencePlansCard : Claim7 := { stood := { row := sequencePlansRow, standIns := [], harness := (true, "30c311f9edb5e4f4072a9aea05bfbc697add4ef0372f0d0c15e7310b5a486a1b"), looks := false }, kinds := [], alts := [], laidByText := true, laidKinds := [.data], laidTests := true, laidLooks := .later }
def SequencePlansCardSaid : Prop := Claim7.holds Tryz.pinned (.plain (OpenSpec.ofChange sequencePlansSpec)) sequencePlansCard

/-- THE SECOND FORM's CARD OF 'parlourlaw22.SequencePlans'. -/
def sequencePlansUptoCard : Claim7 := { stood := { row := sequencePlansUptoRow, standIns := [], harness := (true, "30c311f9edb5e4f4072a9aea05bfbc697add4ef0372f0d0c15e7310b5a486a1b"), looks := false }, kinds := [], alts := [], laidByText := true, laidKinds := [.data], laidTests := true, laidLooks := .later }
def SequencePlansUptoCardSaid : Prop := Claim7.holds Tryz.pinned (.plain (OpenSpec.upto sequencePlansSpec)) sequencePlansUptoCard
end Rows
end Go.Proofs.YtenaplhghbcjhaaGreatDoor

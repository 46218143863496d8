/-
  DERIVED. GIVEN WITH THE SEED: THE CARDS: each row of YtnmeejofpkhlkaaGreatDoorRows.lean that lists a variable, with what it lists TIED to the program's text (the seventh form; the later family's looks); each row that meets fmt, with fmt's text TOLD by the authors' own Lean function (tested against real Go, not proved from fmt's source: count such statements apart). THE CARD IS WHAT COUNTS. Prove the row's statement (the work); the ties are given (YtnmeejofpkhlkaaGreatDoorTie.lean); close each card by the builder's one call (the guide's Derived/Test/ToyasCard.lean, 'card_holds'). Laid BY PROGRAM, IN A SANDBOX (cutbox-door.mjs). By AI agents, Wed Nov 11 2026. No macro, syntax, notation, axiom, sorry.
-/
import Derived.Test.YtnmeejofpkhlkaaGreatDoorRows
import GoSem.ClaimSeven
namespace Go.Proofs.YtnmeejofpkhlkaaGreatDoor
namespace Rows

/-- THE TIED CARD OF 'parlourlaw17.ValueLinear'. -/
def valueLinearCard : Claim7 := { stood := { row := valueLinearRow, standIns := [], harness := (true, "7d9a5963576cb2ddccf794616fb20018076335798606f700b39aeea40a0e3c7a"), looks := false }, kinds := [], alts := [], laidByText := true, laidKinds := [.data], laidTests := true, laidLooks := .later }
def ValueLinearCardSaid : Prop := Claim7.holds Tryz.pinned (.plain (OpenSpec.ofChange valueLinearSpec)) valueLinearCard

/-- THE TIED CARD OF 'parlourlaw16.PlanRound'. -/
def planRoundCard : Claim7 := { stood := { row := planRoundRow, standIns := [], harness := (true, "7d9a5963576cb2ddccf794616fb20018076335798606f700b39aeea40a0e3c7a"), looks := false }, kinds := [], alts := [], laidByText := true, laidKinds := [.data], laidTests := true, laidLooks := .later }
def PlanRoundCardSaid : Prop := Claim7.holds Tryz.pinned (.plain (OpenSpec.ofChange planRoundSpec)) planRoundCard

/-- THE TIED CARD OF 'parlourlaw16.PlanLinear'. -/
def planLinearCard : Claim7 := { stood := { row := planLinearRow, standIns := [], harness := (true, "7d9a5963576cb2ddccf794616fb20018076335798606f700b39aeea40a0e3c7a"), looks := false }, kinds := [], alts := [], laidByText := true, laidKinds := [.data], laidTests := true, laidLooks := .later }
def PlanLinearCardSaid : Prop := Claim7.holds Tryz.pinned (.plain (OpenSpec.ofChange planLinearSpec)) planLinearCard

/-- THE SECOND FORM's CARD OF 'parlourlaw17.ValueLinear'. -/
def valueLinearUptoCard : Claim7 := { stood := { row := valueLinearUptoRow, standIns := [], harness := (true, "7d9a5963576cb2ddccf794616fb20018076335798606f700b39aeea40a0e3c7a"), looks := false }, kinds := [], alts := [], laidByText := true, laidKinds := [.data], laidTests := true, laidLooks := .later }
def ValueLinearUptoCardSaid : Prop := Claim7.holds Tryz.pinned (.plain (OpenSpec.upto valueLinearSpec)) valueLinearUptoCard

/-- THE SECOND FORM's CARD OF 'parlourlaw16.PlanRound'. -/
def planRoundUptoCard : Claim7 := { stood := { row := planRoundUptoRow, standIns := [], harness := (true, "7d9a5963576cb2ddccf794616fb20018076335798606f700b39aeea40a0e3c7a"), looks := false }, kinds := [], alts := [], laidByText := true, laidKinds := [.data], laidTests := true, laidLooks := .later }
def PlanRoundUptoCardSaid : Prop := Claim7.holds Tryz.pinned (.plain (OpenSpec.upto planRoundSpec)) planRoundUptoCard

/-- THE SECOND FORM's CARD OF 'parlourlaw16.PlanLinear'. -/
def planLinearUptoCard : Claim7 := { stood := { row := planLinearUptoRow, standIns := [], harness := (true, "7d9a5963576cb2ddccf794616fb20018076335798606f700b39aeea40a0e3c7a"), looks := false }, kinds := [], alts := [], laidByText := true, laidKinds := [.data], laidTests := true, laidLooks := .later }
def PlanLinearUptoCardSaid : Prop := Claim7.holds Tryz.pinned (.plain (OpenSpec.upto planLinearSpec)) planLinearUptoCard
end Rows
end Go.Proofs.YtnmeejofpkhlkaaGreatDoor

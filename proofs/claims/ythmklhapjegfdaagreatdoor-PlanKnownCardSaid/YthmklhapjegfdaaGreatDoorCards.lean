/-
  DERIVED. GIVEN WITH THE SEED: THE CARDS: each row of YthmklhapjegfdaaGreatDoorRows.lean that lists a variable, with what it lists TIED to the program's text (the seventh form; the later family's looks); each row that meets fmt, with fmt's text TOLD by the authors' own Lean function (tested against real Go, not proved from fmt's source: count such statements apart). THE CARD IS WHAT COUNTS. Prove the row's statement (the work); the ties are given (YthmklhapjegfdaaGreatDoorTie.lean); close each card by the builder's one call (the guide's Derived/Test/ToyasCard.lean, 'card_holds'). Laid BY PROGRAM, IN A SANDBOX (cutbox-door.mjs). By AI agents, Wed Nov 11 2026. No macro, syntax, notation, axiom, sorry.
-/
import Derived.Test.YthmklhapjegfdaaGreatDoorRows
import GoSem.ClaimSeven
namespace Go.Proofs.YthmklhapjegfdaaGreatDoor
namespace Rows

/-- THE TIED CARD OF 'parlourlaw26.SubgameReplaces'. -/
def subgameReplacesCard : Claim7 := { stood := { row := subgameReplacesRow, standIns := [], harness := (true, "2d00f3aeac36b61c52c6090584b86a58ae9f8b619a6dad9eef5f558641acb082"), looks := true }, kinds := [], alts := [], laidByText := true, laidKinds := [.data], laidTests := true, laidLooks := .later }
def SubgameReplacesCardSaid : Prop := Claim7.holds Tryz.pinned (.plain (OpenSpec.ofChange subgameReplacesSpec)) subgameReplacesCard

/-- THE TIED CARD OF 'parlourlaw16.PlanChecks'. -/
def planChecksCard : Claim7 := { stood := { row := planChecksRow, standIns := [], harness := (true, "2d00f3aeac36b61c52c6090584b86a58ae9f8b619a6dad9eef5f558641acb082"), looks := true }, kinds := [], alts := [], laidByText := true, laidKinds := [.data], laidTests := true, laidLooks := .later }
def PlanChecksCardSaid : Prop := Claim7.holds Tryz.pinned (.plain (OpenSpec.ofChange planChecksSpec)) planChecksCard

/-- THE TIED CARD OF 'parlourlaw26.SubgameKnown'. -/
def subgameKnownCard : Claim7 := { stood := { row := subgameKnownRow, standIns := [], harness := (true, "2d00f3aeac36b61c52c6090584b86a58ae9f8b619a6dad9eef5f558641acb082"), looks := true }, kinds := [], alts := [], laidByText := true, laidKinds := [.data], laidTests := true, laidLooks := .later }
def SubgameKnownCardSaid : Prop := Claim7.holds Tryz.pinned (.plain (OpenSpec.ofChange subgameKnownSpec)) subgameKnownCard

/-- THE TIED CARD OF 'parlourlaw26.SubgameLeast'. -/
def subgameLeastCard : Claim7 := { stood := { row := subgameLeastRow, standIns := [], harness := (true, "2d00f3aeac36b61c52c6090584b86a58ae9f8b619a6dad9eef5f558641acb082"), looks := true }, kinds := [], alts := [], laidByText := true, laidKinds := [.data], laidTests := true, laidLooks := .later }
def SubgameLeastCardSaid : Prop := Claim7.holds Tryz.pinned (.plain (OpenSpec.ofChange subgameLeastSpec)) subgameLeastCard

/-- THE TIED CARD OF 'parlourlaw26.SubgameValues'. -/
def subgameValuesCard : Claim7 := { stood := { row := subgameValuesRow, standIns := [], harness := (true, "2d00f3aeac36b61c52c6090584b86a58ae9f8b619a6dad9eef5f558641acb082"), looks := true }, kinds := [], alts := [], laidByText := true, laidKinds := [.data], laidTests := true, laidLooks := .later }
def SubgameValuesCardSaid : Prop := Claim7.holds Tryz.pinned (.plain (OpenSpec.ofChange subgameValuesSpec)) subgameValuesCard

/-- THE TIED CARD OF 'parlourlaw16.PlanMixes'. -/
def planMixesCard : Claim7 := { stood := { row := planMixesRow, standIns := [], harness := (true, "2d00f3aeac36b61c52c6090584b86a58ae9f8b619a6dad9eef5f558641acb082"), looks := true }, kinds := [], alts := [], laidByText := true, laidKinds := [.data], laidTests := true, laidLooks := .later }
def PlanMixesCardSaid : Prop := Claim7.holds Tryz.pinned (.plain (OpenSpec.ofChange planMixesSpec)) planMixesCard

/-- THE TIED CARD OF 'parlourlaw16.PlanKnown'. -/
def planKnownCard : Claim7 := { stood := { row := planKnownRow, standIns := [], harness := (true, "2d00f3aeac36b61c52c6090584b86a58ae9f8b619a6dad9eef5f558641acb082"), looks := true }, kinds := [], alts := [], laidByText := true, laidKinds := [.data], laidTests := true, laidLooks := .later }
def PlanKnownCardSaid : Prop := Claim7.holds Tryz.pinned (.plain (OpenSpec.ofChange planKnownSpec)) planKnownCard

/-- THE TIED CARD OF 'parlourlaw16.PlanRound'. -/
def planRoundCard : Claim7 := { stood := { row := planRoundRow, standIns := [], harness := (true, "2d00f3aeac36b61c52c6090584b86a58ae9f8b619a6dad9eef5f558641acb082"), looks := true }, kinds := [], alts := [], laidByText := true, laidKinds := [.data], laidTests := true, laidLooks := .later }
def PlanRoundCardSaid : Prop := Claim7.holds Tryz.pinned (.plain (OpenSpec.ofChange planRoundSpec)) planRoundCard

/-- THE TIED CARD OF 'parlourlaw16.PlanLinear'. -/
def planLinearCard : Claim7 := { stood := { row := planLinearRow, standIns := [], harness := (true, "2d00f3aeac36b61c52c6090584b86a58ae9f8b619a6dad9eef5f558641acb082"), looks := true }, kinds := [], alts := [], laidByText := true, laidKinds := [.data], laidTests := true, laidLooks := .later }
def PlanLinearCardSaid : Prop := Claim7.holds Tryz.pinned (.plain (OpenSpec.ofChange planLinearSpec)) planLinearCard

/-- THE TIED CARD OF 'parlourlaw16.PlanPure'. -/
def planPureCard : Claim7 := { stood := { row := planPureRow, standIns := [], harness := (true, "2d00f3aeac36b61c52c6090584b86a58ae9f8b619a6dad9eef5f558641acb082"), looks := true }, kinds := [], alts := [], laidByText := true, laidKinds := [.data], laidTests := true, laidLooks := .later }
def PlanPureCardSaid : Prop := Claim7.holds Tryz.pinned (.plain (OpenSpec.ofChange planPureSpec)) planPureCard

/-- THE SECOND FORM's CARD OF 'parlourlaw26.SubgameReplaces'. -/
def subgameReplacesUptoCard : Claim7 := { stood := { row := subgameReplacesUptoRow, standIns := [], harness := (true, "2d00f3aeac36b61c52c6090584b86a58ae9f8b619a6dad9eef5f558641acb082"), looks := true }, kinds := [], alts := [], laidByText := true, laidKinds := [.data], laidTests := true, laidLooks := .later }
def SubgameReplacesUptoCardSaid : Prop := Claim7.holds Tryz.pinned (.plain (OpenSpec.upto subgameReplacesSpec)) subgameReplacesUptoCard

/-- THE SECOND FORM's CARD OF 'parlourlaw16.PlanChecks'. -/
def planChecksUptoCard : Claim7 := { stood := { row := planChecksUptoRow, standIns := [], harness := (true, "2d00f3aeac36b61c52c6090584b86a58ae9f8b619a6dad9eef5f558641acb082"), looks := true }, kinds := [], alts := [], laidByText := true, laidKinds := [.data], laidTests := true, laidLooks := .later }
def PlanChecksUptoCardSaid : Prop := Claim7.holds Tryz.pinned (.plain (OpenSpec.upto planChecksSpec)) planChecksUptoCard

/-- THE SECOND FORM's CARD OF 'parlourlaw26.SubgameKnown'. -/
def subgameKnownUptoCard : Claim7 := { stood := { row := subgameKnownUptoRow, standIns := [], harness := (true, "2d00f3aeac36b61c52c6090584b86a58ae9f8b619a6dad9eef5f558641acb082"), looks := true }, kinds := [], alts := [], laidByText := true, laidKinds := [.data], laidTests := true, laidLooks := .later }
def SubgameKnownUptoCardSaid : Prop := Claim7.holds Tryz.pinned (.plain (OpenSpec.upto subgameKnownSpec)) subgameKnownUptoCard

/-- THE SECOND FORM's CARD OF 'parlourlaw26.SubgameLeast'. -/
def subgameLeastUptoCard : Claim7 := { stood := { row := subgameLeastUptoRow, standIns := [], harness := (true, "2d00f3aeac36b61c52c6090584b86a58ae9f8b619a6dad9eef5f558641acb082"), looks := true }, kinds := [], alts := [], laidByText := true, laidKinds := [.data], laidTests := true, laidLooks := .later }
def SubgameLeastUptoCardSaid : Prop := Claim7.holds Tryz.pinned (.plain (OpenSpec.upto subgameLeastSpec)) subgameLeastUptoCard

/-- THE SECOND FORM's CARD OF 'parlourlaw26.SubgameValues'. -/
def subgameValuesUptoCard : Claim7 := { stood := { row := subgameValuesUptoRow, standIns := [], harness := (true, "2d00f3aeac36b61c52c6090584b86a58ae9f8b619a6dad9eef5f558641acb082"), looks := true }, kinds := [], alts := [], laidByText := true, laidKinds := [.data], laidTests := true, laidLooks := .later }
def SubgameValuesUptoCardSaid : Prop := Claim7.holds Tryz.pinned (.plain (OpenSpec.upto subgameValuesSpec)) subgameValuesUptoCard

/-- THE SECOND FORM's CARD OF 'parlourlaw16.PlanMixes'. -/
def planMixesUptoCard : Claim7 := { stood := { row := planMixesUptoRow, standIns := [], harness := (true, "2d00f3aeac36b61c52c6090584b86a58ae9f8b619a6dad9eef5f558641acb082"), looks := true }, kinds := [], alts := [], laidByText := true, laidKinds := [.data], laidTests := true, laidLooks := .later }
def PlanMixesUptoCardSaid : Prop := Claim7.holds Tryz.pinned (.plain (OpenSpec.upto planMixesSpec)) planMixesUptoCard

/-- THE SECOND FORM's CARD OF 'parlourlaw16.PlanKnown'. -/
def planKnownUptoCard : Claim7 := { stood := { row := planKnownUptoRow, standIns := [], harness := (true, "2d00f3aeac36b61c52c6090584b86a58ae9f8b619a6dad9eef5f558641acb082"), looks := true }, kinds := [], alts := [], laidByText := true, laidKinds := [.data], laidTests := true, laidLooks := .later }
def PlanKnownUptoCardSaid : Prop := Claim7.holds Tryz.pinned (.plain (OpenSpec.upto planKnownSpec)) planKnownUptoCard

/-- THE SECOND FORM's CARD OF 'parlourlaw16.PlanRound'. -/
def planRoundUptoCard : Claim7 := { stood := { row := planRoundUptoRow, standIns := [], harness := (true, "2d00f3aeac36b61c52c6090584b86a58ae9f8b619a6dad9eef5f558641acb082"), looks := true }, kinds := [], alts := [], laidByText := true, laidKinds := [.data], laidTests := true, laidLooks := .later }
def PlanRoundUptoCardSaid : Prop := Claim7.holds Tryz.pinned (.plain (OpenSpec.upto planRoundSpec)) planRoundUptoCard

/-- THE SECOND FORM's CARD OF 'parlourlaw16.PlanLinear'. -/
def planLinearUptoCard : Claim7 := { stood := { row := planLinearUptoRow, standIns := [], harness := (true, "2d00f3aeac36b61c52c6090584b86a58ae9f8b619a6dad9eef5f558641acb082"), looks := true }, kinds := [], alts := [], laidByText := true, laidKinds := [.data], laidTests := true, laidLooks := .later }
def PlanLinearUptoCardSaid : Prop := Claim7.holds Tryz.pinned (.plain (OpenSpec.upto planLinearSpec)) planLinearUptoCard

/-- THE SECOND FORM's CARD OF 'parlourlaw16.PlanPure'. -/
def planPureUptoCard : Claim7 := { stood := { row := planPureUptoRow, standIns := [], harness := (true, "2d00f3aeac36b61c52c6090584b86a58ae9f8b619a6dad9eef5f558641acb082"), looks := true }, kinds := [], alts := [], laidByText := true, laidKinds := [.data], laidTests := true, laidLooks := .later }
def PlanPureUptoCardSaid : Prop := Claim7.holds Tryz.pinned (.plain (OpenSpec.upto planPureSpec)) planPureUptoCard
end Rows
end Go.Proofs.YthmklhapjegfdaaGreatDoor

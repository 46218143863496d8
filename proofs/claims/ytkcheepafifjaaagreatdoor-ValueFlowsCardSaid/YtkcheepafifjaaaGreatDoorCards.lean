/-
  DERIVED. GIVEN WITH THE SEED: THE CARDS: each row of YtkcheepafifjaaaGreatDoorRows.lean that lists a variable, with what it lists TIED to the program's text (the seventh form; the later family's looks); each row that meets fmt, with fmt's text TOLD by the authors' own Lean function (tested against real Go, not proved from fmt's source: count such statements apart). THE CARD IS WHAT COUNTS. Prove the row's statement (the work); the ties are given (YtkcheepafifjaaaGreatDoorTie.lean); close each card by the builder's one call (the guide's Derived/Test/ToyasCard.lean, 'card_holds'). Laid BY PROGRAM, IN A SANDBOX (cutbox-door.mjs). By AI agents, Wed Nov 11 2026. No macro, syntax, notation, axiom, sorry.
-/
import Derived.Test.YtkcheepafifjaaaGreatDoorRows
import GoSem.ClaimSeven
namespace Go.Proofs.YtkcheepafifjaaaGreatDoor
namespace Rows

/-- THE TIED CARD OF 'parlourlaw17.ValueReaches'. -/
def valueReachesCard : Claim7 := { stood := { row := valueReachesRow, standIns := [], harness := (true, "5c8012e5a5723cec9db206065c6f20e2b8608e23ca89d4ee80e1c5906ce11bd5"), looks := false }, kinds := [], alts := [], laidByText := true, laidKinds := [.data], laidTests := true, laidLooks := .later }
def ValueReachesCardSaid : Prop := Claim7.holds Tryz.pinned (.plain (OpenSpec.ofChange valueReachesSpec)) valueReachesCard

/-- THE TIED CARD OF 'parlourlaw17.ValueNodes'. -/
def valueNodesCard : Claim7 := { stood := { row := valueNodesRow, standIns := [], harness := (true, "5c8012e5a5723cec9db206065c6f20e2b8608e23ca89d4ee80e1c5906ce11bd5"), looks := false }, kinds := [], alts := [], laidByText := true, laidKinds := [.data], laidTests := true, laidLooks := .later }
def ValueNodesCardSaid : Prop := Claim7.holds Tryz.pinned (.plain (OpenSpec.ofChange valueNodesSpec)) valueNodesCard

/-- THE TIED CARD OF 'parlourlaw17.ValueKnown'. -/
def valueKnownCard : Claim7 := { stood := { row := valueKnownRow, standIns := [], harness := (true, "5c8012e5a5723cec9db206065c6f20e2b8608e23ca89d4ee80e1c5906ce11bd5"), looks := false }, kinds := [], alts := [], laidByText := true, laidKinds := [.data], laidTests := true, laidLooks := .later }
def ValueKnownCardSaid : Prop := Claim7.holds Tryz.pinned (.plain (OpenSpec.ofChange valueKnownSpec)) valueKnownCard

/-- THE TIED CARD OF 'parlourlaw17.ValueFlows'. -/
def valueFlowsCard : Claim7 := { stood := { row := valueFlowsRow, standIns := [], harness := (true, "5c8012e5a5723cec9db206065c6f20e2b8608e23ca89d4ee80e1c5906ce11bd5"), looks := false }, kinds := [], alts := [], laidByText := true, laidKinds := [.data], laidTests := true, laidLooks := .later }
def ValueFlowsCardSaid : Prop := Claim7.holds Tryz.pinned (.plain (OpenSpec.ofChange valueFlowsSpec)) valueFlowsCard

/-- THE TIED CARD OF 'parlourlaw17.ValueZero'. -/
def valueZeroCard : Claim7 := { stood := { row := valueZeroRow, standIns := [], harness := (true, "5c8012e5a5723cec9db206065c6f20e2b8608e23ca89d4ee80e1c5906ce11bd5"), looks := false }, kinds := [], alts := [], laidByText := true, laidKinds := [.data], laidTests := true, laidLooks := .later }
def ValueZeroCardSaid : Prop := Claim7.holds Tryz.pinned (.plain (OpenSpec.ofChange valueZeroSpec)) valueZeroCard

/-- THE TIED CARD OF 'parlourlaw17.ValueLinear'. -/
def valueLinearCard : Claim7 := { stood := { row := valueLinearRow, standIns := [], harness := (true, "5c8012e5a5723cec9db206065c6f20e2b8608e23ca89d4ee80e1c5906ce11bd5"), looks := false }, kinds := [], alts := [], laidByText := true, laidKinds := [.data], laidTests := true, laidLooks := .later }
def ValueLinearCardSaid : Prop := Claim7.holds Tryz.pinned (.plain (OpenSpec.ofChange valueLinearSpec)) valueLinearCard

/-- THE SECOND FORM's CARD OF 'parlourlaw17.ValueReaches'. -/
def valueReachesUptoCard : Claim7 := { stood := { row := valueReachesUptoRow, standIns := [], harness := (true, "5c8012e5a5723cec9db206065c6f20e2b8608e23ca89d4ee80e1c5906ce11bd5"), looks := false }, kinds := [], alts := [], laidByText := true, laidKinds := [.data], laidTests := true, laidLooks := .later }
def ValueReachesUptoCardSaid : Prop := Claim7.holds Tryz.pinned (.plain (OpenSpec.upto valueReachesSpec)) valueReachesUptoCard

/-- THE SECOND FORM's CARD OF 'parlourlaw17.ValueNodes'. -/
def valueNodesUptoCard : Claim7 := { stood := { row := valueNodesUptoRow, standIns := [], harness := (true, "5c8012e5a5723cec9db206065c6f20e2b8608e23ca89d4ee80e1c5906ce11bd5"), looks := false }, kinds := [], alts := [], laidByText := true, laidKinds := [.data], laidTests := true, laidLooks := .later }
def ValueNodesUptoCardSaid : Prop := Claim7.holds Tryz.pinned (.plain (OpenSpec.upto valueNodesSpec)) valueNodesUptoCard

/-- THE SECOND FORM's CARD OF 'parlourlaw17.ValueKnown'. -/
def valueKnownUptoCard : Claim7 := { stood := { row := valueKnownUptoRow, standIns := [], harness := (true, "5c8012e5a5723cec9db206065c6f20e2b8608e23ca89d4ee80e1c5906ce11bd5"), looks := false }, kinds := [], alts := [], laidByText := true, laidKinds := [.data], laidTests := true, laidLooks := .later }
def ValueKnownUptoCardSaid : Prop := Claim7.holds Tryz.pinned (.plain (OpenSpec.upto valueKnownSpec)) valueKnownUptoCard

/-- THE SECOND FORM's CARD OF 'parlourlaw17.ValueFlows'. -/
def valueFlowsUptoCard : Claim7 := { stood := { row := valueFlowsUptoRow, standIns := [], harness := (true, "5c8012e5a5723cec9db206065c6f20e2b8608e23ca89d4ee80e1c5906ce11bd5"), looks := false }, kinds := [], alts := [], laidByText := true, laidKinds := [.data], laidTests := true, laidLooks := .later }
def ValueFlowsUptoCardSaid : Prop := Claim7.holds Tryz.pinned (.plain (OpenSpec.upto valueFlowsSpec)) valueFlowsUptoCard

/-- THE SECOND FORM's CARD OF 'parlourlaw17.ValueZero'. -/
def valueZeroUptoCard : Claim7 := { stood := { row := valueZeroUptoRow, standIns := [], harness := (true, "5c8012e5a5723cec9db206065c6f20e2b8608e23ca89d4ee80e1c5906ce11bd5"), looks := false }, kinds := [], alts := [], laidByText := true, laidKinds := [.data], laidTests := true, laidLooks := .later }
def ValueZeroUptoCardSaid : Prop := Claim7.holds Tryz.pinned (.plain (OpenSpec.upto valueZeroSpec)) valueZeroUptoCard

/-- THE SECOND FORM's CARD OF 'parlourlaw17.ValueLinear'. -/
def valueLinearUptoCard : Claim7 := { stood := { row := valueLinearUptoRow, standIns := [], harness := (true, "5c8012e5a5723cec9db206065c6f20e2b8608e23ca89d4ee80e1c5906ce11bd5"), looks := false }, kinds := [], alts := [], laidByText := true, laidKinds := [.data], laidTests := true, laidLooks := .later }
def ValueLinearUptoCardSaid : Prop := Claim7.holds Tryz.pinned (.plain (OpenSpec.upto valueLinearSpec)) valueLinearUptoCard
end Rows
end Go.Proofs.YtkcheepafifjaaaGreatDoor

/-
  NARROWER THAN 'FOR EVERY INPUT', by the rows' own cells (each row's printed sentence says how): SubgameReplaces: laid · PlanChecks: laid · SubgameKnown: laid · SubgameLeast: laid · SubgameValues: laid · PlanMixes: laid · PlanKnown: laid · PlanRound: laid · PlanLinear: laid · PlanPure: laid.
  DERIVED. THE GIVEN ROWS OF THIS SEAT. 10 by the template 'for every input the law returns true; each argument reads behind the call as it read before'; 0 by the template 'total and deterministic' (their statements: YthmklhapjegfdaaGreatDoorTotals.lean).
  GIVEN WITH THE SEED: the statements are not yours to turn. If you find one false, say at which input.
  Laid BY PROGRAM, IN A SANDBOX (cutbox-rows.mjs): the forced cells as the released guide's own fill.sh prints them over the translation 87fbcd5a006ac978… (all of the seat's roots in one cut). By AI agents, Wed Nov 11 2026. No macro, syntax, notation, axiom, sorry.
-/
import Derived.Test.YthmklhapjegfdaaGreatDoorChecked
import GoSem.Claim
import GoSem.ClaimJoined
import GoSem.ClaimMapViews
import Derived.JoinedTies
import Derived.KernelRfl
namespace Go.Proofs.YthmklhapjegfdaaGreatDoor
/- THE CELL 'sum', in the pinned program and in every row, IS THE sha256 OF THE DUMP (.gsa) THAT YthmklhapjegfdaaGreatDoorProg.lean LOADS. Nothing in Lean hashes anything: it is a label: what it is worth is what the hold of that sum in a sandbox is worth. -/
noncomputable def Tryz.pinned : Pinned := { name := "ythmklhapjegfdaagreatdoor", sum := "87fbcd5a006ac97800cf1744c62ec5ed31759444febba7594449bfb111c9b980", checked := Tryz.checked }
namespace Rows
def none {H : Type} : Left H := { results := [], args := [] }

/- WHAT THE LISTED PACKAGE-LEVEL VARIABLES READ AS WHEN THE CALL BEGINS. Each datum BY PROGRAM (the guide's laid-datum.mjs) off the statement by which the dump's own 'gosem.cut.vars' lays the variable. In a bare row this is a premise. The card (YthmklhapjegfdaaGreatDoorCards.lean) ties it to the program's text. -/
def laid_math_bits_deBruijn64tab {H : Type} : DataW H := .agg [.lit (.int .u8 0), .lit (.int .u8 1), .lit (.int .u8 56), .lit (.int .u8 2), .lit (.int .u8 57), .lit (.int .u8 49), .lit (.int .u8 28), .lit (.int .u8 3), .lit (.int .u8 61), .lit (.int .u8 58), .lit (.int .u8 42), .lit (.int .u8 50), .lit (.int .u8 38), .lit (.int .u8 29), .lit (.int .u8 17), .lit (.int .u8 4), .lit (.int .u8 62), .lit (.int .u8 47), .lit (.int .u8 59), .lit (.int .u8 36), .lit (.int .u8 45), .lit (.int .u8 43), .lit (.int .u8 51), .lit (.int .u8 22), .lit (.int .u8 53), .lit (.int .u8 39), .lit (.int .u8 33), .lit (.int .u8 30), .lit (.int .u8 24), .lit (.int .u8 18), .lit (.int .u8 12), .lit (.int .u8 5), .lit (.int .u8 63), .lit (.int .u8 55), .lit (.int .u8 48), .lit (.int .u8 27), .lit (.int .u8 60), .lit (.int .u8 41), .lit (.int .u8 37), .lit (.int .u8 16), .lit (.int .u8 46), .lit (.int .u8 35), .lit (.int .u8 44), .lit (.int .u8 21), .lit (.int .u8 52), .lit (.int .u8 32), .lit (.int .u8 23), .lit (.int .u8 11), .lit (.int .u8 54), .lit (.int .u8 26), .lit (.int .u8 40), .lit (.int .u8 15), .lit (.int .u8 34), .lit (.int .u8 20), .lit (.int .u8 31), .lit (.int .u8 10), .lit (.int .u8 25), .lit (.int .u8 14), .lit (.int .u8 19), .lit (.int .u8 9), .lit (.int .u8 13), .lit (.int .u8 8), .lit (.int .u8 7), .lit (.int .u8 6)]

/-- 'parlourlaw26.SubgameReplaces': WHATEVER THE INPUT: true; the input reads as it did. -/
def subgameReplacesSpec : ChangeSpec := { name := "subgameReplaces", fn := fun _ => fun
  | [d1, d2, d3, d4] => { results := [.lit (.bool true)], args := [d1, d2, d3, d4] }
  | _ => none }
def subgameReplacesRow : OpenClaim := { program := "ythmklhapjegfdaagreatdoor", sum := "87fbcd5a006ac97800cf1744c62ec5ed31759444febba7594449bfb111c9b980", func := "parlour/parlourlaw26.SubgameReplaces", spec := "subgameReplaces", unfollowed := true, recurses := true, named := ["math/bits.deBruijn64tab"], apart := false, laid := [("math/bits.deBruijn64tab", laid_math_bits_deBruijn64tab)] }
def SubgameReplacesSaid : Prop := subgameReplacesRow.holds Tryz.pinned (OpenSpec.ofChange subgameReplacesSpec)

/-- ITS FALSE NEIGHBOUR: 'it returns false'. Refute it at one input. -/
def subgameReplacesWrong : ChangeSpec := { name := "subgameReplaces", fn := fun _ => fun
  | [d1, d2, d3, d4] => { results := [.lit (.bool false)], args := [d1, d2, d3, d4] }
  | _ => none }
def SubgameReplacesWrongFalsely : Prop := subgameReplacesRow.holds Tryz.pinned (OpenSpec.ofChange subgameReplacesWrong)

/-- 'parlourlaw16.PlanChecks': WHATEVER THE INPUT: true; the input reads as it did. -/
def planChecksSpec : ChangeSpec := { name := "planChecks", fn := fun _ => fun
  | [d1, d2, d3] => { results := [.lit (.bool true)], args := [d1, d2, d3] }
  | _ => none }
def planChecksRow : OpenClaim := { program := "ythmklhapjegfdaagreatdoor", sum := "87fbcd5a006ac97800cf1744c62ec5ed31759444febba7594449bfb111c9b980", func := "parlour/parlourlaw16.PlanChecks", spec := "planChecks", unfollowed := true, recurses := true, named := ["math/bits.deBruijn64tab"], apart := false, laid := [("math/bits.deBruijn64tab", laid_math_bits_deBruijn64tab)] }
def PlanChecksSaid : Prop := planChecksRow.holds Tryz.pinned (OpenSpec.ofChange planChecksSpec)

/-- ITS FALSE NEIGHBOUR: 'it returns false'. Refute it at one input. -/
def planChecksWrong : ChangeSpec := { name := "planChecks", fn := fun _ => fun
  | [d1, d2, d3] => { results := [.lit (.bool false)], args := [d1, d2, d3] }
  | _ => none }
def PlanChecksWrongFalsely : Prop := planChecksRow.holds Tryz.pinned (OpenSpec.ofChange planChecksWrong)

/-- 'parlourlaw26.SubgameKnown': WHATEVER THE INPUT: true; the input reads as it did. -/
def subgameKnownSpec : ChangeSpec := { name := "subgameKnown", fn := fun _ => fun
  | [] => { results := [.lit (.bool true)], args := [] }
  | _ => none }
def subgameKnownRow : OpenClaim := { program := "ythmklhapjegfdaagreatdoor", sum := "87fbcd5a006ac97800cf1744c62ec5ed31759444febba7594449bfb111c9b980", func := "parlour/parlourlaw26.SubgameKnown", spec := "subgameKnown", inPlace := ["maps.clone"], unfollowed := true, recurses := true, named := ["math/bits.deBruijn64tab"], apart := false, laid := [("math/bits.deBruijn64tab", laid_math_bits_deBruijn64tab)] }
def SubgameKnownSaid : Prop := subgameKnownRow.holds Tryz.pinned (OpenSpec.ofChange subgameKnownSpec)

/-- ITS FALSE NEIGHBOUR: 'it returns false'. Refute it at one input. -/
def subgameKnownWrong : ChangeSpec := { name := "subgameKnown", fn := fun _ => fun
  | [] => { results := [.lit (.bool false)], args := [] }
  | _ => none }
def SubgameKnownWrongFalsely : Prop := subgameKnownRow.holds Tryz.pinned (OpenSpec.ofChange subgameKnownWrong)

/-- 'parlourlaw26.SubgameLeast': WHATEVER THE INPUT: true; the input reads as it did. -/
def subgameLeastSpec : ChangeSpec := { name := "subgameLeast", fn := fun _ => fun
  | [d1, d2, d3, d4] => { results := [.lit (.bool true)], args := [d1, d2, d3, d4] }
  | _ => none }
def subgameLeastRow : OpenClaim := { program := "ythmklhapjegfdaagreatdoor", sum := "87fbcd5a006ac97800cf1744c62ec5ed31759444febba7594449bfb111c9b980", func := "parlour/parlourlaw26.SubgameLeast", spec := "subgameLeast", inPlace := ["maps.clone"], unfollowed := true, recurses := true, named := ["math/bits.deBruijn64tab"], apart := false, laid := [("math/bits.deBruijn64tab", laid_math_bits_deBruijn64tab)] }
def SubgameLeastSaid : Prop := subgameLeastRow.holds Tryz.pinned (OpenSpec.ofChange subgameLeastSpec)

/-- ITS FALSE NEIGHBOUR: 'it returns false'. Refute it at one input. -/
def subgameLeastWrong : ChangeSpec := { name := "subgameLeast", fn := fun _ => fun
  | [d1, d2, d3, d4] => { results := [.lit (.bool false)], args := [d1, d2, d3, d4] }
  | _ => none }
def SubgameLeastWrongFalsely : Prop := subgameLeastRow.holds Tryz.pinned (OpenSpec.ofChange subgameLeastWrong)

/-- 'parlourlaw26.SubgameValues': WHATEVER THE INPUT: true; the input reads as it did. -/
def subgameValuesSpec : ChangeSpec := { name := "subgameValues", fn := fun _ => fun
  | [d1, d2, d3] => { results := [.lit (.bool true)], args := [d1, d2, d3] }
  | _ => none }
def subgameValuesRow : OpenClaim := { program := "ythmklhapjegfdaagreatdoor", sum := "87fbcd5a006ac97800cf1744c62ec5ed31759444febba7594449bfb111c9b980", func := "parlour/parlourlaw26.SubgameValues", spec := "subgameValues", inPlace := ["maps.clone"], unfollowed := true, recurses := true, named := ["math/bits.deBruijn64tab"], apart := false, laid := [("math/bits.deBruijn64tab", laid_math_bits_deBruijn64tab)] }
def SubgameValuesSaid : Prop := subgameValuesRow.holds Tryz.pinned (OpenSpec.ofChange subgameValuesSpec)

/-- ITS FALSE NEIGHBOUR: 'it returns false'. Refute it at one input. -/
def subgameValuesWrong : ChangeSpec := { name := "subgameValues", fn := fun _ => fun
  | [d1, d2, d3] => { results := [.lit (.bool false)], args := [d1, d2, d3] }
  | _ => none }
def SubgameValuesWrongFalsely : Prop := subgameValuesRow.holds Tryz.pinned (OpenSpec.ofChange subgameValuesWrong)

/-- 'parlourlaw16.PlanMixes': WHATEVER THE INPUT: true; the input reads as it did. -/
def planMixesSpec : ChangeSpec := { name := "planMixes", fn := fun _ => fun
  | [d1, d2, d3, d4] => { results := [.lit (.bool true)], args := [d1, d2, d3, d4] }
  | _ => none }
def planMixesRow : OpenClaim := { program := "ythmklhapjegfdaagreatdoor", sum := "87fbcd5a006ac97800cf1744c62ec5ed31759444febba7594449bfb111c9b980", func := "parlour/parlourlaw16.PlanMixes", spec := "planMixes", unfollowed := true, recurses := true, named := ["math/bits.deBruijn64tab"], apart := false, laid := [("math/bits.deBruijn64tab", laid_math_bits_deBruijn64tab)] }
def PlanMixesSaid : Prop := planMixesRow.holds Tryz.pinned (OpenSpec.ofChange planMixesSpec)

/-- ITS FALSE NEIGHBOUR: 'it returns false'. Refute it at one input. -/
def planMixesWrong : ChangeSpec := { name := "planMixes", fn := fun _ => fun
  | [d1, d2, d3, d4] => { results := [.lit (.bool false)], args := [d1, d2, d3, d4] }
  | _ => none }
def PlanMixesWrongFalsely : Prop := planMixesRow.holds Tryz.pinned (OpenSpec.ofChange planMixesWrong)

/-- 'parlourlaw16.PlanKnown': WHATEVER THE INPUT: true; the input reads as it did. -/
def planKnownSpec : ChangeSpec := { name := "planKnown", fn := fun _ => fun
  | [] => { results := [.lit (.bool true)], args := [] }
  | _ => none }
def planKnownRow : OpenClaim := { program := "ythmklhapjegfdaagreatdoor", sum := "87fbcd5a006ac97800cf1744c62ec5ed31759444febba7594449bfb111c9b980", func := "parlour/parlourlaw16.PlanKnown", spec := "planKnown", unfollowed := true, recurses := true, named := ["math/bits.deBruijn64tab"], apart := false, laid := [("math/bits.deBruijn64tab", laid_math_bits_deBruijn64tab)] }
def PlanKnownSaid : Prop := planKnownRow.holds Tryz.pinned (OpenSpec.ofChange planKnownSpec)

/-- ITS FALSE NEIGHBOUR: 'it returns false'. Refute it at one input. -/
def planKnownWrong : ChangeSpec := { name := "planKnown", fn := fun _ => fun
  | [] => { results := [.lit (.bool false)], args := [] }
  | _ => none }
def PlanKnownWrongFalsely : Prop := planKnownRow.holds Tryz.pinned (OpenSpec.ofChange planKnownWrong)

/-- 'parlourlaw16.PlanRound': WHATEVER THE INPUT: true; the input reads as it did. -/
def planRoundSpec : ChangeSpec := { name := "planRound", fn := fun _ => fun
  | [d1, d2, d3] => { results := [.lit (.bool true)], args := [d1, d2, d3] }
  | _ => none }
def planRoundRow : OpenClaim := { program := "ythmklhapjegfdaagreatdoor", sum := "87fbcd5a006ac97800cf1744c62ec5ed31759444febba7594449bfb111c9b980", func := "parlour/parlourlaw16.PlanRound", spec := "planRound", unfollowed := true, recurses := true, named := ["math/bits.deBruijn64tab"], apart := false, laid := [("math/bits.deBruijn64tab", laid_math_bits_deBruijn64tab)] }
def PlanRoundSaid : Prop := planRoundRow.holds Tryz.pinned (OpenSpec.ofChange planRoundSpec)

/-- ITS FALSE NEIGHBOUR: 'it returns false'. Refute it at one input. -/
def planRoundWrong : ChangeSpec := { name := "planRound", fn := fun _ => fun
  | [d1, d2, d3] => { results := [.lit (.bool false)], args := [d1, d2, d3] }
  | _ => none }
def PlanRoundWrongFalsely : Prop := planRoundRow.holds Tryz.pinned (OpenSpec.ofChange planRoundWrong)

/-- 'parlourlaw16.PlanLinear': WHATEVER THE INPUT: true; the input reads as it did. -/
def planLinearSpec : ChangeSpec := { name := "planLinear", fn := fun _ => fun
  | [d1, d2, d3, d4, d5] => { results := [.lit (.bool true)], args := [d1, d2, d3, d4, d5] }
  | _ => none }
def planLinearRow : OpenClaim := { program := "ythmklhapjegfdaagreatdoor", sum := "87fbcd5a006ac97800cf1744c62ec5ed31759444febba7594449bfb111c9b980", func := "parlour/parlourlaw16.PlanLinear", spec := "planLinear", unfollowed := true, recurses := true, named := ["math/bits.deBruijn64tab"], apart := false, laid := [("math/bits.deBruijn64tab", laid_math_bits_deBruijn64tab)] }
def PlanLinearSaid : Prop := planLinearRow.holds Tryz.pinned (OpenSpec.ofChange planLinearSpec)

/-- ITS FALSE NEIGHBOUR: 'it returns false'. Refute it at one input. -/
def planLinearWrong : ChangeSpec := { name := "planLinear", fn := fun _ => fun
  | [d1, d2, d3, d4, d5] => { results := [.lit (.bool false)], args := [d1, d2, d3, d4, d5] }
  | _ => none }
def PlanLinearWrongFalsely : Prop := planLinearRow.holds Tryz.pinned (OpenSpec.ofChange planLinearWrong)

/-- 'parlourlaw16.PlanPure': WHATEVER THE INPUT: true; the input reads as it did. -/
def planPureSpec : ChangeSpec := { name := "planPure", fn := fun _ => fun
  | [d1, d2] => { results := [.lit (.bool true)], args := [d1, d2] }
  | _ => none }
def planPureRow : OpenClaim := { program := "ythmklhapjegfdaagreatdoor", sum := "87fbcd5a006ac97800cf1744c62ec5ed31759444febba7594449bfb111c9b980", func := "parlour/parlourlaw16.PlanPure", spec := "planPure", unfollowed := true, recurses := true, named := ["math/bits.deBruijn64tab"], apart := false, laid := [("math/bits.deBruijn64tab", laid_math_bits_deBruijn64tab)] }
def PlanPureSaid : Prop := planPureRow.holds Tryz.pinned (OpenSpec.ofChange planPureSpec)

/-- ITS FALSE NEIGHBOUR: 'it returns false'. Refute it at one input. -/
def planPureWrong : ChangeSpec := { name := "planPure", fn := fun _ => fun
  | [d1, d2] => { results := [.lit (.bool false)], args := [d1, d2] }
  | _ => none }
def PlanPureWrongFalsely : Prop := planPureRow.holds Tryz.pinned (OpenSpec.ofChange planPureWrong)

/- THE SECOND FORM. 'bulk': how many values and letters a reading holds, each counted each time it is reached (what is shared counts as often as it is met; a slice's spare places count too). A statement '..UptoSaid' is the law's where the arguments, and the package variables that the reading takes, are together of bulk at most 1048576: NARROWER than '..Said'. Prove '..Said' where nothing that the law and all that it calls make is longer than what came in: it says more and counts as full. Else prove '..UptoSaid'. A law counts once. -/
mutual
def uptoBulk {H : Type} : DataW H → Nat
  | .lit (.string bytes) => bytes.length + 1
  | .lit _ => 1
  | .nil => 1
  | .ptr d => uptoBulk d + 1
  | .slice elems spare => uptoBulkAll elems + uptoBulkAll spare + 1
  | .agg parts => uptoBulkAll parts + 1
  | .iface _ d => uptoBulk d + 1
  | .map entries => uptoBulkEntries entries + 1
  | .held _ => 1
def uptoBulkAll {H : Type} : List (DataW H) → Nat
  | [] => 0
  | d :: r => uptoBulk d + uptoBulkAll r
def uptoBulkEntries {H : Type} : List (Lit × DataW H) → Nat
  | [] => 0
  | x :: r => uptoBulkEntry x + uptoBulkEntries r
def uptoBulkEntry {H : Type} : Lit × DataW H → Nat
  | (.string bytes, d) => bytes.length + uptoBulk d + 1
  | (_, d) => uptoBulk d + 1
 end
def uptoSmall : (H : Type) → List (DataW H) → Bool := fun _ ds => decide (uptoBulkAll ds ≤ 1048576)
def OpenSpec.upto (s : _root_.Go.ChangeSpec) : _root_.Go.OpenSpec := { _root_.Go.OpenSpec.ofChange s with cond := some uptoSmall }

/-- 'parlourlaw26.SubgameReplaces', WHERE WHAT IT READS IS OF BULK AT MOST 1048576: true; the input reads as it did. -/
def subgameReplacesUptoRow : OpenClaim := { program := "ythmklhapjegfdaagreatdoor", sum := "87fbcd5a006ac97800cf1744c62ec5ed31759444febba7594449bfb111c9b980", func := "parlour/parlourlaw26.SubgameReplaces", spec := "subgameReplaces", unfollowed := true, recurses := true, named := ["math/bits.deBruijn64tab"], apart := false, laid := [("math/bits.deBruijn64tab", laid_math_bits_deBruijn64tab)], narrowed := true }
def SubgameReplacesUptoSaid : Prop := subgameReplacesUptoRow.holds Tryz.pinned (OpenSpec.upto subgameReplacesSpec)

/-- 'parlourlaw16.PlanChecks', WHERE WHAT IT READS IS OF BULK AT MOST 1048576: true; the input reads as it did. -/
def planChecksUptoRow : OpenClaim := { program := "ythmklhapjegfdaagreatdoor", sum := "87fbcd5a006ac97800cf1744c62ec5ed31759444febba7594449bfb111c9b980", func := "parlour/parlourlaw16.PlanChecks", spec := "planChecks", unfollowed := true, recurses := true, named := ["math/bits.deBruijn64tab"], apart := false, laid := [("math/bits.deBruijn64tab", laid_math_bits_deBruijn64tab)], narrowed := true }
def PlanChecksUptoSaid : Prop := planChecksUptoRow.holds Tryz.pinned (OpenSpec.upto planChecksSpec)

/-- 'parlourlaw26.SubgameKnown', WHERE WHAT IT READS IS OF BULK AT MOST 1048576: true; the input reads as it did. -/
def subgameKnownUptoRow : OpenClaim := { program := "ythmklhapjegfdaagreatdoor", sum := "87fbcd5a006ac97800cf1744c62ec5ed31759444febba7594449bfb111c9b980", func := "parlour/parlourlaw26.SubgameKnown", spec := "subgameKnown", inPlace := ["maps.clone"], unfollowed := true, recurses := true, named := ["math/bits.deBruijn64tab"], apart := false, laid := [("math/bits.deBruijn64tab", laid_math_bits_deBruijn64tab)], narrowed := true }
def SubgameKnownUptoSaid : Prop := subgameKnownUptoRow.holds Tryz.pinned (OpenSpec.upto subgameKnownSpec)

/-- 'parlourlaw26.SubgameLeast', WHERE WHAT IT READS IS OF BULK AT MOST 1048576: true; the input reads as it did. -/
def subgameLeastUptoRow : OpenClaim := { program := "ythmklhapjegfdaagreatdoor", sum := "87fbcd5a006ac97800cf1744c62ec5ed31759444febba7594449bfb111c9b980", func := "parlour/parlourlaw26.SubgameLeast", spec := "subgameLeast", inPlace := ["maps.clone"], unfollowed := true, recurses := true, named := ["math/bits.deBruijn64tab"], apart := false, laid := [("math/bits.deBruijn64tab", laid_math_bits_deBruijn64tab)], narrowed := true }
def SubgameLeastUptoSaid : Prop := subgameLeastUptoRow.holds Tryz.pinned (OpenSpec.upto subgameLeastSpec)

/-- 'parlourlaw26.SubgameValues', WHERE WHAT IT READS IS OF BULK AT MOST 1048576: true; the input reads as it did. -/
def subgameValuesUptoRow : OpenClaim := { program := "ythmklhapjegfdaagreatdoor", sum := "87fbcd5a006ac97800cf1744c62ec5ed31759444febba7594449bfb111c9b980", func := "parlour/parlourlaw26.SubgameValues", spec := "subgameValues", inPlace := ["maps.clone"], unfollowed := true, recurses := true, named := ["math/bits.deBruijn64tab"], apart := false, laid := [("math/bits.deBruijn64tab", laid_math_bits_deBruijn64tab)], narrowed := true }
def SubgameValuesUptoSaid : Prop := subgameValuesUptoRow.holds Tryz.pinned (OpenSpec.upto subgameValuesSpec)

/-- 'parlourlaw16.PlanMixes', WHERE WHAT IT READS IS OF BULK AT MOST 1048576: true; the input reads as it did. -/
def planMixesUptoRow : OpenClaim := { program := "ythmklhapjegfdaagreatdoor", sum := "87fbcd5a006ac97800cf1744c62ec5ed31759444febba7594449bfb111c9b980", func := "parlour/parlourlaw16.PlanMixes", spec := "planMixes", unfollowed := true, recurses := true, named := ["math/bits.deBruijn64tab"], apart := false, laid := [("math/bits.deBruijn64tab", laid_math_bits_deBruijn64tab)], narrowed := true }
def PlanMixesUptoSaid : Prop := planMixesUptoRow.holds Tryz.pinned (OpenSpec.upto planMixesSpec)

/-- 'parlourlaw16.PlanKnown', WHERE WHAT IT READS IS OF BULK AT MOST 1048576: true; the input reads as it did. -/
def planKnownUptoRow : OpenClaim := { program := "ythmklhapjegfdaagreatdoor", sum := "87fbcd5a006ac97800cf1744c62ec5ed31759444febba7594449bfb111c9b980", func := "parlour/parlourlaw16.PlanKnown", spec := "planKnown", unfollowed := true, recurses := true, named := ["math/bits.deBruijn64tab"], apart := false, laid := [("math/bits.deBruijn64tab", laid_math_bits_deBruijn64tab)], narrowed := true }
def PlanKnownUptoSaid : Prop := planKnownUptoRow.holds Tryz.pinned (OpenSpec.upto planKnownSpec)

/-- 'parlourlaw16.PlanRound', WHERE WHAT IT READS IS OF BULK AT MOST 1048576: true; the input reads as it did. -/
def planRoundUptoRow : OpenClaim := { program := "ythmklhapjegfdaagreatdoor", sum := "87fbcd5a006ac97800cf1744c62ec5ed31759444febba7594449bfb111c9b980", func := "parlour/parlourlaw16.PlanRound", spec := "planRound", unfollowed := true, recurses := true, named := ["math/bits.deBruijn64tab"], apart := false, laid := [("math/bits.deBruijn64tab", laid_math_bits_deBruijn64tab)], narrowed := true }
def PlanRoundUptoSaid : Prop := planRoundUptoRow.holds Tryz.pinned (OpenSpec.upto planRoundSpec)

/-- 'parlourlaw16.PlanLinear', WHERE WHAT IT READS IS OF BULK AT MOST 1048576: true; the input reads as it did. -/
def planLinearUptoRow : OpenClaim := { program := "ythmklhapjegfdaagreatdoor", sum := "87fbcd5a006ac97800cf1744c62ec5ed31759444febba7594449bfb111c9b980", func := "parlour/parlourlaw16.PlanLinear", spec := "planLinear", unfollowed := true, recurses := true, named := ["math/bits.deBruijn64tab"], apart := false, laid := [("math/bits.deBruijn64tab", laid_math_bits_deBruijn64tab)], narrowed := true }
def PlanLinearUptoSaid : Prop := planLinearUptoRow.holds Tryz.pinned (OpenSpec.upto planLinearSpec)

/-- 'parlourlaw16.PlanPure', WHERE WHAT IT READS IS OF BULK AT MOST 1048576: true; the input reads as it did. -/
def planPureUptoRow : OpenClaim := { program := "ythmklhapjegfdaagreatdoor", sum := "87fbcd5a006ac97800cf1744c62ec5ed31759444febba7594449bfb111c9b980", func := "parlour/parlourlaw16.PlanPure", spec := "planPure", unfollowed := true, recurses := true, named := ["math/bits.deBruijn64tab"], apart := false, laid := [("math/bits.deBruijn64tab", laid_math_bits_deBruijn64tab)], narrowed := true }
def PlanPureUptoSaid : Prop := planPureUptoRow.holds Tryz.pinned (OpenSpec.upto planPureSpec)

end Rows
end Go.Proofs.YthmklhapjegfdaaGreatDoor

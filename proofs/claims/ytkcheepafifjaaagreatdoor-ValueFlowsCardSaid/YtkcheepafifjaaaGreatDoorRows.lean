/-
  NARROWER THAN 'FOR EVERY INPUT', by the rows' own cells (each row's printed sentence says how): ValueReaches: laid · ValueNodes: laid · ValueKnown: laid · ValueFlows: laid · ValueZero: laid · ValueLinear: laid.
  DERIVED. THE GIVEN ROWS OF THIS SEAT. 6 by the template 'for every input the law returns true; each argument reads behind the call as it read before'; 0 by the template 'total and deterministic' (their statements: YtkcheepafifjaaaGreatDoorTotals.lean).
  GIVEN WITH THE SEED: the statements are not yours to turn. If you find one false, say at which input.
  Laid BY PROGRAM, IN A SANDBOX (cutbox-rows.mjs): the forced cells as the released guide's own fill.sh prints them over the translation e76a32c4f7d4d728… (all of the seat's roots in one cut). By AI agents, Wed Nov 11 2026. No macro, syntax, notation, axiom, sorry.
-/
import Derived.Test.YtkcheepafifjaaaGreatDoorChecked
import GoSem.Claim
import GoSem.ClaimJoined
import GoSem.ClaimMapViews
import Derived.JoinedTies
import Derived.KernelRfl
namespace Go.Proofs.YtkcheepafifjaaaGreatDoor
/- THE CELL 'sum', in the pinned program and in every row, IS THE sha256 OF THE DUMP (.gsa) THAT YtkcheepafifjaaaGreatDoorProg.lean LOADS. Nothing in Lean hashes anything: it is a label: what it is worth is what the hold of that sum in a sandbox is worth. -/
noncomputable def Tryz.pinned : Pinned := { name := "ytkcheepafifjaaagreatdoor", sum := "e76a32c4f7d4d728b1ef807b5dce2262c96657d82a93ee0f0c52be86a5d1ac00", checked := Tryz.checked }
namespace Rows
def none {H : Type} : Left H := { results := [], args := [] }

/- WHAT THE LISTED PACKAGE-LEVEL VARIABLES READ AS WHEN THE CALL BEGINS. Each datum BY PROGRAM (the guide's laid-datum.mjs) off the statement by which the dump's own 'gosem.cut.vars' lays the variable. In a bare row this is a premise. The card (YtkcheepafifjaaaGreatDoorCards.lean) ties it to the program's text. -/
def laid_math_bits_deBruijn64tab {H : Type} : DataW H := .agg [.lit (.int .u8 0), .lit (.int .u8 1), .lit (.int .u8 56), .lit (.int .u8 2), .lit (.int .u8 57), .lit (.int .u8 49), .lit (.int .u8 28), .lit (.int .u8 3), .lit (.int .u8 61), .lit (.int .u8 58), .lit (.int .u8 42), .lit (.int .u8 50), .lit (.int .u8 38), .lit (.int .u8 29), .lit (.int .u8 17), .lit (.int .u8 4), .lit (.int .u8 62), .lit (.int .u8 47), .lit (.int .u8 59), .lit (.int .u8 36), .lit (.int .u8 45), .lit (.int .u8 43), .lit (.int .u8 51), .lit (.int .u8 22), .lit (.int .u8 53), .lit (.int .u8 39), .lit (.int .u8 33), .lit (.int .u8 30), .lit (.int .u8 24), .lit (.int .u8 18), .lit (.int .u8 12), .lit (.int .u8 5), .lit (.int .u8 63), .lit (.int .u8 55), .lit (.int .u8 48), .lit (.int .u8 27), .lit (.int .u8 60), .lit (.int .u8 41), .lit (.int .u8 37), .lit (.int .u8 16), .lit (.int .u8 46), .lit (.int .u8 35), .lit (.int .u8 44), .lit (.int .u8 21), .lit (.int .u8 52), .lit (.int .u8 32), .lit (.int .u8 23), .lit (.int .u8 11), .lit (.int .u8 54), .lit (.int .u8 26), .lit (.int .u8 40), .lit (.int .u8 15), .lit (.int .u8 34), .lit (.int .u8 20), .lit (.int .u8 31), .lit (.int .u8 10), .lit (.int .u8 25), .lit (.int .u8 14), .lit (.int .u8 19), .lit (.int .u8 9), .lit (.int .u8 13), .lit (.int .u8 8), .lit (.int .u8 7), .lit (.int .u8 6)]

/-- 'parlourlaw17.ValueReaches': WHATEVER THE INPUT: true; the input reads as it did. -/
def valueReachesSpec : ChangeSpec := { name := "valueReaches", fn := fun _ => fun
  | [d1, d2, d3] => { results := [.lit (.bool true)], args := [d1, d2, d3] }
  | _ => none }
def valueReachesRow : OpenClaim := { program := "ytkcheepafifjaaagreatdoor", sum := "e76a32c4f7d4d728b1ef807b5dce2262c96657d82a93ee0f0c52be86a5d1ac00", func := "parlour/parlourlaw17.ValueReaches", spec := "valueReaches", unfollowed := true, recurses := true, named := ["math/bits.deBruijn64tab"], apart := false, laid := [("math/bits.deBruijn64tab", laid_math_bits_deBruijn64tab)] }
def ValueReachesSaid : Prop := valueReachesRow.holds Tryz.pinned (OpenSpec.ofChange valueReachesSpec)

/-- ITS FALSE NEIGHBOUR: 'it returns false'. Refute it at one input. -/
def valueReachesWrong : ChangeSpec := { name := "valueReaches", fn := fun _ => fun
  | [d1, d2, d3] => { results := [.lit (.bool false)], args := [d1, d2, d3] }
  | _ => none }
def ValueReachesWrongFalsely : Prop := valueReachesRow.holds Tryz.pinned (OpenSpec.ofChange valueReachesWrong)

/-- 'parlourlaw17.ValueNodes': WHATEVER THE INPUT: true; the input reads as it did. -/
def valueNodesSpec : ChangeSpec := { name := "valueNodes", fn := fun _ => fun
  | [d1, d2] => { results := [.lit (.bool true)], args := [d1, d2] }
  | _ => none }
def valueNodesRow : OpenClaim := { program := "ytkcheepafifjaaagreatdoor", sum := "e76a32c4f7d4d728b1ef807b5dce2262c96657d82a93ee0f0c52be86a5d1ac00", func := "parlour/parlourlaw17.ValueNodes", spec := "valueNodes", unfollowed := true, recurses := true, named := ["math/bits.deBruijn64tab"], apart := false, laid := [("math/bits.deBruijn64tab", laid_math_bits_deBruijn64tab)] }
def ValueNodesSaid : Prop := valueNodesRow.holds Tryz.pinned (OpenSpec.ofChange valueNodesSpec)

/-- ITS FALSE NEIGHBOUR: 'it returns false'. Refute it at one input. -/
def valueNodesWrong : ChangeSpec := { name := "valueNodes", fn := fun _ => fun
  | [d1, d2] => { results := [.lit (.bool false)], args := [d1, d2] }
  | _ => none }
def ValueNodesWrongFalsely : Prop := valueNodesRow.holds Tryz.pinned (OpenSpec.ofChange valueNodesWrong)

/-- 'parlourlaw17.ValueKnown': WHATEVER THE INPUT: true; the input reads as it did. -/
def valueKnownSpec : ChangeSpec := { name := "valueKnown", fn := fun _ => fun
  | [] => { results := [.lit (.bool true)], args := [] }
  | _ => none }
def valueKnownRow : OpenClaim := { program := "ytkcheepafifjaaagreatdoor", sum := "e76a32c4f7d4d728b1ef807b5dce2262c96657d82a93ee0f0c52be86a5d1ac00", func := "parlour/parlourlaw17.ValueKnown", spec := "valueKnown", unfollowed := true, recurses := true, named := ["math/bits.deBruijn64tab"], apart := false, laid := [("math/bits.deBruijn64tab", laid_math_bits_deBruijn64tab)] }
def ValueKnownSaid : Prop := valueKnownRow.holds Tryz.pinned (OpenSpec.ofChange valueKnownSpec)

/-- ITS FALSE NEIGHBOUR: 'it returns false'. Refute it at one input. -/
def valueKnownWrong : ChangeSpec := { name := "valueKnown", fn := fun _ => fun
  | [] => { results := [.lit (.bool false)], args := [] }
  | _ => none }
def ValueKnownWrongFalsely : Prop := valueKnownRow.holds Tryz.pinned (OpenSpec.ofChange valueKnownWrong)

/-- 'parlourlaw17.ValueFlows': WHATEVER THE INPUT: true; the input reads as it did. -/
def valueFlowsSpec : ChangeSpec := { name := "valueFlows", fn := fun _ => fun
  | [d1, d2, d3, d4] => { results := [.lit (.bool true)], args := [d1, d2, d3, d4] }
  | _ => none }
def valueFlowsRow : OpenClaim := { program := "ytkcheepafifjaaagreatdoor", sum := "e76a32c4f7d4d728b1ef807b5dce2262c96657d82a93ee0f0c52be86a5d1ac00", func := "parlour/parlourlaw17.ValueFlows", spec := "valueFlows", unfollowed := true, recurses := true, named := ["math/bits.deBruijn64tab"], apart := false, laid := [("math/bits.deBruijn64tab", laid_math_bits_deBruijn64tab)] }
def ValueFlowsSaid : Prop := valueFlowsRow.holds Tryz.pinned (OpenSpec.ofChange valueFlowsSpec)

/-- ITS FALSE NEIGHBOUR: 'it returns false'. Refute it at one input. -/
def valueFlowsWrong : ChangeSpec := { name := "valueFlows", fn := fun _ => fun
  | [d1, d2, d3, d4] => { results := [.lit (.bool false)], args := [d1, d2, d3, d4] }
  | _ => none }
def ValueFlowsWrongFalsely : Prop := valueFlowsRow.holds Tryz.pinned (OpenSpec.ofChange valueFlowsWrong)

/-- 'parlourlaw17.ValueZero': WHATEVER THE INPUT: true; the input reads as it did. -/
def valueZeroSpec : ChangeSpec := { name := "valueZero", fn := fun _ => fun
  | [d1, d2] => { results := [.lit (.bool true)], args := [d1, d2] }
  | _ => none }
def valueZeroRow : OpenClaim := { program := "ytkcheepafifjaaagreatdoor", sum := "e76a32c4f7d4d728b1ef807b5dce2262c96657d82a93ee0f0c52be86a5d1ac00", func := "parlour/parlourlaw17.ValueZero", spec := "valueZero", unfollowed := true, recurses := true, named := ["math/bits.deBruijn64tab"], apart := false, laid := [("math/bits.deBruijn64tab", laid_math_bits_deBruijn64tab)] }
def ValueZeroSaid : Prop := valueZeroRow.holds Tryz.pinned (OpenSpec.ofChange valueZeroSpec)

/-- ITS FALSE NEIGHBOUR: 'it returns false'. Refute it at one input. -/
def valueZeroWrong : ChangeSpec := { name := "valueZero", fn := fun _ => fun
  | [d1, d2] => { results := [.lit (.bool false)], args := [d1, d2] }
  | _ => none }
def ValueZeroWrongFalsely : Prop := valueZeroRow.holds Tryz.pinned (OpenSpec.ofChange valueZeroWrong)

/-- 'parlourlaw17.ValueLinear': WHATEVER THE INPUT: true; the input reads as it did. -/
def valueLinearSpec : ChangeSpec := { name := "valueLinear", fn := fun _ => fun
  | [d1, d2, d3, d4, d5, d6] => { results := [.lit (.bool true)], args := [d1, d2, d3, d4, d5, d6] }
  | _ => none }
def valueLinearRow : OpenClaim := { program := "ytkcheepafifjaaagreatdoor", sum := "e76a32c4f7d4d728b1ef807b5dce2262c96657d82a93ee0f0c52be86a5d1ac00", func := "parlour/parlourlaw17.ValueLinear", spec := "valueLinear", unfollowed := true, recurses := true, named := ["math/bits.deBruijn64tab"], apart := false, laid := [("math/bits.deBruijn64tab", laid_math_bits_deBruijn64tab)] }
def ValueLinearSaid : Prop := valueLinearRow.holds Tryz.pinned (OpenSpec.ofChange valueLinearSpec)

/-- ITS FALSE NEIGHBOUR: 'it returns false'. Refute it at one input. -/
def valueLinearWrong : ChangeSpec := { name := "valueLinear", fn := fun _ => fun
  | [d1, d2, d3, d4, d5, d6] => { results := [.lit (.bool false)], args := [d1, d2, d3, d4, d5, d6] }
  | _ => none }
def ValueLinearWrongFalsely : Prop := valueLinearRow.holds Tryz.pinned (OpenSpec.ofChange valueLinearWrong)

/- THE SECOND FORM. 'bulk': how many values and letters a reading holds, each counted each time it is reached (what is shared counts as often as it is met; a slice's spare places count too). A statement '..UptoSaid' is the law's where the arguments, and the package variables that the reading takes, are together of bulk at most 1048576: NARROWER than '..Said'. Prove '..Said' where nothing that the law and all that it calls make is longer than what came in: it says more and counts as full. Else prove '..UptoSaid'. A law counts once. -/
mutual
def uptoBulk {H : Type} : DataW H → Nat
  | .lit (.string bytes) => bytes.length + 1
  | .lit _ => 1
  | .nil => 1
  | .ptr d => uptoBulk d + 1
  | .slice elems spare => uptoBulkAll elems + uptoBulkAll spare + 1
  | .agg parts => uptoBulkAll parts + 1
  | .iface _ d => uptoBulk d + 1
  | .map entries => uptoBulkEntries entries + 1
  | .held _ => 1
def uptoBulkAll {H : Type} : List (DataW H) → Nat
  | [] => 0
  | d :: r => uptoBulk d + uptoBulkAll r
def uptoBulkEntries {H : Type} : List (Lit × DataW H) → Nat
  | [] => 0
  | x :: r => uptoBulkEntry x + uptoBulkEntries r
def uptoBulkEntry {H : Type} : Lit × DataW H → Nat
  | (.string bytes, d) => bytes.length + uptoBulk d + 1
  | (_, d) => uptoBulk d + 1
 end
def uptoSmall : (H : Type) → List (DataW H) → Bool := fun _ ds => decide (uptoBulkAll ds ≤ 1048576)
def OpenSpec.upto (s : _root_.Go.ChangeSpec) : _root_.Go.OpenSpec := { _root_.Go.OpenSpec.ofChange s with cond := some uptoSmall }

/-- 'parlourlaw17.ValueReaches', WHERE WHAT IT READS IS OF BULK AT MOST 1048576: true; the input reads as it did. -/
def valueReachesUptoRow : OpenClaim := { program := "ytkcheepafifjaaagreatdoor", sum := "e76a32c4f7d4d728b1ef807b5dce2262c96657d82a93ee0f0c52be86a5d1ac00", func := "parlour/parlourlaw17.ValueReaches", spec := "valueReaches", unfollowed := true, recurses := true, named := ["math/bits.deBruijn64tab"], apart := false, laid := [("math/bits.deBruijn64tab", laid_math_bits_deBruijn64tab)], narrowed := true }
def ValueReachesUptoSaid : Prop := valueReachesUptoRow.holds Tryz.pinned (OpenSpec.upto valueReachesSpec)

/-- 'parlourlaw17.ValueNodes', WHERE WHAT IT READS IS OF BULK AT MOST 1048576: true; the input reads as it did. -/
def valueNodesUptoRow : OpenClaim := { program := "ytkcheepafifjaaagreatdoor", sum := "e76a32c4f7d4d728b1ef807b5dce2262c96657d82a93ee0f0c52be86a5d1ac00", func := "parlour/parlourlaw17.ValueNodes", spec := "valueNodes", unfollowed := true, recurses := true, named := ["math/bits.deBruijn64tab"], apart := false, laid := [("math/bits.deBruijn64tab", laid_math_bits_deBruijn64tab)], narrowed := true }
def ValueNodesUptoSaid : Prop := valueNodesUptoRow.holds Tryz.pinned (OpenSpec.upto valueNodesSpec)

/-- 'parlourlaw17.ValueKnown', WHERE WHAT IT READS IS OF BULK AT MOST 1048576: true; the input reads as it did. -/
def valueKnownUptoRow : OpenClaim := { program := "ytkcheepafifjaaagreatdoor", sum := "e76a32c4f7d4d728b1ef807b5dce2262c96657d82a93ee0f0c52be86a5d1ac00", func := "parlour/parlourlaw17.ValueKnown", spec := "valueKnown", unfollowed := true, recurses := true, named := ["math/bits.deBruijn64tab"], apart := false, laid := [("math/bits.deBruijn64tab", laid_math_bits_deBruijn64tab)], narrowed := true }
def ValueKnownUptoSaid : Prop := valueKnownUptoRow.holds Tryz.pinned (OpenSpec.upto valueKnownSpec)

/-- 'parlourlaw17.ValueFlows', WHERE WHAT IT READS IS OF BULK AT MOST 1048576: true; the input reads as it did. -/
def valueFlowsUptoRow : OpenClaim := { program := "ytkcheepafifjaaagreatdoor", sum := "e76a32c4f7d4d728b1ef807b5dce2262c96657d82a93ee0f0c52be86a5d1ac00", func := "parlour/parlourlaw17.ValueFlows", spec := "valueFlows", unfollowed := true, recurses := true, named := ["math/bits.deBruijn64tab"], apart := false, laid := [("math/bits.deBruijn64tab", laid_math_bits_deBruijn64tab)], narrowed := true }
def ValueFlowsUptoSaid : Prop := valueFlowsUptoRow.holds Tryz.pinned (OpenSpec.upto valueFlowsSpec)

/-- 'parlourlaw17.ValueZero', WHERE WHAT IT READS IS OF BULK AT MOST 1048576: true; the input reads as it did. -/
def valueZeroUptoRow : OpenClaim := { program := "ytkcheepafifjaaagreatdoor", sum := "e76a32c4f7d4d728b1ef807b5dce2262c96657d82a93ee0f0c52be86a5d1ac00", func := "parlour/parlourlaw17.ValueZero", spec := "valueZero", unfollowed := true, recurses := true, named := ["math/bits.deBruijn64tab"], apart := false, laid := [("math/bits.deBruijn64tab", laid_math_bits_deBruijn64tab)], narrowed := true }
def ValueZeroUptoSaid : Prop := valueZeroUptoRow.holds Tryz.pinned (OpenSpec.upto valueZeroSpec)

/-- 'parlourlaw17.ValueLinear', WHERE WHAT IT READS IS OF BULK AT MOST 1048576: true; the input reads as it did. -/
def valueLinearUptoRow : OpenClaim := { program := "ytkcheepafifjaaagreatdoor", sum := "e76a32c4f7d4d728b1ef807b5dce2262c96657d82a93ee0f0c52be86a5d1ac00", func := "parlour/parlourlaw17.ValueLinear", spec := "valueLinear", unfollowed := true, recurses := true, named := ["math/bits.deBruijn64tab"], apart := false, laid := [("math/bits.deBruijn64tab", laid_math_bits_deBruijn64tab)], narrowed := true }
def ValueLinearUptoSaid : Prop := valueLinearUptoRow.holds Tryz.pinned (OpenSpec.upto valueLinearSpec)

end Rows
end Go.Proofs.YtkcheepafifjaaaGreatDoor

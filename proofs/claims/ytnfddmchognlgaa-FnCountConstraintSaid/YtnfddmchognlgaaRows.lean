/-
  No cell of these rows narrows 'for every input' (looked for: loops, veiled, ifaces, maps, wideKeys, modest, calm, conditions, laid).
  DERIVED. THE GIVEN ROWS OF THIS SEAT. 12 by the template 'for every input the law returns true; each argument reads behind the call as it read before'; 0 by the template 'total and deterministic' (their statements: YtnfddmchognlgaaTotals.lean).
  GIVEN WITH THE SEED: the statements are not yours to turn. If you find one false, say at which input.
  Laid BY PROGRAM, IN A SANDBOX (cutbox-rows.mjs): the forced cells as the released guide's own fill.sh prints them over the translation 8244e0321fbfe29c… (all of the seat's roots in one cut). By AI agents, Wed Nov 11 2026. No macro, syntax, notation, axiom, sorry.
-/
import Derived.Test.YtnfddmchognlgaaChecked
import GoSem.Claim
import GoSem.ClaimJoined
import GoSem.ClaimMapViews
import Derived.JoinedTies
import Derived.KernelRfl
namespace Go.Proofs.Ytnfddmchognlgaa
/- THE CELL 'sum', in the pinned program and in every row, IS THE sha256 OF THE DUMP (.gsa) THAT YtnfddmchognlgaaProg.lean LOADS. Nothing in Lean hashes anything: it is a label: what it is worth is what the hold of that sum in a sandbox is worth. -/
noncomputable def Try.pinned : Pinned := { name := "ytnfddmchognlgaa", sum := "8244e0321fbfe29ca41386b43d729318d592980f85ee36845d9c879190b1a2c4", checked := Try.checked }
namespace Rows
def none {H : Type} : Left H := { results := [], args := [] }

/-- 'laws.FnExactFormatValues': WHATEVER THE INPUT: true; the input reads as it did. -/
def fnExactFormatValuesSpec : ChangeSpec := { name := "fnExactFormatValues", fn := fun _ => fun
  | [d] => { results := [.lit (.bool true)], args := [d] }
  | _ => none }
def fnExactFormatValuesRow : OpenClaim := { program := "ytnfddmchognlgaa", sum := "8244e0321fbfe29ca41386b43d729318d592980f85ee36845d9c879190b1a2c4", func := "loop.example/cuttingplanes/laws.FnExactFormatValues", spec := "fnExactFormatValues", apart := false }
def FnExactFormatValuesSaid : Prop := fnExactFormatValuesRow.holds Try.pinned (OpenSpec.ofChange fnExactFormatValuesSpec)

/-- ITS FALSE NEIGHBOUR: 'it returns false'. Refute it at one input. -/
def fnExactFormatValuesWrong : ChangeSpec := { name := "fnExactFormatValues", fn := fun _ => fun
  | [d] => { results := [.lit (.bool false)], args := [d] }
  | _ => none }
def FnExactFormatValuesWrongFalsely : Prop := fnExactFormatValuesRow.holds Try.pinned (OpenSpec.ofChange fnExactFormatValuesWrong)

/-- 'laws.FnExactParseValues': WHATEVER THE INPUT: true; the input reads as it did. -/
def fnExactParseValuesSpec : ChangeSpec := { name := "fnExactParseValues", fn := fun _ => fun
  | [d] => { results := [.lit (.bool true)], args := [d] }
  | _ => none }
def fnExactParseValuesRow : OpenClaim := { program := "ytnfddmchognlgaa", sum := "8244e0321fbfe29ca41386b43d729318d592980f85ee36845d9c879190b1a2c4", func := "loop.example/cuttingplanes/laws.FnExactParseValues", spec := "fnExactParseValues", apart := false }
def FnExactParseValuesSaid : Prop := fnExactParseValuesRow.holds Try.pinned (OpenSpec.ofChange fnExactParseValuesSpec)

/-- ITS FALSE NEIGHBOUR: 'it returns false'. Refute it at one input. -/
def fnExactParseValuesWrong : ChangeSpec := { name := "fnExactParseValues", fn := fun _ => fun
  | [d] => { results := [.lit (.bool false)], args := [d] }
  | _ => none }
def FnExactParseValuesWrongFalsely : Prop := fnExactParseValuesRow.holds Try.pinned (OpenSpec.ofChange fnExactParseValuesWrong)

/-- 'laws.FnValuesText': WHATEVER THE INPUT: true; the input reads as it did. -/
def fnValuesTextSpec : ChangeSpec := { name := "fnValuesText", fn := fun _ => fun
  | [d1, d2] => { results := [.lit (.bool true)], args := [d1, d2] }
  | _ => none }
def fnValuesTextRow : OpenClaim := { program := "ytnfddmchognlgaa", sum := "8244e0321fbfe29ca41386b43d729318d592980f85ee36845d9c879190b1a2c4", func := "loop.example/cuttingplanes/laws.FnValuesText", spec := "fnValuesText", apart := false }
def FnValuesTextSaid : Prop := fnValuesTextRow.holds Try.pinned (OpenSpec.ofChange fnValuesTextSpec)

/-- ITS FALSE NEIGHBOUR: 'it returns false'. Refute it at one input. -/
def fnValuesTextWrong : ChangeSpec := { name := "fnValuesText", fn := fun _ => fun
  | [d1, d2] => { results := [.lit (.bool false)], args := [d1, d2] }
  | _ => none }
def FnValuesTextWrongFalsely : Prop := fnValuesTextRow.holds Try.pinned (OpenSpec.ofChange fnValuesTextWrong)

/-- 'laws.FnExactCommonDivisor': WHATEVER THE INPUT: true; the input reads as it did. -/
def fnExactCommonDivisorSpec : ChangeSpec := { name := "fnExactCommonDivisor", fn := fun _ => fun
  | [d] => { results := [.lit (.bool true)], args := [d] }
  | _ => none }
def fnExactCommonDivisorRow : OpenClaim := { program := "ytnfddmchognlgaa", sum := "8244e0321fbfe29ca41386b43d729318d592980f85ee36845d9c879190b1a2c4", func := "loop.example/cuttingplanes/laws.FnExactCommonDivisor", spec := "fnExactCommonDivisor", apart := false }
def FnExactCommonDivisorSaid : Prop := fnExactCommonDivisorRow.holds Try.pinned (OpenSpec.ofChange fnExactCommonDivisorSpec)

/-- ITS FALSE NEIGHBOUR: 'it returns false'. Refute it at one input. -/
def fnExactCommonDivisorWrong : ChangeSpec := { name := "fnExactCommonDivisor", fn := fun _ => fun
  | [d] => { results := [.lit (.bool false)], args := [d] }
  | _ => none }
def FnExactCommonDivisorWrongFalsely : Prop := fnExactCommonDivisorRow.holds Try.pinned (OpenSpec.ofChange fnExactCommonDivisorWrong)

/-- 'laws.FnExcludeClause': WHATEVER THE INPUT: true; the input reads as it did. -/
def fnExcludeClauseSpec : ChangeSpec := { name := "fnExcludeClause", fn := fun _ => fun
  | [d1, d2] => { results := [.lit (.bool true)], args := [d1, d2] }
  | _ => none }
def fnExcludeClauseRow : OpenClaim := { program := "ytnfddmchognlgaa", sum := "8244e0321fbfe29ca41386b43d729318d592980f85ee36845d9c879190b1a2c4", func := "loop.example/cuttingplanes/laws.FnExcludeClause", spec := "fnExcludeClause", apart := false }
def FnExcludeClauseSaid : Prop := fnExcludeClauseRow.holds Try.pinned (OpenSpec.ofChange fnExcludeClauseSpec)

/-- ITS FALSE NEIGHBOUR: 'it returns false'. Refute it at one input. -/
def fnExcludeClauseWrong : ChangeSpec := { name := "fnExcludeClause", fn := fun _ => fun
  | [d1, d2] => { results := [.lit (.bool false)], args := [d1, d2] }
  | _ => none }
def FnExcludeClauseWrongFalsely : Prop := fnExcludeClauseRow.holds Try.pinned (OpenSpec.ofChange fnExcludeClauseWrong)

/-- 'laws.FnExactCountConstraint': WHATEVER THE INPUT: true; the input reads as it did. -/
def fnExactCountConstraintSpec : ChangeSpec := { name := "fnExactCountConstraint", fn := fun _ => fun
  | [d] => { results := [.lit (.bool true)], args := [d] }
  | _ => none }
def fnExactCountConstraintRow : OpenClaim := { program := "ytnfddmchognlgaa", sum := "8244e0321fbfe29ca41386b43d729318d592980f85ee36845d9c879190b1a2c4", func := "loop.example/cuttingplanes/laws.FnExactCountConstraint", spec := "fnExactCountConstraint", apart := false }
def FnExactCountConstraintSaid : Prop := fnExactCountConstraintRow.holds Try.pinned (OpenSpec.ofChange fnExactCountConstraintSpec)

/-- ITS FALSE NEIGHBOUR: 'it returns false'. Refute it at one input. -/
def fnExactCountConstraintWrong : ChangeSpec := { name := "fnExactCountConstraint", fn := fun _ => fun
  | [d] => { results := [.lit (.bool false)], args := [d] }
  | _ => none }
def FnExactCountConstraintWrongFalsely : Prop := fnExactCountConstraintRow.holds Try.pinned (OpenSpec.ofChange fnExactCountConstraintWrong)

/-- 'laws.FnExactExcludeClause': WHATEVER THE INPUT: true; the input reads as it did. -/
def fnExactExcludeClauseSpec : ChangeSpec := { name := "fnExactExcludeClause", fn := fun _ => fun
  | [d1, d2] => { results := [.lit (.bool true)], args := [d1, d2] }
  | _ => none }
def fnExactExcludeClauseRow : OpenClaim := { program := "ytnfddmchognlgaa", sum := "8244e0321fbfe29ca41386b43d729318d592980f85ee36845d9c879190b1a2c4", func := "loop.example/cuttingplanes/laws.FnExactExcludeClause", spec := "fnExactExcludeClause", apart := false }
def FnExactExcludeClauseSaid : Prop := fnExactExcludeClauseRow.holds Try.pinned (OpenSpec.ofChange fnExactExcludeClauseSpec)

/-- ITS FALSE NEIGHBOUR: 'it returns false'. Refute it at one input. -/
def fnExactExcludeClauseWrong : ChangeSpec := { name := "fnExactExcludeClause", fn := fun _ => fun
  | [d1, d2] => { results := [.lit (.bool false)], args := [d1, d2] }
  | _ => none }
def FnExactExcludeClauseWrongFalsely : Prop := fnExactExcludeClauseRow.holds Try.pinned (OpenSpec.ofChange fnExactExcludeClauseWrong)

/-- 'laws.FnExactStrongestBound': WHATEVER THE INPUT: true; the input reads as it did. -/
def fnExactStrongestBoundSpec : ChangeSpec := { name := "fnExactStrongestBound", fn := fun _ => fun
  | [d1, d2] => { results := [.lit (.bool true)], args := [d1, d2] }
  | _ => none }
def fnExactStrongestBoundRow : OpenClaim := { program := "ytnfddmchognlgaa", sum := "8244e0321fbfe29ca41386b43d729318d592980f85ee36845d9c879190b1a2c4", func := "loop.example/cuttingplanes/laws.FnExactStrongestBound", spec := "fnExactStrongestBound", apart := false }
def FnExactStrongestBoundSaid : Prop := fnExactStrongestBoundRow.holds Try.pinned (OpenSpec.ofChange fnExactStrongestBoundSpec)

/-- ITS FALSE NEIGHBOUR: 'it returns false'. Refute it at one input. -/
def fnExactStrongestBoundWrong : ChangeSpec := { name := "fnExactStrongestBound", fn := fun _ => fun
  | [d1, d2] => { results := [.lit (.bool false)], args := [d1, d2] }
  | _ => none }
def FnExactStrongestBoundWrongFalsely : Prop := fnExactStrongestBoundRow.holds Try.pinned (OpenSpec.ofChange fnExactStrongestBoundWrong)

/-- 'laws.FnExactSumTable': WHATEVER THE INPUT: true; the input reads as it did. -/
def fnExactSumTableSpec : ChangeSpec := { name := "fnExactSumTable", fn := fun _ => fun
  | [d] => { results := [.lit (.bool true)], args := [d] }
  | _ => none }
def fnExactSumTableRow : OpenClaim := { program := "ytnfddmchognlgaa", sum := "8244e0321fbfe29ca41386b43d729318d592980f85ee36845d9c879190b1a2c4", func := "loop.example/cuttingplanes/laws.FnExactSumTable", spec := "fnExactSumTable", apart := false }
def FnExactSumTableSaid : Prop := fnExactSumTableRow.holds Try.pinned (OpenSpec.ofChange fnExactSumTableSpec)

/-- ITS FALSE NEIGHBOUR: 'it returns false'. Refute it at one input. -/
def fnExactSumTableWrong : ChangeSpec := { name := "fnExactSumTable", fn := fun _ => fun
  | [d] => { results := [.lit (.bool false)], args := [d] }
  | _ => none }
def FnExactSumTableWrongFalsely : Prop := fnExactSumTableRow.holds Try.pinned (OpenSpec.ofChange fnExactSumTableWrong)

/-- 'laws.FnCountConstraint': WHATEVER THE INPUT: true; the input reads as it did. -/
def fnCountConstraintSpec : ChangeSpec := { name := "fnCountConstraint", fn := fun _ => fun
  | [d] => { results := [.lit (.bool true)], args := [d] }
  | _ => none }
def fnCountConstraintRow : OpenClaim := { program := "ytnfddmchognlgaa", sum := "8244e0321fbfe29ca41386b43d729318d592980f85ee36845d9c879190b1a2c4", func := "loop.example/cuttingplanes/laws.FnCountConstraint", spec := "fnCountConstraint", apart := false }
def FnCountConstraintSaid : Prop := fnCountConstraintRow.holds Try.pinned (OpenSpec.ofChange fnCountConstraintSpec)

/-- ITS FALSE NEIGHBOUR: 'it returns false'. Refute it at one input. -/
def fnCountConstraintWrong : ChangeSpec := { name := "fnCountConstraint", fn := fun _ => fun
  | [d] => { results := [.lit (.bool false)], args := [d] }
  | _ => none }
def FnCountConstraintWrongFalsely : Prop := fnCountConstraintRow.holds Try.pinned (OpenSpec.ofChange fnCountConstraintWrong)

/-- 'laws.FnExactImpliesConstraint': WHATEVER THE INPUT: true; the input reads as it did. -/
def fnExactImpliesConstraintSpec : ChangeSpec := { name := "fnExactImpliesConstraint", fn := fun _ => fun
  | [d1, d2] => { results := [.lit (.bool true)], args := [d1, d2] }
  | _ => none }
def fnExactImpliesConstraintRow : OpenClaim := { program := "ytnfddmchognlgaa", sum := "8244e0321fbfe29ca41386b43d729318d592980f85ee36845d9c879190b1a2c4", func := "loop.example/cuttingplanes/laws.FnExactImpliesConstraint", spec := "fnExactImpliesConstraint", apart := false }
def FnExactImpliesConstraintSaid : Prop := fnExactImpliesConstraintRow.holds Try.pinned (OpenSpec.ofChange fnExactImpliesConstraintSpec)

/-- ITS FALSE NEIGHBOUR: 'it returns false'. Refute it at one input. -/
def fnExactImpliesConstraintWrong : ChangeSpec := { name := "fnExactImpliesConstraint", fn := fun _ => fun
  | [d1, d2] => { results := [.lit (.bool false)], args := [d1, d2] }
  | _ => none }
def FnExactImpliesConstraintWrongFalsely : Prop := fnExactImpliesConstraintRow.holds Try.pinned (OpenSpec.ofChange fnExactImpliesConstraintWrong)

/-- 'laws.FnExactTightenBound': WHATEVER THE INPUT: true; the input reads as it did. -/
def fnExactTightenBoundSpec : ChangeSpec := { name := "fnExactTightenBound", fn := fun _ => fun
  | [d] => { results := [.lit (.bool true)], args := [d] }
  | _ => none }
def fnExactTightenBoundRow : OpenClaim := { program := "ytnfddmchognlgaa", sum := "8244e0321fbfe29ca41386b43d729318d592980f85ee36845d9c879190b1a2c4", func := "loop.example/cuttingplanes/laws.FnExactTightenBound", spec := "fnExactTightenBound", apart := false }
def FnExactTightenBoundSaid : Prop := fnExactTightenBoundRow.holds Try.pinned (OpenSpec.ofChange fnExactTightenBoundSpec)

/-- ITS FALSE NEIGHBOUR: 'it returns false'. Refute it at one input. -/
def fnExactTightenBoundWrong : ChangeSpec := { name := "fnExactTightenBound", fn := fun _ => fun
  | [d] => { results := [.lit (.bool false)], args := [d] }
  | _ => none }
def FnExactTightenBoundWrongFalsely : Prop := fnExactTightenBoundRow.holds Try.pinned (OpenSpec.ofChange fnExactTightenBoundWrong)

/- THE SECOND FORM. 'bulk': how many values and letters a reading holds, each counted each time it is reached (what is shared counts as often as it is met; a slice's spare places count too). A statement '..UptoSaid' is the law's where the arguments, and the package variables that the reading takes, are together of bulk at most 1048576: NARROWER than '..Said'. Prove '..Said' where nothing that the law and all that it calls make is longer than what came in: it says more and counts as full. Else prove '..UptoSaid'. A law counts once. -/
mutual
def uptoBulk {H : Type} : DataW H → Nat
  | .lit (.string bytes) => bytes.length + 1
  | .lit _ => 1
  | .nil => 1
  | .ptr d => uptoBulk d + 1
  | .slice elems spare => uptoBulkAll elems + uptoBulkAll spare + 1
  | .agg parts => uptoBulkAll parts + 1
  | .iface _ d => uptoBulk d + 1
  | .map entries => uptoBulkEntries entries + 1
  | .held _ => 1
def uptoBulkAll {H : Type} : List (DataW H) → Nat
  | [] => 0
  | d :: r => uptoBulk d + uptoBulkAll r
def uptoBulkEntries {H : Type} : List (Lit × DataW H) → Nat
  | [] => 0
  | x :: r => uptoBulkEntry x + uptoBulkEntries r
def uptoBulkEntry {H : Type} : Lit × DataW H → Nat
  | (.string bytes, d) => bytes.length + uptoBulk d + 1
  | (_, d) => uptoBulk d + 1
 end
def uptoSmall : (H : Type) → List (DataW H) → Bool := fun _ ds => decide (uptoBulkAll ds ≤ 1048576)
def OpenSpec.upto (s : _root_.Go.ChangeSpec) : _root_.Go.OpenSpec := { _root_.Go.OpenSpec.ofChange s with cond := some uptoSmall }

/-- 'laws.FnExactFormatValues', WHERE WHAT IT READS IS OF BULK AT MOST 1048576: true; the input reads as it did. -/
def fnExactFormatValuesUptoRow : OpenClaim := { program := "ytnfddmchognlgaa", sum := "8244e0321fbfe29ca41386b43d729318d592980f85ee36845d9c879190b1a2c4", func := "loop.example/cuttingplanes/laws.FnExactFormatValues", spec := "fnExactFormatValues", apart := false, narrowed := true }
def FnExactFormatValuesUptoSaid : Prop := fnExactFormatValuesUptoRow.holds Try.pinned (OpenSpec.upto fnExactFormatValuesSpec)

/-- 'laws.FnExactParseValues', WHERE WHAT IT READS IS OF BULK AT MOST 1048576: true; the input reads as it did. -/
def fnExactParseValuesUptoRow : OpenClaim := { program := "ytnfddmchognlgaa", sum := "8244e0321fbfe29ca41386b43d729318d592980f85ee36845d9c879190b1a2c4", func := "loop.example/cuttingplanes/laws.FnExactParseValues", spec := "fnExactParseValues", apart := false, narrowed := true }
def FnExactParseValuesUptoSaid : Prop := fnExactParseValuesUptoRow.holds Try.pinned (OpenSpec.upto fnExactParseValuesSpec)

/-- 'laws.FnValuesText', WHERE WHAT IT READS IS OF BULK AT MOST 1048576: true; the input reads as it did. -/
def fnValuesTextUptoRow : OpenClaim := { program := "ytnfddmchognlgaa", sum := "8244e0321fbfe29ca41386b43d729318d592980f85ee36845d9c879190b1a2c4", func := "loop.example/cuttingplanes/laws.FnValuesText", spec := "fnValuesText", apart := false, narrowed := true }
def FnValuesTextUptoSaid : Prop := fnValuesTextUptoRow.holds Try.pinned (OpenSpec.upto fnValuesTextSpec)

/-- 'laws.FnExactCommonDivisor', WHERE WHAT IT READS IS OF BULK AT MOST 1048576: true; the input reads as it did. -/
def fnExactCommonDivisorUptoRow : OpenClaim := { program := "ytnfddmchognlgaa", sum := "8244e0321fbfe29ca41386b43d729318d592980f85ee36845d9c879190b1a2c4", func := "loop.example/cuttingplanes/laws.FnExactCommonDivisor", spec := "fnExactCommonDivisor", apart := false, narrowed := true }
def FnExactCommonDivisorUptoSaid : Prop := fnExactCommonDivisorUptoRow.holds Try.pinned (OpenSpec.upto fnExactCommonDivisorSpec)

/-- 'laws.FnExcludeClause', WHERE WHAT IT READS IS OF BULK AT MOST 1048576: true; the input reads as it did. -/
def fnExcludeClauseUptoRow : OpenClaim := { program := "ytnfddmchognlgaa", sum := "8244e0321fbfe29ca41386b43d729318d592980f85ee36845d9c879190b1a2c4", func := "loop.example/cuttingplanes/laws.FnExcludeClause", spec := "fnExcludeClause", apart := false, narrowed := true }
def FnExcludeClauseUptoSaid : Prop := fnExcludeClauseUptoRow.holds Try.pinned (OpenSpec.upto fnExcludeClauseSpec)

/-- 'laws.FnExactCountConstraint', WHERE WHAT IT READS IS OF BULK AT MOST 1048576: true; the input reads as it did. -/
def fnExactCountConstraintUptoRow : OpenClaim := { program := "ytnfddmchognlgaa", sum := "8244e0321fbfe29ca41386b43d729318d592980f85ee36845d9c879190b1a2c4", func := "loop.example/cuttingplanes/laws.FnExactCountConstraint", spec := "fnExactCountConstraint", apart := false, narrowed := true }
def FnExactCountConstraintUptoSaid : Prop := fnExactCountConstraintUptoRow.holds Try.pinned (OpenSpec.upto fnExactCountConstraintSpec)

/-- 'laws.FnExactExcludeClause', WHERE WHAT IT READS IS OF BULK AT MOST 1048576: true; the input reads as it did. -/
def fnExactExcludeClauseUptoRow : OpenClaim := { program := "ytnfddmchognlgaa", sum := "8244e0321fbfe29ca41386b43d729318d592980f85ee36845d9c879190b1a2c4", func := "loop.example/cuttingplanes/laws.FnExactExcludeClause", spec := "fnExactExcludeClause", apart := false, narrowed := true }
def FnExactExcludeClauseUptoSaid : Prop := fnExactExcludeClauseUptoRow.holds Try.pinned (OpenSpec.upto fnExactExcludeClauseSpec)

/-- 'laws.FnExactStrongestBound', WHERE WHAT IT READS IS OF BULK AT MOST 1048576: true; the input reads as it did. -/
def fnExactStrongestBoundUptoRow : OpenClaim := { program := "ytnfddmchognlgaa", sum := "8244e0321fbfe29ca41386b43d729318d592980f85ee36845d9c879190b1a2c4", func := "loop.example/cuttingplanes/laws.FnExactStrongestBound", spec := "fnExactStrongestBound", apart := false, narrowed := true }
def FnExactStrongestBoundUptoSaid : Prop := fnExactStrongestBoundUptoRow.holds Try.pinned (OpenSpec.upto fnExactStrongestBoundSpec)

/-- 'laws.FnExactSumTable', WHERE WHAT IT READS IS OF BULK AT MOST 1048576: true; the input reads as it did. -/
def fnExactSumTableUptoRow : OpenClaim := { program := "ytnfddmchognlgaa", sum := "8244e0321fbfe29ca41386b43d729318d592980f85ee36845d9c879190b1a2c4", func := "loop.example/cuttingplanes/laws.FnExactSumTable", spec := "fnExactSumTable", apart := false, narrowed := true }
def FnExactSumTableUptoSaid : Prop := fnExactSumTableUptoRow.holds Try.pinned (OpenSpec.upto fnExactSumTableSpec)

/-- 'laws.FnCountConstraint', WHERE WHAT IT READS IS OF BULK AT MOST 1048576: true; the input reads as it did. -/
def fnCountConstraintUptoRow : OpenClaim := { program := "ytnfddmchognlgaa", sum := "8244e0321fbfe29ca41386b43d729318d592980f85ee36845d9c879190b1a2c4", func := "loop.example/cuttingplanes/laws.FnCountConstraint", spec := "fnCountConstraint", apart := false, narrowed := true }
def FnCountConstraintUptoSaid : Prop := fnCountConstraintUptoRow.holds Try.pinned (OpenSpec.upto fnCountConstraintSpec)

/-- 'laws.FnExactImpliesConstraint', WHERE WHAT IT READS IS OF BULK AT MOST 1048576: true; the input reads as it did. -/
def fnExactImpliesConstraintUptoRow : OpenClaim := { program := "ytnfddmchognlgaa", sum := "8244e0321fbfe29ca41386b43d729318d592980f85ee36845d9c879190b1a2c4", func := "loop.example/cuttingplanes/laws.FnExactImpliesConstraint", spec := "fnExactImpliesConstraint", apart := false, narrowed := true }
def FnExactImpliesConstraintUptoSaid : Prop := fnExactImpliesConstraintUptoRow.holds Try.pinned (OpenSpec.upto fnExactImpliesConstraintSpec)

/-- 'laws.FnExactTightenBound', WHERE WHAT IT READS IS OF BULK AT MOST 1048576: true; the input reads as it did. -/
def fnExactTightenBoundUptoRow : OpenClaim := { program := "ytnfddmchognlgaa", sum := "8244e0321fbfe29ca41386b43d729318d592980f85ee36845d9c879190b1a2c4", func := "loop.example/cuttingplanes/laws.FnExactTightenBound", spec := "fnExactTightenBound", apart := false, narrowed := true }
def FnExactTightenBoundUptoSaid : Prop := fnExactTightenBoundUptoRow.holds Try.pinned (OpenSpec.upto fnExactTightenBoundSpec)

end Rows
end Go.Proofs.Ytnfddmchognlgaa

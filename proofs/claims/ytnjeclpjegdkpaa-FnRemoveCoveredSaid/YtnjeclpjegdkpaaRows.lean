/-
  No cell of these rows narrows 'for every input' (looked for: loops, veiled, ifaces, maps, wideKeys, modest, calm, conditions, laid).
  DERIVED. THE GIVEN ROWS OF THIS SEAT. 12 by the template 'for every input the law returns true; each argument reads behind the call as it read before'; 0 by the template 'total and deterministic' (their statements: YtnjeclpjegdkpaaTotals.lean).
  GIVEN WITH THE SEED: the statements are not yours to turn. If you find one false, say at which input.
  Laid BY PROGRAM, IN A SANDBOX (cutbox-rows.mjs): the forced cells as the released guide's own fill.sh prints them over the translation 52fc3216ad8f4553… (all of the seat's roots in one cut). By AI agents, Wed Nov 11 2026. No macro, syntax, notation, axiom, sorry.
-/
import Derived.Test.YtnjeclpjegdkpaaChecked
import GoSem.Claim
import GoSem.ClaimJoined
import GoSem.ClaimMapViews
import Derived.JoinedTies
import Derived.KernelRfl
namespace Go.Proofs.Ytnjeclpjegdkpaa
/- THE CELL 'sum', in the pinned program and in every row, IS THE sha256 OF THE DUMP (.gsa) THAT YtnjeclpjegdkpaaProg.lean LOADS. Nothing in Lean hashes anything: it is a label: what it is worth is what the hold of that sum in a sandbox is worth. -/
noncomputable def Try.pinned : Pinned := { name := "ytnjeclpjegdkpaa", sum := "52fc3216ad8f4553e851a8f2b3b0fabc5d8e45a34e6e90cb5d81d842ad3375a1", checked := Try.checked }
namespace Rows
def none {H : Type} : Left H := { results := [], args := [] }

/-- 'laws.FnPureLiterals': WHATEVER THE INPUT: true; the input reads as it did. -/
def fnPureLiteralsSpec : ChangeSpec := { name := "fnPureLiterals", fn := fun _ => fun
  | [d1, d2] => { results := [.lit (.bool true)], args := [d1, d2] }
  | _ => none }
def fnPureLiteralsRow : OpenClaim := { program := "ytnjeclpjegdkpaa", sum := "52fc3216ad8f4553e851a8f2b3b0fabc5d8e45a34e6e90cb5d81d842ad3375a1", func := "loop.example/cuttingplanes/laws.FnPureLiterals", spec := "fnPureLiterals", unfollowed := true, recurses := true, apart := false }
def FnPureLiteralsSaid : Prop := fnPureLiteralsRow.holds Try.pinned (OpenSpec.ofChange fnPureLiteralsSpec)

/-- ITS FALSE NEIGHBOUR: 'it returns false'. Refute it at one input. -/
def fnPureLiteralsWrong : ChangeSpec := { name := "fnPureLiterals", fn := fun _ => fun
  | [d1, d2] => { results := [.lit (.bool false)], args := [d1, d2] }
  | _ => none }
def FnPureLiteralsWrongFalsely : Prop := fnPureLiteralsRow.holds Try.pinned (OpenSpec.ofChange fnPureLiteralsWrong)

/-- 'laws.FnExactFixLiteral': WHATEVER THE INPUT: true; the input reads as it did. -/
def fnExactFixLiteralSpec : ChangeSpec := { name := "fnExactFixLiteral", fn := fun _ => fun
  | [d1, d2] => { results := [.lit (.bool true)], args := [d1, d2] }
  | _ => none }
def fnExactFixLiteralRow : OpenClaim := { program := "ytnjeclpjegdkpaa", sum := "52fc3216ad8f4553e851a8f2b3b0fabc5d8e45a34e6e90cb5d81d842ad3375a1", func := "loop.example/cuttingplanes/laws.FnExactFixLiteral", spec := "fnExactFixLiteral", unfollowed := true, recurses := true, apart := false }
def FnExactFixLiteralSaid : Prop := fnExactFixLiteralRow.holds Try.pinned (OpenSpec.ofChange fnExactFixLiteralSpec)

/-- ITS FALSE NEIGHBOUR: 'it returns false'. Refute it at one input. -/
def fnExactFixLiteralWrong : ChangeSpec := { name := "fnExactFixLiteral", fn := fun _ => fun
  | [d1, d2] => { results := [.lit (.bool false)], args := [d1, d2] }
  | _ => none }
def FnExactFixLiteralWrongFalsely : Prop := fnExactFixLiteralRow.holds Try.pinned (OpenSpec.ofChange fnExactFixLiteralWrong)

/-- 'laws.FnExactFixPartial': WHATEVER THE INPUT: true; the input reads as it did. -/
def fnExactFixPartialSpec : ChangeSpec := { name := "fnExactFixPartial", fn := fun _ => fun
  | [d1, d2] => { results := [.lit (.bool true)], args := [d1, d2] }
  | _ => none }
def fnExactFixPartialRow : OpenClaim := { program := "ytnjeclpjegdkpaa", sum := "52fc3216ad8f4553e851a8f2b3b0fabc5d8e45a34e6e90cb5d81d842ad3375a1", func := "loop.example/cuttingplanes/laws.FnExactFixPartial", spec := "fnExactFixPartial", unfollowed := true, recurses := true, apart := false }
def FnExactFixPartialSaid : Prop := fnExactFixPartialRow.holds Try.pinned (OpenSpec.ofChange fnExactFixPartialSpec)

/-- ITS FALSE NEIGHBOUR: 'it returns false'. Refute it at one input. -/
def fnExactFixPartialWrong : ChangeSpec := { name := "fnExactFixPartial", fn := fun _ => fun
  | [d1, d2] => { results := [.lit (.bool false)], args := [d1, d2] }
  | _ => none }
def FnExactFixPartialWrongFalsely : Prop := fnExactFixPartialRow.holds Try.pinned (OpenSpec.ofChange fnExactFixPartialWrong)

/-- 'laws.FnExactRemoveCovered': WHATEVER THE INPUT: true; the input reads as it did. -/
def fnExactRemoveCoveredSpec : ChangeSpec := { name := "fnExactRemoveCovered", fn := fun _ => fun
  | [d] => { results := [.lit (.bool true)], args := [d] }
  | _ => none }
def fnExactRemoveCoveredRow : OpenClaim := { program := "ytnjeclpjegdkpaa", sum := "52fc3216ad8f4553e851a8f2b3b0fabc5d8e45a34e6e90cb5d81d842ad3375a1", func := "loop.example/cuttingplanes/laws.FnExactRemoveCovered", spec := "fnExactRemoveCovered", unfollowed := true, recurses := true, apart := false }
def FnExactRemoveCoveredSaid : Prop := fnExactRemoveCoveredRow.holds Try.pinned (OpenSpec.ofChange fnExactRemoveCoveredSpec)

/-- ITS FALSE NEIGHBOUR: 'it returns false'. Refute it at one input. -/
def fnExactRemoveCoveredWrong : ChangeSpec := { name := "fnExactRemoveCovered", fn := fun _ => fun
  | [d] => { results := [.lit (.bool false)], args := [d] }
  | _ => none }
def FnExactRemoveCoveredWrongFalsely : Prop := fnExactRemoveCoveredRow.holds Try.pinned (OpenSpec.ofChange fnExactRemoveCoveredWrong)

/-- 'laws.FnFixPartial': WHATEVER THE INPUT: true; the input reads as it did. -/
def fnFixPartialSpec : ChangeSpec := { name := "fnFixPartial", fn := fun _ => fun
  | [d1, d2] => { results := [.lit (.bool true)], args := [d1, d2] }
  | _ => none }
def fnFixPartialRow : OpenClaim := { program := "ytnjeclpjegdkpaa", sum := "52fc3216ad8f4553e851a8f2b3b0fabc5d8e45a34e6e90cb5d81d842ad3375a1", func := "loop.example/cuttingplanes/laws.FnFixPartial", spec := "fnFixPartial", unfollowed := true, recurses := true, apart := false }
def FnFixPartialSaid : Prop := fnFixPartialRow.holds Try.pinned (OpenSpec.ofChange fnFixPartialSpec)

/-- ITS FALSE NEIGHBOUR: 'it returns false'. Refute it at one input. -/
def fnFixPartialWrong : ChangeSpec := { name := "fnFixPartial", fn := fun _ => fun
  | [d1, d2] => { results := [.lit (.bool false)], args := [d1, d2] }
  | _ => none }
def FnFixPartialWrongFalsely : Prop := fnFixPartialRow.holds Try.pinned (OpenSpec.ofChange fnFixPartialWrong)

/-- 'laws.FnCountProjected': WHATEVER THE INPUT: true; the input reads as it did. -/
def fnCountProjectedSpec : ChangeSpec := { name := "fnCountProjected", fn := fun _ => fun
  | [d] => { results := [.lit (.bool true)], args := [d] }
  | _ => none }
def fnCountProjectedRow : OpenClaim := { program := "ytnjeclpjegdkpaa", sum := "52fc3216ad8f4553e851a8f2b3b0fabc5d8e45a34e6e90cb5d81d842ad3375a1", func := "loop.example/cuttingplanes/laws.FnCountProjected", spec := "fnCountProjected", unfollowed := true, recurses := true, apart := false }
def FnCountProjectedSaid : Prop := fnCountProjectedRow.holds Try.pinned (OpenSpec.ofChange fnCountProjectedSpec)

/-- ITS FALSE NEIGHBOUR: 'it returns false'. Refute it at one input. -/
def fnCountProjectedWrong : ChangeSpec := { name := "fnCountProjected", fn := fun _ => fun
  | [d] => { results := [.lit (.bool false)], args := [d] }
  | _ => none }
def FnCountProjectedWrongFalsely : Prop := fnCountProjectedRow.holds Try.pinned (OpenSpec.ofChange fnCountProjectedWrong)

/-- 'laws.FnFixLiteral': WHATEVER THE INPUT: true; the input reads as it did. -/
def fnFixLiteralSpec : ChangeSpec := { name := "fnFixLiteral", fn := fun _ => fun
  | [d] => { results := [.lit (.bool true)], args := [d] }
  | _ => none }
def fnFixLiteralRow : OpenClaim := { program := "ytnjeclpjegdkpaa", sum := "52fc3216ad8f4553e851a8f2b3b0fabc5d8e45a34e6e90cb5d81d842ad3375a1", func := "loop.example/cuttingplanes/laws.FnFixLiteral", spec := "fnFixLiteral", unfollowed := true, recurses := true, apart := false }
def FnFixLiteralSaid : Prop := fnFixLiteralRow.holds Try.pinned (OpenSpec.ofChange fnFixLiteralSpec)

/-- ITS FALSE NEIGHBOUR: 'it returns false'. Refute it at one input. -/
def fnFixLiteralWrong : ChangeSpec := { name := "fnFixLiteral", fn := fun _ => fun
  | [d] => { results := [.lit (.bool false)], args := [d] }
  | _ => none }
def FnFixLiteralWrongFalsely : Prop := fnFixLiteralRow.holds Try.pinned (OpenSpec.ofChange fnFixLiteralWrong)

/-- 'laws.FnImpliesConstraint': WHATEVER THE INPUT: true; the input reads as it did. -/
def fnImpliesConstraintSpec : ChangeSpec := { name := "fnImpliesConstraint", fn := fun _ => fun
  | [d] => { results := [.lit (.bool true)], args := [d] }
  | _ => none }
def fnImpliesConstraintRow : OpenClaim := { program := "ytnjeclpjegdkpaa", sum := "52fc3216ad8f4553e851a8f2b3b0fabc5d8e45a34e6e90cb5d81d842ad3375a1", func := "loop.example/cuttingplanes/laws.FnImpliesConstraint", spec := "fnImpliesConstraint", unfollowed := true, recurses := true, apart := false }
def FnImpliesConstraintSaid : Prop := fnImpliesConstraintRow.holds Try.pinned (OpenSpec.ofChange fnImpliesConstraintSpec)

/-- ITS FALSE NEIGHBOUR: 'it returns false'. Refute it at one input. -/
def fnImpliesConstraintWrong : ChangeSpec := { name := "fnImpliesConstraint", fn := fun _ => fun
  | [d] => { results := [.lit (.bool false)], args := [d] }
  | _ => none }
def FnImpliesConstraintWrongFalsely : Prop := fnImpliesConstraintRow.holds Try.pinned (OpenSpec.ofChange fnImpliesConstraintWrong)

/-- 'laws.FnImpliesCovers': WHATEVER THE INPUT: true; the input reads as it did. -/
def fnImpliesCoversSpec : ChangeSpec := { name := "fnImpliesCovers", fn := fun _ => fun
  | [d1, d2] => { results := [.lit (.bool true)], args := [d1, d2] }
  | _ => none }
def fnImpliesCoversRow : OpenClaim := { program := "ytnjeclpjegdkpaa", sum := "52fc3216ad8f4553e851a8f2b3b0fabc5d8e45a34e6e90cb5d81d842ad3375a1", func := "loop.example/cuttingplanes/laws.FnImpliesCovers", spec := "fnImpliesCovers", unfollowed := true, recurses := true, apart := false }
def FnImpliesCoversSaid : Prop := fnImpliesCoversRow.holds Try.pinned (OpenSpec.ofChange fnImpliesCoversSpec)

/-- ITS FALSE NEIGHBOUR: 'it returns false'. Refute it at one input. -/
def fnImpliesCoversWrong : ChangeSpec := { name := "fnImpliesCovers", fn := fun _ => fun
  | [d1, d2] => { results := [.lit (.bool false)], args := [d1, d2] }
  | _ => none }
def FnImpliesCoversWrongFalsely : Prop := fnImpliesCoversRow.holds Try.pinned (OpenSpec.ofChange fnImpliesCoversWrong)

/-- 'laws.FnClausesMinimal': WHATEVER THE INPUT: true; the input reads as it did. -/
def fnClausesMinimalSpec : ChangeSpec := { name := "fnClausesMinimal", fn := fun _ => fun
  | [d] => { results := [.lit (.bool true)], args := [d] }
  | _ => none }
def fnClausesMinimalRow : OpenClaim := { program := "ytnjeclpjegdkpaa", sum := "52fc3216ad8f4553e851a8f2b3b0fabc5d8e45a34e6e90cb5d81d842ad3375a1", func := "loop.example/cuttingplanes/laws.FnClausesMinimal", spec := "fnClausesMinimal", unfollowed := true, recurses := true, apart := false }
def FnClausesMinimalSaid : Prop := fnClausesMinimalRow.holds Try.pinned (OpenSpec.ofChange fnClausesMinimalSpec)

/-- ITS FALSE NEIGHBOUR: 'it returns false'. Refute it at one input. -/
def fnClausesMinimalWrong : ChangeSpec := { name := "fnClausesMinimal", fn := fun _ => fun
  | [d] => { results := [.lit (.bool false)], args := [d] }
  | _ => none }
def FnClausesMinimalWrongFalsely : Prop := fnClausesMinimalRow.holds Try.pinned (OpenSpec.ofChange fnClausesMinimalWrong)

/-- 'laws.FnExactFailedLiterals': WHATEVER THE INPUT: true; the input reads as it did. -/
def fnExactFailedLiteralsSpec : ChangeSpec := { name := "fnExactFailedLiterals", fn := fun _ => fun
  | [d] => { results := [.lit (.bool true)], args := [d] }
  | _ => none }
def fnExactFailedLiteralsRow : OpenClaim := { program := "ytnjeclpjegdkpaa", sum := "52fc3216ad8f4553e851a8f2b3b0fabc5d8e45a34e6e90cb5d81d842ad3375a1", func := "loop.example/cuttingplanes/laws.FnExactFailedLiterals", spec := "fnExactFailedLiterals", unfollowed := true, recurses := true, apart := false }
def FnExactFailedLiteralsSaid : Prop := fnExactFailedLiteralsRow.holds Try.pinned (OpenSpec.ofChange fnExactFailedLiteralsSpec)

/-- ITS FALSE NEIGHBOUR: 'it returns false'. Refute it at one input. -/
def fnExactFailedLiteralsWrong : ChangeSpec := { name := "fnExactFailedLiterals", fn := fun _ => fun
  | [d] => { results := [.lit (.bool false)], args := [d] }
  | _ => none }
def FnExactFailedLiteralsWrongFalsely : Prop := fnExactFailedLiteralsRow.holds Try.pinned (OpenSpec.ofChange fnExactFailedLiteralsWrong)

/-- 'laws.FnRemoveCovered': WHATEVER THE INPUT: true; the input reads as it did. -/
def fnRemoveCoveredSpec : ChangeSpec := { name := "fnRemoveCovered", fn := fun _ => fun
  | [d] => { results := [.lit (.bool true)], args := [d] }
  | _ => none }
def fnRemoveCoveredRow : OpenClaim := { program := "ytnjeclpjegdkpaa", sum := "52fc3216ad8f4553e851a8f2b3b0fabc5d8e45a34e6e90cb5d81d842ad3375a1", func := "loop.example/cuttingplanes/laws.FnRemoveCovered", spec := "fnRemoveCovered", unfollowed := true, recurses := true, apart := false }
def FnRemoveCoveredSaid : Prop := fnRemoveCoveredRow.holds Try.pinned (OpenSpec.ofChange fnRemoveCoveredSpec)

/-- ITS FALSE NEIGHBOUR: 'it returns false'. Refute it at one input. -/
def fnRemoveCoveredWrong : ChangeSpec := { name := "fnRemoveCovered", fn := fun _ => fun
  | [d] => { results := [.lit (.bool false)], args := [d] }
  | _ => none }
def FnRemoveCoveredWrongFalsely : Prop := fnRemoveCoveredRow.holds Try.pinned (OpenSpec.ofChange fnRemoveCoveredWrong)

/- THE SECOND FORM. 'bulk': how many values and letters a reading holds, each counted each time it is reached (what is shared counts as often as it is met; a slice's spare places count too). A statement '..UptoSaid' is the law's where the arguments, and the package variables that the reading takes, are together of bulk at most 1048576: NARROWER than '..Said'. Prove '..Said' where nothing that the law and all that it calls make is longer than what came in: it says more and counts as full. Else prove '..UptoSaid'. A law counts once. -/
mutual
def uptoBulk {H : Type} : DataW H → Nat
  | .lit (.string bytes) => bytes.length + 1
  | .lit _ => 1
  | .nil => 1
  | .ptr d => uptoBulk d + 1
  | .slice elems spare => uptoBulkAll elems + uptoBulkAll spare + 1
  | .agg parts => uptoBulkAll parts + 1
  | .iface _ d => uptoBulk d + 1
  | .map entries => uptoBulkEntries entries + 1
  | .held _ => 1
def uptoBulkAll {H : Type} : List (DataW H) → Nat
  | [] => 0
  | d :: r => uptoBulk d + uptoBulkAll r
def uptoBulkEntries {H : Type} : List (Lit × DataW H) → Nat
  | [] => 0
  | x :: r => uptoBulkEntry x + uptoBulkEntries r
def uptoBulkEntry {H : Type} : Lit × DataW H → Nat
  | (.string bytes, d) => bytes.length + uptoBulk d + 1
  | (_, d) => uptoBulk d + 1
 end
def uptoSmall : (H : Type) → List (DataW H) → Bool := fun _ ds => decide (uptoBulkAll ds ≤ 1048576)
def OpenSpec.upto (s : _root_.Go.ChangeSpec) : _root_.Go.OpenSpec := { _root_.Go.OpenSpec.ofChange s with cond := some uptoSmall }

/-- 'laws.FnPureLiterals', WHERE WHAT IT READS IS OF BULK AT MOST 1048576: true; the input reads as it did. -/
def fnPureLiteralsUptoRow : OpenClaim := { program := "ytnjeclpjegdkpaa", sum := "52fc3216ad8f4553e851a8f2b3b0fabc5d8e45a34e6e90cb5d81d842ad3375a1", func := "loop.example/cuttingplanes/laws.FnPureLiterals", spec := "fnPureLiterals", unfollowed := true, recurses := true, apart := false, narrowed := true }
def FnPureLiteralsUptoSaid : Prop := fnPureLiteralsUptoRow.holds Try.pinned (OpenSpec.upto fnPureLiteralsSpec)

/-- 'laws.FnExactFixLiteral', WHERE WHAT IT READS IS OF BULK AT MOST 1048576: true; the input reads as it did. -/
def fnExactFixLiteralUptoRow : OpenClaim := { program := "ytnjeclpjegdkpaa", sum := "52fc3216ad8f4553e851a8f2b3b0fabc5d8e45a34e6e90cb5d81d842ad3375a1", func := "loop.example/cuttingplanes/laws.FnExactFixLiteral", spec := "fnExactFixLiteral", unfollowed := true, recurses := true, apart := false, narrowed := true }
def FnExactFixLiteralUptoSaid : Prop := fnExactFixLiteralUptoRow.holds Try.pinned (OpenSpec.upto fnExactFixLiteralSpec)

/-- 'laws.FnExactFixPartial', WHERE WHAT IT READS IS OF BULK AT MOST 1048576: true; the input reads as it did. -/
def fnExactFixPartialUptoRow : OpenClaim := { program := "ytnjeclpjegdkpaa", sum := "52fc3216ad8f4553e851a8f2b3b0fabc5d8e45a34e6e90cb5d81d842ad3375a1", func := "loop.example/cuttingplanes/laws.FnExactFixPartial", spec := "fnExactFixPartial", unfollowed := true, recurses := true, apart := false, narrowed := true }
def FnExactFixPartialUptoSaid : Prop := fnExactFixPartialUptoRow.holds Try.pinned (OpenSpec.upto fnExactFixPartialSpec)

/-- 'laws.FnExactRemoveCovered', WHERE WHAT IT READS IS OF BULK AT MOST 1048576: true; the input reads as it did. -/
def fnExactRemoveCoveredUptoRow : OpenClaim := { program := "ytnjeclpjegdkpaa", sum := "52fc3216ad8f4553e851a8f2b3b0fabc5d8e45a34e6e90cb5d81d842ad3375a1", func := "loop.example/cuttingplanes/laws.FnExactRemoveCovered", spec := "fnExactRemoveCovered", unfollowed := true, recurses := true, apart := false, narrowed := true }
def FnExactRemoveCoveredUptoSaid : Prop := fnExactRemoveCoveredUptoRow.holds Try.pinned (OpenSpec.upto fnExactRemoveCoveredSpec)

/-- 'laws.FnFixPartial', WHERE WHAT IT READS IS OF BULK AT MOST 1048576: true; the input reads as it did. -/
def fnFixPartialUptoRow : OpenClaim := { program := "ytnjeclpjegdkpaa", sum := "52fc3216ad8f4553e851a8f2b3b0fabc5d8e45a34e6e90cb5d81d842ad3375a1", func := "loop.example/cuttingplanes/laws.FnFixPartial", spec := "fnFixPartial", unfollowed := true, recurses := true, apart := false, narrowed := true }
def FnFixPartialUptoSaid : Prop := fnFixPartialUptoRow.holds Try.pinned (OpenSpec.upto fnFixPartialSpec)

/-- 'laws.FnCountProjected', WHERE WHAT IT READS IS OF BULK AT MOST 1048576: true; the input reads as it did. -/
def fnCountProjectedUptoRow : OpenClaim := { program := "ytnjeclpjegdkpaa", sum := "52fc3216ad8f4553e851a8f2b3b0fabc5d8e45a34e6e90cb5d81d842ad3375a1", func := "loop.example/cuttingplanes/laws.FnCountProjected", spec := "fnCountProjected", unfollowed := true, recurses := true, apart := false, narrowed := true }
def FnCountProjectedUptoSaid : Prop := fnCountProjectedUptoRow.holds Try.pinned (OpenSpec.upto fnCountProjectedSpec)

/-- 'laws.FnFixLiteral', WHERE WHAT IT READS IS OF BULK AT MOST 1048576: true; the input reads as it did. -/
def fnFixLiteralUptoRow : OpenClaim := { program := "ytnjeclpjegdkpaa", sum := "52fc3216ad8f4553e851a8f2b3b0fabc5d8e45a34e6e90cb5d81d842ad3375a1", func := "loop.example/cuttingplanes/laws.FnFixLiteral", spec := "fnFixLiteral", unfollowed := true, recurses := true, apart := false, narrowed := true }
def FnFixLiteralUptoSaid : Prop := fnFixLiteralUptoRow.holds Try.pinned (OpenSpec.upto fnFixLiteralSpec)

/-- 'laws.FnImpliesConstraint', WHERE WHAT IT READS IS OF BULK AT MOST 1048576: true; the input reads as it did. -/
def fnImpliesConstraintUptoRow : OpenClaim := { program := "ytnjeclpjegdkpaa", sum := "52fc3216ad8f4553e851a8f2b3b0fabc5d8e45a34e6e90cb5d81d842ad3375a1", func := "loop.example/cuttingplanes/laws.FnImpliesConstraint", spec := "fnImpliesConstraint", unfollowed := true, recurses := true, apart := false, narrowed := true }
def FnImpliesConstraintUptoSaid : Prop := fnImpliesConstraintUptoRow.holds Try.pinned (OpenSpec.upto fnImpliesConstraintSpec)

/-- 'laws.FnImpliesCovers', WHERE WHAT IT READS IS OF BULK AT MOST 1048576: true; the input reads as it did. -/
def fnImpliesCoversUptoRow : OpenClaim := { program := "ytnjeclpjegdkpaa", sum := "52fc3216ad8f4553e851a8f2b3b0fabc5d8e45a34e6e90cb5d81d842ad3375a1", func := "loop.example/cuttingplanes/laws.FnImpliesCovers", spec := "fnImpliesCovers", unfollowed := true, recurses := true, apart := false, narrowed := true }
def FnImpliesCoversUptoSaid : Prop := fnImpliesCoversUptoRow.holds Try.pinned (OpenSpec.upto fnImpliesCoversSpec)

/-- 'laws.FnClausesMinimal', WHERE WHAT IT READS IS OF BULK AT MOST 1048576: true; the input reads as it did. -/
def fnClausesMinimalUptoRow : OpenClaim := { program := "ytnjeclpjegdkpaa", sum := "52fc3216ad8f4553e851a8f2b3b0fabc5d8e45a34e6e90cb5d81d842ad3375a1", func := "loop.example/cuttingplanes/laws.FnClausesMinimal", spec := "fnClausesMinimal", unfollowed := true, recurses := true, apart := false, narrowed := true }
def FnClausesMinimalUptoSaid : Prop := fnClausesMinimalUptoRow.holds Try.pinned (OpenSpec.upto fnClausesMinimalSpec)

/-- 'laws.FnExactFailedLiterals', WHERE WHAT IT READS IS OF BULK AT MOST 1048576: true; the input reads as it did. -/
def fnExactFailedLiteralsUptoRow : OpenClaim := { program := "ytnjeclpjegdkpaa", sum := "52fc3216ad8f4553e851a8f2b3b0fabc5d8e45a34e6e90cb5d81d842ad3375a1", func := "loop.example/cuttingplanes/laws.FnExactFailedLiterals", spec := "fnExactFailedLiterals", unfollowed := true, recurses := true, apart := false, narrowed := true }
def FnExactFailedLiteralsUptoSaid : Prop := fnExactFailedLiteralsUptoRow.holds Try.pinned (OpenSpec.upto fnExactFailedLiteralsSpec)

/-- 'laws.FnRemoveCovered', WHERE WHAT IT READS IS OF BULK AT MOST 1048576: true; the input reads as it did. -/
def fnRemoveCoveredUptoRow : OpenClaim := { program := "ytnjeclpjegdkpaa", sum := "52fc3216ad8f4553e851a8f2b3b0fabc5d8e45a34e6e90cb5d81d842ad3375a1", func := "loop.example/cuttingplanes/laws.FnRemoveCovered", spec := "fnRemoveCovered", unfollowed := true, recurses := true, apart := false, narrowed := true }
def FnRemoveCoveredUptoSaid : Prop := fnRemoveCoveredUptoRow.holds Try.pinned (OpenSpec.upto fnRemoveCoveredSpec)

end Rows
end Go.Proofs.Ytnjeclpjegdkpaa

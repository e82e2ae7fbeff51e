/-
  No cell of these rows narrows 'for every input' (looked for: loops, veiled, ifaces, maps, wideKeys, modest, calm, conditions, laid).
  DERIVED. THE GIVEN ROWS OF THIS SEAT. 12 by the template 'for every input the law returns true; each argument reads behind the call as it read before'; 0 by the template 'total and deterministic' (their statements: YtfpikioibojoeaaTotals.lean).
  GIVEN WITH THE SEED: the statements are not yours to turn. If you find one false, say at which input.
  Laid BY PROGRAM, IN A SANDBOX (cutbox-rows.mjs): the forced cells as the released guide's own fill.sh prints them over the translation 4e625081777b5ba3… (all of the seat's roots in one cut). By AI agents, Wed Nov 11 2026. No macro, syntax, notation, axiom, sorry.
-/
import Derived.Test.YtfpikioibojoeaaChecked
import GoSem.Claim
import GoSem.ClaimJoined
import GoSem.ClaimMapViews
import Derived.JoinedTies
import Derived.KernelRfl
namespace Go.Proofs.Ytfpikioibojoeaa
/- THE CELL 'sum', in the pinned program and in every row, IS THE sha256 OF THE DUMP (.gsa) THAT YtfpikioibojoeaaProg.lean LOADS. Nothing in Lean hashes anything: it is a label: what it is worth is what the hold of that sum in a sandbox is worth. -/
noncomputable def Try.pinned : Pinned := { name := "ytfpikioibojoeaa", sum := "4e625081777b5ba3e9ccaddcf9772d51a7ddfd0a9a78e3fa86962f93d053af09", checked := Try.checked }
namespace Rows
def none {H : Type} : Left H := { results := [], args := [] }

/-- 'laws.FnSumMultiply': WHATEVER THE INPUT: true; the input reads as it did. -/
def fnSumMultiplySpec : ChangeSpec := { name := "fnSumMultiply", fn := fun _ => fun
  | [d1, d2] => { results := [.lit (.bool true)], args := [d1, d2] }
  | _ => none }
def fnSumMultiplyRow : OpenClaim := { program := "ytfpikioibojoeaa", sum := "4e625081777b5ba3e9ccaddcf9772d51a7ddfd0a9a78e3fa86962f93d053af09", func := "loop.example/cuttingplanes/laws.FnSumMultiply", spec := "fnSumMultiply", unfollowed := true, recurses := true, apart := false }
def FnSumMultiplySaid : Prop := fnSumMultiplyRow.holds Try.pinned (OpenSpec.ofChange fnSumMultiplySpec)

/-- ITS FALSE NEIGHBOUR: 'it returns false'. Refute it at one input. -/
def fnSumMultiplyWrong : ChangeSpec := { name := "fnSumMultiply", fn := fun _ => fun
  | [d1, d2] => { results := [.lit (.bool false)], args := [d1, d2] }
  | _ => none }
def FnSumMultiplyWrongFalsely : Prop := fnSumMultiplyRow.holds Try.pinned (OpenSpec.ofChange fnSumMultiplyWrong)

/-- 'laws.FnStrongestSelf': WHATEVER THE INPUT: true; the input reads as it did. -/
def fnStrongestSelfSpec : ChangeSpec := { name := "fnStrongestSelf", fn := fun _ => fun
  | [d] => { results := [.lit (.bool true)], args := [d] }
  | _ => none }
def fnStrongestSelfRow : OpenClaim := { program := "ytfpikioibojoeaa", sum := "4e625081777b5ba3e9ccaddcf9772d51a7ddfd0a9a78e3fa86962f93d053af09", func := "loop.example/cuttingplanes/laws.FnStrongestSelf", spec := "fnStrongestSelf", apart := false }
def FnStrongestSelfSaid : Prop := fnStrongestSelfRow.holds Try.pinned (OpenSpec.ofChange fnStrongestSelfSpec)

/-- ITS FALSE NEIGHBOUR: 'it returns false'. Refute it at one input. -/
def fnStrongestSelfWrong : ChangeSpec := { name := "fnStrongestSelf", fn := fun _ => fun
  | [d] => { results := [.lit (.bool false)], args := [d] }
  | _ => none }
def FnStrongestSelfWrongFalsely : Prop := fnStrongestSelfRow.holds Try.pinned (OpenSpec.ofChange fnStrongestSelfWrong)

/-- 'laws.FnCommonDivisor': WHATEVER THE INPUT: true; the input reads as it did. -/
def fnCommonDivisorSpec : ChangeSpec := { name := "fnCommonDivisor", fn := fun _ => fun
  | [d] => { results := [.lit (.bool true)], args := [d] }
  | _ => none }
def fnCommonDivisorRow : OpenClaim := { program := "ytfpikioibojoeaa", sum := "4e625081777b5ba3e9ccaddcf9772d51a7ddfd0a9a78e3fa86962f93d053af09", func := "loop.example/cuttingplanes/laws.FnCommonDivisor", spec := "fnCommonDivisor", unfollowed := true, recurses := true, apart := false }
def FnCommonDivisorSaid : Prop := fnCommonDivisorRow.holds Try.pinned (OpenSpec.ofChange fnCommonDivisorSpec)

/-- ITS FALSE NEIGHBOUR: 'it returns false'. Refute it at one input. -/
def fnCommonDivisorWrong : ChangeSpec := { name := "fnCommonDivisor", fn := fun _ => fun
  | [d] => { results := [.lit (.bool false)], args := [d] }
  | _ => none }
def FnCommonDivisorWrongFalsely : Prop := fnCommonDivisorRow.holds Try.pinned (OpenSpec.ofChange fnCommonDivisorWrong)

/-- 'laws.FnSumTable': WHATEVER THE INPUT: true; the input reads as it did. -/
def fnSumTableSpec : ChangeSpec := { name := "fnSumTable", fn := fun _ => fun
  | [d] => { results := [.lit (.bool true)], args := [d] }
  | _ => none }
def fnSumTableRow : OpenClaim := { program := "ytfpikioibojoeaa", sum := "4e625081777b5ba3e9ccaddcf9772d51a7ddfd0a9a78e3fa86962f93d053af09", func := "loop.example/cuttingplanes/laws.FnSumTable", spec := "fnSumTable", unfollowed := true, recurses := true, apart := false }
def FnSumTableSaid : Prop := fnSumTableRow.holds Try.pinned (OpenSpec.ofChange fnSumTableSpec)

/-- ITS FALSE NEIGHBOUR: 'it returns false'. Refute it at one input. -/
def fnSumTableWrong : ChangeSpec := { name := "fnSumTable", fn := fun _ => fun
  | [d] => { results := [.lit (.bool false)], args := [d] }
  | _ => none }
def FnSumTableWrongFalsely : Prop := fnSumTableRow.holds Try.pinned (OpenSpec.ofChange fnSumTableWrong)

/-- 'laws.FnExactPureLiterals': WHATEVER THE INPUT: true; the input reads as it did. -/
def fnExactPureLiteralsSpec : ChangeSpec := { name := "fnExactPureLiterals", fn := fun _ => fun
  | [d] => { results := [.lit (.bool true)], args := [d] }
  | _ => none }
def fnExactPureLiteralsRow : OpenClaim := { program := "ytfpikioibojoeaa", sum := "4e625081777b5ba3e9ccaddcf9772d51a7ddfd0a9a78e3fa86962f93d053af09", func := "loop.example/cuttingplanes/laws.FnExactPureLiterals", spec := "fnExactPureLiterals", unfollowed := true, recurses := true, apart := false }
def FnExactPureLiteralsSaid : Prop := fnExactPureLiteralsRow.holds Try.pinned (OpenSpec.ofChange fnExactPureLiteralsSpec)

/-- ITS FALSE NEIGHBOUR: 'it returns false'. Refute it at one input. -/
def fnExactPureLiteralsWrong : ChangeSpec := { name := "fnExactPureLiterals", fn := fun _ => fun
  | [d] => { results := [.lit (.bool false)], args := [d] }
  | _ => none }
def FnExactPureLiteralsWrongFalsely : Prop := fnExactPureLiteralsRow.holds Try.pinned (OpenSpec.ofChange fnExactPureLiteralsWrong)

/-- 'laws.FnTightenBound': WHATEVER THE INPUT: true; the input reads as it did. -/
def fnTightenBoundSpec : ChangeSpec := { name := "fnTightenBound", fn := fun _ => fun
  | [d] => { results := [.lit (.bool true)], args := [d] }
  | _ => none }
def fnTightenBoundRow : OpenClaim := { program := "ytfpikioibojoeaa", sum := "4e625081777b5ba3e9ccaddcf9772d51a7ddfd0a9a78e3fa86962f93d053af09", func := "loop.example/cuttingplanes/laws.FnTightenBound", spec := "fnTightenBound", apart := false }
def FnTightenBoundSaid : Prop := fnTightenBoundRow.holds Try.pinned (OpenSpec.ofChange fnTightenBoundSpec)

/-- ITS FALSE NEIGHBOUR: 'it returns false'. Refute it at one input. -/
def fnTightenBoundWrong : ChangeSpec := { name := "fnTightenBound", fn := fun _ => fun
  | [d] => { results := [.lit (.bool false)], args := [d] }
  | _ => none }
def FnTightenBoundWrongFalsely : Prop := fnTightenBoundRow.holds Try.pinned (OpenSpec.ofChange fnTightenBoundWrong)

/-- 'laws.FnExactClausesOf': WHATEVER THE INPUT: true; the input reads as it did. -/
def fnExactClausesOfSpec : ChangeSpec := { name := "fnExactClausesOf", fn := fun _ => fun
  | [d] => { results := [.lit (.bool true)], args := [d] }
  | _ => none }
def fnExactClausesOfRow : OpenClaim := { program := "ytfpikioibojoeaa", sum := "4e625081777b5ba3e9ccaddcf9772d51a7ddfd0a9a78e3fa86962f93d053af09", func := "loop.example/cuttingplanes/laws.FnExactClausesOf", spec := "fnExactClausesOf", apart := false }
def FnExactClausesOfSaid : Prop := fnExactClausesOfRow.holds Try.pinned (OpenSpec.ofChange fnExactClausesOfSpec)

/-- ITS FALSE NEIGHBOUR: 'it returns false'. Refute it at one input. -/
def fnExactClausesOfWrong : ChangeSpec := { name := "fnExactClausesOf", fn := fun _ => fun
  | [d] => { results := [.lit (.bool false)], args := [d] }
  | _ => none }
def FnExactClausesOfWrongFalsely : Prop := fnExactClausesOfRow.holds Try.pinned (OpenSpec.ofChange fnExactClausesOfWrong)

/-- 'laws.FnStrongestBound': WHATEVER THE INPUT: true; the input reads as it did. -/
def fnStrongestBoundSpec : ChangeSpec := { name := "fnStrongestBound", fn := fun _ => fun
  | [d] => { results := [.lit (.bool true)], args := [d] }
  | _ => none }
def fnStrongestBoundRow : OpenClaim := { program := "ytfpikioibojoeaa", sum := "4e625081777b5ba3e9ccaddcf9772d51a7ddfd0a9a78e3fa86962f93d053af09", func := "loop.example/cuttingplanes/laws.FnStrongestBound", spec := "fnStrongestBound", apart := false }
def FnStrongestBoundSaid : Prop := fnStrongestBoundRow.holds Try.pinned (OpenSpec.ofChange fnStrongestBoundSpec)

/-- ITS FALSE NEIGHBOUR: 'it returns false'. Refute it at one input. -/
def fnStrongestBoundWrong : ChangeSpec := { name := "fnStrongestBound", fn := fun _ => fun
  | [d] => { results := [.lit (.bool false)], args := [d] }
  | _ => none }
def FnStrongestBoundWrongFalsely : Prop := fnStrongestBoundRow.holds Try.pinned (OpenSpec.ofChange fnStrongestBoundWrong)

/-- 'laws.FnClausesCount': WHATEVER THE INPUT: true; the input reads as it did. -/
def fnClausesCountSpec : ChangeSpec := { name := "fnClausesCount", fn := fun _ => fun
  | [d] => { results := [.lit (.bool true)], args := [d] }
  | _ => none }
def fnClausesCountRow : OpenClaim := { program := "ytfpikioibojoeaa", sum := "4e625081777b5ba3e9ccaddcf9772d51a7ddfd0a9a78e3fa86962f93d053af09", func := "loop.example/cuttingplanes/laws.FnClausesCount", spec := "fnClausesCount", unfollowed := true, recurses := true, apart := false }
def FnClausesCountSaid : Prop := fnClausesCountRow.holds Try.pinned (OpenSpec.ofChange fnClausesCountSpec)

/-- ITS FALSE NEIGHBOUR: 'it returns false'. Refute it at one input. -/
def fnClausesCountWrong : ChangeSpec := { name := "fnClausesCount", fn := fun _ => fun
  | [d] => { results := [.lit (.bool false)], args := [d] }
  | _ => none }
def FnClausesCountWrongFalsely : Prop := fnClausesCountRow.holds Try.pinned (OpenSpec.ofChange fnClausesCountWrong)

/-- 'laws.FnFixOrder': WHATEVER THE INPUT: true; the input reads as it did. -/
def fnFixOrderSpec : ChangeSpec := { name := "fnFixOrder", fn := fun _ => fun
  | [d1, d2] => { results := [.lit (.bool true)], args := [d1, d2] }
  | _ => none }
def fnFixOrderRow : OpenClaim := { program := "ytfpikioibojoeaa", sum := "4e625081777b5ba3e9ccaddcf9772d51a7ddfd0a9a78e3fa86962f93d053af09", func := "loop.example/cuttingplanes/laws.FnFixOrder", spec := "fnFixOrder", unfollowed := true, recurses := true, apart := false }
def FnFixOrderSaid : Prop := fnFixOrderRow.holds Try.pinned (OpenSpec.ofChange fnFixOrderSpec)

/-- ITS FALSE NEIGHBOUR: 'it returns false'. Refute it at one input. -/
def fnFixOrderWrong : ChangeSpec := { name := "fnFixOrder", fn := fun _ => fun
  | [d1, d2] => { results := [.lit (.bool false)], args := [d1, d2] }
  | _ => none }
def FnFixOrderWrongFalsely : Prop := fnFixOrderRow.holds Try.pinned (OpenSpec.ofChange fnFixOrderWrong)

/-- 'laws.FnClausesOf': WHATEVER THE INPUT: true; the input reads as it did. -/
def fnClausesOfSpec : ChangeSpec := { name := "fnClausesOf", fn := fun _ => fun
  | [d1, d2] => { results := [.lit (.bool true)], args := [d1, d2] }
  | _ => none }
def fnClausesOfRow : OpenClaim := { program := "ytfpikioibojoeaa", sum := "4e625081777b5ba3e9ccaddcf9772d51a7ddfd0a9a78e3fa86962f93d053af09", func := "loop.example/cuttingplanes/laws.FnClausesOf", spec := "fnClausesOf", unfollowed := true, recurses := true, apart := false }
def FnClausesOfSaid : Prop := fnClausesOfRow.holds Try.pinned (OpenSpec.ofChange fnClausesOfSpec)

/-- ITS FALSE NEIGHBOUR: 'it returns false'. Refute it at one input. -/
def fnClausesOfWrong : ChangeSpec := { name := "fnClausesOf", fn := fun _ => fun
  | [d1, d2] => { results := [.lit (.bool false)], args := [d1, d2] }
  | _ => none }
def FnClausesOfWrongFalsely : Prop := fnClausesOfRow.holds Try.pinned (OpenSpec.ofChange fnClausesOfWrong)

/-- 'laws.FnExactCountProjected': WHATEVER THE INPUT: true; the input reads as it did. -/
def fnExactCountProjectedSpec : ChangeSpec := { name := "fnExactCountProjected", fn := fun _ => fun
  | [d1, d2] => { results := [.lit (.bool true)], args := [d1, d2] }
  | _ => none }
def fnExactCountProjectedRow : OpenClaim := { program := "ytfpikioibojoeaa", sum := "4e625081777b5ba3e9ccaddcf9772d51a7ddfd0a9a78e3fa86962f93d053af09", func := "loop.example/cuttingplanes/laws.FnExactCountProjected", spec := "fnExactCountProjected", unfollowed := true, recurses := true, apart := false }
def FnExactCountProjectedSaid : Prop := fnExactCountProjectedRow.holds Try.pinned (OpenSpec.ofChange fnExactCountProjectedSpec)

/-- ITS FALSE NEIGHBOUR: 'it returns false'. Refute it at one input. -/
def fnExactCountProjectedWrong : ChangeSpec := { name := "fnExactCountProjected", fn := fun _ => fun
  | [d1, d2] => { results := [.lit (.bool false)], args := [d1, d2] }
  | _ => none }
def FnExactCountProjectedWrongFalsely : Prop := fnExactCountProjectedRow.holds Try.pinned (OpenSpec.ofChange fnExactCountProjectedWrong)

/- THE SECOND FORM. 'bulk': how many values and letters a reading holds, each counted each time it is reached (what is shared counts as often as it is met; a slice's spare places count too). A statement '..UptoSaid' is the law's where the arguments, and the package variables that the reading takes, are together of bulk at most 1048576: NARROWER than '..Said'. Prove '..Said' where nothing that the law and all that it calls make is longer than what came in: it says more and counts as full. Else prove '..UptoSaid'. A law counts once. -/
mutual
def uptoBulk {H : Type} : DataW H → Nat
  | .lit (.string bytes) => bytes.length + 1
  | .lit _ => 1
  | .nil => 1
  | .ptr d => uptoBulk d + 1
  | .slice elems spare => uptoBulkAll elems + uptoBulkAll spare + 1
  | .agg parts => uptoBulkAll parts + 1
  | .iface _ d => uptoBulk d + 1
  | .map entries => uptoBulkEntries entries + 1
  | .held _ => 1
def uptoBulkAll {H : Type} : List (DataW H) → Nat
  | [] => 0
  | d :: r => uptoBulk d + uptoBulkAll r
def uptoBulkEntries {H : Type} : List (Lit × DataW H) → Nat
  | [] => 0
  | x :: r => uptoBulkEntry x + uptoBulkEntries r
def uptoBulkEntry {H : Type} : Lit × DataW H → Nat
  | (.string bytes, d) => bytes.length + uptoBulk d + 1
  | (_, d) => uptoBulk d + 1
 end
def uptoSmall : (H : Type) → List (DataW H) → Bool := fun _ ds => decide (uptoBulkAll ds ≤ 1048576)
def OpenSpec.upto (s : _root_.Go.ChangeSpec) : _root_.Go.OpenSpec := { _root_.Go.OpenSpec.ofChange s with cond := some uptoSmall }

/-- 'laws.FnSumMultiply', WHERE WHAT IT READS IS OF BULK AT MOST 1048576: true; the input reads as it did. -/
def fnSumMultiplyUptoRow : OpenClaim := { program := "ytfpikioibojoeaa", sum := "4e625081777b5ba3e9ccaddcf9772d51a7ddfd0a9a78e3fa86962f93d053af09", func := "loop.example/cuttingplanes/laws.FnSumMultiply", spec := "fnSumMultiply", unfollowed := true, recurses := true, apart := false, narrowed := true }
def FnSumMultiplyUptoSaid : Prop := fnSumMultiplyUptoRow.holds Try.pinned (OpenSpec.upto fnSumMultiplySpec)

/-- 'laws.FnStrongestSelf', WHERE WHAT IT READS IS OF BULK AT MOST 1048576: true; the input reads as it did. -/
def fnStrongestSelfUptoRow : OpenClaim := { program := "ytfpikioibojoeaa", sum := "4e625081777b5ba3e9ccaddcf9772d51a7ddfd0a9a78e3fa86962f93d053af09", func := "loop.example/cuttingplanes/laws.FnStrongestSelf", spec := "fnStrongestSelf", apart := false, narrowed := true }
def FnStrongestSelfUptoSaid : Prop := fnStrongestSelfUptoRow.holds Try.pinned (OpenSpec.upto fnStrongestSelfSpec)

/-- 'laws.FnCommonDivisor', WHERE WHAT IT READS IS OF BULK AT MOST 1048576: true; the input reads as it did. -/
def fnCommonDivisorUptoRow : OpenClaim := { program := "ytfpikioibojoeaa", sum := "4e625081777b5ba3e9ccaddcf9772d51a7ddfd0a9a78e3fa86962f93d053af09", func := "loop.example/cuttingplanes/laws.FnCommonDivisor", spec := "fnCommonDivisor", unfollowed := true, recurses := true, apart := false, narrowed := true }
def FnCommonDivisorUptoSaid : Prop := fnCommonDivisorUptoRow.holds Try.pinned (OpenSpec.upto fnCommonDivisorSpec)

/-- 'laws.FnSumTable', WHERE WHAT IT READS IS OF BULK AT MOST 1048576: true; the input reads as it did. -/
def fnSumTableUptoRow : OpenClaim := { program := "ytfpikioibojoeaa", sum := "4e625081777b5ba3e9ccaddcf9772d51a7ddfd0a9a78e3fa86962f93d053af09", func := "loop.example/cuttingplanes/laws.FnSumTable", spec := "fnSumTable", unfollowed := true, recurses := true, apart := false, narrowed := true }
def FnSumTableUptoSaid : Prop := fnSumTableUptoRow.holds Try.pinned (OpenSpec.upto fnSumTableSpec)

/-- 'laws.FnExactPureLiterals', WHERE WHAT IT READS IS OF BULK AT MOST 1048576: true; the input reads as it did. -/
def fnExactPureLiteralsUptoRow : OpenClaim := { program := "ytfpikioibojoeaa", sum := "4e625081777b5ba3e9ccaddcf9772d51a7ddfd0a9a78e3fa86962f93d053af09", func := "loop.example/cuttingplanes/laws.FnExactPureLiterals", spec := "fnExactPureLiterals", unfollowed := true, recurses := true, apart := false, narrowed := true }
def FnExactPureLiteralsUptoSaid : Prop := fnExactPureLiteralsUptoRow.holds Try.pinned (OpenSpec.upto fnExactPureLiteralsSpec)

/-- 'laws.FnTightenBound', WHERE WHAT IT READS IS OF BULK AT MOST 1048576: true; the input reads as it did. -/
def fnTightenBoundUptoRow : OpenClaim := { program := "ytfpikioibojoeaa", sum := "4e625081777b5ba3e9ccaddcf9772d51a7ddfd0a9a78e3fa86962f93d053af09", func := "loop.example/cuttingplanes/laws.FnTightenBound", spec := "fnTightenBound", apart := false, narrowed := true }
def FnTightenBoundUptoSaid : Prop := fnTightenBoundUptoRow.holds Try.pinned (OpenSpec.upto fnTightenBoundSpec)

/-- 'laws.FnExactClausesOf', WHERE WHAT IT READS IS OF BULK AT MOST 1048576: true; the input reads as it did. -/
def fnExactClausesOfUptoRow : OpenClaim := { program := "ytfpikioibojoeaa", sum := "4e625081777b5ba3e9ccaddcf9772d51a7ddfd0a9a78e3fa86962f93d053af09", func := "loop.example/cuttingplanes/laws.FnExactClausesOf", spec := "fnExactClausesOf", apart := false, narrowed := true }
def FnExactClausesOfUptoSaid : Prop := fnExactClausesOfUptoRow.holds Try.pinned (OpenSpec.upto fnExactClausesOfSpec)

/-- 'laws.FnStrongestBound', WHERE WHAT IT READS IS OF BULK AT MOST 1048576: true; the input reads as it did. -/
def fnStrongestBoundUptoRow : OpenClaim := { program := "ytfpikioibojoeaa", sum := "4e625081777b5ba3e9ccaddcf9772d51a7ddfd0a9a78e3fa86962f93d053af09", func := "loop.example/cuttingplanes/laws.FnStrongestBound", spec := "fnStrongestBound", apart := false, narrowed := true }
def FnStrongestBoundUptoSaid : Prop := fnStrongestBoundUptoRow.holds Try.pinned (OpenSpec.upto fnStrongestBoundSpec)

/-- 'laws.FnClausesCount', WHERE WHAT IT READS IS OF BULK AT MOST 1048576: true; the input reads as it did. -/
def fnClausesCountUptoRow : OpenClaim := { program := "ytfpikioibojoeaa", sum := "4e625081777b5ba3e9ccaddcf9772d51a7ddfd0a9a78e3fa86962f93d053af09", func := "loop.example/cuttingplanes/laws.FnClausesCount", spec := "fnClausesCount", unfollowed := true, recurses := true, apart := false, narrowed := true }
def FnClausesCountUptoSaid : Prop := fnClausesCountUptoRow.holds Try.pinned (OpenSpec.upto fnClausesCountSpec)

/-- 'laws.FnFixOrder', WHERE WHAT IT READS IS OF BULK AT MOST 1048576: true; the input reads as it did. -/
def fnFixOrderUptoRow : OpenClaim := { program := "ytfpikioibojoeaa", sum := "4e625081777b5ba3e9ccaddcf9772d51a7ddfd0a9a78e3fa86962f93d053af09", func := "loop.example/cuttingplanes/laws.FnFixOrder", spec := "fnFixOrder", unfollowed := true, recurses := true, apart := false, narrowed := true }
def FnFixOrderUptoSaid : Prop := fnFixOrderUptoRow.holds Try.pinned (OpenSpec.upto fnFixOrderSpec)

/-- 'laws.FnClausesOf', WHERE WHAT IT READS IS OF BULK AT MOST 1048576: true; the input reads as it did. -/
def fnClausesOfUptoRow : OpenClaim := { program := "ytfpikioibojoeaa", sum := "4e625081777b5ba3e9ccaddcf9772d51a7ddfd0a9a78e3fa86962f93d053af09", func := "loop.example/cuttingplanes/laws.FnClausesOf", spec := "fnClausesOf", unfollowed := true, recurses := true, apart := false, narrowed := true }
def FnClausesOfUptoSaid : Prop := fnClausesOfUptoRow.holds Try.pinned (OpenSpec.upto fnClausesOfSpec)

/-- 'laws.FnExactCountProjected', WHERE WHAT IT READS IS OF BULK AT MOST 1048576: true; the input reads as it did. -/
def fnExactCountProjectedUptoRow : OpenClaim := { program := "ytfpikioibojoeaa", sum := "4e625081777b5ba3e9ccaddcf9772d51a7ddfd0a9a78e3fa86962f93d053af09", func := "loop.example/cuttingplanes/laws.FnExactCountProjected", spec := "fnExactCountProjected", unfollowed := true, recurses := true, apart := false, narrowed := true }
def FnExactCountProjectedUptoSaid : Prop := fnExactCountProjectedUptoRow.holds Try.pinned (OpenSpec.upto fnExactCountProjectedSpec)

end Rows
end Go.Proofs.Ytfpikioibojoeaa

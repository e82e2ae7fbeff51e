/-
  No cell of these rows narrows 'for every input' (looked for: loops, veiled, ifaces, maps, wideKeys, modest, calm, conditions, laid).
  DERIVED. THE GIVEN ROWS OF THIS SEAT. 12 by the template 'for every input the law returns true; each argument reads behind the call as it read before'; 0 by the template 'total and deterministic' (their statements: YtdnlchflejoloaaTotals.lean).
  GIVEN WITH THE SEED: the statements are not yours to turn. If you find one false, say at which input.
  Laid BY PROGRAM, IN A SANDBOX (cutbox-rows.mjs): the forced cells as the released guide's own fill.sh prints them over the translation 68f16f337eb85b00… (all of the seat's roots in one cut). By AI agents, Wed Nov 11 2026. No macro, syntax, notation, axiom, sorry.
-/
import Derived.Test.YtdnlchflejoloaaChecked
import GoSem.Claim
import GoSem.ClaimJoined
import GoSem.ClaimMapViews
import Derived.JoinedTies
import Derived.KernelRfl
namespace Go.Proofs.Ytdnlchflejoloaa
/- THE CELL 'sum', in the pinned program and in every row, IS THE sha256 OF THE DUMP (.gsa) THAT YtdnlchflejoloaaProg.lean LOADS. Nothing in Lean hashes anything: it is a label: what it is worth is what the hold of that sum in a sandbox is worth. -/
noncomputable def Try.pinned : Pinned := { name := "ytdnlchflejoloaa", sum := "68f16f337eb85b0021b1ae724310eee581f41824d29032d630b0f97fb0646e3c", checked := Try.checked }
namespace Rows
def none {H : Type} : Left H := { results := [], args := [] }

/-- 'laws.FnClausesMinimal': WHATEVER THE INPUT: true; the input reads as it did. -/
def fnClausesMinimalSpec : ChangeSpec := { name := "fnClausesMinimal", fn := fun _ => fun
  | [d] => { results := [.lit (.bool true)], args := [d] }
  | _ => none }
def fnClausesMinimalRow : OpenClaim := { program := "ytdnlchflejoloaa", sum := "68f16f337eb85b0021b1ae724310eee581f41824d29032d630b0f97fb0646e3c", func := "loop.example/cuttingplanes/laws.FnClausesMinimal", spec := "fnClausesMinimal", unfollowed := true, recurses := true, apart := false }
def FnClausesMinimalSaid : Prop := fnClausesMinimalRow.holds Try.pinned (OpenSpec.ofChange fnClausesMinimalSpec)

/-- ITS FALSE NEIGHBOUR: 'it returns false'. Refute it at one input. -/
def fnClausesMinimalWrong : ChangeSpec := { name := "fnClausesMinimal", fn := fun _ => fun
  | [d] => { results := [.lit (.bool false)], args := [d] }
  | _ => none }
def FnClausesMinimalWrongFalsely : Prop := fnClausesMinimalRow.holds Try.pinned (OpenSpec.ofChange fnClausesMinimalWrong)

/-- 'laws.FnExactPureLiterals': WHATEVER THE INPUT: true; the input reads as it did. -/
def fnExactPureLiteralsSpec : ChangeSpec := { name := "fnExactPureLiterals", fn := fun _ => fun
  | [d] => { results := [.lit (.bool true)], args := [d] }
  | _ => none }
def fnExactPureLiteralsRow : OpenClaim := { program := "ytdnlchflejoloaa", sum := "68f16f337eb85b0021b1ae724310eee581f41824d29032d630b0f97fb0646e3c", func := "loop.example/cuttingplanes/laws.FnExactPureLiterals", spec := "fnExactPureLiterals", unfollowed := true, recurses := true, apart := false }
def FnExactPureLiteralsSaid : Prop := fnExactPureLiteralsRow.holds Try.pinned (OpenSpec.ofChange fnExactPureLiteralsSpec)

/-- ITS FALSE NEIGHBOUR: 'it returns false'. Refute it at one input. -/
def fnExactPureLiteralsWrong : ChangeSpec := { name := "fnExactPureLiterals", fn := fun _ => fun
  | [d] => { results := [.lit (.bool false)], args := [d] }
  | _ => none }
def FnExactPureLiteralsWrongFalsely : Prop := fnExactPureLiteralsRow.holds Try.pinned (OpenSpec.ofChange fnExactPureLiteralsWrong)

/-- 'laws.FnExactClausesOf': WHATEVER THE INPUT: true; the input reads as it did. -/
def fnExactClausesOfSpec : ChangeSpec := { name := "fnExactClausesOf", fn := fun _ => fun
  | [d] => { results := [.lit (.bool true)], args := [d] }
  | _ => none }
def fnExactClausesOfRow : OpenClaim := { program := "ytdnlchflejoloaa", sum := "68f16f337eb85b0021b1ae724310eee581f41824d29032d630b0f97fb0646e3c", func := "loop.example/cuttingplanes/laws.FnExactClausesOf", spec := "fnExactClausesOf", apart := false }
def FnExactClausesOfSaid : Prop := fnExactClausesOfRow.holds Try.pinned (OpenSpec.ofChange fnExactClausesOfSpec)

/-- ITS FALSE NEIGHBOUR: 'it returns false'. Refute it at one input. -/
def fnExactClausesOfWrong : ChangeSpec := { name := "fnExactClausesOf", fn := fun _ => fun
  | [d] => { results := [.lit (.bool false)], args := [d] }
  | _ => none }
def FnExactClausesOfWrongFalsely : Prop := fnExactClausesOfRow.holds Try.pinned (OpenSpec.ofChange fnExactClausesOfWrong)

/-- 'laws.FnExactFixLiteral': WHATEVER THE INPUT: true; the input reads as it did. -/
def fnExactFixLiteralSpec : ChangeSpec := { name := "fnExactFixLiteral", fn := fun _ => fun
  | [d1, d2] => { results := [.lit (.bool true)], args := [d1, d2] }
  | _ => none }
def fnExactFixLiteralRow : OpenClaim := { program := "ytdnlchflejoloaa", sum := "68f16f337eb85b0021b1ae724310eee581f41824d29032d630b0f97fb0646e3c", func := "loop.example/cuttingplanes/laws.FnExactFixLiteral", spec := "fnExactFixLiteral", unfollowed := true, recurses := true, apart := false }
def FnExactFixLiteralSaid : Prop := fnExactFixLiteralRow.holds Try.pinned (OpenSpec.ofChange fnExactFixLiteralSpec)

/-- ITS FALSE NEIGHBOUR: 'it returns false'. Refute it at one input. -/
def fnExactFixLiteralWrong : ChangeSpec := { name := "fnExactFixLiteral", fn := fun _ => fun
  | [d1, d2] => { results := [.lit (.bool false)], args := [d1, d2] }
  | _ => none }
def FnExactFixLiteralWrongFalsely : Prop := fnExactFixLiteralRow.holds Try.pinned (OpenSpec.ofChange fnExactFixLiteralWrong)

/-- 'laws.FnExactFixPartial': WHATEVER THE INPUT: true; the input reads as it did. -/
def fnExactFixPartialSpec : ChangeSpec := { name := "fnExactFixPartial", fn := fun _ => fun
  | [d1, d2] => { results := [.lit (.bool true)], args := [d1, d2] }
  | _ => none }
def fnExactFixPartialRow : OpenClaim := { program := "ytdnlchflejoloaa", sum := "68f16f337eb85b0021b1ae724310eee581f41824d29032d630b0f97fb0646e3c", func := "loop.example/cuttingplanes/laws.FnExactFixPartial", spec := "fnExactFixPartial", unfollowed := true, recurses := true, apart := false }
def FnExactFixPartialSaid : Prop := fnExactFixPartialRow.holds Try.pinned (OpenSpec.ofChange fnExactFixPartialSpec)

/-- ITS FALSE NEIGHBOUR: 'it returns false'. Refute it at one input. -/
def fnExactFixPartialWrong : ChangeSpec := { name := "fnExactFixPartial", fn := fun _ => fun
  | [d1, d2] => { results := [.lit (.bool false)], args := [d1, d2] }
  | _ => none }
def FnExactFixPartialWrongFalsely : Prop := fnExactFixPartialRow.holds Try.pinned (OpenSpec.ofChange fnExactFixPartialWrong)

/-- 'laws.FnExactRemoveCovered': WHATEVER THE INPUT: true; the input reads as it did. -/
def fnExactRemoveCoveredSpec : ChangeSpec := { name := "fnExactRemoveCovered", fn := fun _ => fun
  | [d] => { results := [.lit (.bool true)], args := [d] }
  | _ => none }
def fnExactRemoveCoveredRow : OpenClaim := { program := "ytdnlchflejoloaa", sum := "68f16f337eb85b0021b1ae724310eee581f41824d29032d630b0f97fb0646e3c", func := "loop.example/cuttingplanes/laws.FnExactRemoveCovered", spec := "fnExactRemoveCovered", unfollowed := true, recurses := true, apart := false }
def FnExactRemoveCoveredSaid : Prop := fnExactRemoveCoveredRow.holds Try.pinned (OpenSpec.ofChange fnExactRemoveCoveredSpec)

/-- ITS FALSE NEIGHBOUR: 'it returns false'. Refute it at one input. -/
def fnExactRemoveCoveredWrong : ChangeSpec := { name := "fnExactRemoveCovered", fn := fun _ => fun
  | [d] => { results := [.lit (.bool false)], args := [d] }
  | _ => none }
def FnExactRemoveCoveredWrongFalsely : Prop := fnExactRemoveCoveredRow.holds Try.pinned (OpenSpec.ofChange fnExactRemoveCoveredWrong)

/-- 'laws.FnExactFailedLiterals': WHATEVER THE INPUT: true; the input reads as it did. -/
def fnExactFailedLiteralsSpec : ChangeSpec := { name := "fnExactFailedLiterals", fn := fun _ => fun
  | [d] => { results := [.lit (.bool true)], args := [d] }
  | _ => none }
def fnExactFailedLiteralsRow : OpenClaim := { program := "ytdnlchflejoloaa", sum := "68f16f337eb85b0021b1ae724310eee581f41824d29032d630b0f97fb0646e3c", func := "loop.example/cuttingplanes/laws.FnExactFailedLiterals", spec := "fnExactFailedLiterals", unfollowed := true, recurses := true, apart := false }
def FnExactFailedLiteralsSaid : Prop := fnExactFailedLiteralsRow.holds Try.pinned (OpenSpec.ofChange fnExactFailedLiteralsSpec)

/-- ITS FALSE NEIGHBOUR: 'it returns false'. Refute it at one input. -/
def fnExactFailedLiteralsWrong : ChangeSpec := { name := "fnExactFailedLiterals", fn := fun _ => fun
  | [d] => { results := [.lit (.bool false)], args := [d] }
  | _ => none }
def FnExactFailedLiteralsWrongFalsely : Prop := fnExactFailedLiteralsRow.holds Try.pinned (OpenSpec.ofChange fnExactFailedLiteralsWrong)

/-- 'laws.FnExactCountProjected': WHATEVER THE INPUT: true; the input reads as it did. -/
def fnExactCountProjectedSpec : ChangeSpec := { name := "fnExactCountProjected", fn := fun _ => fun
  | [d1, d2] => { results := [.lit (.bool true)], args := [d1, d2] }
  | _ => none }
def fnExactCountProjectedRow : OpenClaim := { program := "ytdnlchflejoloaa", sum := "68f16f337eb85b0021b1ae724310eee581f41824d29032d630b0f97fb0646e3c", func := "loop.example/cuttingplanes/laws.FnExactCountProjected", spec := "fnExactCountProjected", unfollowed := true, recurses := true, apart := false }
def FnExactCountProjectedSaid : Prop := fnExactCountProjectedRow.holds Try.pinned (OpenSpec.ofChange fnExactCountProjectedSpec)

/-- ITS FALSE NEIGHBOUR: 'it returns false'. Refute it at one input. -/
def fnExactCountProjectedWrong : ChangeSpec := { name := "fnExactCountProjected", fn := fun _ => fun
  | [d1, d2] => { results := [.lit (.bool false)], args := [d1, d2] }
  | _ => none }
def FnExactCountProjectedWrongFalsely : Prop := fnExactCountProjectedRow.holds Try.pinned (OpenSpec.ofChange fnExactCountProjectedWrong)

/-- 'laws.FnCountProjected': WHATEVER THE INPUT: true; the input reads as it did. -/
def fnCountProjectedSpec : ChangeSpec := { name := "fnCountProjected", fn := fun _ => fun
  | [d] => { results := [.lit (.bool true)], args := [d] }
  | _ => none }
def fnCountProjectedRow : OpenClaim := { program := "ytdnlchflejoloaa", sum := "68f16f337eb85b0021b1ae724310eee581f41824d29032d630b0f97fb0646e3c", func := "loop.example/cuttingplanes/laws.FnCountProjected", spec := "fnCountProjected", unfollowed := true, recurses := true, apart := false }
def FnCountProjectedSaid : Prop := fnCountProjectedRow.holds Try.pinned (OpenSpec.ofChange fnCountProjectedSpec)

/-- ITS FALSE NEIGHBOUR: 'it returns false'. Refute it at one input. -/
def fnCountProjectedWrong : ChangeSpec := { name := "fnCountProjected", fn := fun _ => fun
  | [d] => { results := [.lit (.bool false)], args := [d] }
  | _ => none }
def FnCountProjectedWrongFalsely : Prop := fnCountProjectedRow.holds Try.pinned (OpenSpec.ofChange fnCountProjectedWrong)

/-- 'laws.FnFullDomains': WHATEVER THE INPUT: true; the input reads as it did. -/
def fnFullDomainsSpec : ChangeSpec := { name := "fnFullDomains", fn := fun _ => fun
  | [d1, d2] => { results := [.lit (.bool true)], args := [d1, d2] }
  | _ => none }
def fnFullDomainsRow : OpenClaim := { program := "ytdnlchflejoloaa", sum := "68f16f337eb85b0021b1ae724310eee581f41824d29032d630b0f97fb0646e3c", func := "loop.example/cuttingplanes/laws.FnFullDomains", spec := "fnFullDomains", unfollowed := true, recurses := true, apart := false }
def FnFullDomainsSaid : Prop := fnFullDomainsRow.holds Try.pinned (OpenSpec.ofChange fnFullDomainsSpec)

/-- ITS FALSE NEIGHBOUR: 'it returns false'. Refute it at one input. -/
def fnFullDomainsWrong : ChangeSpec := { name := "fnFullDomains", fn := fun _ => fun
  | [d1, d2] => { results := [.lit (.bool false)], args := [d1, d2] }
  | _ => none }
def FnFullDomainsWrongFalsely : Prop := fnFullDomainsRow.holds Try.pinned (OpenSpec.ofChange fnFullDomainsWrong)

/-- 'laws.FnExactFullDomains': WHATEVER THE INPUT: true; the input reads as it did. -/
def fnExactFullDomainsSpec : ChangeSpec := { name := "fnExactFullDomains", fn := fun _ => fun
  | [d] => { results := [.lit (.bool true)], args := [d] }
  | _ => none }
def fnExactFullDomainsRow : OpenClaim := { program := "ytdnlchflejoloaa", sum := "68f16f337eb85b0021b1ae724310eee581f41824d29032d630b0f97fb0646e3c", func := "loop.example/cuttingplanes/laws.FnExactFullDomains", spec := "fnExactFullDomains", unfollowed := true, recurses := true, apart := false }
def FnExactFullDomainsSaid : Prop := fnExactFullDomainsRow.holds Try.pinned (OpenSpec.ofChange fnExactFullDomainsSpec)

/-- ITS FALSE NEIGHBOUR: 'it returns false'. Refute it at one input. -/
def fnExactFullDomainsWrong : ChangeSpec := { name := "fnExactFullDomains", fn := fun _ => fun
  | [d] => { results := [.lit (.bool false)], args := [d] }
  | _ => none }
def FnExactFullDomainsWrongFalsely : Prop := fnExactFullDomainsRow.holds Try.pinned (OpenSpec.ofChange fnExactFullDomainsWrong)

/-- 'laws.FnMatchRule': WHATEVER THE INPUT: true; the input reads as it did. -/
def fnMatchRuleSpec : ChangeSpec := { name := "fnMatchRule", fn := fun _ => fun
  | [d] => { results := [.lit (.bool true)], args := [d] }
  | _ => none }
def fnMatchRuleRow : OpenClaim := { program := "ytdnlchflejoloaa", sum := "68f16f337eb85b0021b1ae724310eee581f41824d29032d630b0f97fb0646e3c", func := "loop.example/cuttingplanes/laws.FnMatchRule", spec := "fnMatchRule", unfollowed := true, recurses := true, apart := false }
def FnMatchRuleSaid : Prop := fnMatchRuleRow.holds Try.pinned (OpenSpec.ofChange fnMatchRuleSpec)

/-- ITS FALSE NEIGHBOUR: 'it returns false'. Refute it at one input. -/
def fnMatchRuleWrong : ChangeSpec := { name := "fnMatchRule", fn := fun _ => fun
  | [d] => { results := [.lit (.bool false)], args := [d] }
  | _ => none }
def FnMatchRuleWrongFalsely : Prop := fnMatchRuleRow.holds Try.pinned (OpenSpec.ofChange fnMatchRuleWrong)

/- THE SECOND FORM. 'bulk': how many values and letters a reading holds, each counted each time it is reached (what is shared counts as often as it is met; a slice's spare places count too). A statement '..UptoSaid' is the law's where the arguments, and the package variables that the reading takes, are together of bulk at most 1048576: NARROWER than '..Said'. Prove '..Said' where nothing that the law and all that it calls make is longer than what came in: it says more and counts as full. Else prove '..UptoSaid'. A law counts once. -/
mutual
def uptoBulk {H : Type} : DataW H → Nat
  | .lit (.string bytes) => bytes.length + 1
  | .lit _ => 1
  | .nil => 1
  | .ptr d => uptoBulk d + 1
  | .slice elems spare => uptoBulkAll elems + uptoBulkAll spare + 1
  | .agg parts => uptoBulkAll parts + 1
  | .iface _ d => uptoBulk d + 1
  | .map entries => uptoBulkEntries entries + 1
  | .held _ => 1
def uptoBulkAll {H : Type} : List (DataW H) → Nat
  | [] => 0
  | d :: r => uptoBulk d + uptoBulkAll r
def uptoBulkEntries {H : Type} : List (Lit × DataW H) → Nat
  | [] => 0
  | x :: r => uptoBulkEntry x + uptoBulkEntries r
def uptoBulkEntry {H : Type} : Lit × DataW H → Nat
  | (.string bytes, d) => bytes.length + uptoBulk d + 1
  | (_, d) => uptoBulk d + 1
 end
def uptoSmall : (H : Type) → List (DataW H) → Bool := fun _ ds => decide (uptoBulkAll ds ≤ 1048576)
def OpenSpec.upto (s : _root_.Go.ChangeSpec) : _root_.Go.OpenSpec := { _root_.Go.OpenSpec.ofChange s with cond := some uptoSmall }

/-- 'laws.FnClausesMinimal', WHERE WHAT IT READS IS OF BULK AT MOST 1048576: true; the input reads as it did. -/
def fnClausesMinimalUptoRow : OpenClaim := { program := "ytdnlchflejoloaa", sum := "68f16f337eb85b0021b1ae724310eee581f41824d29032d630b0f97fb0646e3c", func := "loop.example/cuttingplanes/laws.FnClausesMinimal", spec := "fnClausesMinimal", unfollowed := true, recurses := true, apart := false, narrowed := true }
def FnClausesMinimalUptoSaid : Prop := fnClausesMinimalUptoRow.holds Try.pinned (OpenSpec.upto fnClausesMinimalSpec)

/-- 'laws.FnExactPureLiterals', WHERE WHAT IT READS IS OF BULK AT MOST 1048576: true; the input reads as it did. -/
def fnExactPureLiteralsUptoRow : OpenClaim := { program := "ytdnlchflejoloaa", sum := "68f16f337eb85b0021b1ae724310eee581f41824d29032d630b0f97fb0646e3c", func := "loop.example/cuttingplanes/laws.FnExactPureLiterals", spec := "fnExactPureLiterals", unfollowed := true, recurses := true, apart := false, narrowed := true }
def FnExactPureLiteralsUptoSaid : Prop := fnExactPureLiteralsUptoRow.holds Try.pinned (OpenSpec.upto fnExactPureLiteralsSpec)

/-- 'laws.FnExactClausesOf', WHERE WHAT IT READS IS OF BULK AT MOST 1048576: true; the input reads as it did. -/
def fnExactClausesOfUptoRow : OpenClaim := { program := "ytdnlchflejoloaa", sum := "68f16f337eb85b0021b1ae724310eee581f41824d29032d630b0f97fb0646e3c", func := "loop.example/cuttingplanes/laws.FnExactClausesOf", spec := "fnExactClausesOf", apart := false, narrowed := true }
def FnExactClausesOfUptoSaid : Prop := fnExactClausesOfUptoRow.holds Try.pinned (OpenSpec.upto fnExactClausesOfSpec)

/-- 'laws.FnExactFixLiteral', WHERE WHAT IT READS IS OF BULK AT MOST 1048576: true; the input reads as it did. -/
def fnExactFixLiteralUptoRow : OpenClaim := { program := "ytdnlchflejoloaa", sum := "68f16f337eb85b0021b1ae724310eee581f41824d29032d630b0f97fb0646e3c", func := "loop.example/cuttingplanes/laws.FnExactFixLiteral", spec := "fnExactFixLiteral", unfollowed := true, recurses := true, apart := false, narrowed := true }
def FnExactFixLiteralUptoSaid : Prop := fnExactFixLiteralUptoRow.holds Try.pinned (OpenSpec.upto fnExactFixLiteralSpec)

/-- 'laws.FnExactFixPartial', WHERE WHAT IT READS IS OF BULK AT MOST 1048576: true; the input reads as it did. -/
def fnExactFixPartialUptoRow : OpenClaim := { program := "ytdnlchflejoloaa", sum := "68f16f337eb85b0021b1ae724310eee581f41824d29032d630b0f97fb0646e3c", func := "loop.example/cuttingplanes/laws.FnExactFixPartial", spec := "fnExactFixPartial", unfollowed := true, recurses := true, apart := false, narrowed := true }
def FnExactFixPartialUptoSaid : Prop := fnExactFixPartialUptoRow.holds Try.pinned (OpenSpec.upto fnExactFixPartialSpec)

/-- 'laws.FnExactRemoveCovered', WHERE WHAT IT READS IS OF BULK AT MOST 1048576: true; the input reads as it did. -/
def fnExactRemoveCoveredUptoRow : OpenClaim := { program := "ytdnlchflejoloaa", sum := "68f16f337eb85b0021b1ae724310eee581f41824d29032d630b0f97fb0646e3c", func := "loop.example/cuttingplanes/laws.FnExactRemoveCovered", spec := "fnExactRemoveCovered", unfollowed := true, recurses := true, apart := false, narrowed := true }
def FnExactRemoveCoveredUptoSaid : Prop := fnExactRemoveCoveredUptoRow.holds Try.pinned (OpenSpec.upto fnExactRemoveCoveredSpec)

/-- 'laws.FnExactFailedLiterals', WHERE WHAT IT READS IS OF BULK AT MOST 1048576: true; the input reads as it did. -/
def fnExactFailedLiteralsUptoRow : OpenClaim := { program := "ytdnlchflejoloaa", sum := "68f16f337eb85b0021b1ae724310eee581f41824d29032d630b0f97fb0646e3c", func := "loop.example/cuttingplanes/laws.FnExactFailedLiterals", spec := "fnExactFailedLiterals", unfollowed := true, recurses := true, apart := false, narrowed := true }
def FnExactFailedLiteralsUptoSaid : Prop := fnExactFailedLiteralsUptoRow.holds Try.pinned (OpenSpec.upto fnExactFailedLiteralsSpec)

/-- 'laws.FnExactCountProjected', WHERE WHAT IT READS IS OF BULK AT MOST 1048576: true; the input reads as it did. -/
def fnExactCountProjectedUptoRow : OpenClaim := { program := "ytdnlchflejoloaa", sum := "68f16f337eb85b0021b1ae724310eee581f41824d29032d630b0f97fb0646e3c", func := "loop.example/cuttingplanes/laws.FnExactCountProjected", spec := "fnExactCountProjected", unfollowed := true, recurses := true, apart := false, narrowed := true }
def FnExactCountProjectedUptoSaid : Prop := fnExactCountProjectedUptoRow.holds Try.pinned (OpenSpec.upto fnExactCountProjectedSpec)

/-- 'laws.FnCountProjected', WHERE WHAT IT READS IS OF BULK AT MOST 1048576: true; the input reads as it did. -/
def fnCountProjectedUptoRow : OpenClaim := { program := "ytdnlchflejoloaa", sum := "68f16f337eb85b0021b1ae724310eee581f41824d29032d630b0f97fb0646e3c", func := "loop.example/cuttingplanes/laws.FnCountProjected", spec := "fnCountProjected", unfollowed := true, recurses := true, apart := false, narrowed := true }
def FnCountProjectedUptoSaid : Prop := fnCountProjectedUptoRow.holds Try.pinned (OpenSpec.upto fnCountProjectedSpec)

/-- 'laws.FnFullDomains', WHERE WHAT IT READS IS OF BULK AT MOST 1048576: true; the input reads as it did. -/
def fnFullDomainsUptoRow : OpenClaim := { program := "ytdnlchflejoloaa", sum := "68f16f337eb85b0021b1ae724310eee581f41824d29032d630b0f97fb0646e3c", func := "loop.example/cuttingplanes/laws.FnFullDomains", spec := "fnFullDomains", unfollowed := true, recurses := true, apart := false, narrowed := true }
def FnFullDomainsUptoSaid : Prop := fnFullDomainsUptoRow.holds Try.pinned (OpenSpec.upto fnFullDomainsSpec)

/-- 'laws.FnExactFullDomains', WHERE WHAT IT READS IS OF BULK AT MOST 1048576: true; the input reads as it did. -/
def fnExactFullDomainsUptoRow : OpenClaim := { program := "ytdnlchflejoloaa", sum := "68f16f337eb85b0021b1ae724310eee581f41824d29032d630b0f97fb0646e3c", func := "loop.example/cuttingplanes/laws.FnExactFullDomains", spec := "fnExactFullDomains", unfollowed := true, recurses := true, apart := false, narrowed := true }
def FnExactFullDomainsUptoSaid : Prop := fnExactFullDomainsUptoRow.holds Try.pinned (OpenSpec.upto fnExactFullDomainsSpec)

/-- 'laws.FnMatchRule', WHERE WHAT IT READS IS OF BULK AT MOST 1048576: true; the input reads as it did. -/
def fnMatchRuleUptoRow : OpenClaim := { program := "ytdnlchflejoloaa", sum := "68f16f337eb85b0021b1ae724310eee581f41824d29032d630b0f97fb0646e3c", func := "loop.example/cuttingplanes/laws.FnMatchRule", spec := "fnMatchRule", unfollowed := true, recurses := true, apart := false, narrowed := true }
def FnMatchRuleUptoSaid : Prop := fnMatchRuleUptoRow.holds Try.pinned (OpenSpec.upto fnMatchRuleSpec)

end Rows
end Go.Proofs.Ytdnlchflejoloaa

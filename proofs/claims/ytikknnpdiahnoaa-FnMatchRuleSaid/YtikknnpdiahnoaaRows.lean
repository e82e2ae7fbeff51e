/-
  No cell of these rows narrows 'for every input' (looked for: loops, veiled, ifaces, maps, wideKeys, modest, calm, conditions, laid).
  DERIVED. THE GIVEN ROWS OF THIS SEAT. 11 by the template 'for every input the law returns true; each argument reads behind the call as it read before'; 0 by the template 'total and deterministic' (their statements: YtikknnpdiahnoaaTotals.lean).
  GIVEN WITH THE SEED: the statements are not yours to turn. If you find one false, say at which input.
  Laid BY PROGRAM, IN A SANDBOX (cutbox-rows.mjs): the forced cells as the released guide's own fill.sh prints them over the translation 961cc2cce86fa55b… (all of the seat's roots in one cut). By AI agents, Wed Nov 11 2026. No macro, syntax, notation, axiom, sorry.
-/
import Derived.Test.YtikknnpdiahnoaaChecked
import GoSem.Claim
import GoSem.ClaimJoined
import GoSem.ClaimMapViews
import Derived.JoinedTies
import Derived.KernelRfl
namespace Go.Proofs.Ytikknnpdiahnoaa
/- THE CELL 'sum', in the pinned program and in every row, IS THE sha256 OF THE DUMP (.gsa) THAT YtikknnpdiahnoaaProg.lean LOADS. Nothing in Lean hashes anything: it is a label: what it is worth is what the hold of that sum in a sandbox is worth. -/
noncomputable def Try.pinned : Pinned := { name := "ytikknnpdiahnoaa", sum := "961cc2cce86fa55b437c26132880abb4d598f0881d331c1040081c9361bd11ec", checked := Try.checked }
namespace Rows
def none {H : Type} : Left H := { results := [], args := [] }

/-- 'laws.FnFullDomains': WHATEVER THE INPUT: true; the input reads as it did. -/
def fnFullDomainsSpec : ChangeSpec := { name := "fnFullDomains", fn := fun _ => fun
  | [d1, d2] => { results := [.lit (.bool true)], args := [d1, d2] }
  | _ => none }
def fnFullDomainsRow : OpenClaim := { program := "ytikknnpdiahnoaa", sum := "961cc2cce86fa55b437c26132880abb4d598f0881d331c1040081c9361bd11ec", func := "loop.example/cuttingplanes/laws.FnFullDomains", spec := "fnFullDomains", unfollowed := true, recurses := true, apart := false }
def FnFullDomainsSaid : Prop := fnFullDomainsRow.holds Try.pinned (OpenSpec.ofChange fnFullDomainsSpec)

/-- ITS FALSE NEIGHBOUR: 'it returns false'. Refute it at one input. -/
def fnFullDomainsWrong : ChangeSpec := { name := "fnFullDomains", fn := fun _ => fun
  | [d1, d2] => { results := [.lit (.bool false)], args := [d1, d2] }
  | _ => none }
def FnFullDomainsWrongFalsely : Prop := fnFullDomainsRow.holds Try.pinned (OpenSpec.ofChange fnFullDomainsWrong)

/-- 'laws.FnMatchRule': WHATEVER THE INPUT: true; the input reads as it did. -/
def fnMatchRuleSpec : ChangeSpec := { name := "fnMatchRule", fn := fun _ => fun
  | [d] => { results := [.lit (.bool true)], args := [d] }
  | _ => none }
def fnMatchRuleRow : OpenClaim := { program := "ytikknnpdiahnoaa", sum := "961cc2cce86fa55b437c26132880abb4d598f0881d331c1040081c9361bd11ec", func := "loop.example/cuttingplanes/laws.FnMatchRule", spec := "fnMatchRule", unfollowed := true, recurses := true, apart := false }
def FnMatchRuleSaid : Prop := fnMatchRuleRow.holds Try.pinned (OpenSpec.ofChange fnMatchRuleSpec)

/-- ITS FALSE NEIGHBOUR: 'it returns false'. Refute it at one input. -/
def fnMatchRuleWrong : ChangeSpec := { name := "fnMatchRule", fn := fun _ => fun
  | [d] => { results := [.lit (.bool false)], args := [d] }
  | _ => none }
def FnMatchRuleWrongFalsely : Prop := fnMatchRuleRow.holds Try.pinned (OpenSpec.ofChange fnMatchRuleWrong)

/-- 'laws.FnFilterMonotone': WHATEVER THE INPUT: true; the input reads as it did. -/
def fnFilterMonotoneSpec : ChangeSpec := { name := "fnFilterMonotone", fn := fun _ => fun
  | [d] => { results := [.lit (.bool true)], args := [d] }
  | _ => none }
def fnFilterMonotoneRow : OpenClaim := { program := "ytikknnpdiahnoaa", sum := "961cc2cce86fa55b437c26132880abb4d598f0881d331c1040081c9361bd11ec", func := "loop.example/cuttingplanes/laws.FnFilterMonotone", spec := "fnFilterMonotone", unfollowed := true, recurses := true, apart := false }
def FnFilterMonotoneSaid : Prop := fnFilterMonotoneRow.holds Try.pinned (OpenSpec.ofChange fnFilterMonotoneSpec)

/-- ITS FALSE NEIGHBOUR: 'it returns false'. Refute it at one input. -/
def fnFilterMonotoneWrong : ChangeSpec := { name := "fnFilterMonotone", fn := fun _ => fun
  | [d] => { results := [.lit (.bool false)], args := [d] }
  | _ => none }
def FnFilterMonotoneWrongFalsely : Prop := fnFilterMonotoneRow.holds Try.pinned (OpenSpec.ofChange fnFilterMonotoneWrong)

/-- 'laws.FnBoundsExact': WHATEVER THE INPUT: true; the input reads as it did. -/
def fnBoundsExactSpec : ChangeSpec := { name := "fnBoundsExact", fn := fun _ => fun
  | [d] => { results := [.lit (.bool true)], args := [d] }
  | _ => none }
def fnBoundsExactRow : OpenClaim := { program := "ytikknnpdiahnoaa", sum := "961cc2cce86fa55b437c26132880abb4d598f0881d331c1040081c9361bd11ec", func := "loop.example/cuttingplanes/laws.FnBoundsExact", spec := "fnBoundsExact", unfollowed := true, recurses := true, apart := false }
def FnBoundsExactSaid : Prop := fnBoundsExactRow.holds Try.pinned (OpenSpec.ofChange fnBoundsExactSpec)

/-- ITS FALSE NEIGHBOUR: 'it returns false'. Refute it at one input. -/
def fnBoundsExactWrong : ChangeSpec := { name := "fnBoundsExact", fn := fun _ => fun
  | [d] => { results := [.lit (.bool false)], args := [d] }
  | _ => none }
def FnBoundsExactWrongFalsely : Prop := fnBoundsExactRow.holds Try.pinned (OpenSpec.ofChange fnBoundsExactWrong)

/-- 'laws.FnBoundsRule': WHATEVER THE INPUT: true; the input reads as it did. -/
def fnBoundsRuleSpec : ChangeSpec := { name := "fnBoundsRule", fn := fun _ => fun
  | [d] => { results := [.lit (.bool true)], args := [d] }
  | _ => none }
def fnBoundsRuleRow : OpenClaim := { program := "ytikknnpdiahnoaa", sum := "961cc2cce86fa55b437c26132880abb4d598f0881d331c1040081c9361bd11ec", func := "loop.example/cuttingplanes/laws.FnBoundsRule", spec := "fnBoundsRule", unfollowed := true, recurses := true, apart := false }
def FnBoundsRuleSaid : Prop := fnBoundsRuleRow.holds Try.pinned (OpenSpec.ofChange fnBoundsRuleSpec)

/-- ITS FALSE NEIGHBOUR: 'it returns false'. Refute it at one input. -/
def fnBoundsRuleWrong : ChangeSpec := { name := "fnBoundsRule", fn := fun _ => fun
  | [d] => { results := [.lit (.bool false)], args := [d] }
  | _ => none }
def FnBoundsRuleWrongFalsely : Prop := fnBoundsRuleRow.holds Try.pinned (OpenSpec.ofChange fnBoundsRuleWrong)

/-- 'laws.FnFilterOnce': WHATEVER THE INPUT: true; the input reads as it did. -/
def fnFilterOnceSpec : ChangeSpec := { name := "fnFilterOnce", fn := fun _ => fun
  | [d] => { results := [.lit (.bool true)], args := [d] }
  | _ => none }
def fnFilterOnceRow : OpenClaim := { program := "ytikknnpdiahnoaa", sum := "961cc2cce86fa55b437c26132880abb4d598f0881d331c1040081c9361bd11ec", func := "loop.example/cuttingplanes/laws.FnFilterOnce", spec := "fnFilterOnce", unfollowed := true, recurses := true, apart := false }
def FnFilterOnceSaid : Prop := fnFilterOnceRow.holds Try.pinned (OpenSpec.ofChange fnFilterOnceSpec)

/-- ITS FALSE NEIGHBOUR: 'it returns false'. Refute it at one input. -/
def fnFilterOnceWrong : ChangeSpec := { name := "fnFilterOnce", fn := fun _ => fun
  | [d] => { results := [.lit (.bool false)], args := [d] }
  | _ => none }
def FnFilterOnceWrongFalsely : Prop := fnFilterOnceRow.holds Try.pinned (OpenSpec.ofChange fnFilterOnceWrong)

/-- 'laws.FnFilterRule': WHATEVER THE INPUT: true; the input reads as it did. -/
def fnFilterRuleSpec : ChangeSpec := { name := "fnFilterRule", fn := fun _ => fun
  | [d] => { results := [.lit (.bool true)], args := [d] }
  | _ => none }
def fnFilterRuleRow : OpenClaim := { program := "ytikknnpdiahnoaa", sum := "961cc2cce86fa55b437c26132880abb4d598f0881d331c1040081c9361bd11ec", func := "loop.example/cuttingplanes/laws.FnFilterRule", spec := "fnFilterRule", unfollowed := true, recurses := true, apart := false }
def FnFilterRuleSaid : Prop := fnFilterRuleRow.holds Try.pinned (OpenSpec.ofChange fnFilterRuleSpec)

/-- ITS FALSE NEIGHBOUR: 'it returns false'. Refute it at one input. -/
def fnFilterRuleWrong : ChangeSpec := { name := "fnFilterRule", fn := fun _ => fun
  | [d] => { results := [.lit (.bool false)], args := [d] }
  | _ => none }
def FnFilterRuleWrongFalsely : Prop := fnFilterRuleRow.holds Try.pinned (OpenSpec.ofChange fnFilterRuleWrong)

/-- 'laws.FnBoundFilter': WHATEVER THE INPUT: true; the input reads as it did. -/
def fnBoundFilterSpec : ChangeSpec := { name := "fnBoundFilter", fn := fun _ => fun
  | [d] => { results := [.lit (.bool true)], args := [d] }
  | _ => none }
def fnBoundFilterRow : OpenClaim := { program := "ytikknnpdiahnoaa", sum := "961cc2cce86fa55b437c26132880abb4d598f0881d331c1040081c9361bd11ec", func := "loop.example/cuttingplanes/laws.FnBoundFilter", spec := "fnBoundFilter", unfollowed := true, recurses := true, apart := false }
def FnBoundFilterSaid : Prop := fnBoundFilterRow.holds Try.pinned (OpenSpec.ofChange fnBoundFilterSpec)

/-- ITS FALSE NEIGHBOUR: 'it returns false'. Refute it at one input. -/
def fnBoundFilterWrong : ChangeSpec := { name := "fnBoundFilter", fn := fun _ => fun
  | [d] => { results := [.lit (.bool false)], args := [d] }
  | _ => none }
def FnBoundFilterWrongFalsely : Prop := fnBoundFilterRow.holds Try.pinned (OpenSpec.ofChange fnBoundFilterWrong)

/-- 'laws.FnFilterModel': WHATEVER THE INPUT: true; the input reads as it did. -/
def fnFilterModelSpec : ChangeSpec := { name := "fnFilterModel", fn := fun _ => fun
  | [d] => { results := [.lit (.bool true)], args := [d] }
  | _ => none }
def fnFilterModelRow : OpenClaim := { program := "ytikknnpdiahnoaa", sum := "961cc2cce86fa55b437c26132880abb4d598f0881d331c1040081c9361bd11ec", func := "loop.example/cuttingplanes/laws.FnFilterModel", spec := "fnFilterModel", unfollowed := true, recurses := true, apart := false }
def FnFilterModelSaid : Prop := fnFilterModelRow.holds Try.pinned (OpenSpec.ofChange fnFilterModelSpec)

/-- ITS FALSE NEIGHBOUR: 'it returns false'. Refute it at one input. -/
def fnFilterModelWrong : ChangeSpec := { name := "fnFilterModel", fn := fun _ => fun
  | [d] => { results := [.lit (.bool false)], args := [d] }
  | _ => none }
def FnFilterModelWrongFalsely : Prop := fnFilterModelRow.holds Try.pinned (OpenSpec.ofChange fnFilterModelWrong)

/-- 'laws.FnFilterEmpty': WHATEVER THE INPUT: true; the input reads as it did. -/
def fnFilterEmptySpec : ChangeSpec := { name := "fnFilterEmpty", fn := fun _ => fun
  | [d] => { results := [.lit (.bool true)], args := [d] }
  | _ => none }
def fnFilterEmptyRow : OpenClaim := { program := "ytikknnpdiahnoaa", sum := "961cc2cce86fa55b437c26132880abb4d598f0881d331c1040081c9361bd11ec", func := "loop.example/cuttingplanes/laws.FnFilterEmpty", spec := "fnFilterEmpty", unfollowed := true, recurses := true, apart := false }
def FnFilterEmptySaid : Prop := fnFilterEmptyRow.holds Try.pinned (OpenSpec.ofChange fnFilterEmptySpec)

/-- ITS FALSE NEIGHBOUR: 'it returns false'. Refute it at one input. -/
def fnFilterEmptyWrong : ChangeSpec := { name := "fnFilterEmpty", fn := fun _ => fun
  | [d] => { results := [.lit (.bool false)], args := [d] }
  | _ => none }
def FnFilterEmptyWrongFalsely : Prop := fnFilterEmptyRow.holds Try.pinned (OpenSpec.ofChange fnFilterEmptyWrong)

/-- 'laws.FnExactFilterModel': WHATEVER THE INPUT: true; the input reads as it did. -/
def fnExactFilterModelSpec : ChangeSpec := { name := "fnExactFilterModel", fn := fun _ => fun
  | [d1, d2] => { results := [.lit (.bool true)], args := [d1, d2] }
  | _ => none }
def fnExactFilterModelRow : OpenClaim := { program := "ytikknnpdiahnoaa", sum := "961cc2cce86fa55b437c26132880abb4d598f0881d331c1040081c9361bd11ec", func := "loop.example/cuttingplanes/laws.FnExactFilterModel", spec := "fnExactFilterModel", unfollowed := true, recurses := true, apart := false }
def FnExactFilterModelSaid : Prop := fnExactFilterModelRow.holds Try.pinned (OpenSpec.ofChange fnExactFilterModelSpec)

/-- ITS FALSE NEIGHBOUR: 'it returns false'. Refute it at one input. -/
def fnExactFilterModelWrong : ChangeSpec := { name := "fnExactFilterModel", fn := fun _ => fun
  | [d1, d2] => { results := [.lit (.bool false)], args := [d1, d2] }
  | _ => none }
def FnExactFilterModelWrongFalsely : Prop := fnExactFilterModelRow.holds Try.pinned (OpenSpec.ofChange fnExactFilterModelWrong)

/- THE SECOND FORM. 'bulk': how many values and letters a reading holds, each counted each time it is reached (what is shared counts as often as it is met; a slice's spare places count too). A statement '..UptoSaid' is the law's where the arguments, and the package variables that the reading takes, are together of bulk at most 1048576: NARROWER than '..Said'. Prove '..Said' where nothing that the law and all that it calls make is longer than what came in: it says more and counts as full. Else prove '..UptoSaid'. A law counts once. -/
mutual
def uptoBulk {H : Type} : DataW H → Nat
  | .lit (.string bytes) => bytes.length + 1
  | .lit _ => 1
  | .nil => 1
  | .ptr d => uptoBulk d + 1
  | .slice elems spare => uptoBulkAll elems + uptoBulkAll spare + 1
  | .agg parts => uptoBulkAll parts + 1
  | .iface _ d => uptoBulk d + 1
  | .map entries => uptoBulkEntries entries + 1
  | .held _ => 1
def uptoBulkAll {H : Type} : List (DataW H) → Nat
  | [] => 0
  | d :: r => uptoBulk d + uptoBulkAll r
def uptoBulkEntries {H : Type} : List (Lit × DataW H) → Nat
  | [] => 0
  | x :: r => uptoBulkEntry x + uptoBulkEntries r
def uptoBulkEntry {H : Type} : Lit × DataW H → Nat
  | (.string bytes, d) => bytes.length + uptoBulk d + 1
  | (_, d) => uptoBulk d + 1
 end
def uptoSmall : (H : Type) → List (DataW H) → Bool := fun _ ds => decide (uptoBulkAll ds ≤ 1048576)
def OpenSpec.upto (s : _root_.Go.ChangeSpec) : _root_.Go.OpenSpec := { _root_.Go.OpenSpec.ofChange s with cond := some uptoSmall }

/-- 'laws.FnFullDomains', WHERE WHAT IT READS IS OF BULK AT MOST 1048576: true; the input reads as it did. -/
def fnFullDomainsUptoRow : OpenClaim := { program := "ytikknnpdiahnoaa", sum := "961cc2cce86fa55b437c26132880abb4d598f0881d331c1040081c9361bd11ec", func := "loop.example/cuttingplanes/laws.FnFullDomains", spec := "fnFullDomains", unfollowed := true, recurses := true, apart := false, narrowed := true }
def FnFullDomainsUptoSaid : Prop := fnFullDomainsUptoRow.holds Try.pinned (OpenSpec.upto fnFullDomainsSpec)

/-- 'laws.FnMatchRule', WHERE WHAT IT READS IS OF BULK AT MOST 1048576: true; the input reads as it did. -/
def fnMatchRuleUptoRow : OpenClaim := { program := "ytikknnpdiahnoaa", sum := "961cc2cce86fa55b437c26132880abb4d598f0881d331c1040081c9361bd11ec", func := "loop.example/cuttingplanes/laws.FnMatchRule", spec := "fnMatchRule", unfollowed := true, recurses := true, apart := false, narrowed := true }
def FnMatchRuleUptoSaid : Prop := fnMatchRuleUptoRow.holds Try.pinned (OpenSpec.upto fnMatchRuleSpec)

/-- 'laws.FnFilterMonotone', WHERE WHAT IT READS IS OF BULK AT MOST 1048576: true; the input reads as it did. -/
def fnFilterMonotoneUptoRow : OpenClaim := { program := "ytikknnpdiahnoaa", sum := "961cc2cce86fa55b437c26132880abb4d598f0881d331c1040081c9361bd11ec", func := "loop.example/cuttingplanes/laws.FnFilterMonotone", spec := "fnFilterMonotone", unfollowed := true, recurses := true, apart := false, narrowed := true }
def FnFilterMonotoneUptoSaid : Prop := fnFilterMonotoneUptoRow.holds Try.pinned (OpenSpec.upto fnFilterMonotoneSpec)

/-- 'laws.FnBoundsExact', WHERE WHAT IT READS IS OF BULK AT MOST 1048576: true; the input reads as it did. -/
def fnBoundsExactUptoRow : OpenClaim := { program := "ytikknnpdiahnoaa", sum := "961cc2cce86fa55b437c26132880abb4d598f0881d331c1040081c9361bd11ec", func := "loop.example/cuttingplanes/laws.FnBoundsExact", spec := "fnBoundsExact", unfollowed := true, recurses := true, apart := false, narrowed := true }
def FnBoundsExactUptoSaid : Prop := fnBoundsExactUptoRow.holds Try.pinned (OpenSpec.upto fnBoundsExactSpec)

/-- 'laws.FnBoundsRule', WHERE WHAT IT READS IS OF BULK AT MOST 1048576: true; the input reads as it did. -/
def fnBoundsRuleUptoRow : OpenClaim := { program := "ytikknnpdiahnoaa", sum := "961cc2cce86fa55b437c26132880abb4d598f0881d331c1040081c9361bd11ec", func := "loop.example/cuttingplanes/laws.FnBoundsRule", spec := "fnBoundsRule", unfollowed := true, recurses := true, apart := false, narrowed := true }
def FnBoundsRuleUptoSaid : Prop := fnBoundsRuleUptoRow.holds Try.pinned (OpenSpec.upto fnBoundsRuleSpec)

/-- 'laws.FnFilterOnce', WHERE WHAT IT READS IS OF BULK AT MOST 1048576: true; the input reads as it did. -/
def fnFilterOnceUptoRow : OpenClaim := { program := "ytikknnpdiahnoaa", sum := "961cc2cce86fa55b437c26132880abb4d598f0881d331c1040081c9361bd11ec", func := "loop.example/cuttingplanes/laws.FnFilterOnce", spec := "fnFilterOnce", unfollowed := true, recurses := true, apart := false, narrowed := true }
def FnFilterOnceUptoSaid : Prop := fnFilterOnceUptoRow.holds Try.pinned (OpenSpec.upto fnFilterOnceSpec)

/-- 'laws.FnFilterRule', WHERE WHAT IT READS IS OF BULK AT MOST 1048576: true; the input reads as it did. -/
def fnFilterRuleUptoRow : OpenClaim := { program := "ytikknnpdiahnoaa", sum := "961cc2cce86fa55b437c26132880abb4d598f0881d331c1040081c9361bd11ec", func := "loop.example/cuttingplanes/laws.FnFilterRule", spec := "fnFilterRule", unfollowed := true, recurses := true, apart := false, narrowed := true }
def FnFilterRuleUptoSaid : Prop := fnFilterRuleUptoRow.holds Try.pinned (OpenSpec.upto fnFilterRuleSpec)

/-- 'laws.FnBoundFilter', WHERE WHAT IT READS IS OF BULK AT MOST 1048576: true; the input reads as it did. -/
def fnBoundFilterUptoRow : OpenClaim := { program := "ytikknnpdiahnoaa", sum := "961cc2cce86fa55b437c26132880abb4d598f0881d331c1040081c9361bd11ec", func := "loop.example/cuttingplanes/laws.FnBoundFilter", spec := "fnBoundFilter", unfollowed := true, recurses := true, apart := false, narrowed := true }
def FnBoundFilterUptoSaid : Prop := fnBoundFilterUptoRow.holds Try.pinned (OpenSpec.upto fnBoundFilterSpec)

/-- 'laws.FnFilterModel', WHERE WHAT IT READS IS OF BULK AT MOST 1048576: true; the input reads as it did. -/
def fnFilterModelUptoRow : OpenClaim := { program := "ytikknnpdiahnoaa", sum := "961cc2cce86fa55b437c26132880abb4d598f0881d331c1040081c9361bd11ec", func := "loop.example/cuttingplanes/laws.FnFilterModel", spec := "fnFilterModel", unfollowed := true, recurses := true, apart := false, narrowed := true }
def FnFilterModelUptoSaid : Prop := fnFilterModelUptoRow.holds Try.pinned (OpenSpec.upto fnFilterModelSpec)

/-- 'laws.FnFilterEmpty', WHERE WHAT IT READS IS OF BULK AT MOST 1048576: true; the input reads as it did. -/
def fnFilterEmptyUptoRow : OpenClaim := { program := "ytikknnpdiahnoaa", sum := "961cc2cce86fa55b437c26132880abb4d598f0881d331c1040081c9361bd11ec", func := "loop.example/cuttingplanes/laws.FnFilterEmpty", spec := "fnFilterEmpty", unfollowed := true, recurses := true, apart := false, narrowed := true }
def FnFilterEmptyUptoSaid : Prop := fnFilterEmptyUptoRow.holds Try.pinned (OpenSpec.upto fnFilterEmptySpec)

/-- 'laws.FnExactFilterModel', WHERE WHAT IT READS IS OF BULK AT MOST 1048576: true; the input reads as it did. -/
def fnExactFilterModelUptoRow : OpenClaim := { program := "ytikknnpdiahnoaa", sum := "961cc2cce86fa55b437c26132880abb4d598f0881d331c1040081c9361bd11ec", func := "loop.example/cuttingplanes/laws.FnExactFilterModel", spec := "fnExactFilterModel", unfollowed := true, recurses := true, apart := false, narrowed := true }
def FnExactFilterModelUptoSaid : Prop := fnExactFilterModelUptoRow.holds Try.pinned (OpenSpec.upto fnExactFilterModelSpec)

end Rows
end Go.Proofs.Ytikknnpdiahnoaa

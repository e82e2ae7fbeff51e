/-
  No cell of these rows narrows 'for every input' (looked for: loops, veiled, ifaces, maps, wideKeys, modest, calm, conditions, laid).
  DERIVED. THE GIVEN ROWS OF THIS SEAT. 2 by the template 'for every input the law returns true; each argument reads behind the call as it read before'; 0 by the template 'total and deterministic' (their statements: YtoodaakcfelaaaaTotals.lean).
  GIVEN WITH THE SEED: the statements are not yours to turn. If you find one false, say at which input.
  Laid BY PROGRAM, IN A SANDBOX (cutbox-rows.mjs): the forced cells as the released guide's own fill.sh prints them over the translation e78be0b28e6a4ef1… (all of the seat's roots in one cut). By AI agents, Wed Nov 11 2026. No macro, syntax, notation, axiom, sorry.
-/
import Derived.Test.YtoodaakcfelaaaaChecked
import GoSem.Claim
import GoSem.ClaimJoined
import GoSem.ClaimMapViews
import Derived.JoinedTies
import Derived.KernelRfl
namespace Go.Proofs.Ytoodaakcfelaaaa
/- THE CELL 'sum', in the pinned program and in every row, IS THE sha256 OF THE DUMP (.gsa) THAT YtoodaakcfelaaaaProg.lean LOADS. Nothing in Lean hashes anything: it is a label: what it is worth is what the hold of that sum in a sandbox is worth. -/
noncomputable def Try.pinned : Pinned := { name := "ytoodaakcfelaaaa", sum := "e78be0b28e6a4ef148c0a04d0f27b133658d804d0038df6ae314dd9f8dfef062", checked := Try.checked }
namespace Rows
def none {H : Type} : Left H := { results := [], args := [] }

/-- 'laws.FnExactListSolutions': WHATEVER THE INPUT: true; the input reads as it did. -/
def fnExactListSolutionsSpec : ChangeSpec := { name := "fnExactListSolutions", fn := fun _ => fun
  | [d1, d2, d3] => { results := [.lit (.bool true)], args := [d1, d2, d3] }
  | _ => none }
def fnExactListSolutionsRow : OpenClaim := { program := "ytoodaakcfelaaaa", sum := "e78be0b28e6a4ef148c0a04d0f27b133658d804d0038df6ae314dd9f8dfef062", func := "loop.example/cuttingplanes/laws.FnExactListSolutions", spec := "fnExactListSolutions", unfollowed := true, recurses := true, apart := false }
def FnExactListSolutionsSaid : Prop := fnExactListSolutionsRow.holds Try.pinned (OpenSpec.ofChange fnExactListSolutionsSpec)

/-- ITS FALSE NEIGHBOUR: 'it returns false'. Refute it at one input. -/
def fnExactListSolutionsWrong : ChangeSpec := { name := "fnExactListSolutions", fn := fun _ => fun
  | [d1, d2, d3] => { results := [.lit (.bool false)], args := [d1, d2, d3] }
  | _ => none }
def FnExactListSolutionsWrongFalsely : Prop := fnExactListSolutionsRow.holds Try.pinned (OpenSpec.ofChange fnExactListSolutionsWrong)

/-- 'laws.FnListPrefix': WHATEVER THE INPUT: true; the input reads as it did. -/
def fnListPrefixSpec : ChangeSpec := { name := "fnListPrefix", fn := fun _ => fun
  | [d1, d2] => { results := [.lit (.bool true)], args := [d1, d2] }
  | _ => none }
def fnListPrefixRow : OpenClaim := { program := "ytoodaakcfelaaaa", sum := "e78be0b28e6a4ef148c0a04d0f27b133658d804d0038df6ae314dd9f8dfef062", func := "loop.example/cuttingplanes/laws.FnListPrefix", spec := "fnListPrefix", unfollowed := true, recurses := true, apart := false }
def FnListPrefixSaid : Prop := fnListPrefixRow.holds Try.pinned (OpenSpec.ofChange fnListPrefixSpec)

/-- ITS FALSE NEIGHBOUR: 'it returns false'. Refute it at one input. -/
def fnListPrefixWrong : ChangeSpec := { name := "fnListPrefix", fn := fun _ => fun
  | [d1, d2] => { results := [.lit (.bool false)], args := [d1, d2] }
  | _ => none }
def FnListPrefixWrongFalsely : Prop := fnListPrefixRow.holds Try.pinned (OpenSpec.ofChange fnListPrefixWrong)

/- THE SECOND FORM. 'bulk': how many values and letters a reading holds, each counted each time it is reached (what is shared counts as often as it is met; a slice's spare places count too). A statement '..UptoSaid' is the law's where the arguments, and the package variables that the reading takes, are together of bulk at most 1048576: NARROWER than '..Said'. Prove '..Said' where nothing that the law and all that it calls make is longer than what came in: it says more and counts as full. Else prove '..UptoSaid'. A law counts once. -/
mutual
def uptoBulk {H : Type} : DataW H → Nat
  | .lit (.string bytes) => bytes.length + 1
  | .lit _ => 1
  | .nil => 1
  | .ptr d => uptoBulk d + 1
  | .slice elems spare => uptoBulkAll elems + uptoBulkAll spare + 1
  | .agg parts => uptoBulkAll parts + 1
  | .iface _ d => uptoBulk d + 1
  | .map entries => uptoBulkEntries entries + 1
  | .held _ => 1
def uptoBulkAll {H : Type} : List (DataW H) → Nat
  | [] => 0
  | d :: r => uptoBulk d + uptoBulkAll r
def uptoBulkEntries {H : Type} : List (Lit × DataW H) → Nat
  | [] => 0
  | x :: r => uptoBulkEntry x + uptoBulkEntries r
def uptoBulkEntry {H : Type} : Lit × DataW H → Nat
  | (.string bytes, d) => bytes.length + uptoBulk d + 1
  | (_, d) => uptoBulk d + 1
 end
def uptoSmall : (H : Type) → List (DataW H) → Bool := fun _ ds => decide (uptoBulkAll ds ≤ 1048576)
def OpenSpec.upto (s : _root_.Go.ChangeSpec) : _root_.Go.OpenSpec := { _root_.Go.OpenSpec.ofChange s with cond := some uptoSmall }

/-- 'laws.FnExactListSolutions', WHERE WHAT IT READS IS OF BULK AT MOST 1048576: true; the input reads as it did. -/
def fnExactListSolutionsUptoRow : OpenClaim := { program := "ytoodaakcfelaaaa", sum := "e78be0b28e6a4ef148c0a04d0f27b133658d804d0038df6ae314dd9f8dfef062", func := "loop.example/cuttingplanes/laws.FnExactListSolutions", spec := "fnExactListSolutions", unfollowed := true, recurses := true, apart := false, narrowed := true }
def FnExactListSolutionsUptoSaid : Prop := fnExactListSolutionsUptoRow.holds Try.pinned (OpenSpec.upto fnExactListSolutionsSpec)

/-- 'laws.FnListPrefix', WHERE WHAT IT READS IS OF BULK AT MOST 1048576: true; the input reads as it did. -/
def fnListPrefixUptoRow : OpenClaim := { program := "ytoodaakcfelaaaa", sum := "e78be0b28e6a4ef148c0a04d0f27b133658d804d0038df6ae314dd9f8dfef062", func := "loop.example/cuttingplanes/laws.FnListPrefix", spec := "fnListPrefix", unfollowed := true, recurses := true, apart := false, narrowed := true }
def FnListPrefixUptoSaid : Prop := fnListPrefixUptoRow.holds Try.pinned (OpenSpec.upto fnListPrefixSpec)

end Rows
end Go.Proofs.Ytoodaakcfelaaaa

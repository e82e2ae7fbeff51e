/-
  No cell of these rows narrows 'for every input' (looked for: loops, veiled, ifaces, maps, wideKeys, modest, calm, conditions, laid).
  DERIVED. THE GIVEN ROWS OF THIS SEAT. 5 by the template 'for every input the law returns true; each argument reads behind the call as it read before'; 0 by the template 'total and deterministic' (their statements: YtoodaakcfelaaaaGreatTotals.lean).
  GIVEN WITH THE SEED: the statements are not yours to turn. If you find one false, say at which input.
  Laid BY PROGRAM, IN A SANDBOX (cutbox-rows.mjs): the forced cells as the released guide's own fill.sh prints them over the translation 2e1c4d42908570d9… (all of the seat's roots in one cut). By AI agents, Wed Nov 11 2026. No macro, syntax, notation, axiom, sorry.
-/
import Derived.Test.YtoodaakcfelaaaaGreatChecked
import GoSem.Claim
import GoSem.ClaimJoined
import GoSem.ClaimMapViews
import Derived.JoinedTies
import Derived.KernelRfl
namespace Go.Proofs.YtoodaakcfelaaaaGreat
/- THE CELL 'sum', in the pinned program and in every row, IS THE sha256 OF THE DUMP (.gsa) THAT YtoodaakcfelaaaaGreatProg.lean LOADS. Nothing in Lean hashes anything: it is a label: what it is worth is what the hold of that sum in a sandbox is worth. -/
noncomputable def Tryz.pinned : Pinned := { name := "ytoodaakcfelaaaagreat", sum := "2e1c4d42908570d98156df2f483478e9e85c12cf7203a388befa833dec2d1465", checked := Tryz.checked }
namespace Rows
def none {H : Type} : Left H := { results := [], args := [] }

/-- 'laws.FnExactCheckListing': WHATEVER THE INPUT: true; the input reads as it did. -/
def fnExactCheckListingSpec : ChangeSpec := { name := "fnExactCheckListing", fn := fun _ => fun
  | [d1, d2, d3, d4] => { results := [.lit (.bool true)], args := [d1, d2, d3, d4] }
  | _ => none }
def fnExactCheckListingRow : OpenClaim := { program := "ytoodaakcfelaaaagreat", sum := "2e1c4d42908570d98156df2f483478e9e85c12cf7203a388befa833dec2d1465", func := "loop.example/cuttingplanes/laws.FnExactCheckListing", spec := "fnExactCheckListing", unfollowed := true, recurses := true, apart := false }
def FnExactCheckListingSaid : Prop := fnExactCheckListingRow.holds Tryz.pinned (OpenSpec.ofChange fnExactCheckListingSpec)

/-- ITS FALSE NEIGHBOUR: 'it returns false'. Refute it at one input. -/
def fnExactCheckListingWrong : ChangeSpec := { name := "fnExactCheckListing", fn := fun _ => fun
  | [d1, d2, d3, d4] => { results := [.lit (.bool false)], args := [d1, d2, d3, d4] }
  | _ => none }
def FnExactCheckListingWrongFalsely : Prop := fnExactCheckListingRow.holds Tryz.pinned (OpenSpec.ofChange fnExactCheckListingWrong)

/-- 'laws.FnCheckListing': WHATEVER THE INPUT: true; the input reads as it did. -/
def fnCheckListingSpec : ChangeSpec := { name := "fnCheckListing", fn := fun _ => fun
  | [d] => { results := [.lit (.bool true)], args := [d] }
  | _ => none }
def fnCheckListingRow : OpenClaim := { program := "ytoodaakcfelaaaagreat", sum := "2e1c4d42908570d98156df2f483478e9e85c12cf7203a388befa833dec2d1465", func := "loop.example/cuttingplanes/laws.FnCheckListing", spec := "fnCheckListing", unfollowed := true, recurses := true, apart := false }
def FnCheckListingSaid : Prop := fnCheckListingRow.holds Tryz.pinned (OpenSpec.ofChange fnCheckListingSpec)

/-- ITS FALSE NEIGHBOUR: 'it returns false'. Refute it at one input. -/
def fnCheckListingWrong : ChangeSpec := { name := "fnCheckListing", fn := fun _ => fun
  | [d] => { results := [.lit (.bool false)], args := [d] }
  | _ => none }
def FnCheckListingWrongFalsely : Prop := fnCheckListingRow.holds Tryz.pinned (OpenSpec.ofChange fnCheckListingWrong)

/-- 'laws.FnListSolutions': WHATEVER THE INPUT: true; the input reads as it did. -/
def fnListSolutionsSpec : ChangeSpec := { name := "fnListSolutions", fn := fun _ => fun
  | [d] => { results := [.lit (.bool true)], args := [d] }
  | _ => none }
def fnListSolutionsRow : OpenClaim := { program := "ytoodaakcfelaaaagreat", sum := "2e1c4d42908570d98156df2f483478e9e85c12cf7203a388befa833dec2d1465", func := "loop.example/cuttingplanes/laws.FnListSolutions", spec := "fnListSolutions", unfollowed := true, recurses := true, apart := false }
def FnListSolutionsSaid : Prop := fnListSolutionsRow.holds Tryz.pinned (OpenSpec.ofChange fnListSolutionsSpec)

/-- ITS FALSE NEIGHBOUR: 'it returns false'. Refute it at one input. -/
def fnListSolutionsWrong : ChangeSpec := { name := "fnListSolutions", fn := fun _ => fun
  | [d] => { results := [.lit (.bool false)], args := [d] }
  | _ => none }
def FnListSolutionsWrongFalsely : Prop := fnListSolutionsRow.holds Tryz.pinned (OpenSpec.ofChange fnListSolutionsWrong)

/-- 'laws.FnSolveCubes': WHATEVER THE INPUT: true; the input reads as it did. -/
def fnSolveCubesSpec : ChangeSpec := { name := "fnSolveCubes", fn := fun _ => fun
  | [d] => { results := [.lit (.bool true)], args := [d] }
  | _ => none }
def fnSolveCubesRow : OpenClaim := { program := "ytoodaakcfelaaaagreat", sum := "2e1c4d42908570d98156df2f483478e9e85c12cf7203a388befa833dec2d1465", func := "loop.example/cuttingplanes/laws.FnSolveCubes", spec := "fnSolveCubes", unfollowed := true, recurses := true, apart := false }
def FnSolveCubesSaid : Prop := fnSolveCubesRow.holds Tryz.pinned (OpenSpec.ofChange fnSolveCubesSpec)

/-- ITS FALSE NEIGHBOUR: 'it returns false'. Refute it at one input. -/
def fnSolveCubesWrong : ChangeSpec := { name := "fnSolveCubes", fn := fun _ => fun
  | [d] => { results := [.lit (.bool false)], args := [d] }
  | _ => none }
def FnSolveCubesWrongFalsely : Prop := fnSolveCubesRow.holds Tryz.pinned (OpenSpec.ofChange fnSolveCubesWrong)

/-- 'laws.FnFilterProof': WHATEVER THE INPUT: true; the input reads as it did. -/
def fnFilterProofSpec : ChangeSpec := { name := "fnFilterProof", fn := fun _ => fun
  | [d1, d2] => { results := [.lit (.bool true)], args := [d1, d2] }
  | _ => none }
def fnFilterProofRow : OpenClaim := { program := "ytoodaakcfelaaaagreat", sum := "2e1c4d42908570d98156df2f483478e9e85c12cf7203a388befa833dec2d1465", func := "loop.example/cuttingplanes/laws.FnFilterProof", spec := "fnFilterProof", unfollowed := true, recurses := true, apart := false }
def FnFilterProofSaid : Prop := fnFilterProofRow.holds Tryz.pinned (OpenSpec.ofChange fnFilterProofSpec)

/-- ITS FALSE NEIGHBOUR: 'it returns false'. Refute it at one input. -/
def fnFilterProofWrong : ChangeSpec := { name := "fnFilterProof", fn := fun _ => fun
  | [d1, d2] => { results := [.lit (.bool false)], args := [d1, d2] }
  | _ => none }
def FnFilterProofWrongFalsely : Prop := fnFilterProofRow.holds Tryz.pinned (OpenSpec.ofChange fnFilterProofWrong)

/- THE SECOND FORM. 'bulk': how many values and letters a reading holds, each counted each time it is reached (what is shared counts as often as it is met; a slice's spare places count too). A statement '..UptoSaid' is the law's where the arguments, and the package variables that the reading takes, are together of bulk at most 1048576: NARROWER than '..Said'. Prove '..Said' where nothing that the law and all that it calls make is longer than what came in: it says more and counts as full. Else prove '..UptoSaid'. A law counts once. -/
mutual
def uptoBulk {H : Type} : DataW H → Nat
  | .lit (.string bytes) => bytes.length + 1
  | .lit _ => 1
  | .nil => 1
  | .ptr d => uptoBulk d + 1
  | .slice elems spare => uptoBulkAll elems + uptoBulkAll spare + 1
  | .agg parts => uptoBulkAll parts + 1
  | .iface _ d => uptoBulk d + 1
  | .map entries => uptoBulkEntries entries + 1
  | .held _ => 1
def uptoBulkAll {H : Type} : List (DataW H) → Nat
  | [] => 0
  | d :: r => uptoBulk d + uptoBulkAll r
def uptoBulkEntries {H : Type} : List (Lit × DataW H) → Nat
  | [] => 0
  | x :: r => uptoBulkEntry x + uptoBulkEntries r
def uptoBulkEntry {H : Type} : Lit × DataW H → Nat
  | (.string bytes, d) => bytes.length + uptoBulk d + 1
  | (_, d) => uptoBulk d + 1
 end
def uptoSmall : (H : Type) → List (DataW H) → Bool := fun _ ds => decide (uptoBulkAll ds ≤ 1048576)
def OpenSpec.upto (s : _root_.Go.ChangeSpec) : _root_.Go.OpenSpec := { _root_.Go.OpenSpec.ofChange s with cond := some uptoSmall }

/-- 'laws.FnExactCheckListing', WHERE WHAT IT READS IS OF BULK AT MOST 1048576: true; the input reads as it did. -/
def fnExactCheckListingUptoRow : OpenClaim := { program := "ytoodaakcfelaaaagreat", sum := "2e1c4d42908570d98156df2f483478e9e85c12cf7203a388befa833dec2d1465", func := "loop.example/cuttingplanes/laws.FnExactCheckListing", spec := "fnExactCheckListing", unfollowed := true, recurses := true, apart := false, narrowed := true }
def FnExactCheckListingUptoSaid : Prop := fnExactCheckListingUptoRow.holds Tryz.pinned (OpenSpec.upto fnExactCheckListingSpec)

/-- 'laws.FnCheckListing', WHERE WHAT IT READS IS OF BULK AT MOST 1048576: true; the input reads as it did. -/
def fnCheckListingUptoRow : OpenClaim := { program := "ytoodaakcfelaaaagreat", sum := "2e1c4d42908570d98156df2f483478e9e85c12cf7203a388befa833dec2d1465", func := "loop.example/cuttingplanes/laws.FnCheckListing", spec := "fnCheckListing", unfollowed := true, recurses := true, apart := false, narrowed := true }
def FnCheckListingUptoSaid : Prop := fnCheckListingUptoRow.holds Tryz.pinned (OpenSpec.upto fnCheckListingSpec)

/-- 'laws.FnListSolutions', WHERE WHAT IT READS IS OF BULK AT MOST 1048576: true; the input reads as it did. -/
def fnListSolutionsUptoRow : OpenClaim := { program := "ytoodaakcfelaaaagreat", sum := "2e1c4d42908570d98156df2f483478e9e85c12cf7203a388befa833dec2d1465", func := "loop.example/cuttingplanes/laws.FnListSolutions", spec := "fnListSolutions", unfollowed := true, recurses := true, apart := false, narrowed := true }
def FnListSolutionsUptoSaid : Prop := fnListSolutionsUptoRow.holds Tryz.pinned (OpenSpec.upto fnListSolutionsSpec)

/-- 'laws.FnSolveCubes', WHERE WHAT IT READS IS OF BULK AT MOST 1048576: true; the input reads as it did. -/
def fnSolveCubesUptoRow : OpenClaim := { program := "ytoodaakcfelaaaagreat", sum := "2e1c4d42908570d98156df2f483478e9e85c12cf7203a388befa833dec2d1465", func := "loop.example/cuttingplanes/laws.FnSolveCubes", spec := "fnSolveCubes", unfollowed := true, recurses := true, apart := false, narrowed := true }
def FnSolveCubesUptoSaid : Prop := fnSolveCubesUptoRow.holds Tryz.pinned (OpenSpec.upto fnSolveCubesSpec)

/-- 'laws.FnFilterProof', WHERE WHAT IT READS IS OF BULK AT MOST 1048576: true; the input reads as it did. -/
def fnFilterProofUptoRow : OpenClaim := { program := "ytoodaakcfelaaaagreat", sum := "2e1c4d42908570d98156df2f483478e9e85c12cf7203a388befa833dec2d1465", func := "loop.example/cuttingplanes/laws.FnFilterProof", spec := "fnFilterProof", unfollowed := true, recurses := true, apart := false, narrowed := true }
def FnFilterProofUptoSaid : Prop := fnFilterProofUptoRow.holds Tryz.pinned (OpenSpec.upto fnFilterProofSpec)

end Rows
end Go.Proofs.YtoodaakcfelaaaaGreat

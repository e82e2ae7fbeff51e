/- The arguments' types, opened. -/
import Derived.Test.YtnfddmchognlgaaAb12
import Derived.Test.YtnfddmchognlgaaVals
import Derived.Test.YtnfddmchognlgaaRows
namespace Go.Ab
open Go.Proofs
theorem own : ownKnob Try.prog.godebug = none := by kernel_rfl
theorem laidOut : laidOutB Try.prog = true := by kernel_rfl
theorem o4 : Opens Try.prog 4 1 dB (fun _ => True) := opens_bool Try.underlying4
theorem o22 : Opens Try.prog 22 1 (fun l : List (Bool) => [.sl (l.map dB)]) (fun l => ∀ a ∈ l, (fun _ => True) a) := opens_slice Try.underlying22 (by kernel_rfl) (by decide) o4
theorem o9 : Opens Try.prog 9 1 dS (fun b => b.size ≤ maxLen) := opens_string Try.underlying9
end Go.Ab

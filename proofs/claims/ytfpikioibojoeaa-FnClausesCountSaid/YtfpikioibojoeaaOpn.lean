/- The arguments' types, opened. -/
import Derived.Test.YtfpikioibojoeaaAb12
import Derived.Test.YtfpikioibojoeaaVals
import Derived.Test.YtfpikioibojoeaaRows
namespace Go.Ab
open Go.Proofs
def okT (t : Term) : Prop := inI64 t.1 ∧ inI64 t.2
def okC (c : Con) : Prop := (∀ a ∈ c.1, okT a) ∧ inI64 c.2
theorem own : ownKnob Try.prog.godebug = none := by kernel_rfl
theorem laidOut : laidOutB Try.prog = true := by kernel_rfl
theorem o5 : Opens Try.prog 5 1 dU (inU8) := opens_u8 Try.underlying5
theorem o22 : Opens Try.prog 22 1 (fun l : List (Int) => [.sl (l.map dU)]) (fun l => ∀ a ∈ l, (inU8) a) := opens_slice Try.underlying22 (by kernel_rfl) (by decide) o5
end Go.Ab

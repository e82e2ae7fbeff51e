/- The arguments' types, opened. -/
import Derived.Test.YtliampibpeokmaaAb12
import Derived.Test.YtliampibpeokmaaVals
import Derived.Test.YtliampibpeokmaaRows
namespace Go.Ab
open Go.Proofs
def okT (t : Term) : Prop := inI64 t.1 ∧ inI64 t.2
def okC (c : Con) : Prop := (∀ a ∈ c.1, okT a) ∧ inI64 c.2
theorem own : ownKnob Try.prog.godebug = none := by kernel_rfl
theorem o3 : Opens Try.prog 3 1 dI (inI64) := opens_int Try.underlying3
end Go.Ab

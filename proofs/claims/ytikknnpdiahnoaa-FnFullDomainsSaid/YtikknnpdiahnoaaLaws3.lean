/- The common divisor; the table's symmetry. -/
import Derived.Test.YtikknnpdiahnoaaLaws2
set_option linter.unusedSimpArgs false
set_option linter.unusedVariables false
namespace Go.Ab
/-! ### The common divisor -/
def gcdG (g : Nat) (ts : List Term) : Nat := ts.foldl (fun g t => Nat.gcd t.1.toNat g) g
def cdC (c : Con) : Con := chC (divK (cdiv c)) c
end Go.Ab

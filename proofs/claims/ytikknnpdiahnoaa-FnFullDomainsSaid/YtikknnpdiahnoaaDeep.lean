/- Marks of constraints, sizes of problems. -/
import Derived.Test.YtikknnpdiahnoaaAb19
import Derived.Test.YtikknnpdiahnoaaCons
set_option linter.unusedSimpArgs false
set_option linter.unusedVariables false
namespace Go.Ab
def endC : Nat → List Con → Nat
  | k, [] => k
  | k, c :: r => endC (k + 2 * c.1.length + 1) r
def markC (k : Nat) (c : Con) : Con := (marksT k c.1.length, ((k + 2 * c.1.length : Nat) : Int))
def marksC : Nat → List Con → List Con
  | _, [] => []
  | k, c :: r => markC k c :: marksC (k + 2 * c.1.length + 1) r
def szL : List Con → Int → Int
  | [], n => n
  | c :: r, n => if szv c.1.length n < 0 then -1 else szL r (szv c.1.length n)
def szC (l : List Con) (n : Int) : Int := if szv l.length n < 0 then -1 else szL l (szv l.length n)
def sumL (l : List Con) : Nat := (l.map (fun c => c.1.length)).sum
/-- Lengths that fit. -/
def fitC (l : List Con) : Prop := sumL l + l.length ≤ 1048576
end Go.Ab
namespace Go.Ab
end Go.Ab

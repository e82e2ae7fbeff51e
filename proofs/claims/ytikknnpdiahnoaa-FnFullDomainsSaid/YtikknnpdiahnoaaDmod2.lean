/- Drawn domains, told plainly. -/
import Derived.Test.YtikknnpdiahnoaaDmod
import Derived.Test.YtikknnpdiahnoaaFd
set_option linter.unusedSimpArgs false
set_option linter.unusedVariables false
namespace Go.Ab
def rowD (b : List Int) (q n : Nat) : List Bool := (List.range n).map (fun k => decide (0 < pickV b (q + k) 5))
def rowP (b : List Int) (q : Nat) (x : List Bool) (k : Nat) : List Bool := rowD b q k ++ x.drop k
def rowsD (b : List Int) : Nat → List (List Bool) → List (List Bool)
  | _, [] => []
  | q, x :: r => rowD b q x.length :: rowsD b (q + x.length) r
def bendD (b : List Int) (q : Nat) (R : List (List Bool)) : List (List Bool) := if pickV b q 30 = 0 then R.set 0 (R.getD 0 default ++ [true]) else R
def drawD (b : List Int) (p : Nat) (m : Md) : List (List Bool) × Nat :=
  if (fullD m).length = 0 then ([], p)
  else if pickV b (p + sumW List.length (fullD m) + 1) 30 = 0 then ((bendD b (p + sumW List.length (fullD m)) (rowsD b p (fullD m))).take ((fullD m).length - 1), p + sumW List.length (fullD m) + 2)
  else (bendD b (p + sumW List.length (fullD m)) (rowsD b p (fullD m)), p + sumW List.length (fullD m) + 2)
end Go.Ab

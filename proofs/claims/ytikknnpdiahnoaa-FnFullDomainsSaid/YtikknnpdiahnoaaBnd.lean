/- Bounds of linear rules. -/
import Derived.Test.YtikknnpdiahnoaaFf
set_option linter.unusedSimpArgs false
set_option linter.unusedVariables false
namespace Go.Ab
/-- The greatest product of a coefficient and one of the first values of a domain. -/
def bstN (a : Int) (row : List Bool) : Nat → Int × Bool
  | 0 => (0, false)
  | k + 1 => if row.getD k default = true ∧ ((bstN a row k).2 = false ∨ (bstN a row k).1 < a * k) then (a * k, true) else bstN a row k
abbrev vrN (r : Rl) (i : Nat) : Nat := (r.2.1.getD i default).toNat
abbrev cfN (r : Rl) (i : Nat) : Int := r.2.2.1.getD i default
def bstR (r : Rl) (d : List (List Bool)) (i : Nat) : Int := (bstN (cfN r i) (d.getD (vrN r i) default) (d.getD (vrN r i) default).length).1
def sumR (f : Nat → Int) : Nat → Int
  | 0 => 0
  | n + 1 => sumR f n + f n
abbrev totR (r : Rl) (d : List (List Bool)) : Int := sumR (bstR r d) r.2.1.length
/-- A row, of which the first elements have been tested. -/
def brP (rest a b : Int) (row : List Bool) : Nat → List Bool
  | 0 => row
  | k + 1 => (brP rest a b row k).set k (row.getD k default && decide (b ≤ rest + a * k))
def brD (r : Rl) (d : List (List Bool)) : Nat → List (List Bool)
  | 0 => d
  | i + 1 => (brD r d i).set (vrN r i) (brP (totR r d - bstR r d i) (cfN r i) r.2.2.2.1 (d.getD (vrN r i) default) (d.getD (vrN r i) default).length)
theorem set_row {α : Type} [Inhabited α] {l : List α} {i j : Nat} {a : α} (hi : i < l.length) : (l.set i a).getD j default = if j = i then a else l.getD j default := by
  by_cases e : j = i
  · subst e; rw [if_pos rfl, List.getD_eq_getElem?_getD, List.getElem?_set_self hi]; rfl
  · rw [if_neg e, getD_setne e]
section
variable {m : Md} {r : Rl} {d : List (List Bool)}
end
def brOk (m : Md) (i : Int) (d : List (List Bool)) : Bool := dmB m d && (!emB d && (decide (0 ≤ i ∧ i < m.2.length) && decide ((m.2.getD i.toNat default).1 = 1)))
def bdD (m : Md) (i : Int) (d : List (List Bool)) : List (List Bool) := if brOk m i d then brD (m.2.getD i.toNat default) d (m.2.getD i.toNat default).2.1.length else []
end Go.Ab

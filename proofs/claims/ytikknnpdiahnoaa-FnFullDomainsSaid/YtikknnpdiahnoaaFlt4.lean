/- Filtering by one rule of a model. -/
import Derived.Test.YtikknnpdiahnoaaFlt3
set_option linter.unusedSimpArgs false
set_option linter.unusedVariables false
namespace Go.Ab
def frOk (m : Md) (i : Int) (d : List (List Bool)) : Bool := dmB m d && decide (0 ≤ i ∧ i < m.2.length)
def frD (m : Md) (i : Int) (d : List (List Bool)) : List (List Bool) := if frOk m i d then filtD m (m.2.getD i.toNat default) d else []
theorem dm_parts {m : Md} {d : List (List Bool)} (h : dmB m d = true) : mOk m = true ∧ fitsB m.1 d = true := by
  unfold dmB at h
  rw [Bool.and_eq_true] at h
  exact h
abbrev stepO (q : Rl) (d : List (List Bool)) (c : List Int) (o : List (List Bool)) : List (List Bool) := if okC2 q d c then markN o c c.length else o
end Go.Ab

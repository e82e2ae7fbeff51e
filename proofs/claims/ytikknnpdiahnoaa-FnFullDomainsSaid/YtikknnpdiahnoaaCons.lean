/- Constraints, told in plain lists. -/
import Derived.Test.YtikknnpdiahnoaaVals
set_option linter.unusedSimpArgs false
set_option linter.unusedVariables false
set_option linter.unnecessarySimpa false
namespace Go.Ab
def litOk (n : Int) : Bool := decide (n ≠ 0 ∧ -12 ≤ n ∧ n ≤ 12)
def varOf (n : Int) : Int := max n (-n)
theorem litOk_iff {n : Int} : litOk n = true ↔ (n ≠ 0 ∧ -12 ≤ n ∧ n ≤ 12) := by simp [litOk]
def okFrom : Int → List Term → Bool
  | _, [] => true
  | p, t :: r => litOk t.2 && (decide (p < varOf t.2) && (decide (1 ≤ t.1 ∧ t.1 ≤ 1000) && okFrom (varOf t.2) r))
def cOk (c : Con) : Bool := okFrom 0 c.1 && decide (0 ≤ c.2 ∧ c.2 ≤ 20000)
theorem drop_getD {α : Type} {d : α} {l : List α} {k : Nat} (h : k < l.length) : l.drop k = l.getD k d :: l.drop (k + 1) := by
  rw [List.drop_eq_getElem_cons h, List.getD_eq_getElem?_getD, List.getElem?_eq_getElem h, Option.getD_some]
def prevV (ts : List Term) (k : Nat) : Int := if k = 0 then 0 else varOf (ts.getD (k - 1) default).2
end Go.Ab
namespace Go.Ab
/-! ### Common divisors -/
def gcdL (ts : List Term) : Nat := ts.foldl (fun g t => Nat.gcd t.1.toNat g) 0
def cdiv (c : Con) : Int := if cOk c then ((gcdL c.1 : Nat) : Int) else 0
theorem okFrom_all : ∀ {ts : List Term} {p : Int}, okFrom p ts = true → ∀ t ∈ ts, litOk t.2 = true ∧ 1 ≤ t.1 ∧ t.1 ≤ 1000
  | [], _, _, t, ht => by simp at ht
  | x :: r, p, h, t, ht => by
    simp only [okFrom, Bool.and_eq_true, decide_eq_true_eq] at h
    rcases List.mem_cons.1 ht with rfl | ht
    · exact ⟨h.1, h.2.2.1⟩
    · exact okFrom_all h.2.2.2 t ht
theorem getD_mem {α : Type} {d : α} {l : List α} {k : Nat} (h : k < l.length) : l.getD k d ∈ l := by
  rw [List.getD_eq_getElem?_getD, List.getElem?_eq_getElem h, Option.getD_some]; exact List.getElem_mem h
def szv (n : Nat) (k : Int) : Int := if (n : Int) ≤ k then k - n else -1
end Go.Ab
namespace Go.Ab
/-! ### Marks of numbers and terms -/
def marksI (k n : Nat) : List Int := (List.range n).map (fun i => ((k + i : Nat) : Int))
def markT (k i : Nat) : Term := (((k + 2 * i : Nat) : Int), ((k + 2 * i + 1 : Nat) : Int))
def marksT (k n : Nat) : List Term := (List.range n).map (markT k)
def varsFrom : Int → List Int → Bool
  | _, [] => true
  | p, v :: r => decide (p < v) && (decide (1 ≤ v ∧ v ≤ 12) && varsFrom v r)
def prevI (vs : List Int) (k : Nat) : Int := if k = 0 then 0 else vs.getD (k - 1) default
def exT (bs : List Bool) (v : Int) : Term := (1, if bs.getD (v - 1).toNat default then -v else v)
def exTs (vs : List Int) (bs : List Bool) : List Term := vs.map (exT bs)
def exOk (vs : List Int) (bs : List Bool) : Bool := varsFrom 0 vs && decide (bs.length = 12)
def exC (vs : List Int) (bs : List Bool) : Con := if exOk vs bs then (exTs vs bs, 1) else ([], 0)
end Go.Ab
namespace Go.Ab
end Go.Ab
namespace Go.Ab
end Go.Ab

/- Marks on steps. -/
import Derived.Test.YtoodaakcfelaaaaFd
import Derived.Test.YtoodaakcfelaaaaPf4
set_option linter.unusedSimpArgs false
set_option linter.unusedVariables false
namespace Go.Ab
abbrev sxT (s : Stp) : List Term := s.2.2.2.1
def endS : Nat → List Stp → Nat
  | k, [] => k
  | k, s :: r => endS (k + 2 * (sxT s).length + 4) r
def markS (k : Nat) (s : Stp) : Stp := ((k : Int), ((k + 1 : Nat) : Int), ((k + 2 : Nat) : Int), (marksT (k + 3) (sxT s).length, ((k + 3 + 2 * (sxT s).length : Nat) : Int)))
def marksS : Nat → List Stp → List Stp
  | _, [] => []
  | k, s :: r => markS k s :: marksS (k + 2 * (sxT s).length + 4) r
theorem qjd : ∀ {k : Nat} {l : List Stp}, (marksS k l).length = l.length
  | _, [] => rfl
  | k, c :: r => by rw [marksS, List.length_cons, qjd, List.length_cons]
theorem endS_ge : ∀ {k : Nat} {l : List Stp}, k + l.length ≤ endS k l
  | k, [] => by simp [endS]
  | k, c :: r => by
    have := endS_ge (k := k + 2 * (sxT c).length + 4) (l := r)
    rw [endS, List.length_cons]; omega
theorem endS_take : ∀ {k i : Nat} {l : List Stp}, i < l.length → endS k (l.take (i + 1)) = endS k (l.take i) + 2 * (sxT (l.getD i default)).length + 4
  | k, i, [], h => by simp at h
  | k, 0, c :: r, h => by simp [endS]
  | k, i + 1, c :: r, h => by
    have := endS_take (k := k + 2 * (sxT c).length + 4) (i := i) (l := r) (by simpa using h)
    simp only [List.take_succ_cons, endS, List.getD_cons_succ]
    exact this
theorem endS_le : ∀ {l : List Stp} {k i : Nat}, endS k (l.take i) ≤ endS k l
  | [], k, i => by simp
  | c :: r, k, 0 => by have := endS_ge (k := k) (l := c :: r); simp only [List.take_zero, endS]; simp only [endS] at this; omega
  | c :: r, k, i + 1 => by simp only [List.take_succ_cons, endS]; exact endS_le
theorem endS_at {k i : Nat} {l : List Stp} (h : i < l.length) : endS k (l.take i) + 2 * (sxT (l.getD i default)).length + 4 ≤ endS k l := by
  rw [← endS_take h]; exact endS_le
theorem marksS_at : ∀ {k i : Nat} {l : List Stp}, i < l.length → (marksS k l).getD i default = markS (endS k (l.take i)) (l.getD i default)
  | k, i, [], h => by simp at h
  | k, 0, c :: r, h => by simp [marksS, endS]
  | k, i + 1, c :: r, h => by
    have := marksS_at (k := k + 2 * (sxT c).length + 4) (i := i) (l := r) (by simpa using h)
    simp only [marksS, List.take_succ_cons, endS, List.getD_cons_succ]
    exact this
end Go.Ab
namespace Go.Ab
theorem set5 {α : Type} {es : List α} {i : Nat} {a b c d e : α} : ((((es.set i a).set i b).set i c).set i d).set i e = es.set i e := by simp only [List.set_set]
end Go.Ab

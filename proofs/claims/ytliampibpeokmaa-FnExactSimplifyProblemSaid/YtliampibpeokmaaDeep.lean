/- Marks of constraints, sizes of problems. -/
import Derived.Test.YtliampibpeokmaaAb18
import Derived.Test.YtliampibpeokmaaCons
set_option linter.unusedSimpArgs false
set_option linter.unusedVariables false
namespace Go.Ab
def endC : Nat → List Con → Nat
  | k, [] => k
  | k, c :: r => endC (k + 2 * c.1.length + 1) r
def markC (k : Nat) (c : Con) : Con := (marksT k c.1.length, ((k + 2 * c.1.length : Nat) : Int))
def marksC : Nat → List Con → List Con
  | _, [] => []
  | k, c :: r => markC k c :: marksC (k + 2 * c.1.length + 1) r
theorem marksC_length : ∀ {k : Nat} {l : List Con}, (marksC k l).length = l.length
  | _, [] => rfl
  | k, c :: r => by rw [marksC, List.length_cons, marksC_length, List.length_cons]
theorem endC_ge : ∀ {k : Nat} {l : List Con}, k + l.length ≤ endC k l
  | k, [] => Nat.le_refl _
  | k, c :: r => by
    have := endC_ge (k := k + 2 * c.1.length + 1) (l := r)
    rw [endC, List.length_cons]; omega
theorem endC_take : ∀ {k i : Nat} {l : List Con}, i < l.length → endC k (l.take (i + 1)) = endC k (l.take i) + 2 * (l.getD i default).1.length + 1
  | k, i, [], h => by simp at h
  | k, 0, c :: r, h => by simp [endC]
  | k, i + 1, c :: r, h => by
    have := endC_take (k := k + 2 * c.1.length + 1) (i := i) (l := r) (by simpa using h)
    simp only [List.take_succ_cons, endC, List.getD_cons_succ]
    exact this
theorem endC_le {k : Nat} {l : List Con} {i : Nat} : endC k (l.take i) ≤ endC k l := by
  induction l generalizing k i with
  | nil => simp
  | cons c r ih =>
    cases i with
    | zero => have := endC_ge (k := k) (l := c :: r); simp only [List.take_zero, endC]; simp only [endC] at this; omega
    | succ i => simp only [List.take_succ_cons, endC]; exact ih
theorem endC_at {k i : Nat} {l : List Con} (h : i < l.length) : endC k (l.take i) + 2 * (l.getD i default).1.length + 1 ≤ endC k l := by
  rw [← endC_take h]; exact endC_le
theorem marksC_at : ∀ {k i : Nat} {l : List Con}, i < l.length → (marksC k l).getD i default = markC (endC k (l.take i)) (l.getD i default)
  | k, i, [], h => by simp at h
  | k, 0, c :: r, h => by simp [marksC, endC]
  | k, i + 1, c :: r, h => by
    have := marksC_at (k := k + 2 * c.1.length + 1) (i := i) (l := r) (by simpa using h)
    simp only [marksC, List.take_succ_cons, endC, List.getD_cons_succ]
    exact this
def szL : List Con → Int → Int
  | [], n => n
  | c :: r, n => if szv c.1.length n < 0 then -1 else szL r (szv c.1.length n)
def szC (l : List Con) (n : Int) : Int := if szv l.length n < 0 then -1 else szL l (szv l.length n)
theorem szv_cases {n : Nat} {k : Int} : (szv n k = k - n ∧ (n : Int) ≤ k) ∨ (szv n k = -1 ∧ k < n) := by unfold szv; split <;> omega
def sumL (l : List Con) : Nat := (l.map (fun c => c.1.length)).sum
theorem szL_le : ∀ {l : List Con} {n : Int}, 0 ≤ n → ¬ szL l n < 0 → (sumL l : Int) ≤ n
  | [], n, h, _ => by simpa [sumL] using h
  | c :: r, n, h, h2 => by
    rw [szL] at h2
    split at h2
    · exact absurd h2 (by decide)
    · rcases szv_cases (n := c.1.length) (k := n) with ⟨e, e2⟩ | ⟨e, e2⟩
      · rw [e] at h2
        have := szL_le (l := r) (n := n - c.1.length) (by omega) h2
        simp only [sumL, List.map_cons, List.sum_cons] at this ⊢; omega
      · omega
theorem szC_le {l : List Con} {n : Int} (h0 : 0 ≤ n) (h : ¬ szC l n < 0) : (sumL l : Int) + l.length ≤ n := by
  unfold szC at h
  split at h
  · exact absurd h (by decide)
  · rcases szv_cases (n := l.length) (k := n) with ⟨e, e2⟩ | ⟨e, e2⟩
    · rw [e] at h
      have := szL_le (by omega) h; omega
    · omega
theorem sumL_mem {l : List Con} {c : Con} (h : c ∈ l) : c.1.length ≤ sumL l := by
  induction l with
  | nil => simp at h
  | cons d r ih =>
    simp only [sumL, List.map_cons, List.sum_cons] at ih ⊢
    rcases List.mem_cons.1 h with rfl | h
    · omega
    · have := ih h; omega
theorem endC_sum : ∀ {k : Nat} {l : List Con}, endC k l = k + 2 * sumL l + l.length
  | k, [] => rfl
  | k, c :: r => by
    rw [endC, endC_sum]; simp only [sumL, List.map_cons, List.sum_cons, List.length_cons]; omega
/-- Lengths that fit. -/
def fitC (l : List Con) : Prop := sumL l + l.length ≤ 1048576
theorem fitC_of {l : List Con} (h : ¬ szC l 1048576 < 0) : fitC l := by have := szC_le (by decide) h; unfold fitC; omega
theorem fitC_len {l : List Con} (h : fitC l) : l.length ≤ 1048576 := by unfold fitC at h; omega
theorem fitC_at {l : List Con} (h : fitC l) {c : Con} (hc : c ∈ l) : c.1.length ≤ 1048576 := by have := sumL_mem hc; unfold fitC at h; omega
theorem fitC_end {l : List Con} (h : fitC l) : endC 1 l ≤ 4611686018427387904 := by rw [endC_sum]; unfold fitC at h; omega
theorem sumL_le {l : List Con} {m : Nat} (h : ∀ c ∈ l, c.1.length ≤ m) : sumL l ≤ m * l.length := by
  induction l with
  | nil => simp [sumL]
  | cons c r ih =>
    have h1 := h c (by simp)
    have h2 := ih (fun c hc => h c (by simp [hc]))
    simp only [sumL, List.map_cons, List.sum_cons, List.length_cons] at h2 ⊢
    rw [Nat.mul_add, Nat.mul_one]; omega
theorem fitC_small {l : List Con} (h1 : l.length ≤ 5000) (h2 : ∀ c ∈ l, c.1.length ≤ 100) : fitC l := by
  have := sumL_le h2
  unfold fitC; omega
end Go.Ab
namespace Go.Ab
theorem szL_bad {d : Con} {l : List Con} {k : Nat} {z : Int} (h : k < l.length) (h2 : szv (l.getD k d).1.length z < 0) : szL (l.drop k) z = -1 := by
  rw [drop_getD (d := d) h, szL, if_pos h2]
theorem szL_next {d : Con} {l : List Con} {k : Nat} {z : Int} (h : k < l.length) (h2 : ¬ szv (l.getD k d).1.length z < 0) : szL (l.drop k) z = szL (l.drop (k + 1)) (szv (l.getD k d).1.length z) := by
  rw [drop_getD (d := d) h, szL, if_neg h2]
theorem szL_end {l : List Con} {k : Nat} {z : Int} (h : l.length ≤ k) : szL (l.drop k) z = z := by
  rw [List.drop_of_length_le h]; rfl
end Go.Ab

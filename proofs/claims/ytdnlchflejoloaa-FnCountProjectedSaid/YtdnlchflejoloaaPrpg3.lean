/- Rows in which literals are made true. -/
import Derived.Test.YtdnlchflejoloaaPrpg2
set_option linter.unusedSimpArgs false
set_option linter.unusedVariables false
namespace Go.Ab
theorem asg_rowp {p : List Int} {m : Int} (h : 0 < m) : (p.map dI).set (m - 1).toNat [.p (.int .i64 1)] = (asg p m).map dI := by
  unfold asg varOf
  rw [if_neg (by omega), List.map_set, show max m (-m) - 1 = m - 1 by omega]; rfl
theorem asg_rown {p : List Int} {m : Int} (h : m ≤ 0) (h0 : m ≠ 0) : (p.map dI).set (-m - 1).toNat [.p (.int .i64 (-1))] = (asg p m).map dI := by
  unfold asg varOf
  rw [if_pos (by omega), List.map_set, show max m (-m) - 1 = -m - 1 by omega]; rfl
end Go.Ab
namespace Go.Ab
def failS (l : List Con) (ms : List Int) : List Int := ms.filter (fun m => decide (0 ≤ (prop l (justV m)).2))
def failN (l : List Con) : Nat → List Int
  | 0 => []
  | k + 1 => failN l k ++ failS l [(k : Int) + 1, -((k : Int) + 1)]
def failL (l : List Con) : List Int := if pOk l then failN l 12 else []
theorem failL_ok {l : List Con} (h : pOk l = true) : failL l = failN l 12 := by unfold failL; rw [if_pos h]
theorem failL_bad {l : List Con} (h : pOk l = false) : failL l = [] := by unfold failL; rw [if_neg (by rw [h]; decide)]
theorem failS_len {l : List Con} {ms : List Int} : (failS l ms).length ≤ ms.length := List.length_filter_le ..
theorem failN_len {l : List Con} : ∀ {k : Nat}, (failN l k).length ≤ 2 * k
  | 0 => Nat.le_refl _
  | k + 1 => by
    have h1 := failN_len (l := l) (k := k)
    have h2 := failS_len (l := l) (ms := [(k : Int) + 1, -((k : Int) + 1)])
    simp only [List.length_cons, List.length_nil] at h2
    rw [failN, List.length_append]; omega
theorem failL_len {l : List Con} : (failL l).length ≤ 24 := by
  unfold failL
  split
  · exact failN_len
  · simp
theorem failS_yes {l : List Con} {ms : List Int} {j : Nat} (h : j < ms.length) (h2 : 0 ≤ (prop l (justV (ms.getD j default))).2) : failS l (ms.take (j + 1)) = failS l (ms.take j) ++ [ms.getD j default] := by
  unfold failS
  rw [take_succD (d := default) h, List.filter_append, List.filter_cons_of_pos (by rw [decide_eq_true_eq]; exact h2)]; rfl
theorem failS_no {l : List Con} {ms : List Int} {j : Nat} (h : j < ms.length) (h2 : ¬ 0 ≤ (prop l (justV (ms.getD j default))).2) : failS l (ms.take (j + 1)) = failS l (ms.take j) := by
  unfold failS
  rw [take_succD (d := default) h, List.filter_append, List.filter_cons_of_neg (by rw [decide_eq_true_eq]; exact h2)]; simp
theorem two_lit {k j : Nat} (h : k < 12 ∧ j < 2) : litOk (([(k : Int) + 1, -((k : Int) + 1)] : List Int).getD j default) = true := by
  obtain ⟨h1, h2⟩ := h
  match j, h2 with
  | 0, _ => show litOk ((k : Int) + 1) = true; rw [litOk_iff]; omega
  | 1, _ => show litOk (-((k : Int) + 1)) = true; rw [litOk_iff]; omega
theorem failN_mem {l : List Con} : ∀ {k : Nat} {m : Int}, k ≤ 12 → m ∈ failN l k → litOk m = true ∧ 0 ≤ (prop l (justV m)).2
  | 0, m, _, h => by simp [failN] at h
  | k + 1, m, hk, h => by
    rw [failN, List.mem_append] at h
    rcases h with h | h
    · exact failN_mem (by omega) h
    · unfold failS at h
      rw [List.mem_filter, decide_eq_true_eq] at h
      refine ⟨?_, h.2⟩
      rw [litOk_iff]
      have := h.1
      simp only [List.mem_cons, List.not_mem_nil, or_false] at this
      omega
end Go.Ab

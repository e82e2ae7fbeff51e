/- Bounds on listings. -/
import Derived.Test.YtoodaakcfelaaaaDeep3
import Derived.Test.YtoodaakcfelaaaaCub
import Derived.Test.YtoodaakcfelaaaaFd
set_option linter.unusedSimpArgs false
set_option linter.unusedVariables false
namespace Go.Ab
theorem lsN_bd {vs : List Int} {fu : Int} : ∀ {n : Nat} {L : List Con} {f : List (List Bool)}, (∀ x ∈ f, x.length = 12) → (∀ x ∈ (lsN vs fu n L f).2.1, x.length = 12) ∧ (lsN vs fu n L f).2.2.length ≤ 1000
  | 0, L, f, _ => by simp [lsN]
  | n + 1, L, f, h => by
    rw [lsN]
    by_cases h2 : svC L fu = 2
    · rw [if_pos h2]; exact ⟨h, (sv_chn h2).2.2.2⟩
    · rw [if_neg h2]
      by_cases h3 : svC L fu ≠ 1 ∨ f.length = 64
      · rw [if_pos h3]; simp
      · rw [if_neg h3]
        have h1 : svC L fu = 1 := by
          by_cases q : svC L fu = 1
          · exact q
          · exact absurd (.inl q) h3
        refine lsN_bd fun x hx => ?_
        rcases List.mem_append.1 hx with q | q
        · exact h x q
        · rw [List.mem_singleton.1 q]; exact (sv_sat h1).1
theorem lsV_bd {l : List Con} {vs : List Int} {fu : Int} : (∀ x ∈ (lsV l vs fu).2.1, x.length = 12) ∧ (lsV l vs fu).2.2.length ≤ 1000 := by
  unfold lsV
  split
  · exact lsN_bd (fun x hx => by cases hx)
  · simp
theorem sum_bd {F : List (List Bool)} (h : ∀ x ∈ F, x.length = 12) : sumW List.length F = 12 * F.length := by
  unfold sumW
  induction F with
  | nil => rfl
  | cons a F ih =>
    rw [List.map_cons, List.sum_cons, ih (fun x hx => h x (List.mem_cons_of_mem _ hx)), h a List.mem_cons_self, List.length_cons]; omega
theorem endS_bd : ∀ {l : List Con} {k : Nat}, (∀ c ∈ l, c.1.length ≤ 12) → endS k (l.map rupS) ≤ k + 28 * l.length
  | [], k, _ => by simp [endS]
  | c :: l, k, h => by
    have ih := endS_bd (l := l) (k := k + 2 * (sxT (rupS c)).length + 4) (fun x hx => h x (List.mem_cons_of_mem _ hx))
    have hc : (sxT (rupS c)).length ≤ 12 := h c List.mem_cons_self
    rw [List.map_cons, endS, List.length_cons]; omega
theorem dSt_map {S : List Con} : (S.map rupS).map dStp = S.map dSt := by rw [List.map_map]; rfl
theorem ls_marks {l : List Con} {vs : List Int} {fu : Int} : (lsV l vs fu).2.1.length ≤ 64 ∧ sumW List.length (lsV l vs fu).2.1 ≤ 768 ∧ ∀ k, endS k ((lsV l vs fu).2.2.map rupS) ≤ k + 28000 := by
  have h1 := lsV_bd (l := l) (vs := vs) (fu := fu)
  have h2 := ls_found (l := l) (vs := vs) (fu := fu)
  refine ⟨h2, by rw [sum_bd h1.1]; omega, fun k => ?_⟩
  have := endS_bd (k := k) (ls_steps (l := l) (vs := vs) (fu := fu))
  have := h1.2
  omega
end Go.Ab

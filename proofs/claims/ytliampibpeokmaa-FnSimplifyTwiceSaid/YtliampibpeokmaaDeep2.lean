/- Sizes of results. -/
import Derived.Test.YtliampibpeokmaaDeep
import Derived.Test.YtliampibpeokmaaClau
set_option linter.unusedSimpArgs false
set_option linter.unusedVariables false
namespace Go.Ab
theorem pureL_len {l : List Con} : (pureL l).length ≤ 12 := by
  unfold pureL
  split
  · exact pureN_len
  · simp
theorem fit_pOk {l : List Con} (h : pOk l = true) : fitC l := by
  have h1 := pOk_len h
  have h2 := List.all_eq_true.1 (pOk_all h)
  exact fitC_small (by omega) (fun c hc => by have := cOk_len (h2 c hc); omega)
theorem fit_nil : fitC [] := by unfold fitC sumL; simp
theorem fit_fl {l : List Con} {m : Int} : fitC (flL l m) := by
  cases h : flOk l m
  · rw [flL_bad h]; exact fit_nil
  · exact fit_pOk (flL_pOk h)
theorem fit_fp {l : List Con} {p : List Int} : fitC (fpL l p) := by
  cases h : fpOk l p
  · rw [fpL_bad h]; exact fit_nil
  · exact fit_pOk (fpL_pOk h)
theorem fit_rc {l : List Con} : fitC (rcL l) := by
  cases h : pOk l
  · rw [rcL_bad h]; exact fit_nil
  · rw [rcL_ok h]; exact fit_pOk (unc_ok h)
theorem fit_cl {c : Con} : fitC (clL c) := by
  cases h : clB c
  · rw [clL_bad h]; exact fit_nil
  · rw [clL_ok h]; exact fit_pOk (cl_ok h)
end Go.Ab

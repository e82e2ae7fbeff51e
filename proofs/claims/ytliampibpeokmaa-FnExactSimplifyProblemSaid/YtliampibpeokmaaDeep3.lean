/- Sizes of simplified problems. -/
import Derived.Test.YtliampibpeokmaaDeep2
import Derived.Test.YtliampibpeokmaaSimp
set_option linter.unusedSimpArgs false
set_option linter.unusedVariables false
namespace Go.Ab
theorem fit_sL {l : List Con} : fitC (sL l) := fit_pOk sL_pOk
theorem sP_len {l : List Con} : (sP l).length ≤ 12 := by
  cases h : sOk l
  · rw [sP_bad h]; simp
  · rw [sP_ok h]
    have := paOk_len (prop_ok (l := l) zero_ok)
    omega
end Go.Ab

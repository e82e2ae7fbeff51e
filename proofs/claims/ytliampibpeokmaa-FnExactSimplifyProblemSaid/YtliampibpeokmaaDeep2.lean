/- Sizes of results. -/
import Derived.Test.YtliampibpeokmaaDeep
import Derived.Test.YtliampibpeokmaaClau
set_option linter.unusedSimpArgs false
set_option linter.unusedVariables false
namespace Go.Ab
theorem fit_pOk {l : List Con} (h : pOk l = true) : fitC l := by
  have h1 := pOk_len h
  have h2 := List.all_eq_true.1 (pOk_all h)
  exact fitC_small (by omega) (fun c hc => by have := cOk_len (h2 c hc); omega)
end Go.Ab

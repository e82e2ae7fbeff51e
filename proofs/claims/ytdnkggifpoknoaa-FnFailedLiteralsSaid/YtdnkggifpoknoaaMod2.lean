/- Rules and models, in the form in which walks use them. -/
import Derived.Test.YtdnkggifpoknoaaMod
import Derived.Test.YtdnkggifpoknoaaSimp
set_option linter.unusedSimpArgs false
set_option linter.unusedVariables false
namespace Go.Ab
theorem any_mem {α : Type} [DecidableEq α] {l : List α} {v : α} : l.any (fun a => decide (v = a)) = decide (v ∈ l) := by
  rw [Bool.eq_iff_iff, List.any_eq_true, decide_eq_true_eq]
  constructor
  · rintro ⟨a, h, e⟩; rw [decide_eq_true_eq] at e; rw [e]; exact h
  · intro h; exact ⟨v, h, decide_eq_true rfl⟩
end Go.Ab

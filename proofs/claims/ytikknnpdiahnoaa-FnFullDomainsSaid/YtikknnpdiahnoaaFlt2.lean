/- What a valid rule's parts are. -/
import Derived.Test.YtikknnpdiahnoaaFlt
set_option linter.unusedSimpArgs false
set_option linter.unusedVariables false
namespace Go.Ab
theorem lf_ints {l : List Int} : (l.map dI).flatten.all lf = true := by
  rw [List.all_eq_true]
  intro v hv
  rw [List.mem_flatten] at hv
  obtain ⟨x, hx, hv⟩ := hv
  obtain ⟨a, _, rfl⟩ := List.mem_map.1 hx
  simp only [dI, List.mem_singleton] at hv
  subst hv; rfl
theorem getD_setne {α : Type} {l : List α} {i j : Nat} {a d : α} (h : i ≠ j) : (l.set j a).getD i d = l.getD i d := by
  rw [List.getD_eq_getElem?_getD, List.getD_eq_getElem?_getD, List.getElem?_set_ne (Ne.symm h)]
end Go.Ab

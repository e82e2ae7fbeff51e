/- Filtering, step by step. -/
import Derived.Test.YtikknnpdiahnoaaFlt2
set_option linter.unusedSimpArgs false
set_option linter.unusedVariables false
namespace Go.Ab
theorem rep0_at {n i : Nat} : (List.replicate n (0 : Int)).getD i default = 0 := by
  rw [List.getD_eq_getElem?_getD, List.getElem?_replicate]
  split <;> rfl
theorem cv_zero {sz : List Int} (h : ∀ k, k < sz.length → 0 ≤ sz.getD k default) : cvL sz (List.replicate sz.length 0) = true := by
  refine cv_yes (by simp) (List.all_eq_true.2 fun i hi => ?_)
  rw [List.mem_range, List.length_replicate] at hi
  rw [rep0_at]; exact decide_eq_true ⟨Int.le_refl _, h i hi⟩
theorem fits_full {b : Bool} {sz : List Int} (h : ∀ k, k < sz.length → 0 ≤ sz.getD k default) : fitsB sz (fdL b sz) = true := by
  refine fits_yes fdL_len (List.all_eq_true.2 fun i hi => decide_eq_true ?_)
  rw [List.mem_range, fdL_len] at hi
  have h2 := h i hi
  unfold fdL
  rw [List.getD_eq_getElem?_getD, List.getElem?_map, List.getElem?_eq_getElem hi]
  rw [List.getD_eq_getElem?_getD, List.getElem?_eq_getElem hi] at h2 ⊢
  simp only [Option.map_some, Option.getD_some, List.length_replicate] at h2 ⊢
  omega
end Go.Ab

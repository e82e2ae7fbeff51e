/- More on filtered domains. -/
import Derived.Test.YtikknnpdiahnoaaBnd
set_option linter.unusedSimpArgs false
set_option linter.unusedVariables false
namespace Go.Ab
theorem fr_parts {m : Md} {i : Int} {d : List (List Bool)} (h : frOk m i d = true) : dmB m d = true ∧ (0 ≤ i ∧ i < m.2.length) := by
  unfold frOk at h
  rw [Bool.and_eq_true, decide_eq_true_eq] at h
  exact h
theorem dm_of {m : Md} {d : List (List Bool)} (h : mOk m = true) (h2 : fitsB m.1 d = true) : dmB m d = true := by unfold dmB; rw [h, h2]; rfl
theorem dm_full {m : Md} (h : mOk m = true) : dmB m (fullD m) = true := dm_of h (by rw [fullD_ok h]; exact fits_full (sz_pos h))
theorem full_cel {m : Md} (h : mOk m = true) {i v : Nat} (hi : i < (fullD m).length) (hv : v < ((fullD m).getD i default).length) : cel (fullD m) i v = true := by
  unfold cel
  rw [fullD_ok h] at *
  unfold fdL at *
  rw [List.length_map] at hi
  rw [List.getD_eq_getElem?_getD (l := List.map _ _), List.getElem?_map, List.getElem?_eq_getElem hi] at *
  simp only [Option.map_some, Option.getD_some, List.length_replicate] at *
  rw [List.getD_eq_getElem?_getD, List.getElem?_replicate, if_pos hv]; rfl
theorem leD_full {m : Md} {d : List (List Bool)} (h : mOk m = true) (hd : fitsB m.1 d = true) : leD d (fullD m) := by
  intro i v q
  obtain ⟨h1, h2⟩ := cell_rng (m := m) hd q
  obtain ⟨h3, h4⟩ := fits_len hd (dm_parts (dm_full h)).2
  have h5 := h4 i
  exact full_cel h (by omega) (by omega)
theorem fits_row {m : Md} {d : List (List Bool)} {k : Nat} (h : mOk m = true) (hd : fitsB m.1 d = true) : (d.getD k default).length ≤ 4 := by
  obtain ⟨h1, h2⟩ := fits_at hd
  by_cases hk : k < d.length
  · have h3 := h2 k hk; have h4 := (mOk_sz h).2 k (by omega); omega
  · rw [List.getD_eq_getElem?_getD, List.getElem?_eq_none (by omega)]; exact Nat.zero_le _
end Go.Ab

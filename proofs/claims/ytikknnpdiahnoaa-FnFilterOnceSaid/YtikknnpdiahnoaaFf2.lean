/- More on filtered domains. -/
import Derived.Test.YtikknnpdiahnoaaBnd
import Derived.Test.YtikknnpdiahnoaaDmod
set_option linter.unusedSimpArgs false
set_option linter.unusedVariables false
namespace Go.Ab
theorem fr_parts {m : Md} {i : Int} {d : List (List Bool)} (h : frOk m i d = true) : dmB m d = true ∧ (0 ≤ i ∧ i < m.2.length) := by
  unfold frOk at h
  rw [Bool.and_eq_true, decide_eq_true_eq] at h
  exact h
theorem dm_of {m : Md} {d : List (List Bool)} (h : mOk m = true) (h2 : fitsB m.1 d = true) : dmB m d = true := by unfold dmB; rw [h, h2]; rfl
theorem fits_row {m : Md} {d : List (List Bool)} {k : Nat} (h : mOk m = true) (hd : fitsB m.1 d = true) : (d.getD k default).length ≤ 4 := by
  obtain ⟨h1, h2⟩ := fits_at hd
  by_cases hk : k < d.length
  · have h3 := h2 k hk; have h4 := (mOk_sz h).2 k (by omega); omega
  · rw [List.getD_eq_getElem?_getD, List.getElem?_eq_none (by omega)]; exact Nat.zero_le _
end Go.Ab
namespace Go.Ab
theorem lf_bools {l : List Bool} : (l.map dB).flatten.all lf = true := by
  rw [List.all_eq_true]
  intro v hv
  rw [List.mem_flatten] at hv
  obtain ⟨x, hx, hv⟩ := hv
  obtain ⟨a, _, rfl⟩ := List.mem_map.1 hx
  simp only [dB, List.mem_singleton] at hv
  subst hv; rfl
def bstL (r : Rl) (d : List (List Bool)) (k : Nat) : List Int := (List.range k).map (bstR r d)
theorem rows_le {m : Md} {d : List (List Bool)} (h : mOk m = true) (hd : fitsB m.1 d = true) : ∀ k, (d.getD k default).length ≤ 1000 := fun k => Nat.le_trans (fits_row h hd) (by omega)
end Go.Ab
namespace Go.Ab
end Go.Ab

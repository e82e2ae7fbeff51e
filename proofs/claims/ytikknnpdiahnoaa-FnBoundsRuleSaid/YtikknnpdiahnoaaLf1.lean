/- What the laws on filtering by a rule ask. -/
import Derived.Test.YtikknnpdiahnoaaFf2
set_option linter.unusedSimpArgs false
set_option linter.unusedVariables false
namespace Go.Ab
theorem fr_fits {m : Md} {i : Int} {d : List (List Bool)} (h : frOk m i d = true) : fitsB m.1 (frD m i d) = true := by rw [fr_ok h]; exact filt_fits (dm_parts (fr_parts h).1).1
theorem fr_dm {m : Md} {i : Int} {d : List (List Bool)} (h : frOk m i d = true) : dmB m (frD m i d) = true := dm_of (dm_parts (fr_parts h).1).1 (fr_fits h)
theorem bd_fits {m : Md} {i : Int} {d : List (List Bool)} (h : brOk m i d = true) : fitsB m.1 (bdD m i d) = true := by
  obtain ⟨h1, h2, h3, h4⟩ := br_parts h
  rw [bd_ok h]
  exact brD_fits (mOk_rule (dm_parts h1).1 (by omega)) rfl (dm_parts h1).2 (Nat.le_refl _)
theorem bd_fr {m : Md} {i : Int} {d : List (List Bool)} (h : brOk m i d = true) : frOk m i d = true := by
  obtain ⟨h1, h2, h3, h4⟩ := br_parts h
  exact frOk_yes h1 h3
theorem bd_le {m : Md} {i : Int} {d : List (List Bool)} (h : brOk m i d = true) : leD (bdD m i d) d ∧ leD (frD m i d) (bdD m i d) := by
  obtain ⟨h1, h2, h3, h4⟩ := br_parts h
  have hq := mOk_rule (dm_parts h1).1 (k := i.toNat) (by omega)
  rw [bd_ok h, fr_ok (bd_fr h)]
  exact ⟨br_le hq (dm_parts h1).2, filt_br (dm_parts h1).1 hq h4 (dm_parts h1).2⟩
theorem bd_em {m : Md} {i : Int} {d : List (List Bool)} (h : brOk m i d = true) : deB m (bdD m i d) = deB m (frD m i d) := by
  obtain ⟨h1, h2, h3, h4⟩ := br_parts h
  have hq := mOk_rule (dm_parts h1).1 (k := i.toNat) (by omega)
  unfold deB
  rw [dm_of (dm_parts h1).1 (bd_fits h), fr_dm (bd_fr h), bd_ok h, fr_ok (bd_fr h), br_em (dm_parts h1).1 hq h4 (dm_parts h1).2]
theorem row9 {m : Md} {d : List (List Bool)} (h : mOk m = true) (hd : fitsB m.1 d = true) : d.length ≤ 5 ∧ ∀ k, (d.getD k default).length ≤ 4 := ⟨(fits_sum h hd).1, fun k => fits_row h hd⟩
end Go.Ab

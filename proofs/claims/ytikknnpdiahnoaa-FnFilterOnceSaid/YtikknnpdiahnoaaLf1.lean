/- What the laws on filtering by a rule ask. -/
import Derived.Test.YtikknnpdiahnoaaFf2
set_option linter.unusedSimpArgs false
set_option linter.unusedVariables false
namespace Go.Ab
theorem fr_fits {m : Md} {i : Int} {d : List (List Bool)} (h : frOk m i d = true) : fitsB m.1 (frD m i d) = true := by rw [fr_ok h]; exact filt_fits (dm_parts (fr_parts h).1).1
theorem fr_dm {m : Md} {i : Int} {d : List (List Bool)} (h : frOk m i d = true) : dmB m (frD m i d) = true := dm_of (dm_parts (fr_parts h).1).1 (fr_fits h)
theorem fr_again {m : Md} {i : Int} {d : List (List Bool)} (h : frOk m i d = true) : frD m i (frD m i d) = frD m i d := by
  rw [fr_ok (frOk_yes (fr_dm h) (fr_parts h).2), fr_ok h]
  exact filt_idem (dm_parts (fr_parts h).1).1
theorem fm_fits {m : Md} {d : List (List Bool)} (h : dmB m d = true) : fitsB m.1 (fmD m d) = true := by rw [fmD_ok h]; exact fix_fits (dm_parts h).1 (dm_parts h).2
theorem fm_once {m : Md} {i : Int} {d : List (List Bool)} (h : frOk m i d = true) : leD (fmD m d) (frD m i d) := by
  obtain ⟨h1, h2⟩ := fr_parts h
  rw [fmD_ok h1, fr_ok h]
  exact fmR_once (dm_parts h1).1 (dm_parts h1).2 (getD_mem (by omega))
theorem row9 {m : Md} {d : List (List Bool)} (h : mOk m = true) (hd : fitsB m.1 d = true) : d.length ≤ 5 ∧ ∀ k, (d.getD k default).length ≤ 4 := ⟨(fits_sum h hd).1, fun k => fits_row h hd⟩
end Go.Ab

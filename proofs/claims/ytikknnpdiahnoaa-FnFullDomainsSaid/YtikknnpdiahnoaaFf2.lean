/- More on filtered domains. -/
import Derived.Test.YtikknnpdiahnoaaBnd
import Derived.Test.YtikknnpdiahnoaaDmod
set_option linter.unusedSimpArgs false
set_option linter.unusedVariables false
namespace Go.Ab
theorem dm_of {m : Md} {d : List (List Bool)} (h : mOk m = true) (h2 : fitsB m.1 d = true) : dmB m d = true := by unfold dmB; rw [h, h2]; rfl
theorem dm_full {m : Md} (h : mOk m = true) : dmB m (fullD m) = true := dm_of h (by rw [fullD_ok h]; exact fits_full (sz_pos h))
theorem full_cel {m : Md} (h : mOk m = true) {i v : Nat} (hi : i < (fullD m).length) (hv : v < ((fullD m).getD i default).length) : cel (fullD m) i v = true := by
  unfold cel
  rw [fullD_ok h] at *
  unfold fdL at *
  rw [List.length_map] at hi
  rw [List.getD_eq_getElem?_getD (l := List.map _ _), List.getElem?_map, List.getElem?_eq_getElem hi] at *
  simp only [Option.map_some, Option.getD_some, List.length_replicate] at *
  rw [List.getD_eq_getElem?_getD, List.getElem?_replicate, if_pos hv]; rfl
theorem fits_row {m : Md} {d : List (List Bool)} {k : Nat} (h : mOk m = true) (hd : fitsB m.1 d = true) : (d.getD k default).length ≤ 4 := by
  obtain ⟨h1, h2⟩ := fits_at hd
  by_cases hk : k < d.length
  · have h3 := h2 k hk; have h4 := (mOk_sz h).2 k (by omega); omega
  · rw [List.getD_eq_getElem?_getD, List.getElem?_eq_none (by omega)]; exact Nat.zero_le _
end Go.Ab
namespace Go.Ab
theorem de_em {m : Md} {d : List (List Bool)} (h : deB m d = true) : emB d = true := by unfold deB at h; rw [Bool.and_eq_true] at h; exact h.2
theorem ms_at {α : Type} {f : α → List V} {l : List α} {v : Nat} {x : α} (h : v < l.length) : ((l.set v x).map f)[v]? = some (f x) := by
  rw [List.getElem?_map, List.getElem?_set_self h]; rfl
theorem ms_set {α : Type} {f : α → List V} {l : List α} {v : Nat} {x y : α} {z : List V} (h : z = f y) : ((l.set v x).map f).set v z = (l.set v y).map f := by
  subst h; rw [← List.map_set, List.set_set]
theorem set_selfL {α : Type} [Inhabited α] {l : List α} {v : Nat} : l.set v (l.getD v default) = l := by
  have := set_same (fun a : α => a) l v
  simpa using this
def bstL (r : Rl) (d : List (List Bool)) (k : Nat) : List Int := (List.range k).map (bstR r d)
theorem in_hyp {m : Md} {d : List (List Bool)} {c : List Int} (h : dmB m d = true) (h2 : cvB m c = true) : c.length ≤ d.length ∧ ∀ k, k < c.length → 0 ≤ c.getD k default ∧ c.getD k default < ((d.getD k default).length : Int) := by
  have h1 := (dm_parts h).2
  unfold cvB at h2
  rw [Bool.and_eq_true] at h2
  obtain ⟨d1, d2⟩ := fits_at h1
  obtain ⟨c1, c2⟩ := cv_at h2.2
  exact ⟨by omega, fun k hk => by have := c2 k hk; have := d2 k (by omega); omega⟩
end Go.Ab
namespace Go.Ab
end Go.Ab

/- The sizes of full domains. -/
import Derived.Test.YtikknnpdiahnoaaMod3
import Derived.Test.YtikknnpdiahnoaaAb19
namespace Go.Ab
theorem fdL_sum {b : Bool} : ∀ {xs : List Int}, (∀ a ∈ xs, a ≤ 3) → sumW List.length (fdL b xs) ≤ 4 * xs.length
  | [], _ => by simp [fdL, sumW]
  | x :: r, h => by
    have h1 := fdL_sum (b := b) (xs := r) (fun a ha => h a (List.mem_cons_of_mem _ ha))
    have h2 := h x List.mem_cons_self
    have h3 : sumW List.length (fdL b (x :: r)) = (x + 1).toNat + sumW List.length (fdL b r) := by simp [fdL, sumW]
    rw [h3, List.length_cons]; omega
theorem fullD_sum {m : Md} : (fullD m).length ≤ 5 ∧ sumW List.length (fullD m) ≤ 20 := by
  cases h : mOk m
  · rw [fullD_bad h]; simp [sumW]
  · obtain ⟨⟨_, h5⟩, hs⟩ := mOk_sz h
    rw [fullD_ok h, fdL_len]
    refine ⟨h5, Nat.le_trans (fdL_sum fun a ha => ?_) (by omega)⟩
    obtain ⟨k, hk, rfl⟩ := List.mem_iff_getElem.1 ha
    have := (hs k hk).2
    rwa [List.getD_eq_getElem?_getD, List.getElem?_eq_getElem hk] at this
end Go.Ab

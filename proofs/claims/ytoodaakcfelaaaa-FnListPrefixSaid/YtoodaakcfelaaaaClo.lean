/- Texts. -/
import Derived.Test.YtoodaakcfelaaaaMod3
set_option autoImplicit false
namespace Go.Ab
theorem asc_noneg {L : List Int} (h : asc L) {k : Nat} (hk : k < L.length) : -(L.getD k default) ∉ L := by
  intro hm
  have h1 := getD_mem (d := default) hk
  have h2 := okFrom_uniq h (oneL (L.getD k default)) (List.mem_map.2 ⟨_, h1, rfl⟩) (oneL (-(L.getD k default))) (List.mem_map.2 ⟨_, hm, rfl⟩) varOf_neg.symm
  have h3 : L.getD k default = -(L.getD k default) := congrArg Prod.snd h2
  have h4 := litOk_iff.1 (asc_lit h _ h1)
  omega
theorem asc_pair {L : List Int} (h : asc L) : L.Pairwise (fun a b => varOf a < varOf b) := by
  have h1 := okFrom_apart' h
  rw [List.pairwise_map] at h1
  exact h1
theorem asc_lt {L : List Int} (h : asc L) {k : Nat} (hk : k + 1 < L.length) : varOf (L.getD k default) < varOf (L.getD (k + 1) default) := by
  have h1 := List.pairwise_iff_getElem.1 (asc_pair h) k (k + 1) (by omega) hk (by omega)
  rw [List.getD_eq_getElem?_getD, List.getD_eq_getElem?_getD, List.getElem?_eq_getElem (by omega : k < L.length), List.getElem?_eq_getElem hk]
  exact h1
theorem asc_lt' {L : List Int} (h : asc L) {k : Nat} (h0 : 1 ≤ k) (hk : k < L.length) : varOf (L.getD (k - 1) default) < varOf (L.getD k default) := by
  obtain ⟨j, rfl⟩ : ∃ j, k = j + 1 := ⟨k - 1, by omega⟩
  exact asc_lt h hk
theorem asc_ne {L : List Int} (h : asc L) {k : Nat} (h0 : 1 ≤ k) (hk : k < L.length) : ¬ L.getD k default = L.getD (k - 1) default := fun e => by
  have := asc_lt' h h0 hk
  rw [e] at this; omega
theorem asc_at {L : List Int} (h : asc L) {k : Nat} (hk : k < L.length) : litOk (L.getD k default) = true := asc_lit h _ (getD_mem hk)
theorem negL_len {D : List Int} : (negL D).length = D.length := List.length_map ..
theorem asc_negL {D : List Int} (h : asc D) : asc (negL D) := asc_neg h
theorem negL_take {D : List Int} {k : Nat} (hk : k < D.length) : negL (D.take (k + 1)) = negL (D.take k) ++ [-(D.getD k default)] := by
  unfold negL; rw [take_succD (d := default) hk, List.map_append]; rfl
theorem wrapU64 {x : Nat} (hx : x ≤ 12) : IntKind.u64.wrap (x : Int) = x := by rcases (by omega : x = 0 ∨ x = 1 ∨ x = 2 ∨ x = 3 ∨ x = 4 ∨ x = 5 ∨ x = 6 ∨ x = 7 ∨ x = 8 ∨ x = 9 ∨ x = 10 ∨ x = 11 ∨ x = 12) with h | h | h | h | h | h | h | h | h | h | h | h | h <;> (subst h; rfl)
theorem wrapU8 {x : Nat} (hx : x ≤ 12) : IntKind.u8.wrap (x : Int) = x := by rcases (by omega : x = 0 ∨ x = 1 ∨ x = 2 ∨ x = 3 ∨ x = 4 ∨ x = 5 ∨ x = 6 ∨ x = 7 ∨ x = 8 ∨ x = 9 ∨ x = 10 ∨ x = 11 ∨ x = 12) with h | h | h | h | h | h | h | h | h | h | h | h | h <;> (subst h; rfl)
def lenT (x : Nat) : UInt8 := ([0, 1, 2, 2, 3, 3, 3, 3, 4, 4, 4, 4, 4] : List UInt8).getD x 0
end Go.Ab

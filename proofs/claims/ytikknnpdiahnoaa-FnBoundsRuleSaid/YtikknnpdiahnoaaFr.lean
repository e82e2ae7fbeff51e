/- The sizes of filtered domains. -/
import Derived.Test.YtikknnpdiahnoaaFlt4
import Derived.Test.YtikknnpdiahnoaaFd
namespace Go.Ab
def wLB (xs : List (List Bool)) : Nat := xs.length + sumW List.length xs
theorem runF_fits {sz : List Int} {f : List Int → Bool} : ∀ {n : Nat} {c : List Int} {o : List (List Bool)}, fitsB sz o = true → fitsB sz (runF sz f n c o) = true
  | 0, _, _, h => h
  | n + 1, c, o, h => by
    have h2 : fitsB sz (if f c then markN o c c.length else o) = true := by
      split
      · exact fits_mark h
      · exact h
    rw [runF]
    split
    · exact runF_fits h2
    · exact h2
theorem sumW_bnd {α : Type} {w : α → Nat} {b : Nat} : ∀ {l : List α}, (∀ a ∈ l, w a ≤ b) → sumW w l ≤ b * l.length
  | [], _ => by simp [sumW]
  | a :: r, h => by
    have h1 := sumW_bnd (w := w) (b := b) (l := r) (fun x hx => h x (List.mem_cons_of_mem _ hx))
    have h2 := h a List.mem_cons_self
    have h3 : sumW w (a :: r) = w a + sumW w r := by simp [sumW]
    rw [h3, List.length_cons, Nat.mul_add, Nat.mul_one]; omega
theorem fits_sum {m : Md} {d : List (List Bool)} (hm : mOk m = true) (h : fitsB m.1 d = true) : d.length ≤ 5 ∧ sumW List.length d ≤ 20 := by
  obtain ⟨h1, h2⟩ := fits_at h
  obtain ⟨⟨_, h5⟩, hs⟩ := mOk_sz hm
  refine ⟨by omega, Nat.le_trans (sumW_bnd (b := 4) fun a ha => ?_) (by omega)⟩
  obtain ⟨k, hk, rfl⟩ := List.mem_iff_getElem.1 ha
  have h3 := h2 k hk
  have h4 := (hs k (by omega)).2
  rw [List.getD_eq_getElem?_getD, List.getElem?_eq_getElem hk] at h3
  simp only [Option.getD_some] at h3
  omega
end Go.Ab

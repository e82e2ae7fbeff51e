/- A listing that is checked. -/
import Derived.Test.YtoodaakcfelaaaaGreatCub
set_option autoImplicit false
set_option linter.unusedSimpArgs false
namespace Go.Ab
theorem lcOk_parts {l : List Con} {vs : List Int} {f : List (List Bool)} (h : lcOk l vs f = true) : pOk l = true ∧ l.length ≤ 336 ∧ varsFrom 0 vs = true ∧ f.length ≤ 64 := by
  unfold lcOk at h; simp only [Bool.and_eq_true, decide_eq_true_eq] at h; exact ⟨h.1.1.1, h.1.1.2, h.1.2, h.2⟩
theorem lc_bad {l : List Con} {vs : List Int} {f : List (List Bool)} {ss : List Stp} (h : lcOk l vs f = false) : lcV l vs f ss = false := by unfold lcV; rw [if_neg (by rw [h]; decide)]
def lcI (l : List Con) (vs : List Int) (f : List (List Bool)) (k : Nat) (L : List Con) : Prop := (k ≤ f.length ∧ varsFrom 0 vs = true) ∧ lcN vs l f = lcN vs L (f.drop k) ∧ L.all cOk = true ∧ L.length ≤ 336 + k
theorem lcI_0 {l : List Con} {vs : List Int} {f : List (List Bool)} (h : lcOk l vs f = true) : lcI l vs f 0 l := by
  obtain ⟨h1, h2, h3, _⟩ := lcOk_parts h
  exact ⟨⟨Nat.zero_le _, h3⟩, rfl, pOk_all h1, h2⟩
section
variable {l L : List Con} {vs : List Int} {f : List (List Bool)} {ss : List Stp} {k : Nat}
theorem lcI_next (h : lcI l vs f k L) (hk : k < f.length) (hb : (f.getD k default).length = 12 ∧ satV L (f.getD k default) = true) : lcI l vs f (k + 1) (L ++ [lsX vs (f.getD k default)]) := by
  obtain ⟨⟨h1, h0⟩, h2, h3, h4⟩ := h
  refine ⟨⟨hk, h0⟩, ?_, by rw [List.all_append, h3]; simp [lsX_ok h0], by rw [List.length_append]; simp; omega⟩
  rw [h2, drop_getD (d := default) hk, lcN, if_pos hb]
theorem lc_stop (ho : lcOk l vs f = true) (h : lcI l vs f k L) (hk : k < f.length) (hb : ¬ ((f.getD k default).length = 12 ∧ satV L (f.getD k default) = true)) : lcV l vs f ss = false := by
  unfold lcV
  rw [if_pos ho, h.2.1, drop_getD (d := default) hk, lcN, if_neg hb]
theorem lc_end (ho : lcOk l vs f = true) (h : lcI l vs f k L) (hk : f.length ≤ k) : lcV l vs f ss = crV L ss := by
  unfold lcV
  rw [if_pos ho, h.2.1, List.drop_of_length_le hk]; rfl
end
instance stpDec : DecidableEq Stp := fun a b => inferInstanceAs (Decidable ((a : Int × Int × Int × Con) = b))
theorem stp_dec {s t : Stp} {b : Bool} (h : b = true ↔ s = t) : b = decide (s = t) := by
  cases b
  · exact (decide_eq_false (fun q => by have := h.2 q; cases this)).symm
  · exact (decide_eq_true (h.1 rfl)).symm
end Go.Ab
namespace Go.Ab
def sameN (vs : List Int) (f : List (List Bool)) (bs : List Bool) (i : Nat) : Nat := (f.take i).countP (fun b => !diffV vs b bs)
end Go.Ab
namespace Go.Ab
end Go.Ab
namespace Go.Ab
end Go.Ab

/- A listing that is checked. -/
import Derived.Test.YtoodaakcfelaaaaGreatCub
set_option autoImplicit false
set_option linter.unusedSimpArgs false
namespace Go.Ab
theorem lcOk_parts {l : List Con} {vs : List Int} {f : List (List Bool)} (h : lcOk l vs f = true) : pOk l = true ∧ l.length ≤ 336 ∧ varsFrom 0 vs = true ∧ f.length ≤ 64 := by
  unfold lcOk at h; simp only [Bool.and_eq_true, decide_eq_true_eq] at h; exact ⟨h.1.1.1, h.1.1.2, h.1.2, h.2⟩
theorem lc_bad {l : List Con} {vs : List Int} {f : List (List Bool)} {ss : List Stp} (h : lcOk l vs f = false) : lcV l vs f ss = false := by unfold lcV; rw [if_neg (by rw [h]; decide)]
def lcI (l : List Con) (vs : List Int) (f : List (List Bool)) (k : Nat) (L : List Con) : Prop := (k ≤ f.length ∧ varsFrom 0 vs = true) ∧ lcN vs l f = lcN vs L (f.drop k) ∧ L.all cOk = true ∧ L.length ≤ 336 + k
theorem lcI_0 {l : List Con} {vs : List Int} {f : List (List Bool)} (h : lcOk l vs f = true) : lcI l vs f 0 l := by
  obtain ⟨h1, h2, h3, _⟩ := lcOk_parts h
  exact ⟨⟨Nat.zero_le _, h3⟩, rfl, pOk_all h1, h2⟩
section
variable {l L : List Con} {vs : List Int} {f : List (List Bool)} {ss : List Stp} {k : Nat}
theorem lcI_next (h : lcI l vs f k L) (hk : k < f.length) (hb : (f.getD k default).length = 12 ∧ satV L (f.getD k default) = true) : lcI l vs f (k + 1) (L ++ [lsX vs (f.getD k default)]) := by
  obtain ⟨⟨h1, h0⟩, h2, h3, h4⟩ := h
  refine ⟨⟨hk, h0⟩, ?_, by rw [List.all_append, h3]; simp [lsX_ok h0], by rw [List.length_append]; simp; omega⟩
  rw [h2, drop_getD (d := default) hk, lcN, if_pos hb]
theorem lc_stop (ho : lcOk l vs f = true) (h : lcI l vs f k L) (hk : k < f.length) (hb : ¬ ((f.getD k default).length = 12 ∧ satV L (f.getD k default) = true)) : lcV l vs f ss = false := by
  unfold lcV
  rw [if_pos ho, h.2.1, drop_getD (d := default) hk, lcN, if_neg hb]
theorem lc_end (ho : lcOk l vs f = true) (h : lcI l vs f k L) (hk : f.length ≤ k) : lcV l vs f ss = crV L ss := by
  unfold lcV
  rw [if_pos ho, h.2.1, List.drop_of_length_le hk]; rfl
end
instance stpDec : DecidableEq Stp := fun a b => inferInstanceAs (Decidable ((a : Int × Int × Int × Con) = b))
theorem stp_dec {s t : Stp} {b : Bool} (h : b = true ↔ s = t) : b = decide (s = t) := by
  cases b
  · exact (decide_eq_false (fun q => by have := h.2 q; cases this)).symm
  · exact (decide_eq_true (h.1 rfl)).symm
theorem lsN_lc {vs : List Int} {fu : Int} : ∀ {n : Nat} {L : List Con} {f : List (List Bool)}, (lsN vs fu n L f).1 = 2 → ∃ g, (lsN vs fu n L f).2.1 = f ++ g ∧ ∃ M, lcN vs L g = some M ∧ svC M fu = 2 ∧ (lsN vs fu n L f).2.2 = svS M fu
  | 0, L, f, h => by simp [lsN] at h
  | n + 1, L, f, h => by
    rw [lsN] at h ⊢
    by_cases h1 : svC L fu = 2
    · rw [if_pos h1]; exact ⟨[], by simp, L, rfl, h1, rfl⟩
    · rw [if_neg h1] at h ⊢
      by_cases h2 : svC L fu ≠ 1 ∨ f.length = 64
      · rw [if_pos h2] at h; cases h
      · rw [if_neg h2] at h ⊢
        obtain ⟨g, g1, M, g2, g3, g4⟩ := lsN_lc h
        have hs := sv_sat (l := L) (fu := fu) (by omega)
        exact ⟨svV L fu :: g, by rw [g1, List.append_assoc]; rfl, M, by rw [lcN, if_pos hs]; exact g2, g3, g4⟩
theorem lsN_len {vs : List Int} {fu : Int} : ∀ {n : Nat} {L : List Con} {f : List (List Bool)}, f.length ≤ 64 → (lsN vs fu n L f).2.1.length ≤ 64
  | 0, _, _, _ => by simp [lsN]
  | n + 1, L, f, h => by
    rw [lsN]
    split
    · exact h
    · split
      · simp
      · rename_i h2; exact lsN_len (by rw [List.length_append]; simp; omega)
theorem ls_lc {l : List Con} {vs : List Int} {fu : Int} (h : (lsV l vs fu).1 = 2) : lcV l vs (lsV l vs fu).2.1 ((lsV l vs fu).2.2.map rupS) = true := by
  obtain ⟨h1, _⟩ := ls_chn h
  rw [ls_ok h1] at h ⊢
  obtain ⟨g, g1, M, g2, g3, g4⟩ := lsN_lc h
  obtain ⟨p1, p2, p3, _⟩ := lsOk_parts h1
  have hlen : (lsN vs fu 65 l []).2.1.length ≤ 64 := lsN_len (by simp)
  have ho : lcOk l vs (lsN vs fu 65 l []).2.1 = true := by unfold lcOk; rw [p1, p3, decide_eq_true p2, decide_eq_true hlen]; rfl
  rw [List.nil_append] at g1
  unfold lcV
  rw [if_pos ho, g1, g2, g4]
  exact sv_cr g3
end Go.Ab
namespace Go.Ab
def sameN (vs : List Int) (f : List (List Bool)) (bs : List Bool) (i : Nat) : Nat := (f.take i).countP (fun b => !diffV vs b bs)
end Go.Ab
namespace Go.Ab
end Go.Ab
namespace Go.Ab
end Go.Ab

/- A listing that is checked. -/
import Derived.Test.YtoodaakcfelaaaaCub
set_option autoImplicit false
set_option linter.unusedSimpArgs false
namespace Go.Ab
def lcI (l : List Con) (vs : List Int) (f : List (List Bool)) (k : Nat) (L : List Con) : Prop := (k ≤ f.length ∧ varsFrom 0 vs = true) ∧ lcN vs l f = lcN vs L (f.drop k) ∧ L.all cOk = true ∧ L.length ≤ 336 + k
section
variable {l L : List Con} {vs : List Int} {f : List (List Bool)} {ss : List Stp} {k : Nat}
end
instance stpDec : DecidableEq Stp := fun a b => inferInstanceAs (Decidable ((a : Int × Int × Int × Con) = b))
theorem stp_dec {s t : Stp} {b : Bool} (h : b = true ↔ s = t) : b = decide (s = t) := by
  cases b
  · exact (decide_eq_false (fun q => by have := h.2 q; cases this)).symm
  · exact (decide_eq_true (h.1 rfl)).symm
theorem lsN_len {vs : List Int} {fu : Int} : ∀ {n : Nat} {L : List Con} {f : List (List Bool)}, f.length ≤ 64 → (lsN vs fu n L f).2.1.length ≤ 64
  | 0, _, _, _ => by simp [lsN]
  | n + 1, L, f, h => by
    rw [lsN]
    split
    · exact h
    · split
      · simp
      · rename_i h2; exact lsN_len (by rw [List.length_append]; simp; omega)
end Go.Ab
namespace Go.Ab
theorem sv_steps {l : List Con} {fu : Int} : (svS l fu).all cOk = true := by
  by_cases h : svC l fu = 2
  · exact chnR_all (sv_chn h).2.1
  · unfold svS; rw [if_neg h]; rfl
theorem lsN_steps {vs : List Int} {fu : Int} : ∀ {n : Nat} {L : List Con} {f : List (List Bool)}, (lsN vs fu n L f).2.2.all cOk = true
  | 0, _, _ => rfl
  | n + 1, L, f => by
    rw [lsN]
    split
    · exact sv_steps
    · split
      · rfl
      · exact lsN_steps
theorem ls_steps {l : List Con} {vs : List Int} {fu : Int} : ∀ c ∈ (lsV l vs fu).2.2, c.1.length ≤ 12 := by
  intro c hc
  have : (lsV l vs fu).2.2.all cOk = true := by
    unfold lsV
    split
    · exact lsN_steps
    · rfl
  exact cOk_len (List.all_eq_true.1 this c hc)
def sameN (vs : List Int) (f : List (List Bool)) (bs : List Bool) (i : Nat) : Nat := (f.take i).countP (fun b => !diffV vs b bs)
end Go.Ab
namespace Go.Ab
end Go.Ab
namespace Go.Ab
theorem ls_found {l : List Con} {vs : List Int} {fu : Int} : (lsV l vs fu).2.1.length ≤ 64 := by
  unfold lsV
  split
  · exact lsN_len (by simp)
  · simp
end Go.Ab

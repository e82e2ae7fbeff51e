/- Texts. -/
import Derived.Test.YtoodaakcfelaaaaSrch5
import Derived.Test.YtoodaakcfelaaaaSimp
set_option autoImplicit false
namespace Go.Ab
/-- The clause that a found solution leaves. -/
def lsX (vs : List Int) (bs : List Bool) : Con := (exTs vs bs, 1)
def lsN (vs : List Int) (fu : Int) : Nat → List Con → List (List Bool) → Int × List (List Bool) × List Con
  | 0, _, _ => (0, [], [])
  | n + 1, L, f => if svC L fu = 2 then (2, f, svS L fu) else if svC L fu ≠ 1 ∨ f.length = 64 then (0, [], []) else lsN vs fu n (L ++ [lsX vs (svV L fu)]) (f ++ [svV L fu])
def lsOk (l : List Con) (vs : List Int) (fu : Int) : Bool := pOk l && decide (l.length ≤ 336) && varsFrom 0 vs && decide (0 ≤ fu ∧ fu ≤ 2000)
def lsV (l : List Con) (vs : List Int) (fu : Int) : Int × List (List Bool) × List Con := if lsOk l vs fu then lsN vs fu 65 l [] else (3, [], [])
theorem ls_bad {l : List Con} {vs : List Int} {fu : Int} (h : lsOk l vs fu = false) : lsV l vs fu = (3, [], []) := by unfold lsV; rw [if_neg (by rw [h]; decide)]
theorem ls_ok {l : List Con} {vs : List Int} {fu : Int} (h : lsOk l vs fu = true) : lsV l vs fu = lsN vs fu 65 l [] := by unfold lsV; rw [if_pos h]
theorem lsOk_parts {l : List Con} {vs : List Int} {fu : Int} (h : lsOk l vs fu = true) : pOk l = true ∧ l.length ≤ 336 ∧ varsFrom 0 vs = true ∧ 0 ≤ fu ∧ fu ≤ 2000 := by
  unfold lsOk at h; simp only [Bool.and_eq_true, decide_eq_true_eq] at h; exact ⟨h.1.1.1, h.1.1.2, h.1.2, h.2⟩
/-- Where the rounds stand. -/
def lsI (l : List Con) (vs : List Int) (fu : Int) (n : Nat) (L : List Con) (f : List (List Bool)) : Prop := lsV l vs fu = lsN vs fu (n + 1) L f ∧ f.length + n = 64 ∧ L.length ≤ 336 + f.length ∧ L.all cOk = true
theorem ls_start {l : List Con} {vs : List Int} {fu : Int} (h : lsOk l vs fu = true) : lsI l vs fu 64 l [] := ⟨ls_ok h, rfl, (lsOk_parts h).2.1, pOk_all (lsOk_parts h).1⟩
theorem ls_sv {l L : List Con} {vs : List Int} {fu : Int} {n : Nat} {f : List (List Bool)} (h : lsOk l vs fu = true) (hi : lsI l vs fu n L f) : svOk L fu = true := by
  obtain ⟨_, _, _, h4, h5⟩ := lsOk_parts h
  unfold svOk pOk
  rw [hi.2.2.2, decide_eq_true (by have := hi.2.1; have := hi.2.2.1; omega), decide_eq_true ⟨h4, h5⟩]; rfl
theorem ls_uns {l L : List Con} {vs : List Int} {fu : Int} {n : Nat} {f : List (List Bool)} (hi : lsI l vs fu n L f) (h : svC L fu = 2) : lsV l vs fu = (2, f, svS L fu) := by rw [hi.1, lsN, if_pos h]
theorem ls_stop {l L : List Con} {vs : List Int} {fu : Int} {n : Nat} {f : List (List Bool)} (hi : lsI l vs fu n L f) (h : ¬ svC L fu = 2) (h2 : svC L fu ≠ 1 ∨ f.length = 64) : lsV l vs fu = (0, [], []) := by rw [hi.1, lsN, if_neg h, if_pos h2]
theorem lsX_ok {vs : List Int} {bs : List Bool} (h : varsFrom 0 vs = true) : cOk (lsX vs bs) = true := cOk_mk (okFrom_ex (Int.le_refl 0) h) (by decide) (by decide)
theorem ls_next {l L : List Con} {vs : List Int} {fu : Int} {n : Nat} {f : List (List Bool)} (ho : lsOk l vs fu = true) (hi : lsI l vs fu n L f) (h : ¬ svC L fu = 2) (h2 : ¬ (svC L fu ≠ 1 ∨ f.length = 64)) : 0 < n ∧ lsI l vs fu (n - 1) (L ++ [lsX vs (svV L fu)]) (f ++ [svV L fu]) := by
  have hn : 0 < n := by have := hi.2.1; omega
  obtain ⟨m, rfl⟩ : ∃ m, n = m + 1 := ⟨n - 1, by omega⟩
  refine ⟨hn, by rw [hi.1, lsN, if_neg h, if_neg h2]; rfl, by have := hi.2.1; simp; omega, by have := hi.2.2.1; simp; omega, ?_⟩
  rw [List.all_append, hi.2.2.2]; simp [lsX_ok (lsOk_parts ho).2.2.1]
theorem ls_val {L : List Con} {fu : Int} (h : svOk L fu = true) (h1 : svC L fu = 1) : (svV L fu).length = 12 ∧ satV L (svV L fu) = true := by
  have h2 := sv_ok h
  rw [h2.2]
  exact (sv_good h).sat (by rw [← h2.1]; exact h1)
theorem svC_cases {L : List Con} {fu : Int} (h : svOk L fu = true) : svC L fu = 0 ∨ svC L fu = 1 ∨ svC L fu = 2 := by
  rw [(sv_ok h).1]; exact (sv_good h).code
end Go.Ab

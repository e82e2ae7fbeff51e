/- Problems made simpler. -/
import Derived.Test.YtdnkggifpoknoaaClau2
set_option linter.unusedSimpArgs false
set_option linter.unusedVariables false
namespace Go.Ab
/-- A constraint saturated. -/
def stT (b : Int) (t : Term) : Term := (min t.1 b, t.2)
def stC (c : Con) : Con := if 0 < c.2 then (c.1.map (stT c.2), c.2) else ([], c.2)
def flt (l : List Con) : List Con := l.filter (fun c => decide (0 < c.2))
def stL (l : List Con) : List Con := (flt l).map stC
def stepL (l : List Con) : List Con := uncL (stL l)
def wt (c : Con) : Nat := 1 + (sumF (fun t => t.1) c.1).toNat
def mu (l : List Con) : Nat := (l.map wt).sum
def simpL (l : List Con) : List Con := if stepL l = l then l else if h : mu (stepL l) < mu l then simpL (stepL l) else l
termination_by mu l
def quiet (c : Con) : Prop := 0 ≤ slV c zeroP ∧ impC c zeroP = []
def quietL (l : List Con) : Prop := ∀ c ∈ l, 0 < c.2 → quiet c
def sOk (l : List Con) : Bool := pOk l && decide ((prop l zeroP).2 < 0)
def sP (l : List Con) : List Int := if sOk l then (prop l zeroP).1 else []
def sL (l : List Con) : List Con := if sOk l then simpL (l.map (fixC (prop l zeroP).1)) else []
def exB (p : List Int) (bs : List Bool) : Bool := paOk p && (decide (bs.length = 12) && (List.range 12).all (fun i => decide (p.getD i default = 0) || decide (bs.getD i default = decide (0 < p.getD i default))))
theorem ov_ag {m : Int} (hm : litOk m = true) {bs : List Bool} : agB (justV m) (ovV (justV m) bs) := by
  intro l hl h
  rw [lit_ov just_ok hl, if_pos h]
theorem fail_facts {l : List Con} {m : Int} (h : m ∈ failL l) : pOk l = true ∧ litOk m = true ∧ csV (flL l m) = 0 ∧ flOk l m = true ∧ rupB l (unitC (-m)) = true := by
  have hp : pOk l = true := by
    cases e : pOk l
    · rw [failL_bad e] at h; simp at h
    · rfl
  rw [failL_ok hp] at h
  obtain ⟨hm, hf⟩ := failN_mem (Nat.le_refl 12) h
  have hall := pOk_all hp
  have hfl : flOk l m = true := flOk_of hp hm
  refine ⟨hp, hm, ?_, hfl, ?_⟩
  · rcases Int.lt_or_le 0 (csV (flL l m)) with h0 | h0
    · exfalso
      obtain ⟨bs, hb, hs⟩ := (csV_pos (flL_pOk hfl)).1 h0
      rw [flL_ok hfl, fix_sat just_ok hall] at hs
      have := prop_ag hall hs (Nat.le_refl _) just_ok (ov_ag hm)
      omega
    · have := csV_rng (flL l m); omega
  · have hu : cOk (unitC (-m)) = true := unit_ok (litOk_opp hm)
    unfold rupB
    rw [hp, hu, Bool.true_and, Bool.true_and, ← Bool.not_eq_false]
    intro hr
    obtain ⟨q, hq, h1, h2, h3⟩ := rup_no hall hu hr
    have h4 := neg_clause (ts := [(1, -m)]) hq (by show okFrom 0 (unitC (-m)).1 = true; exact cOk_ok hu) h2 h3 (1, -m) (by simp)
    have hm0 := (litOk_iff.1 hm).1
    have h5 : stV q m = 1 := by
      have : stV q (-m) = -1 := h4
      rw [stV_neg hm0] at this; omega
    have hle : leP (justV m) q := by
      intro a ha h0
      rw [stV_just hm ha] at h0 ⊢
      by_cases e1 : a = m
      · subst e1; rw [if_pos rfl]; exact h5
      · rw [if_neg e1] at h0 ⊢
        by_cases e2 : a = -m
        · subst e2; rw [if_pos rfl, stV_neg hm0, h5]
        · rw [if_neg e2] at h0; exact absurd rfl h0
    have := prop_below hall hq h1 (Nat.le_refl _) just_ok hle
    omega
end Go.Ab
namespace Go.Ab
end Go.Ab
namespace Go.Ab
def exN (p : List Int) (bs : List Bool) (k : Nat) : Bool := (List.range k).all (fun i => decide (p.getD i default = 0) || decide (bs.getD i default = decide (0 < p.getD i default)))
end Go.Ab
namespace Go.Ab
end Go.Ab
namespace Go.Ab
end Go.Ab

/- What filtering by a rule keeps. -/
import Derived.Test.YtikknnpdiahnoaaFr
set_option linter.unusedSimpArgs false
set_option linter.unusedVariables false
namespace Go.Ab
def cel (d : List (List Bool)) (i v : Nat) : Bool := (d.getD i default).getD v default
def leD (a b : List (List Bool)) : Prop := ∀ i v, cel a i v = true → cel b i v = true
theorem inB_iff {d : List (List Bool)} {c : List Int} : inB d c = true ↔ ∀ i, i < c.length → cel d i (c.getD i default).toNat = true := by
  unfold inB
  rw [List.all_eq_true]
  exact ⟨fun h i hi => h i (List.mem_range.2 hi), fun h i hi => h i (List.mem_range.1 hi)⟩
theorem sz_pos {m : Md} (hm : mOk m = true) : ∀ k, k < m.1.length → 0 ≤ m.1.getD k default := fun k hk => ((mOk_sz hm).2 k hk).1
def allF (m : Md) (l : List Rl) (d : List (List Bool)) : List (List Bool) := l.foldl (fun d r => filtD m r d) d
/-- How many values the domains have. -/
def cntD (d : List (List Bool)) : Nat := sumW (List.countP id) d
def fixN (m : Md) : Nat → List (List Bool) → List (List Bool)
  | 0, d => d
  | n + 1, d => if allF m m.2 d = d then d else fixN m n (allF m m.2 d)
/-- Domains filtered by all rules. -/
def fmR (m : Md) (d : List (List Bool)) : List (List Bool) := fixN m (cntD d) d
def fmD (m : Md) (d : List (List Bool)) : List (List Bool) := if dmB m d then fmR m d else []
def emB (d : List (List Bool)) : Bool := d.any (fun x => !decide (true ∈ x))
def deB (m : Md) (d : List (List Bool)) : Bool := dmB m d && emB d
theorem em_no {d : List (List Bool)} : emB d = false ↔ ∀ i, i < d.length → ∃ v, cel d i v = true := by
  unfold emB
  rw [List.any_eq_false]
  constructor
  · intro h i hi
    have h1 := h _ (getD_mem (d := default) hi)
    simp only [Bool.not_eq_true', decide_eq_false_iff_not, Classical.not_not] at h1
    obtain ⟨v, hv, e⟩ := List.mem_iff_getElem.1 h1
    exact ⟨v, by unfold cel; rw [List.getD_eq_getElem?_getD, List.getElem?_eq_getElem hv, e]; rfl⟩
  · intro h x hx
    obtain ⟨i, hi, rfl⟩ := List.mem_iff_getElem.1 hx
    obtain ⟨v, q⟩ := h i hi
    simp only [Bool.not_eq_true', decide_eq_false_iff_not, Classical.not_not]
    unfold cel at q
    rw [List.getD_eq_getElem?_getD (l := d), List.getElem?_eq_getElem hi, Option.getD_some, List.getD_eq_getElem?_getD] at q
    cases e : d[i][v]? with
    | none => rw [e] at q; cases q
    | some b => rw [e] at q; exact q ▸ List.mem_of_getElem? e
theorem em_in {sz c : List Int} {d : List (List Bool)} (hd : fitsB sz d = true) (hc : cvL sz c = true) (h : inB d c = true) : emB d = false := by
  have h1 := (fits_at hd).1; have h2 := (cv_at hc).1
  exact em_no.2 fun i hi => ⟨_, inB_iff.1 h i (by omega)⟩
end Go.Ab

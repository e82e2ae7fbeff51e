/- Covered constraints removed. -/
import Derived.Test.YtliampibpeokmaaSem
set_option linter.unusedSimpArgs false
set_option linter.unusedVariables false
namespace Go.Ab
def cvT (l : List Con) (g : List Bool) (i j : Nat) : Bool := decide (j ≠ i) && (!g.getD j default && covV (l.getD j default) (l.getD i default))
def cvrN (l : List Con) (g : List Bool) (i k : Nat) : Bool := (List.range k).any (fun j => cvT l g i j)
theorem cvr_next {l : List Con} {g : List Bool} {i k : Nat} : cvrN l g i (k + 1) = (cvrN l g i k || cvT l g i k) := by
  unfold cvrN
  rw [List.range_succ, List.any_append, List.any_cons, List.any_nil, Bool.or_false]
theorem cvr_mono {l : List Con} {g : List Bool} {i k n : Nat} (h : cvrN l g i k = true) (hk : k ≤ n) : cvrN l g i n = true := by
  obtain ⟨j, h1, h2⟩ := List.any_eq_true.1 h
  exact List.any_eq_true.2 ⟨j, List.mem_range.2 (by have := List.mem_range.1 h1; omega), h2⟩
def goneN (l : List Con) : Nat → List Bool
  | 0 => List.replicate l.length false
  | i + 1 => (goneN l i).set i (cvrN l (goneN l i) i l.length)
theorem gone_len {l : List Con} : ∀ {i : Nat}, (goneN l i).length = l.length
  | 0 => by simp [goneN]
  | i + 1 => by rw [goneN, List.length_set]; exact gone_len
theorem gone_ge {l : List Con} : ∀ {j i : Nat}, j ≤ i → (goneN l j).getD i default = false
  | 0, i, _ => by
    rw [goneN, List.getD_eq_getElem?_getD, List.getElem?_replicate]
    split <;> rfl
  | j + 1, i, h => by
    rw [goneN, List.getD_eq_getElem?_getD, List.getElem?_set, if_neg (by omega), ← List.getD_eq_getElem?_getD]
    exact gone_ge (by omega)
theorem gone_at {l : List Con} {i : Nat} (hi : i < l.length) : ∀ {j : Nat}, i < j → (goneN l j).getD i default = cvrN l (goneN l i) i l.length
  | 0, h => by omega
  | j + 1, h => by
    rw [goneN, List.getD_eq_getElem?_getD, List.getElem?_set]
    by_cases e : j = i
    · subst e
      rw [if_pos rfl, if_pos (by rw [gone_len]; exact hi)]; rfl
    · rw [if_neg e, ← List.getD_eq_getElem?_getD]
      exact gone_at hi (by omega)
theorem gone_yes {l : List Con} {i : Nat} (h : cvrN l (goneN l i) i l.length = true) : goneN l (i + 1) = (goneN l i).set i true := by rw [goneN, h]
theorem gone_no {l : List Con} {i : Nat} (h : cvrN l (goneN l i) i l.length = false) : goneN l (i + 1) = goneN l i := by
  rw [goneN, h]
  apply List.ext_getElem?
  intro j
  rw [List.getElem?_set]
  by_cases e : i = j
  · subst e
    rw [if_pos rfl]
    have := gone_ge (l := l) (j := i) (i := i) (Nat.le_refl _)
    rw [List.getD_eq_getElem?_getD] at this
    cases q : (goneN l i)[i]? with
    | none => rw [if_neg (by have := List.getElem?_eq_none_iff.1 q; omega)]
    | some v =>
      rw [q] at this
      rw [if_pos (List.getElem?_eq_some_iff.1 q).1]
      simp at this; rw [this]
  · rw [if_neg e]
def keepN (l : List Con) (k : Nat) : List Nat := (List.range k).filter (fun i => !(goneN l l.length).getD i default)
def uncN (l : List Con) (k : Nat) : List Con := (keepN l k).map (fun i => l.getD i default)
def uncL (l : List Con) : List Con := uncN l l.length
theorem unc_no {l : List Con} {k : Nat} (h : (goneN l l.length).getD k default = true) : uncN l (k + 1) = uncN l k := by
  unfold uncN keepN
  rw [List.range_succ, List.filter_append, List.filter_cons_of_neg (by rw [h]; decide)]
  simp
theorem unc_yes {l : List Con} {k : Nat} (h : (goneN l l.length).getD k default = false) : uncN l (k + 1) = uncN l k ++ [l.getD k default] := by
  unfold uncN keepN
  rw [List.range_succ, List.filter_append, List.filter_cons_of_pos (by rw [h]; rfl), List.map_append]
  rfl
theorem uncN_len {l : List Con} {k : Nat} : (uncN l k).length ≤ k := by
  unfold uncN keepN
  rw [List.length_map]
  have := List.length_filter_le (fun i => !(goneN l l.length).getD i default) (List.range k)
  rwa [List.length_range] at this
theorem unc_mem {l : List Con} {c : Con} (h : c ∈ uncL l) : ∃ i, i < l.length ∧ (goneN l l.length).getD i default = false ∧ l.getD i default = c := by
  obtain ⟨i, h1, h2⟩ := List.mem_map.1 h
  unfold keepN at h1
  rw [List.mem_filter, List.mem_range] at h1
  exact ⟨i, h1.1, by simpa using h1.2, h2⟩
theorem unc_keep {l : List Con} {i : Nat} (hi : i < l.length) (h : (goneN l l.length).getD i default = false) : l.getD i default ∈ uncL l :=
  List.mem_map.2 ⟨i, List.mem_filter.2 ⟨List.mem_range.2 hi, by rw [h]; rfl⟩, rfl⟩
theorem unc_ok {l : List Con} (h : pOk l = true) : pOk (uncL l) = true := by
  have h1 := pOk_len h
  have h2 := uncN_len (l := l) (k := l.length)
  unfold pOk
  rw [Bool.and_eq_true]
  refine ⟨decide_eq_true (by unfold uncL; omega), List.all_eq_true.2 fun c hc => ?_⟩
  obtain ⟨i, hi, _, rfl⟩ := unc_mem hc
  exact all_at (pOk_all h) hi
theorem unc_sat {l : List Con} (bs : List Bool) : satV (uncL l) bs = satV l bs := by
  unfold satV
  apply Bool.eq_iff_iff.2
  rw [List.all_eq_true, List.all_eq_true]
  constructor
  · intro h
    have key : ∀ m i, l.length - i ≤ m → i < l.length → holdsV (l.getD i default) bs = true := by
      intro m
      induction m with
      | zero => intro i h1 h2; omega
      | succ m ih =>
        intro i h1 h2
        cases q : (goneN l l.length).getD i default
        · exact h _ (unc_keep h2 q)
        · rw [gone_at h2 h2] at q
          obtain ⟨j, j1, j2⟩ := List.any_eq_true.1 q
          have j3 := List.mem_range.1 j1
          unfold cvT at j2
          simp only [Bool.and_eq_true, decide_eq_true_eq, Bool.not_eq_true'] at j2
          obtain ⟨e1, e2, e3⟩ := j2
          refine cov_holds e3 ?_
          by_cases e : j < i
          · have e4 : (goneN l l.length).getD j default = false := by rw [gone_at j3 j3, ← gone_at j3 e]; exact e2
            exact h _ (unc_keep j3 e4)
          · exact ih j (by omega) j3
    intro c hc
    obtain ⟨i, hi, rfl⟩ := List.mem_iff_getElem.1 hc
    have := key l.length i (by omega) hi
    rwa [show l.getD i default = l[i] by simp [hi]] at this
  · intro h c hc
    obtain ⟨i, hi, _, rfl⟩ := unc_mem hc
    exact h _ (getD_mem hi)
def rcL (l : List Con) : List Con := if pOk l then uncL l else []
theorem cv_ne {l : List Con} {g : List Bool} {i : Nat} : cvT l g i i = false := by unfold cvT; simp
theorem cv_gone {l : List Con} {g : List Bool} {i k : Nat} (h : g.getD k default = true) : cvT l g i k = false := by unfold cvT; rw [h]; simp
theorem cv_cov {l : List Con} {g : List Bool} {i k : Nat} (h1 : k ≠ i) (h : g.getD k default = false) : cvT l g i k = covV (l.getD k default) (l.getD i default) := by unfold cvT; rw [h, decide_eq_true h1]; rfl
theorem set_other {g : List Bool} {i k : Nat} {v : Bool} (h : k ≠ i) : (g.set i v).getD k default = g.getD k default := by
  rw [List.getD_eq_getElem?_getD, List.getElem?_set, if_neg (Ne.symm h), ← List.getD_eq_getElem?_getD]
theorem set_self {g : List Bool} {i : Nat} {v : Bool} (h : i < g.length) : (g.set i v).getD i default = v := by
  rw [List.getD_eq_getElem?_getD, List.getElem?_set, if_pos rfl, if_pos h]; rfl
end Go.Ab
namespace Go.Ab
theorem gone_set0 {l : List Con} {i : Nat} : (goneN l i).set i false = goneN l i := by
  apply List.ext_getElem?
  intro j
  rw [List.getElem?_set]
  by_cases e : i = j
  · subst e
    rw [if_pos rfl]
    have := gone_ge (l := l) (j := i) (i := i) (Nat.le_refl _)
    rw [List.getD_eq_getElem?_getD] at this
    cases q : (goneN l i)[i]? with
    | none => rw [if_neg (by have := List.getElem?_eq_none_iff.1 q; omega)]
    | some v =>
      rw [q] at this
      rw [if_pos (List.getElem?_eq_some_iff.1 q).1]
      simp at this; rw [this]
  · rw [if_neg e]
theorem gs_next {l : List Con} {g : List Bool} {i k : Nat} {u v : Bool} (h : cvrN l g i (k + 1) = v) : ((g.set i u).map dB).set i (dB v) = (g.set i (cvrN l g i (k + 1))).map dB := by
  rw [h, ← List.map_set, List.set_set]
end Go.Ab

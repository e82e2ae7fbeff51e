/- Clauses of a constraint are least, and follow by reverse unit propagation. -/
import Derived.Test.YtliampibpeokmaaPrpg3
set_option linter.unusedSimpArgs false
set_option linter.unusedVariables false
namespace Go.Ab
theorem selF_cons {t : Term} {r : List Term} {s : Nat} : selF (t :: r) s = (if s.testBit 0 then [t] else []) ++ selF r (s / 2) := by
  simp only [selF, Nat.testBit_zero]
  by_cases h : s % 2 = 1
  · simp [h]
  · simp [h]
theorem sum_sel {f : Term → Int} : ∀ {ts : List Term} {s : Nat}, (∀ t ∈ ts, f t ≤ t.1) → (∀ t ∈ selF ts s, f t ≤ 0) → sumF f ts + totV (selF ts s) ≤ totV ts
  | [], s, _, _ => by simp [selF, sumF, totV]
  | t :: r, s, h, h2 => by
    rw [selF_cons] at h2 ⊢
    have ih := sum_sel (f := f) (ts := r) (s := s / 2) (fun t ht => h t (by simp [ht])) (fun t ht => h2 t (by simp [ht]))
    have h1 := h t (by simp)
    by_cases hb : s.testBit 0 = true
    · have h0 := h2 t (by rw [if_pos hb]; simp)
      rw [if_pos hb, List.singleton_append, totV_cons, totV_cons]; simp only [sumF]; omega
    · rw [if_neg hb, List.nil_append, totV_cons]; simp only [sumF]; omega
theorem sel_sub : ∀ {ts : List Term} {p : Int} {s s' : Nat}, okFrom p ts = true → s < 2 ^ ts.length → s' < 2 ^ ts.length → (∀ t ∈ selF ts s, ∃ u ∈ selF ts s', u.2 = t.2) → s = s' ∨ ∃ t0 ∈ selF ts s', totV (selF ts s) + t0.1 ≤ totV (selF ts s')
  | [], p, s, s', _, h1, h2, _ => by simp at h1 h2; exact .inl (by omega)
  | t :: r, p, s, s', hk, h1, h2, h => by
    simp only [okFrom, Bool.and_eq_true, decide_eq_true_eq] at hk
    obtain ⟨k1, k2, k3, k4⟩ := hk
    have hgt : ∀ u ∈ r, varOf t.2 < varOf u.2 := okFrom_gt' k4
    have hc := okFrom_all k4
    have hnn : ∀ {m : Nat}, ∀ u ∈ selF r m, varOf t.2 < varOf u.2 := fun u hu => hgt u (selF_mem hu)
    rw [List.length_cons, Nat.pow_succ] at h1 h2
    rw [selF_cons, selF_cons] at h
    have hsub : ∀ u ∈ selF r (s / 2), ∃ v ∈ selF r (s' / 2), v.2 = u.2 := by
      intro u hu
      obtain ⟨v, hv, e⟩ := h u (by simp [hu])
      rcases List.mem_append.1 hv with hv | hv
      · have hg := hnn u hu
        split at hv
        · simp at hv; subst hv; rw [e] at hg; omega
        · simp at hv
      · exact ⟨v, hv, e⟩
    have ih := sel_sub k4 (s := s / 2) (s' := s' / 2) (by omega) (by omega) hsub
    rw [selF_cons, selF_cons]
    have hm : ∀ m : Nat, m.testBit 0 = decide (m % 2 = 1) := fun m => Nat.testBit_zero m
    by_cases b : s.testBit 0 = true
    · have b' : s'.testBit 0 = true := by
        obtain ⟨v, hv, e⟩ := h t (by rw [if_pos b]; simp)
        rcases List.mem_append.1 hv with hv | hv
        · split at hv
          · assumption
          · simp at hv
        · have hg := hnn v hv; rw [e] at hg; omega
      rw [if_pos b, if_pos b']
      rw [hm, decide_eq_true_eq] at b b'
      rcases ih with ih | ⟨t0, q1, q2⟩
      · left; omega
      · right; exact ⟨t0, by simp [q1], by rw [List.singleton_append, List.singleton_append, totV_cons, totV_cons]; omega⟩
    · by_cases b' : s'.testBit 0 = true
      · rw [if_neg b, if_pos b']
        right
        rcases ih with ih | ⟨t0, q1, q2⟩
        · exact ⟨t, by simp, by rw [List.nil_append, List.singleton_append, totV_cons, ih]; omega⟩
        · exact ⟨t0, by simp [q1], by rw [List.nil_append, List.singleton_append, totV_cons]; omega⟩
      · rw [if_neg b, if_neg b', List.nil_append, List.nil_append]
        rw [hm, decide_eq_true_eq] at b b'
        rcases ih with ih | ⟨t0, q1, q2⟩
        · left; omega
        · right; exact ⟨t0, q1, q2⟩
theorem sel_lit {ts : List Term} {p : Int} (h : okFrom p ts = true) {s : Nat} : ∀ t ∈ selF ts s, 1 ≤ t.1 ∧ t.1 ≤ 1000 := fun t ht => (okFrom_all h t (selF_mem ht)).2
theorem loss_zero {a b : Con} {k : Nat} (hk : k ≤ a.1.length) (h : lossV a b k ≤ 0) : ∀ i, i < k → (a.1.getD i default).1 ≤ coefF (a.1.getD i default).2 b.1 := by
  induction k with
  | zero => intro i hi; omega
  | succ k ih =>
    intro i hi
    have h0 : ∀ k, k ≤ a.1.length → 0 ≤ lossV a b k := by
      intro k hk
      induction k with
      | zero => simp [lossV]
      | succ k ih2 => rw [loss_next (by omega)]; have := ih2 (by omega); omega
    rw [loss_next (by omega)] at h
    have := h0 k (by omega)
    by_cases e : i = k
    · subst e; omega
    · exact ih (by omega) (by omega) i (by omega)
theorem inc_apart {c : Con} (hc : cOk c = true) {s s' : Nat} (h1 : s < 2 ^ c.1.length) (h2 : s' < 2 ^ c.1.length) (i1 : incV c s = true) (i2 : incV c s' = true) (hne : s ≠ s') : covV (clC c s) (clC c s') = false := by
  rw [Bool.eq_false_iff]
  intro hv
  unfold covV at hv
  simp only [Bool.and_eq_true] at hv
  have hb := hv.2
  unfold covB at hb
  rw [decide_eq_true_eq] at hb
  have hz := loss_zero (a := clC c s) (b := clC c s') (Nat.le_refl _) (by simp only [clC] at hb ⊢; omega)
  have hsub : ∀ t ∈ selF c.1 s, ∃ u ∈ selF c.1 s', u.2 = t.2 := by
    intro t ht
    obtain ⟨i, hi⟩ := List.mem_iff_getElem?.1 ht
    have hil := (List.getElem?_eq_some_iff.1 hi).1
    have h3 := hz i (by simp only [clC, List.length_map]; exact hil)
    have e : (clC c s).1.getD i default = oneT t := by
      show ((selF c.1 s).map oneT).getD i default = _
      rw [List.getD_eq_getElem?_getD, List.getElem?_map, hi]; rfl
    rw [e] at h3
    have h4 : 0 < coefF t.2 (clC c s').1 := by have : (1 : Int) ≤ coefF (oneT t).2 (clC c s').1 := h3; exact Int.lt_of_lt_of_le (by decide) this
    obtain ⟨u, hu, e2⟩ := (coefF_pos (fun u hu => by obtain ⟨v, _, rfl⟩ := List.mem_map.1 hu; exact Int.le_refl 1)).1 h4
    obtain ⟨v, hv, rfl⟩ := List.mem_map.1 hu
    exact ⟨v, hv, e2⟩
  unfold incV at i1 i2
  simp only [Bool.and_eq_true, Bool.or_eq_true, decide_eq_true_eq] at i1 i2
  rcases sel_sub (cOk_ok hc) h1 h2 hsub with e | ⟨t0, q1, q2⟩
  · exact hne e
  · have h5 := (mnV_le (b := 20000) (ts := selF c.1 s')).2 t0 q1
    have h6 := i1.1
    have h7 := i2.1
    have h8 := i2.2
    unfold leftV at h6 h7 h8
    rcases h8 with h8 | h8
    · subst h8
      have : selF c.1 0 = [] := (selF_nil h2).2 rfl
      rw [this] at q1; simp at q1
    · omega
theorem clN_eq {c : Con} : ∀ {m : Nat}, clN c m = ((List.range m).filter (incV c)).map (clC c)
  | 0 => rfl
  | m + 1 => by
    rw [clN, clN_eq, List.range_succ, List.filter_append, List.map_append]
    cases h : incV c m <;> simp [h]
theorem cl_apart {c : Con} (hc : cOk c = true) {i k : Nat} (hi : i < (clA c).length) (hk : k < (clA c).length) (hne : i ≠ k) : covV ((clA c).getD i default) ((clA c).getD k default) = false := by
  unfold clA at *
  rw [clN_eq] at *
  rw [List.length_map] at hi hk
  have hat : ∀ j, (hj : j < ((List.range (2 ^ c.1.length)).filter (incV c)).length) → (((List.range (2 ^ c.1.length)).filter (incV c)).map (clC c)).getD j default = clC c (((List.range (2 ^ c.1.length)).filter (incV c))[j]) := fun j hj => by
    rw [List.getD_eq_getElem?_getD, List.getElem?_map, List.getElem?_eq_getElem hj]; rfl
  rw [hat i hi, hat k hk]
  have hm : ∀ j, (hj : j < ((List.range (2 ^ c.1.length)).filter (incV c)).length) → ((List.range (2 ^ c.1.length)).filter (incV c))[j] < 2 ^ c.1.length ∧ incV c (((List.range (2 ^ c.1.length)).filter (incV c))[j]) = true := fun j hj => by
    have := List.mem_filter.1 (List.getElem_mem hj)
    exact ⟨List.mem_range.1 this.1, this.2⟩
  refine inc_apart hc (hm i hi).1 (hm k hk).1 (hm i hi).2 (hm k hk).2 (fun e => hne ?_)
  have hnd : ((List.range (2 ^ c.1.length)).filter (incV c)).Nodup := List.Pairwise.filter _ List.nodup_range
  exact (List.getElem_inj hnd).1 e
def rupB (l : List Con) (c : Con) : Bool := pOk l && (cOk c && rupV l c)
theorem inc_rup {c : Con} (hc : cOk c = true) {s : Nat} (hi : incV c s = true) : rupV [c] (clC c s) = true := by
  rw [← Bool.not_eq_false]
  intro h
  have hk := okFrom_one (okFrom_sel (s := s) (cOk_ok hc))
  have hcl : cOk (clC c s) = true := cOk_mk hk (by decide) (by decide)
  obtain ⟨q, hq, h1, h2, h3⟩ := rup_no (l := [c]) (by simp [hc]) hcl h
  have h4 := neg_clause hq hk h2 h3
  have h5 := (h1 c (by simp)).1
  rw [slV_F] at h5
  have h6 := sum_sel (f := fun t => if 0 ≤ stV q t.2 then t.1 else 0) (ts := c.1) (s := s) (fun t ht => by have := (okFrom_all (cOk_ok hc) t ht).2; show (if 0 ≤ stV q t.2 then t.1 else 0) ≤ t.1; split <;> omega)
    (fun t ht => by have := h4 t ht; show (if 0 ≤ stV q t.2 then t.1 else 0) ≤ 0; rw [if_neg (by omega)]; exact Int.le_refl 0)
  unfold incV leftV at hi
  simp only [Bool.and_eq_true, decide_eq_true_eq] at hi
  have := hi.1
  omega
theorem cl_rup {c : Con} (h : clB c = true) {i : Nat} (hi : i < (clA c).length) : rupB [c] ((clA c).getD i default) = true := by
  have hc := (clB_parts h).1
  have hm : (clA c).getD i default ∈ clA c := getD_mem hi
  have hok : cOk ((clA c).getD i default) = true := List.all_eq_true.1 (pOk_all (cl_ok h)) _ hm
  unfold rupB
  rw [hok, show pOk [c] = true by simp [pOk, hc]]
  obtain ⟨s, _, h1, h2⟩ := clN_mem.1 hm
  rw [← h2, inc_rup hc h1]; rfl
end Go.Ab

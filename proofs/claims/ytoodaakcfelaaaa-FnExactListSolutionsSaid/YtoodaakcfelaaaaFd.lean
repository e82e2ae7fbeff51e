/- Marks of constraints, sizes of problems. -/
import Derived.Test.YtoodaakcfelaaaaAb25
import Derived.Test.YtoodaakcfelaaaaSimp
set_option linter.unusedSimpArgs false
set_option linter.unusedVariables false
namespace Go.Ab
def endC : Nat → List Con → Nat
  | k, [] => k
  | k, c :: r => endC (k + 2 * c.1.length + 1) r
def markC (k : Nat) (c : Con) : Con := (marksT k c.1.length, ((k + 2 * c.1.length : Nat) : Int))
def marksC : Nat → List Con → List Con
  | _, [] => []
  | k, c :: r => markC k c :: marksC (k + 2 * c.1.length + 1) r
theorem marksC_length : ∀ {k : Nat} {l : List Con}, (marksC k l).length = l.length
  | _, [] => rfl
  | k, c :: r => by rw [marksC, List.length_cons, marksC_length, List.length_cons]
theorem endC_ge : ∀ {k : Nat} {l : List Con}, k + l.length ≤ endC k l
  | k, [] => Nat.le_refl _
  | k, c :: r => by
    have := endC_ge (k := k + 2 * c.1.length + 1) (l := r)
    rw [endC, List.length_cons]; omega
theorem endC_take : ∀ {k i : Nat} {l : List Con}, i < l.length → endC k (l.take (i + 1)) = endC k (l.take i) + 2 * (l.getD i default).1.length + 1
  | k, i, [], h => by simp at h
  | k, 0, c :: r, h => by simp [endC]
  | k, i + 1, c :: r, h => by
    have := endC_take (k := k + 2 * c.1.length + 1) (i := i) (l := r) (by simpa using h)
    simp only [List.take_succ_cons, endC, List.getD_cons_succ]
    exact this
theorem endC_le {k : Nat} {l : List Con} {i : Nat} : endC k (l.take i) ≤ endC k l := by
  induction l generalizing k i with
  | nil => simp
  | cons c r ih =>
    cases i with
    | zero => have := endC_ge (k := k) (l := c :: r); simp only [List.take_zero, endC]; simp only [endC] at this; omega
    | succ i => simp only [List.take_succ_cons, endC]; exact ih
theorem endC_at {k i : Nat} {l : List Con} (h : i < l.length) : endC k (l.take i) + 2 * (l.getD i default).1.length + 1 ≤ endC k l := by
  rw [← endC_take h]; exact endC_le
theorem marksC_at : ∀ {k i : Nat} {l : List Con}, i < l.length → (marksC k l).getD i default = markC (endC k (l.take i)) (l.getD i default)
  | k, i, [], h => by simp at h
  | k, 0, c :: r, h => by simp [marksC, endC]
  | k, i + 1, c :: r, h => by
    have := marksC_at (k := k + 2 * c.1.length + 1) (i := i) (l := r) (by simpa using h)
    simp only [marksC, List.take_succ_cons, endC, List.getD_cons_succ]
    exact this
def szL : List Con → Int → Int
  | [], n => n
  | c :: r, n => if szv c.1.length n < 0 then -1 else szL r (szv c.1.length n)
def szC (l : List Con) (n : Int) : Int := if szv l.length n < 0 then -1 else szL l (szv l.length n)
theorem szv_cases {n : Nat} {k : Int} : (szv n k = k - n ∧ (n : Int) ≤ k) ∨ (szv n k = -1 ∧ k < n) := by unfold szv; split <;> omega
def sumL (l : List Con) : Nat := (l.map (fun c => c.1.length)).sum
theorem szL_le : ∀ {l : List Con} {n : Int}, 0 ≤ n → ¬ szL l n < 0 → (sumL l : Int) ≤ n
  | [], n, h, _ => by simpa [sumL] using h
  | c :: r, n, h, h2 => by
    rw [szL] at h2
    split at h2
    · exact absurd h2 (by decide)
    · rcases szv_cases (n := c.1.length) (k := n) with ⟨e, e2⟩ | ⟨e, e2⟩
      · rw [e] at h2
        have := szL_le (l := r) (n := n - c.1.length) (by omega) h2
        simp only [sumL, List.map_cons, List.sum_cons] at this ⊢; omega
      · omega
theorem szC_le {l : List Con} {n : Int} (h0 : 0 ≤ n) (h : ¬ szC l n < 0) : (sumL l : Int) + l.length ≤ n := by
  unfold szC at h
  split at h
  · exact absurd h (by decide)
  · rcases szv_cases (n := l.length) (k := n) with ⟨e, e2⟩ | ⟨e, e2⟩
    · rw [e] at h
      have := szL_le (by omega) h; omega
    · omega
theorem sumL_mem {l : List Con} {c : Con} (h : c ∈ l) : c.1.length ≤ sumL l := by
  induction l with
  | nil => simp at h
  | cons d r ih =>
    simp only [sumL, List.map_cons, List.sum_cons] at ih ⊢
    rcases List.mem_cons.1 h with rfl | h
    · omega
    · have := ih h; omega
theorem endC_sum : ∀ {k : Nat} {l : List Con}, endC k l = k + 2 * sumL l + l.length
  | k, [] => rfl
  | k, c :: r => by
    rw [endC, endC_sum]; simp only [sumL, List.map_cons, List.sum_cons, List.length_cons]; omega
def fitC (l : List Con) : Prop := sumL l + l.length ≤ 1048576
theorem fitC_of {l : List Con} (h : ¬ szC l 1048576 < 0) : fitC l := by have := szC_le (by decide) h; unfold fitC; omega
theorem fitC_len {l : List Con} (h : fitC l) : l.length ≤ 1048576 := by unfold fitC at h; omega
theorem fitC_at {l : List Con} (h : fitC l) {c : Con} (hc : c ∈ l) : c.1.length ≤ 1048576 := by have := sumL_mem hc; unfold fitC at h; omega
theorem fitC_end {l : List Con} (h : fitC l) : endC 1 l ≤ 4611686018427387904 := by rw [endC_sum]; unfold fitC at h; omega
end Go.Ab
namespace Go.Ab
theorem szL_bad {d : Con} {l : List Con} {k : Nat} {z : Int} (h : k < l.length) (h2 : szv (l.getD k d).1.length z < 0) : szL (l.drop k) z = -1 := by
  rw [qjm (d := d) h, szL, if_pos h2]
theorem szL_next {d : Con} {l : List Con} {k : Nat} {z : Int} (h : k < l.length) (h2 : ¬ szv (l.getD k d).1.length z < 0) : szL (l.drop k) z = szL (l.drop (k + 1)) (szv (l.getD k d).1.length z) := by
  rw [qjm (d := d) h, szL, if_neg h2]
theorem szL_end {l : List Con} {k : Nat} {z : Int} (h : l.length ≤ k) : szL (l.drop k) z = z := by
  rw [List.drop_of_length_le h]; rfl
end Go.Ab
/- The search, told in plain lists. -/
set_option linter.unusedSimpArgs false
set_option linter.unusedVariables false
namespace Go.Ab
def negL (D : List Int) : List Int := D.map (fun d => -d)
def cle (D : List Int) : Con := ((negL D).map oneL, 1)
def freeF : List Int → Nat → Nat
  | [], _ => 0
  | a :: r, k => if a = 0 then k + 1 else freeF r (k + 1)
def freeV (p : List Int) : Nat := freeF p 0
theorem freeF_spec : ∀ {p : List Int} {k : Nat}, (freeF p k = 0 ∧ ∀ i, i < p.length → p.getD i default ≠ 0) ∨ (∃ j, j < p.length ∧ freeF p k = k + j + 1 ∧ p.getD j default = 0 ∧ ∀ i, i < j → p.getD i default ≠ 0)
  | [], k => .inl ⟨rfl, fun i h => by simp at h⟩
  | a :: r, k => by
    rw [freeF]
    by_cases h : a = 0
    · rw [if_pos h]; exact .inr ⟨0, by simp, by omega, by simpa using h, fun i h => by omega⟩
    · rw [if_neg h]
      rcases freeF_spec (p := r) (k := k + 1) with ⟨h1, h2⟩ | ⟨j, j1, j2, j3, j4⟩
      · refine .inl ⟨h1, fun i hi => ?_⟩
        cases i with
        | zero => simpa using h
        | succ i => have := h2 i (by simpa using hi); simpa using this
      · refine .inr ⟨j + 1, by simpa using j1, by omega, by simpa using j3, fun i hi => ?_⟩
        cases i with
        | zero => simpa using h
        | succ i => have := j4 i (by omega); simpa using this
theorem freeV_all {p : List Int} (h : freeV p = 0) : ∀ i, i < p.length → p.getD i default ≠ 0 := by
  rcases freeF_spec (p := p) (k := 0) with ⟨_, h2⟩ | ⟨j, _, j2, _⟩
  · exact h2
  · unfold freeV at h; omega
theorem freeV_some {p : List Int} (h : freeV p ≠ 0) : freeV p ≤ p.length ∧ p.getD (freeV p - 1) default = 0 ∧ ∀ i, i < freeV p - 1 → p.getD i default ≠ 0 := by
  rcases freeF_spec (p := p) (k := 0) with ⟨h1, _⟩ | ⟨j, j1, j2, j3, j4⟩
  · exact absurd h1 h
  · unfold freeV
    rw [show freeF p 0 = j + 1 by omega]
    exact ⟨by omega, j3, j4⟩
theorem freeV_hit {p : List Int} {k : Nat} (hk : k < p.length) (h : p.getD k default = 0) (h2 : ∀ i, i < k → p.getD i default ≠ 0) : freeV p = k + 1 := by
  rcases freeF_spec (p := p) (k := 0) with ⟨_, h3⟩ | ⟨j, j1, j2, j3, j4⟩
  · exact absurd h (h3 k hk)
  · unfold freeV
    have : j = k := by
      rcases Nat.lt_trichotomy j k with a | a | a
      · exact absurd j3 (h2 j a)
      · exact a
      · exact absurd h (j4 k a)
    omega
theorem freeV_none {p : List Int} (h : ∀ i, i < p.length → p.getD i default ≠ 0) : freeV p = 0 := by
  refine Classical.not_not.1 fun q => ?_
  obtain ⟨h1, h2, _⟩ := freeV_some q
  exact h _ (by omega) h2
def valP (p : List Int) : List Bool := p.map (fun a => decide (0 < a))
theorem qq0 {p : List Int} : (valP p).length = p.length := by simp [valP]
theorem valP_next {p : List Int} {k : Nat} (h : k < p.length) : valP (p.take (k + 1)) = valP (p.take k) ++ [decide (0 < p.getD k default)] := by unfold valP; rw [qjt (d := default) h, List.map_append]; rfl
abbrev prD (l st : List Con) (D : List Int) : List Int × Int := prop (l ++ st) (asgL zeroP D)
def visit (l : List Con) : Nat → List Con → Int → List Int → List Con × Int × Int × List Bool
  | 0, st, fu, D => (st, fu, 0, [])
  | n + 1, st, fu, D =>
    if fu = 0 ∨ 1000 ≤ st.length then (st, fu, 0, [])
    else if 0 ≤ (prD l st D).2 then (st ++ [cle D], fu - 1, 2, [])
    else if freeV (prD l st D).1 = 0 then (st, fu - 1, 1, valP (prD l st D).1)
    else if (visit l n st (fu - 1) (D ++ [(freeV (prD l st D).1 : Int)])).2.2.1 ≠ 2 then visit l n st (fu - 1) (D ++ [(freeV (prD l st D).1 : Int)])
    else if (visit l n (visit l n st (fu - 1) (D ++ [(freeV (prD l st D).1 : Int)])).1 (visit l n st (fu - 1) (D ++ [(freeV (prD l st D).1 : Int)])).2.1 (D ++ [-(freeV (prD l st D).1 : Int)])).2.2.1 ≠ 2 then
      visit l n (visit l n st (fu - 1) (D ++ [(freeV (prD l st D).1 : Int)])).1 (visit l n st (fu - 1) (D ++ [(freeV (prD l st D).1 : Int)])).2.1 (D ++ [-(freeV (prD l st D).1 : Int)])
    else if 1000 ≤ (visit l n (visit l n st (fu - 1) (D ++ [(freeV (prD l st D).1 : Int)])).1 (visit l n st (fu - 1) (D ++ [(freeV (prD l st D).1 : Int)])).2.1 (D ++ [-(freeV (prD l st D).1 : Int)])).1.length then
      ((visit l n (visit l n st (fu - 1) (D ++ [(freeV (prD l st D).1 : Int)])).1 (visit l n st (fu - 1) (D ++ [(freeV (prD l st D).1 : Int)])).2.1 (D ++ [-(freeV (prD l st D).1 : Int)])).1, (visit l n (visit l n st (fu - 1) (D ++ [(freeV (prD l st D).1 : Int)])).1 (visit l n st (fu - 1) (D ++ [(freeV (prD l st D).1 : Int)])).2.1 (D ++ [-(freeV (prD l st D).1 : Int)])).2.1, 0, [])
    else ((visit l n (visit l n st (fu - 1) (D ++ [(freeV (prD l st D).1 : Int)])).1 (visit l n st (fu - 1) (D ++ [(freeV (prD l st D).1 : Int)])).2.1 (D ++ [-(freeV (prD l st D).1 : Int)])).1 ++ [cle D], (visit l n (visit l n st (fu - 1) (D ++ [(freeV (prD l st D).1 : Int)])).1 (visit l n st (fu - 1) (D ++ [(freeV (prD l st D).1 : Int)])).2.1 (D ++ [-(freeV (prD l st D).1 : Int)])).2.1, 2, [])
section
variable {l st : List Con} {n : Nat} {fu : Int} {D : List Int}
abbrev vis1 (l : List Con) (n : Nat) (st : List Con) (fu : Int) (D : List Int) := visit l n st (fu - 1) (D ++ [(freeV (prD l st D).1 : Int)])
abbrev vis2 (l : List Con) (n : Nat) (st : List Con) (fu : Int) (D : List Int) := visit l n (vis1 l n st fu D).1 (vis1 l n st fu D).2.1 (D ++ [-(freeV (prD l st D).1 : Int)])
theorem vs_much (h : fu = 0 ∨ 1000 ≤ st.length) : visit l (n + 1) st fu D = (st, fu, 0, []) := by rw [visit, if_pos h]
theorem vs_bad (h : ¬ (fu = 0 ∨ 1000 ≤ st.length)) (h1 : 0 ≤ (prD l st D).2) : visit l (n + 1) st fu D = (st ++ [cle D], fu - 1, 2, []) := by rw [visit, if_neg h, if_pos h1]
theorem vs_sat (h : ¬ (fu = 0 ∨ 1000 ≤ st.length)) (h1 : ¬ 0 ≤ (prD l st D).2) (h2 : freeV (prD l st D).1 = 0) : visit l (n + 1) st fu D = (st, fu - 1, 1, valP (prD l st D).1) := by rw [visit, if_neg h, if_neg h1, if_pos h2]
theorem vs_one (h : ¬ (fu = 0 ∨ 1000 ≤ st.length)) (h1 : ¬ 0 ≤ (prD l st D).2) (h2 : ¬ freeV (prD l st D).1 = 0) (h3 : (vis1 l n st fu D).2.2.1 ≠ 2) : visit l (n + 1) st fu D = vis1 l n st fu D := by rw [visit, if_neg h, if_neg h1, if_neg h2, if_pos h3]
theorem vs_two (h : ¬ (fu = 0 ∨ 1000 ≤ st.length)) (h1 : ¬ 0 ≤ (prD l st D).2) (h2 : ¬ freeV (prD l st D).1 = 0) (h3 : ¬ (vis1 l n st fu D).2.2.1 ≠ 2) (h4 : (vis2 l n st fu D).2.2.1 ≠ 2) : visit l (n + 1) st fu D = vis2 l n st fu D := by rw [visit, if_neg h, if_neg h1, if_neg h2, if_neg h3, if_pos h4]
theorem vs_full (h : ¬ (fu = 0 ∨ 1000 ≤ st.length)) (h1 : ¬ 0 ≤ (prD l st D).2) (h2 : ¬ freeV (prD l st D).1 = 0) (h3 : ¬ (vis1 l n st fu D).2.2.1 ≠ 2) (h4 : ¬ (vis2 l n st fu D).2.2.1 ≠ 2) (h5 : 1000 ≤ (vis2 l n st fu D).1.length) : visit l (n + 1) st fu D = ((vis2 l n st fu D).1, (vis2 l n st fu D).2.1, 0, []) := by rw [visit, if_neg h, if_neg h1, if_neg h2, if_neg h3, if_neg h4, if_pos h5]
theorem qz8 (h : ¬ (fu = 0 ∨ 1000 ≤ st.length)) (h1 : ¬ 0 ≤ (prD l st D).2) (h2 : ¬ freeV (prD l st D).1 = 0) (h3 : ¬ (vis1 l n st fu D).2.2.1 ≠ 2) (h4 : ¬ (vis2 l n st fu D).2.2.1 ≠ 2) (h5 : ¬ 1000 ≤ (vis2 l n st fu D).1.length) : visit l (n + 1) st fu D = ((vis2 l n st fu D).1 ++ [cle D], (vis2 l n st fu D).2.1, 2, []) := by rw [visit, if_neg h, if_neg h1, if_neg h2, if_neg h3, if_neg h4, if_neg h5]
end
abbrev asc (D : List Int) : Prop := okFrom 0 (D.map oneL) = true
theorem okFrom_negL : ∀ {D : List Int} {p : Int}, okFrom p ((negL D).map oneL) = okFrom p (D.map oneL)
  | [], _ => rfl
  | d :: D, p => by
    have ih := okFrom_negL (D := D) (p := varOf d)
    have hn : negL (d :: D) = -d :: negL D := rfl
    have hv : varOf (-d) = varOf d := by unfold varOf; omega
    rw [hn]
    simp only [List.map_cons, oneL, okFrom] at ih ⊢
    have hl : litOk (-d) = litOk d := by simp only [litOk]; congr 1; apply propext; omega
    rw [hv, ih, hl]
theorem asc_neg {D : List Int} (h : asc D) : okFrom 0 ((negL D).map oneL) = true := by rw [okFrom_negL]; exact h
theorem cle_ok {D : List Int} (h : asc D) : cOk (cle D) = true := cOk_mk (asc_neg h) (by decide) (by decide)
end Go.Ab
/- What the search learns follows by reverse unit propagation; what it finds is a solution. -/
set_option linter.unusedSimpArgs false
set_option linter.unusedVariables false
namespace Go.Ab
theorem okFrom_snoc : ∀ {ts : List Term} {p : Int} {u : Term}, okFrom p ts = true → litOk u.2 = true → p < varOf u.2 → (∀ t ∈ ts, varOf t.2 < varOf u.2) → 1 ≤ u.1 ∧ u.1 ≤ 1000 → okFrom p (ts ++ [u]) = true
  | [], p, u, _, h1, h2, _, h4 => by simp [okFrom, h1, h2, h4]
  | t :: r, p, u, h, h1, h2, h3, h4 => by
    simp only [okFrom, Bool.and_eq_true, decide_eq_true_eq, List.cons_append] at h ⊢
    exact ⟨h.1, h.2.1, h.2.2.1, okFrom_snoc h.2.2.2 h1 (h3 t (by simp)) (fun x hx => h3 x (by simp [hx])) h4⟩
theorem asc_lit {D : List Int} (h : asc D) : ∀ d ∈ D, litOk d = true := fun d hd => (qzs h (oneL d) (List.mem_map.2 ⟨d, hd, rfl⟩)).1
theorem asc_len {D : List Int} (h : asc D) : D.length ≤ 12 := lits_len h
theorem asc_snoc {D : List Int} {d : Int} (h : asc D) (hd : litOk d = true) (h2 : ∀ x ∈ D, varOf x < varOf d) : asc (D ++ [d]) := by
  unfold asc
  rw [List.map_append]
  refine okFrom_snoc h hd ?_ ?_ ⟨(by decide : (1:Int) ≤ 1), (by decide : (1:Int) ≤ 1000)⟩
  · have := litOk_iff.1 hd; show 0 < varOf d; unfold varOf; omega
  · intro t ht; obtain ⟨x, hx, rfl⟩ := List.mem_map.1 ht; exact h2 x hx
theorem okFrom_init {u : Term} : ∀ {ts : List Term} {p : Int}, okFrom p (ts ++ [u]) = true → okFrom p ts = true
  | [], _, _ => rfl
  | t :: r, p, h => by
    by_cases hg : litOk t.2 = true ∧ p < varOf t.2 ∧ 1 ≤ t.1 ∧ t.1 ≤ 1000
    · rw [List.cons_append, qzm hg.1 hg.2.1 hg.2.2.1 hg.2.2.2] at h
      rw [qzm hg.1 hg.2.1 hg.2.2.1 hg.2.2.2]
      exact okFrom_init h
    · rw [List.cons_append, qzu hg] at h; cases h
theorem asc_last {D : List Int} {d : Int} (h : asc (D ++ [d])) : asc D ∧ ∀ x ∈ D, varOf x < varOf d := by
  have h1 := okFrom_apart' h
  rw [List.map_append, List.pairwise_append] at h1
  refine ⟨?_, fun x hx => h1.2.2 (oneL x) (List.mem_map.2 ⟨x, hx, rfl⟩) (oneL d) (by simp)⟩
  unfold asc at h
  rw [List.map_append] at h
  exact okFrom_init h
theorem asgL_snoc {p D : List Int} {d : Int} : asgL p (D ++ [d]) = asg (asgL p D) d := by unfold asgL; rw [List.foldl_append]; rfl
theorem qqi {D : List Int} : (asgL zeroP D).length = 12 := by rw [qqc]; rfl
theorem varOf_neg {d : Int} : varOf (-d) = varOf d := by unfold varOf; omega
theorem asgD_st : ∀ {n : Nat} {D : List Int}, D.length = n → asc D → ∀ m, litOk m = true → stV (asgL zeroP D) m = if m ∈ D then 1 else if -m ∈ D then -1 else 0
  | 0, D, hn, h, m, hm => by
    obtain rfl := List.eq_nil_of_length_eq_zero hn
    show stV zeroP m = _
    rw [stV_zeroP]; simp
  | n + 1, D, hn, h, m, hm => by
    obtain ⟨D0, d, rfl⟩ : ∃ D0 d, D = D0 ++ [d] := by
      rcases List.eq_nil_or_concat D with h0 | ⟨D0, d, h0⟩
      · subst h0; simp at hn
      · exact ⟨D0, d, by simpa using h0⟩
    obtain ⟨h1, h2⟩ := asc_last h
    have hd := asc_lit h d (by simp)
    have ih := asgD_st (n := n) (D := D0) (by simpa using hn) h1 m hm
    rw [asgL_snoc, stV_asg qqi hd hm, ih]
    have hne : ∀ x, varOf x = varOf d → x ∉ D0 := fun x e hx => by have := h2 x hx; omega
    by_cases e1 : m = d
    · subst e1; rw [if_pos rfl, if_pos (by simp)]
    · rw [if_neg e1]
      by_cases e2 : m = -d
      · subst e2
        rw [if_pos rfl, if_neg (by
          intro q
          rcases List.mem_append.1 q with q | q
          · exact hne _ varOf_neg q
          · simp at q; exact e1 q), if_pos (by simp)]
      · rw [if_neg e2]
        have e3 : (m ∈ D0 ++ [d]) ↔ m ∈ D0 := by simp [e1]
        have e4 : (-m ∈ D0 ++ [d]) ↔ -m ∈ D0 := by
          have : -m ≠ d := by omega
          simp [this]
        simp only [e3, e4]
theorem leP_D {D q : List Int} (h : asc D) (hq : ∀ d ∈ D, stV q d = 1) : leP (asgL zeroP D) q := by
  intro m hm h0
  rw [asgD_st rfl h m hm] at h0 ⊢
  by_cases e1 : m ∈ D
  · rw [if_pos e1]; exact hq m e1
  · rw [if_neg e1] at h0 ⊢
    by_cases e2 : -m ∈ D
    · rw [if_pos e2]
      have := hq _ e2
      have hm0 := (litOk_iff.1 hm).1
      rw [stV_neg hm0] at this; omega
    · rw [if_neg e2] at h0; exact absurd rfl h0
theorem D_leP {D q : List Int} (h : asc D) (hq : leP (asgL zeroP D) q) : ∀ d ∈ D, stV q d = 1 := by
  intro d hd
  have h1 := asgD_st rfl h d (asc_lit h d hd)
  rw [if_pos hd] at h1
  rw [hq d (asc_lit h d hd) (by rw [h1]; decide), h1]
theorem cle_form {D : List Int} : cle D = (((negL D).map oneL).map oneT, 1) := by unfold cle; rw [List.map_map]; rfl
theorem cle_neg {D q : List Int} {l : List Con} (h : asc D) (hl : l.all cOk = true) (hr : rupV l (cle D) = false) : ∃ q, paOk q = true ∧ fixP l q ∧ leP (asgL zeroP D) q := by
  obtain ⟨q, q1, q2, q3, q4⟩ := rup_no hl (cle_ok h) hr
  refine ⟨q, q1, q2, leP_D h fun d hd => ?_⟩
  rw [cle_form] at q3 q4
  have hk : okFrom 0 (((negL D).map oneL).map oneT) = true := by rw [List.map_map]; exact asc_neg h
  have h5 := neg_clause q1 hk q3 q4 (oneL (-d)) (List.mem_map.2 ⟨-d, List.mem_map.2 ⟨d, hd, rfl⟩, rfl⟩)
  have h6 : stV q (-d) = -1 := h5
  rw [stV_neg (litOk_iff.1 (asc_lit h d hd)).1] at h6
  omega
theorem rup_bad {D : List Int} {l : List Con} (h : asc D) (hl : l.all cOk = true) (hb : 0 ≤ (prop l (asgL zeroP D)).2) : rupV l (cle D) = true := by
  cases hr : rupV l (cle D)
  · obtain ⟨q, q1, q2, q3⟩ := cle_neg (q := []) h hl hr
    have := (prop_below hl q1 q2 (Nat.le_refl _) (asgL_ok zero_ok) q3).1
    omega
  · rfl
theorem sumF_app {f : Term → Int} : ∀ {a b : List Term}, sumF f (a ++ b) = sumF f a + sumF f b
  | [], b => by simp [sumF]
  | t :: a, b => by simp only [List.cons_append, sumF]; rw [sumF_app]; omega
theorem sumF_zero {f : Term → Int} : ∀ {ts : List Term}, (∀ t ∈ ts, f t = 0) → sumF f ts = 0
  | [], _ => rfl
  | t :: r, h => by simp only [sumF]; rw [h t (by simp), sumF_zero (fun x hx => h x (by simp [hx]))]; rfl
theorem cle_last {D q : List Int} {v : Int} (h : asc (D ++ [v])) (hq : paOk q = true) (hd : ∀ d ∈ D, stV q d = 1) (h1 : 0 ≤ slV (cle (D ++ [v])) q) (h2 : impC (cle (D ++ [v])) q = []) : stV q v = -1 := by
  have hv0 := (litOk_iff.1 (asc_lit h v (by simp))).1
  have hs : slV (cle (D ++ [v])) q = (if 0 ≤ stV q (-v) then 1 else 0) - 1 := by
    rw [slV_F]
    have e : (cle (D ++ [v])).1 = (negL D).map oneL ++ [oneL (-v)] := by unfold cle negL; simp
    rw [e, sumF_app, sumF_zero]
    · show 0 + ((if 0 ≤ stV q (-v) then 1 else 0) + 0) - 1 = _
      omega
    · intro t ht
      obtain ⟨x, hx, rfl⟩ := List.mem_map.1 ht
      obtain ⟨d, hd2, rfl⟩ := List.mem_map.1 hx
      have hdl : d ≠ 0 := (litOk_iff.1 (asc_lit h d (by simp [hd2]))).1
      have h3 : stV q (-d) = -1 := by rw [stV_neg hdl, hd d hd2]
      rw [if_neg (by show ¬ 0 ≤ stV q (-d); omega)]
  have hr := stV_rng hq (-v)
  have hge : 0 ≤ stV q (-v) := by
    refine Classical.not_not.1 fun a => ?_
    rw [hs, if_neg a] at h1; omega
  rw [if_pos hge] at hs
  have hne : stV q (-v) ≠ 0 := by
    intro a
    have hm : -v ∈ impC (cle (D ++ [v])) q := by
      unfold impC impF
      refine List.mem_map.2 ⟨oneL (-v), List.mem_filter.2 ⟨?_, ?_⟩, rfl⟩
      · unfold cle negL; simp
      · show decide (stV q (-v) = 0 ∧ slV (cle (D ++ [v])) q < 1) = true
        rw [hs, decide_eq_true_eq]; exact ⟨a, by omega⟩
    rw [h2] at hm; simp at hm
  have := stV_neg (p := q) hv0
  omega
theorem asc_opp {D : List Int} {v : Int} (h : asc (D ++ [v])) : asc (D ++ [-v]) := by
  obtain ⟨h1, h2⟩ := asc_last h
  exact asc_snoc h1 (litOk_opp (asc_lit h v (by simp))) (fun x hx => by rw [varOf_neg]; exact h2 x hx)
theorem rup_both {D : List Int} {v : Int} {l : List Con} (h : asc (D ++ [v])) (hl : l.all cOk = true) (h1 : cle (D ++ [v]) ∈ l) (h2 : cle (D ++ [-v]) ∈ l) : rupV l (cle D) = true := by
  cases hr : rupV l (cle D)
  · have hD := (asc_last h).1
    obtain ⟨q, q1, q2, q3⟩ := cle_neg (q := []) hD hl hr
    have hd := D_leP hD q3
    have k1 := cle_last h q1 hd (q2 _ h1).1 (q2 _ h1).2
    have k2 := cle_last (asc_opp h) q1 hd (q2 _ h2).1 (q2 _ h2).2
    rw [stV_neg (litOk_iff.1 (asc_lit h v (by simp))).1] at k2
    omega
  · rfl
theorem litV_valP {q : List Int} (hq : paOk q = true) {m : Int} (hm : litOk m = true) (h0 : stV q m ≠ 0) : litV (valP q) m = decide (0 ≤ stV q m) := by
  have hl := qjv hq
  have h3 := litOk_iff.1 hm
  have hi : (varOf m - 1).toNat < q.length := by unfold varOf; omega
  have ha : (valP q).getD (varOf m - 1).toNat default = decide (0 < q.getD (varOf m - 1).toNat default) := by
    unfold valP
    rw [List.getD_eq_getElem?_getD, List.getElem?_map, List.getElem?_eq_getElem hi, List.getD_eq_getElem?_getD, List.getElem?_eq_getElem hi]; rfl
  unfold litV
  rw [ha]
  unfold stV at h0 ⊢
  by_cases hp : m < 0
  · rw [if_pos hp] at h0 ⊢
    have e : (varOf m - 1).toNat = (-m - 1).toNat := by unfold varOf; omega
    rw [e] at *
    generalize q.getD (-m - 1).toNat default = a at *
    rw [decide_eq_false (show ¬ 0 < m by omega)]
    by_cases h5 : 0 < a
    · rw [decide_eq_true h5, decide_eq_false (by omega)]; rfl
    · rw [decide_eq_false h5, decide_eq_true (by omega)]; rfl
  · rw [if_neg hp] at h0 ⊢
    have e : (varOf m - 1).toNat = (m - 1).toNat := by unfold varOf; omega
    rw [e] at *
    generalize q.getD (m - 1).toNat default = a at *
    rw [decide_eq_true (show 0 < m by omega)]
    by_cases h5 : 0 < a
    · rw [decide_eq_true h5, decide_eq_true (by omega)]; rfl
    · rw [decide_eq_false h5, decide_eq_false (by omega)]; rfl
theorem stV_full {q : List Int} (hl : q.length = 12) (hf : ∀ i, i < q.length → q.getD i default ≠ 0) {m : Int} (hm : litOk m = true) : stV q m ≠ 0 := by
  have h3 := litOk_iff.1 hm
  unfold stV
  split
  · have := hf (-m - 1).toNat (by omega); omega
  · exact hf _ (by omega)
theorem fixA_sat {q : List Int} {l : List Con} (hq : paOk q = true) (hl : l.all cOk = true) (hf : fixP l q) (ha : ∀ i, i < q.length → q.getD i default ≠ 0) : satV l (valP q) = true := by
  unfold satV
  rw [List.all_eq_true]
  intro c hc
  have hco := List.all_eq_true.1 hl c hc
  have h1 := (hf c hc).1
  rw [slV_F] at h1
  unfold holdsV
  rw [decide_eq_true_eq, sumV_F]
  have h2 : sumF (fun t => if litV (valP q) t.2 then t.1 else 0) c.1 = sumF (fun t => if 0 ≤ stV q t.2 then t.1 else 0) c.1 := by
    refine sumF_eq fun t ht => ?_
    have hlt := (qzs (cOk_ok hco) t ht).1
    rw [litV_valP hq hlt (stV_full (qjv hq) ha hlt)]
    by_cases h5 : 0 ≤ stV q t.2
    · rw [if_pos h5, decide_eq_true h5]; rfl
    · rw [if_neg h5, decide_eq_false h5]; rfl
  rw [h2]; omega
end Go.Ab
/- What a search returns. -/
set_option linter.unusedSimpArgs false
set_option linter.unusedVariables false
namespace Go.Ab
def inv (l st : List Con) (D : List Int) : Prop := asc D ∧ (D = [] ∨ ∃ D0 d st0 q0, D = D0 ++ [d] ∧ (∀ c ∈ l ++ st0, c ∈ l ++ st) ∧ prop (l ++ st0) (asgL zeroP D0) = (q0, -1) ∧ ∀ i : Nat, (i : Int) < varOf d - 1 → q0.getD i default ≠ 0)
theorem inv_nil {l st : List Con} : inv l st [] := ⟨rfl, .inl rfl⟩
theorem inv_more {l st st' : List Con} {D : List Int} (h : inv l st D) (hs : ∀ c ∈ st, c ∈ st') : inv l st' D := by
  refine ⟨h.1, ?_⟩
  rcases h.2 with h2 | ⟨D0, d, st0, q0, a, b, c, e⟩
  · exact .inl h2
  · refine .inr ⟨D0, d, st0, q0, a, fun x hx => ?_, c, e⟩
    rcases List.mem_append.1 (b x hx) with q | q
    · exact List.mem_append_left _ q
    · exact List.mem_append_right _ (hs x q)
theorem all_sub {α : Type} {p : α → Bool} {a b : List α} (h : b.all p = true) (hs : ∀ c ∈ a, c ∈ b) : a.all p = true := List.all_eq_true.2 fun c hc => List.all_eq_true.1 h c (hs c hc)
theorem stV_pos {q : List Int} {i : Nat} : stV q ((i : Int) + 1) = q.getD i default := by
  unfold stV
  rw [if_neg (by omega), show ((i : Int) + 1 - 1).toNat = i by omega]
section
variable {l st : List Con} {D : List Int}
theorem prD_eq (hp : ¬ 0 ≤ (prD l st D).2) : prD l st D = ((prD l st D).1, -1) := by
  have h1 : (prD l st D).2 = -1 ∨ (0 ≤ (prD l st D).2 ∧ (prD l st D).2 < (l ++ st).length) := prop_rng (l := l ++ st) (n := zer (asgL zeroP D)) (p := asgL zeroP D) (Nat.le_refl _)
  exact Prod.ext rfl (by dsimp only; omega)
theorem prD_fix (hl : (l ++ st).all cOk = true) (hp : ¬ 0 ≤ (prD l st D).2) : fixP (l ++ st) (prD l st D).1 := prop_fix hl (Nat.le_refl _) qqi (prD_eq hp)
theorem prD_ok : paOk (prD l st D).1 = true := prop_ok (asgL_ok zero_ok)
theorem inv_set (h : inv l st D) (hl : (l ++ st).all cOk = true) (hp : ¬ 0 ≤ (prD l st D).2) : ∀ d ∈ D, ∀ i : Nat, (i : Int) < varOf d → (prD l st D).1.getD i default ≠ 0 := by
  have hq := prD_ok (l := l) (st := st) (D := D)
  have hf := prD_fix hl hp
  have hle := leP_prop (p := asgL zeroP D) hl qqi
  generalize (prD l st D).1 = q at *
  have hd1 := D_leP h.1 hle
  rcases h.2 with h2 | ⟨D0, d', st0, q0, rfl, b, c, e⟩
  · intro d hd; rw [h2] at hd; simp at hd
  · obtain ⟨a1, a2⟩ := asc_last h.1
    have hb := (prop_below (l := l ++ st0) (all_sub hl b) hq (fun x hx => hf x (b x hx)) (Nat.le_refl _) (asgL_ok zero_ok) (leP_D (D := D0) (q := q) a1 (fun d hd => hd1 d (by simp [hd])))).2
    rw [c] at hb
    intro d hd i hi
    have hdv : varOf d ≤ varOf d' := by
      rcases List.mem_append.1 hd with k | k
      · have := a2 d k; omega
      · simp at k; subst k; omega
    have hd12 := litOk_iff.1 (asc_lit h.1 d' (by simp))
    have hv12 : varOf d' ≤ 12 := by unfold varOf; omega
    by_cases hc : (i : Int) < varOf d' - 1
    · have h5 := e i hc
      have hlit : litOk ((i : Int) + 1) = true := litOk_iff.2 (by omega)
      have h6 := hb ((i : Int) + 1) hlit (by rw [stV_pos]; exact h5)
      rw [stV_pos, stV_pos] at h6
      rw [h6]; exact h5
    · have h7 := hd1 d' (by simp)
      unfold stV at h7
      have hid : (i : Int) = varOf d' - 1 := by omega
      unfold varOf at hid
      split at h7
      · rw [show i = (-d' - 1).toNat by omega]; omega
      · rw [show i = (d' - 1).toNat by omega]; omega
theorem inv_free (h : inv l st D) (hl : (l ++ st).all cOk = true) (hp : ¬ 0 ≤ (prD l st D).2) (hv : ¬ freeV (prD l st D).1 = 0) : (1 ≤ freeV (prD l st D).1 ∧ freeV (prD l st D).1 ≤ 12) ∧ ∀ d ∈ D, varOf d < (freeV (prD l st D).1 : Int) := by
  obtain ⟨h1, h2, h3⟩ := freeV_some hv
  have hl2 := qjv (prD_ok (l := l) (st := st) (D := D))
  refine ⟨by omega, fun d hd => ?_⟩
  refine Classical.not_not.1 fun a => ?_
  exact inv_set h hl hp d hd (freeV (prD l st D).1 - 1) (by omega) h2
theorem inv_next (h : inv l st D) (hl : (l ++ st).all cOk = true) (hp : ¬ 0 ≤ (prD l st D).2) (hv : ¬ freeV (prD l st D).1 = 0) : asc (D ++ [(freeV (prD l st D).1 : Int)]) ∧ inv l st (D ++ [(freeV (prD l st D).1 : Int)]) ∧ inv l st (D ++ [-(freeV (prD l st D).1 : Int)]) := by
  obtain ⟨h1, h2⟩ := inv_free h hl hp hv
  have hlit : litOk (freeV (prD l st D).1 : Int) = true := litOk_iff.2 (by omega)
  have hvv : varOf (freeV (prD l st D).1 : Int) = freeV (prD l st D).1 := by unfold varOf; omega
  have ha : asc (D ++ [(freeV (prD l st D).1 : Int)]) := asc_snoc h.1 hlit (fun x hx => by rw [hvv]; exact h2 x hx)
  have h3 := (freeV_some hv).2.2
  exact ⟨ha, ⟨ha, .inr ⟨D, _, st, _, rfl, fun _ q => q, prD_eq hp, fun i hi => h3 i (by rw [hvv] at hi; omega)⟩⟩,
    ⟨asc_opp ha, .inr ⟨D, _, st, _, rfl, fun _ q => q, prD_eq hp, fun i hi => h3 i (by rw [varOf_neg, hvv] at hi; omega)⟩⟩⟩
end
structure VisG (l st : List Con) (fu : Int) (D : List Int) (r : List Con × Int × Int × List Bool) : Prop where
  pre : ∃ x, r.1 = st ++ x
  len : r.1.length ≤ 1000
  ok : (l ++ r.1).all cOk = true
  rup : ∀ k, st.length ≤ k → k < r.1.length → rupV (l ++ r.1.take k) (r.1.getD k default) = true
  fuel : 0 ≤ r.2.1 ∧ r.2.1 ≤ fu
  code : r.2.2.1 = 0 ∨ r.2.2.1 = 1 ∨ r.2.2.1 = 2
  sat : r.2.2.1 = 1 → r.2.2.2.length = 12 ∧ satV l r.2.2.2 = true
  uns : r.2.2.1 = 2 → cle D ∈ r.1
  non : r.2.2.1 ≠ 1 → r.2.2.2 = []
theorem VisG.learn {l st : List Con} {fu fu' : Int} {D : List Int} {s : List Con} (hpre : ∃ x, s = st ++ x) (hlen : s.length < 1000) (hok : (l ++ s).all cOk = true) (hr : ∀ k, st.length ≤ k → k < s.length → rupV (l ++ s.take k) (s.getD k default) = true) (hf : 0 ≤ fu' ∧ fu' ≤ fu) (ha : asc D) (hc : rupV (l ++ s) (cle D) = true) :
    VisG l st fu D (s ++ [cle D], fu', 2, []) := by
  obtain ⟨x, rfl⟩ := hpre
  refine ⟨⟨x ++ [cle D], by simp⟩, by simp at hlen ⊢; omega, ?_, fun k h1 h2 => ?_, hf, .inr (.inr rfl), (fun h => by cases h), fun _ => by simp, fun _ => rfl⟩
  · rw [← List.append_assoc, List.all_append, hok]; simp [cle_ok ha]
  · dsimp only at h2 ⊢
    by_cases e : k < (st ++ x).length
    · rw [List.take_append_of_le_length (by omega), List.getD_eq_getElem?_getD, List.getElem?_append_left e, ← List.getD_eq_getElem?_getD]
      exact hr k h1 e
    · rw [List.length_append] at h2
      simp only [List.length_cons, List.length_nil] at h2
      obtain rfl : k = (st ++ x).length := by omega
      rw [List.take_append_of_le_length (Nat.le_refl _), List.take_length, List.getD_eq_getElem?_getD, List.getElem?_append_right (Nat.le_refl _), Nat.sub_self]
      exact hc
theorem VisG.weak {l st st' : List Con} {fu fu' : Int} {D D' : List Int} {r : List Con × Int × Int × List Bool} (h : VisG l st fu D r) (hpre : ∃ x, st = st' ++ x) (hr : ∀ k, st'.length ≤ k → k < st.length → rupV (l ++ st.take k) (st.getD k default) = true) (hf : fu ≤ fu') (hn : r.2.2.1 ≠ 2) : VisG l st' fu' D' r := by
  obtain ⟨x, hx⟩ := h.pre
  obtain ⟨y, rfl⟩ := hpre
  refine ⟨⟨y ++ x, by rw [hx, List.append_assoc]⟩, h.len, h.ok, fun k h1 h2 => ?_, ⟨h.fuel.1, Int.le_trans h.fuel.2 hf⟩, h.code, h.sat, (fun q => absurd q hn), h.non⟩
  by_cases e : k < (st' ++ y).length
  · have h3 := hr k h1 e
    rw [hx, List.take_append_of_le_length (by omega), List.getD_eq_getElem?_getD, List.getElem?_append_left e, ← List.getD_eq_getElem?_getD]
    exact h3
  · exact h.rup k (by omega) h2
theorem visit_good {l : List Con} : ∀ {n : Nat} {st : List Con} {fu : Int} {D : List Int}, (l ++ st).all cOk = true → st.length ≤ 1000 → 0 ≤ fu → inv l st D → VisG l st fu D (visit l n st fu D)
  | 0, st, fu, D, hl, hs, hf, hi => ⟨⟨[], by simp [visit]⟩, hs, hl, fun k h1 h2 => by simp only [visit] at h2; omega, ⟨hf, Int.le_refl _⟩, .inl rfl, (fun h => by cases h), (fun h => by cases h), fun _ => rfl⟩
  | n + 1, st, fu, D, hl, hs, hf, hi => by
    by_cases h : fu = 0 ∨ 1000 ≤ st.length
    · rw [vs_much h]
      exact ⟨⟨[], by simp⟩, hs, hl, fun k h1 h2 => by dsimp only at h2; omega, ⟨hf, Int.le_refl _⟩, .inl rfl, (fun h => by cases h), (fun h => by cases h), fun _ => rfl⟩
    have hf1 : 0 ≤ fu - 1 := by omega
    by_cases h1 : 0 ≤ (prD l st D).2
    · rw [vs_bad h h1]
      exact VisG.learn ⟨[], by simp⟩ (by omega) hl (fun k a b => by omega) ⟨hf1, by omega⟩ hi.1 (rup_bad hi.1 hl h1)
    by_cases h2 : freeV (prD l st D).1 = 0
    · rw [vs_sat h h1 h2]
      have hq := prD_ok (l := l) (st := st) (D := D)
      refine ⟨⟨[], by simp⟩, hs, hl, fun k a b => by dsimp only at b; omega, ⟨hf1, by dsimp only; omega⟩, .inr (.inl rfl), fun _ => ⟨by dsimp only; rw [qq0]; exact qjv hq, ?_⟩, (fun h => by cases h), fun q => absurd rfl q⟩
      have h5 := fixA_sat hq hl (prD_fix hl h1) (freeV_all h2)
      unfold satV at h5 ⊢
      rw [List.all_append, Bool.and_eq_true] at h5
      exact h5.1
    obtain ⟨ha, i1, i2⟩ := inv_next hi hl h1 h2
    have g1 := visit_good (l := l) (n := n) (st := st) (fu := fu - 1) (D := D ++ [(freeV (prD l st D).1 : Int)]) hl hs hf1 i1
    by_cases h3 : (vis1 l n st fu D).2.2.1 ≠ 2
    · rw [vs_one h h1 h2 h3]
      exact g1.weak ⟨[], by simp⟩ (fun k a b => by omega) (by omega) h3
    have p1 : ∃ x, (vis1 l n st fu D).1 = st ++ x := g1.pre
    have hsub : ∀ c ∈ st, c ∈ (vis1 l n st fu D).1 := fun c hc => by obtain ⟨x, hx⟩ := p1; rw [hx]; simp [hc]
    have g2 := visit_good (l := l) (n := n) (st := (vis1 l n st fu D).1) (fu := (vis1 l n st fu D).2.1) (D := D ++ [-(freeV (prD l st D).1 : Int)]) g1.ok g1.len g1.fuel.1 (inv_more i2 hsub)
    by_cases h4 : (vis2 l n st fu D).2.2.1 ≠ 2
    · rw [vs_two h h1 h2 h3 h4]
      exact g2.weak p1 g1.rup (by have h9 : (vis1 l n st fu D).2.1 ≤ fu - 1 := g1.fuel.2; omega) h4
    have p2 : ∃ x, (vis2 l n st fu D).1 = st ++ x := by
      obtain ⟨x, hx⟩ := p1
      obtain ⟨y, hy⟩ := g2.pre
      exact ⟨x ++ y, by rw [show (vis2 l n st fu D).1 = (vis1 l n st fu D).1 ++ y from hy, hx, List.append_assoc]⟩
    have r2 : ∀ k, st.length ≤ k → k < (vis2 l n st fu D).1.length → rupV (l ++ (vis2 l n st fu D).1.take k) ((vis2 l n st fu D).1.getD k default) = true := fun k a b => by
      by_cases e : k < (vis1 l n st fu D).1.length
      · have h6 := g1.rup k a e
        obtain ⟨y, hy⟩ := g2.pre
        rw [show (vis2 l n st fu D).1 = (vis1 l n st fu D).1 ++ y from hy, List.take_append_of_le_length (by omega), List.getD_eq_getElem?_getD, List.getElem?_append_left e, ← List.getD_eq_getElem?_getD]
        exact h6
      · exact g2.rup k (by omega) b
    have f2 : 0 ≤ (vis2 l n st fu D).2.1 ∧ (vis2 l n st fu D).2.1 ≤ fu := ⟨g2.fuel.1, by have h9 : (vis1 l n st fu D).2.1 ≤ fu - 1 := g1.fuel.2; have h8 : (vis2 l n st fu D).2.1 ≤ (vis1 l n st fu D).2.1 := g2.fuel.2; omega⟩
    by_cases h5 : 1000 ≤ (vis2 l n st fu D).1.length
    · rw [vs_full h h1 h2 h3 h4 h5]
      exact ⟨p2, g2.len, g2.ok, r2, f2, .inl rfl, (fun h => by cases h), (fun h => by cases h), fun _ => rfl⟩
    · rw [qz8 h h1 h2 h3 h4 h5]
      refine VisG.learn p2 (by omega) g2.ok r2 f2 hi.1 (rup_both ha g2.ok ?_ ?_)
      · have h6 := g1.uns (Classical.not_not.1 h3)
        obtain ⟨y, hy⟩ := g2.pre
        refine List.mem_append_right _ ?_
        rw [show (vis2 l n st fu D).1 = (vis1 l n st fu D).1 ++ y from hy]
        exact List.mem_append_left _ h6
      · exact List.mem_append_right _ (g2.uns (Classical.not_not.1 h4))
def svOk (l : List Con) (fu : Int) : Bool := pOk l && decide (0 ≤ fu ∧ fu ≤ 2000)
abbrev svR (l : List Con) (fu : Int) : List Con × Int × Int × List Bool := visit l 13 [] fu []
def svC (l : List Con) (fu : Int) : Int := if svOk l fu then (svR l fu).2.2.1 else 3
def svV (l : List Con) (fu : Int) : List Bool := if svOk l fu then (svR l fu).2.2.2 else []
def svS (l : List Con) (fu : Int) : List Con := if svC l fu = 2 then (svR l fu).1 else []
theorem sv_bad {l : List Con} {fu : Int} (h : svOk l fu = false) : svC l fu = 3 ∧ svV l fu = [] ∧ svS l fu = [] := by
  have hn : ¬ svOk l fu = true := by rw [h]; decide
  have hc : svC l fu = 3 := by unfold svC; rw [if_neg hn]
  exact ⟨hc, by unfold svV; rw [if_neg hn], by unfold svS; rw [hc]; rfl⟩
theorem sv_ok {l : List Con} {fu : Int} (h : svOk l fu = true) : svC l fu = (svR l fu).2.2.1 ∧ svV l fu = (svR l fu).2.2.2 := ⟨by unfold svC; rw [if_pos h], by unfold svV; rw [if_pos h]⟩
theorem svOk_parts {l : List Con} {fu : Int} (h : svOk l fu = true) : pOk l = true ∧ 0 ≤ fu ∧ fu ≤ 2000 := by
  unfold svOk at h; rw [Bool.and_eq_true, decide_eq_true_eq] at h; exact ⟨h.1, h.2⟩
theorem sv_good {l : List Con} {fu : Int} (h : svOk l fu = true) : VisG l [] fu [] (svR l fu) := by
  obtain ⟨h1, h2, _⟩ := svOk_parts h
  exact visit_good (by rw [List.append_nil]; exact pOk_all h1) (by simp) h2 inv_nil
end Go.Ab
/- Models, told in plain lists. -/
set_option linter.unusedSimpArgs false
set_option linter.unusedVariables false
namespace Go.Ab
abbrev Rl := Int × List Int × List Int × Int × List (List Int)
abbrev Md := List Int × List Rl
def dL (x : List Int) : List V := [.sl (x.map dI)]
def dR (r : Rl) : List V := [.p (.int .i64 r.1), .sl (r.2.1.map dI), .sl (r.2.2.1.map dI), .p (.int .i64 r.2.2.2.1), .sl (r.2.2.2.2.map dL)]
def dD (x : List Bool) : List V := [.sl (x.map dB)]
def vsN (n : Int) (vs : List Int) (k : Nat) : Bool := (List.range k).all (fun i => decide (0 ≤ vs.getD i default ∧ vs.getD i default < n) && !decide (vs.getD i default ∈ vs.take i))
def linOk (r : Rl) : Bool := decide (r.2.2.1.length = r.2.1.length) && (decide (-1000 ≤ r.2.2.2.1 ∧ r.2.2.2.1 ≤ 1000) && r.2.2.1.all (fun a => decide (a ≠ 0 ∧ -9 ≤ a ∧ a ≤ 9)))
def rowOk (r : Rl) (x : List Int) : Bool := decide (x.length = r.2.1.length) && x.all (fun a => decide (0 ≤ a ∧ a ≤ 3))
def tabOk (r : Rl) : Bool := decide (r.2.2.2.2.length ≤ 8) && r.2.2.2.2.all (rowOk r)
def rHead (r : Rl) : Prop := r.2.1.length ≠ 0 ∧ (r.1 ≠ 1 → r.2.2.1.length = 0 ∧ r.2.2.2.1 = 0) ∧ (r.1 ≠ 3 → r.2.2.2.2.length = 0)
instance (r : Rl) : Decidable (rHead r) := by unfold rHead; exact inferInstance
def rTail (r : Rl) : Bool := if r.1 = 1 then linOk r else if r.1 = 3 then tabOk r else if r.1 = 4 then decide (r.2.1.length = 2) else decide (r.1 = 2)
def rOk (n : Int) (r : Rl) : Bool := vsN n r.2.1 r.2.1.length && (decide (rHead r) && rTail r)
def szSum (xs : List Int) : Int := xs.foldl (fun a s => a + (s + 1)) 0
def szsOk (xs : List Int) : Bool := decide (1 ≤ xs.length ∧ xs.length ≤ 5) && (xs.all (fun s => decide (0 ≤ s ∧ s ≤ 3)) && decide (szSum xs ≤ 12))
def mOk (m : Md) : Bool := szsOk m.1 && (decide (m.2.length ≤ 8) && m.2.all (rOk m.1.length))
def fdL (b : Bool) (xs : List Int) : List (List Bool) := xs.map (fun s => List.replicate (s + 1).toNat b)
def fullD (m : Md) : List (List Bool) := if mOk m then fdL true m.1 else []
end Go.Ab
/- Rules and models, in the form in which walks use them. -/
set_option linter.unusedSimpArgs false
set_option linter.unusedVariables false
namespace Go.Ab
theorem any_mem {α : Type} [DecidableEq α] {l : List α} {v : α} : l.any (fun a => decide (v = a)) = decide (v ∈ l) := by
  rw [Bool.eq_iff_iff, List.any_eq_true, decide_eq_true_eq]
  constructor
  · rintro ⟨a, h, e⟩; rw [decide_eq_true_eq] at e; rw [e]; exact h
  · intro h; exact ⟨v, h, decide_eq_true rfl⟩
end Go.Ab
/- Sums over lists, lists that are being changed in place. -/
set_option linter.unusedSimpArgs false
set_option linter.unusedVariables false
namespace Go.Ab
def sumW {α : Type} (w : α → Nat) (l : List α) : Nat := (l.map w).sum
instance decRl : DecidableEq Rl := inferInstanceAs (DecidableEq (Int × List Int × List Int × Int × List (List Int)))
instance decMd : DecidableEq Md := @instDecidableEqProd (List Int) (List Rl) inferInstance (@instDecidableEqList Rl decRl)
theorem sumW_take {α : Type} {w : α → Nat} {d : α} {l : List α} {k : Nat} (h : k < l.length) : sumW w (l.take (k + 1)) = sumW w (l.take k) + w (l.getD k d) := by
  unfold sumW
  rw [qjt (d := d) h]; simp
theorem sumW_app {α : Type} {w : α → Nat} {a b : List α} : sumW w (a ++ b) = sumW w a + sumW w b := by simp [sumW]
theorem sumW_le {α : Type} {w : α → Nat} {l : List α} {k : Nat} : sumW w (l.take k) ≤ sumW w l := by
  have := sumW_app (w := w) (a := l.take k) (b := l.drop k)
  rw [List.take_append_drop] at this; omega
def wLL (xs : List (List Int)) : Nat := xs.length + sumW List.length xs
def wR (r : Rl) : Nat := r.2.1.length + r.2.2.1.length + wLL r.2.2.2.2
def wRS (l : List Rl) : Nat := l.length + sumW wR l
def wM (m : Md) : Nat := m.1.length + wRS m.2
def cR (r : Rl) : Nat := 2 + r.2.1.length + r.2.2.1.length + sumW List.length r.2.2.2.2
def marksLB : Nat → List (List Bool) → List (List Bool)
  | _, [] => []
  | k, x :: r => marksB k x.length :: marksLB (k + x.length) r
theorem qjr : ∀ {k : Nat} {l : List (List Bool)}, (marksLB k l).length = l.length
  | _, [] => rfl
  | k, x :: r => by rw [marksLB, List.length_cons, qjr, List.length_cons]
theorem marksLB_at : ∀ {k i : Nat} {l : List (List Bool)}, i < l.length → (marksLB k l).getD i default = marksB (k + sumW List.length (l.take i)) (l.getD i default).length
  | k, i, [], h => by simp at h
  | k, 0, x :: r, h => by simp [marksLB, sumW]
  | k, i + 1, x :: r, h => by
    have := marksLB_at (k := k + x.length) (i := i) (l := r) (by simpa using h)
    simp only [marksLB, List.take_succ_cons, List.getD_cons_succ]
    rw [this]; congr 1; simp only [sumW, List.map_cons, List.sum_cons]; omega
end Go.Ab
namespace Go.Ab
end Go.Ab
namespace Go.Ab
theorem lenW_le {α : Type} {l : List (List α)} : True := trivial
end Go.Ab
/- The sizes of full domains. -/
namespace Go.Ab
theorem flatten_one {α β : Type} {f : α → β} : ∀ {l : List α} {j : Nat} {v : β}, (l.map (fun a => [f a])).flatten[j]? = some v → ∃ a, a ∈ l ∧ v = f a
  | [], j, v, h => by simp at h
  | a :: l, 0, v, h => by simp at h; exact ⟨a, by simp, h.symm⟩
  | a :: l, j + 1, v, h => by
    obtain ⟨b, hb, h2⟩ := flatten_one (l := l) (j := j) (v := v) (by simpa using h)
    exact ⟨b, by simp [hb], h2⟩
theorem plD_bools {e : Nat} {l : List Bool} : PlD 1 (.mk e 1 []) (l.map dB) := by
  intro j v hj
  obtain ⟨a, _, h⟩ := flatten_one (f := fun b : Bool => V.p (.bool b)) hj
  show plV v = true
  rw [h]; rfl
theorem plD_rowsB {e e2 : Nat} {l : List (List Bool)} : PlD 2 (.mk e 1 [(0, .mk e2 1 [])]) (l.map dD) := by
  intro j v hj
  obtain ⟨a, _, h⟩ := flatten_one (f := fun x : List Bool => V.sl (x.map dB)) hj
  show match (DTy.mk e 1 [(0, .mk e2 1 [])]).sub (j % 1) with | none => plV v = true | some t' => ∀ es', v = .sl es' → PlD 1 t' es'
  rw [Nat.mod_one, h]
  intro es' he
  obtain rfl := V.sl.inj he
  exact plD_bools
end Go.Ab

/- Variables replaced by values. -/
import Derived.Test.YtdnkggifpoknoaaProb
set_option linter.unusedSimpArgs false
set_option linter.unusedVariables false
namespace Go.Ab
/-- 1 if a literal is true, -1 if it is false, 0 if it has no value. -/
def stV (p : List Int) (l : Int) : Int := if l < 0 then -(p.getD (-l - 1).toNat default) else p.getD (l - 1).toNat default
def paOk (p : List Int) : Bool := decide (p.length = 12) && p.all (fun a => decide (-1 ≤ a ∧ a ≤ 1))
theorem paOk_len {p : List Int} (h : paOk p = true) : p.length = 12 := by unfold paOk at h; simp only [Bool.and_eq_true, decide_eq_true_eq] at h; exact h.1
theorem paOk_at {p : List Int} (h : paOk p = true) (k : Nat) : -1 ≤ p.getD k default ∧ p.getD k default ≤ 1 := by
  unfold paOk at h
  simp only [Bool.and_eq_true, decide_eq_true_eq] at h
  by_cases hk : k < p.length
  · have := List.all_eq_true.1 h.2 _ (getD_mem (d := default) hk)
    exact of_decide_eq_true this
  · have e : p.getD k default = 0 := by simp [List.getElem?_eq_none (show p.length ≤ k by omega)]
    rw [e]; omega
theorem stV_rng {p : List Int} (h : paOk p = true) (l : Int) : -1 ≤ stV p l ∧ stV p l ≤ 1 := by
  unfold stV
  have h1 := paOk_at h (-l - 1).toNat
  have h2 := paOk_at h (l - 1).toNat
  split <;> omega
def fixT (p : List Int) (ts : List Term) : List Term := ts.filter (fun t => decide (stV p t.2 = 0))
def fixB (p : List Int) (ts : List Term) (b : Int) : Int := ts.foldl (fun s t => if stV p t.2 = 1 then max 0 (s - t.1) else s) b
def fixS (p : List Int) (ts : List Term) (b : Int) : Int := ts.foldl (fun s t => if stV p t.2 = 1 then s - t.1 else s) b
def fixC (p : List Int) (c : Con) : Con := (fixT p c.1, fixB p c.1 c.2)
theorem fixT_next {p : List Int} {ts : List Term} {k : Nat} (h : k < ts.length) : fixT p (ts.take (k + 1)) = fixT p (ts.take k) ++ (if stV p (ts.getD k default).2 = 0 then [ts.getD k default] else []) := by
  unfold fixT
  rw [take_succD (d := default) h, List.filter_append]
  congr 1
  by_cases e : stV p (ts.getD k default).2 = 0
  · rw [if_pos e, List.filter_cons_of_pos (by rw [decide_eq_true_eq]; exact e)]; rfl
  · rw [if_neg e, List.filter_cons_of_neg (by rw [decide_eq_true_eq]; exact e)]; rfl
theorem fixB_next {p : List Int} {b : Int} {ts : List Term} {k : Nat} (h : k < ts.length) : fixB p (ts.take (k + 1)) b = if stV p (ts.getD k default).2 = 1 then max 0 (fixB p (ts.take k) b - (ts.getD k default).1) else fixB p (ts.take k) b := by
  unfold fixB
  rw [take_succD (d := default) h, List.foldl_append]; rfl
theorem fixB_rng {p : List Int} : ∀ {ts : List Term} {b : Int}, (∀ t ∈ ts, 1 ≤ t.1 ∧ t.1 ≤ 1000) → 0 ≤ b → 0 ≤ fixB p ts b ∧ fixB p ts b ≤ b
  | [], b, _, hb => ⟨hb, Int.le_refl _⟩
  | t :: r, b, h, hb => by
    have h1 := h t (by simp)
    show 0 ≤ fixB p r (if stV p t.2 = 1 then max 0 (b - t.1) else b) ∧ fixB p r (if stV p t.2 = 1 then max 0 (b - t.1) else b) ≤ b
    split
    · have := fixB_rng (p := p) (ts := r) (b := max 0 (b - t.1)) (fun t ht => h t (by simp [ht])) (by omega); omega
    · exact fixB_rng (fun t ht => h t (by simp [ht])) hb
/-- The true literals' coefficients. -/
def trueS (p : List Int) (ts : List Term) : Int := ts.foldl (fun s t => s + (if stV p t.2 = 1 then t.1 else 0)) 0
theorem trueS_cons {p : List Int} {t : Term} {r : List Term} : trueS p (t :: r) = (if stV p t.2 = 1 then t.1 else 0) + trueS p r := by
  unfold trueS
  rw [List.foldl_cons, foldl_add]; omega
theorem trueS_pos {p : List Int} : ∀ {ts : List Term}, (∀ t ∈ ts, 1 ≤ t.1 ∧ t.1 ≤ 1000) → 0 ≤ trueS p ts
  | [], _ => Int.le_refl _
  | t :: r, h => by
    have h1 := h t (by simp)
    have := trueS_pos (p := p) (ts := r) (fun t ht => h t (by simp [ht]))
    rw [trueS_cons]; split <;> omega
theorem fixB_eq {p : List Int} : ∀ {ts : List Term} {b : Int}, (∀ t ∈ ts, 1 ≤ t.1 ∧ t.1 ≤ 1000) → 0 ≤ b → fixB p ts b = max 0 (b - trueS p ts)
  | [], b, _, hb => by
    have e1 : fixB p [] b = b := rfl
    have e2 : trueS p [] = 0 := rfl
    rw [e1, e2]; omega
  | t :: r, b, h, hb => by
    have h1 := h t (by simp)
    have h2 : ∀ t ∈ r, 1 ≤ t.1 ∧ t.1 ≤ 1000 := fun t ht => h t (by simp [ht])
    have h3 := trueS_pos (p := p) h2
    show fixB p r (if stV p t.2 = 1 then max 0 (b - t.1) else b) = _
    rw [trueS_cons]
    split
    · rw [fixB_eq h2 (by omega)]; omega
    · rw [fixB_eq h2 hb]; omega
theorem okFrom_filter {f : Term → Bool} : ∀ {ts : List Term} {p : Int}, okFrom p ts = true → okFrom p (ts.filter f) = true
  | [], _, _ => rfl
  | t :: r, p, h => by
    by_cases hv : litOk t.2 = true ∧ p < varOf t.2 ∧ 1 ≤ t.1 ∧ t.1 ≤ 1000
    · rw [okFrom_good hv.1 hv.2.1 hv.2.2.1 hv.2.2.2] at h
      have ih := okFrom_filter (f := f) h
      cases hf : f t
      · rw [List.filter_cons_of_neg (by rw [hf]; decide)]
        have mono : ∀ {l : List Term} {a b : Int}, a ≤ b → okFrom b l = true → okFrom a l = true := by
          intro l a b hab hl
          cases l with
          | nil => rfl
          | cons u s =>
            by_cases hu : litOk u.2 = true ∧ b < varOf u.2 ∧ 1 ≤ u.1 ∧ u.1 ≤ 1000
            · rw [okFrom_good hu.1 hu.2.1 hu.2.2.1 hu.2.2.2] at hl
              rw [okFrom_good hu.1 (by omega) hu.2.2.1 hu.2.2.2]; exact hl
            · rw [okFrom_bad hu] at hl; cases hl
        exact mono (by omega) ih
      · rw [List.filter_cons_of_pos hf, okFrom_good hv.1 hv.2.1 hv.2.2.1 hv.2.2.2]; exact ih
    · rw [okFrom_bad hv] at h; cases h
theorem cOk_ok {c : Con} (h : cOk c = true) : okFrom 0 c.1 = true := by unfold cOk at h; simp at h; exact h.1
theorem cOk_mk {ts : List Term} {b : Int} (h : okFrom 0 ts = true) (h1 : 0 ≤ b) (h2 : b ≤ 20000) : cOk (ts, b) = true := by
  unfold cOk; rw [Bool.and_eq_true]; exact ⟨h, decide_eq_true (by dsimp only; omega)⟩
theorem fix_ok {p : List Int} {c : Con} (h : cOk c = true) : cOk (fixC p c) = true := by
  have h1 := cOk_bound h
  have h2 := fixB_rng (p := p) (cOk_coefs h) h1.1
  exact cOk_mk (okFrom_filter (cOk_ok h)) h2.1 (by omega)
def fpOk (l : List Con) (p : List Int) : Bool := pOk l && paOk p
def fpL (l : List Con) (p : List Int) : List Con := if fpOk l p then l.map (fixC p) else []
def justV (lit : Int) : List Int := (List.replicate 12 (0 : Int)).set (varOf lit - 1).toNat (if lit < 0 then -1 else 1)
theorem just_len {lit : Int} : (justV lit).length = 12 := by simp [justV]
theorem just_at {lit : Int} {k : Nat} : (justV lit).getD k default = if k = (varOf lit - 1).toNat ∧ k < 12 then (if lit < 0 then -1 else 1) else 0 := by
  unfold justV
  generalize (varOf lit - 1).toNat = n
  generalize (if lit < 0 then (-1 : Int) else 1) = v
  rw [List.getD_eq_getElem?_getD, List.getElem?_set, List.getElem?_replicate, List.length_replicate]
  by_cases e : n = k
  · subst e
    by_cases h : n < 12
    · rw [if_pos rfl, if_pos h, if_pos ⟨rfl, h⟩]; rfl
    · rw [if_pos rfl, if_neg h, if_neg (fun q => h q.2)]; rfl
  · rw [if_neg e, if_neg (show ¬ (k = n ∧ k < 12) from fun q => e q.1.symm)]
    by_cases h : k < 12
    · rw [if_pos h]; rfl
    · rw [if_neg h]; rfl
theorem just_ok {lit : Int} : paOk (justV lit) = true := by
  unfold paOk
  rw [just_len, Bool.and_eq_true]
  refine ⟨rfl, List.all_eq_true.2 fun a ha => ?_⟩
  obtain ⟨k, hk, rfl⟩ := List.mem_iff_getElem.1 ha
  have := just_at (lit := lit) (k := k)
  have e : (justV lit).getD k default = (justV lit)[k] := by simp [hk]
  rw [e] at this
  rw [this]
  split
  · split <;> decide
  · decide
theorem stV_just {lit l : Int} (h : litOk lit = true) (hl : litOk l = true) : stV (justV lit) l = if l = lit then 1 else if l = -lit then -1 else 0 := by
  have h1 := litOk_iff.1 h
  have h2 := litOk_iff.1 hl
  unfold stV
  rw [just_at, just_at]
  unfold varOf
  by_cases hp : l < 0
  · rw [if_pos hp]
    by_cases e1 : l = lit
    · subst e1
      rw [if_pos (by omega), if_pos hp, if_pos rfl]; rfl
    · rw [if_neg e1]
      by_cases e2 : l = -lit
      · rw [if_pos e2, if_pos (by omega), if_neg (by omega)]
      · rw [if_neg e2, if_neg (by omega)]; rfl
  · rw [if_neg hp]
    by_cases e1 : l = lit
    · subst e1
      rw [if_pos (by omega), if_neg hp, if_pos rfl]
    · rw [if_neg e1]
      by_cases e2 : l = -lit
      · rw [if_pos e2, if_pos (by omega), if_pos (by omega)]
      · rw [if_neg e2, if_neg (by omega)]
def flOk (l : List Con) (lit : Int) : Bool := pOk l && litOk lit
def flL (l : List Con) (lit : Int) : List Con := if flOk l lit then l.map (fixC (justV lit)) else []
theorem flOk_of {l : List Con} {lit : Int} (h : pOk l = true) (h2 : litOk lit = true) : flOk l lit = true := by unfold flOk; rw [h, h2]; rfl
theorem flOk_no {l : List Con} {lit : Int} (h : pOk l = false ∨ litOk lit = false) : flOk l lit = false := by
  unfold flOk
  rcases h with h | h
  · rw [h]; rfl
  · rw [h, Bool.and_false]
theorem pOk_map {f : Con → Con} {l : List Con} (h : pOk l = true) (hf : ∀ c, cOk c = true → cOk (f c) = true) : pOk (l.map f) = true := by
  have h1 := pOk_len h
  have h2 := pOk_all h
  unfold pOk
  rw [List.length_map, decide_eq_true h1, Bool.true_and]
  apply List.all_eq_true.2
  intro c hc
  obtain ⟨d, hd, rfl⟩ := List.mem_map.1 hc
  exact hf d (List.all_eq_true.1 h2 d hd)
theorem fl_ok {l : List Con} {lit : Int} (h : pOk l = true) : pOk (l.map (fixC (justV lit))) = true := pOk_map h (fun _ h => fix_ok h)
/-! ### Fixing commutes -/
theorem flL_ok {l : List Con} {lit : Int} (h : flOk l lit = true) : flL l lit = l.map (fixC (justV lit)) := by unfold flL; rw [if_pos h]
theorem flL_bad {l : List Con} {lit : Int} (h : flOk l lit = false) : flL l lit = [] := by unfold flL; rw [if_neg (by rw [h]; decide)]
end Go.Ab
namespace Go.Ab
theorem fixT_len {p : List Int} {ts : List Term} : (fixT p ts).length ≤ ts.length := List.length_filter_le ..
theorem fixT_take {p : List Int} {ts : List Term} {k : Nat} : (fixT p (ts.take k)).length ≤ k := by
  have := fixT_len (p := p) (ts := ts.take k)
  rw [List.length_take] at this; omega
end Go.Ab
namespace Go.Ab
theorem flOk_parts {l : List Con} {a : Int} (h : flOk l a = true) : pOk l = true ∧ litOk a = true := by
  unfold flOk at h; simpa only [Bool.and_eq_true] using h
theorem flL_pOk {l : List Con} {a : Int} (h : flOk l a = true) : pOk (flL l a) = true := by
  rw [flL_ok h]; exact fl_ok (flOk_parts h).1
end Go.Ab

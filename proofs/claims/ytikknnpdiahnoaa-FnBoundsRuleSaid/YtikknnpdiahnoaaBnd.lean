/- Bounds of linear rules. -/
import Derived.Test.YtikknnpdiahnoaaFf
set_option linter.unusedSimpArgs false
set_option linter.unusedVariables false
namespace Go.Ab
/-- The greatest product of a coefficient and one of the first values of a domain. -/
def bstN (a : Int) (row : List Bool) : Nat → Int × Bool
  | 0 => (0, false)
  | k + 1 => if row.getD k default = true ∧ ((bstN a row k).2 = false ∨ (bstN a row k).1 < a * k) then (a * k, true) else bstN a row k
theorem bst_yes {a : Int} {row : List Bool} {k : Nat} (h : row.getD k default = true) (h2 : (bstN a row k).2 = false ∨ (bstN a row k).1 < a * k) : bstN a row (k + 1) = (a * k, true) := by rw [bstN, if_pos ⟨h, h2⟩]
theorem bst_no {a : Int} {row : List Bool} {k : Nat} (h : row.getD k default = false ∨ ((bstN a row k).2 = true ∧ ¬ (bstN a row k).1 < a * k)) : bstN a row (k + 1) = bstN a row k := by
  rw [bstN, if_neg]
  rintro ⟨q1, q2⟩
  rcases h with h | ⟨h, h3⟩
  · rw [h] at q1; cases q1
  · rcases q2 with q | q
    · rw [h] at q; cases q
    · exact h3 q
theorem bst_spec {a : Int} {row : List Bool} : ∀ {k : Nat}, ((bstN a row k).2 = true → ∃ v, v < k ∧ row.getD v default = true ∧ (bstN a row k).1 = a * v) ∧ ((bstN a row k).2 = false → (bstN a row k).1 = 0) ∧ (∀ v, v < k → row.getD v default = true → (bstN a row k).2 = true ∧ a * v ≤ (bstN a row k).1)
  | 0 => ⟨(fun h => by cases h), (fun _ => rfl), fun v h => absurd h (Nat.not_lt_zero _)⟩
  | k + 1 => by
    obtain ⟨i1, i2, i3⟩ := bst_spec (a := a) (row := row) (k := k)
    by_cases h : row.getD k default = true ∧ ((bstN a row k).2 = false ∨ (bstN a row k).1 < a * k)
    · rw [bst_yes h.1 h.2]
      refine ⟨fun _ => ⟨k, by omega, h.1, rfl⟩, (fun q => by cases q), fun v hv hr => ⟨rfl, ?_⟩⟩
      by_cases e : v = k
      · subst e; exact Int.le_refl _
      · obtain ⟨j1, j2⟩ := i3 v (by omega) hr
        rcases h.2 with q | q
        · rw [j1] at q; cases q
        · show a * v ≤ a * k; omega
    · have hn : bstN a row (k + 1) = bstN a row k := by rw [bstN, if_neg h]
      rw [hn]
      refine ⟨fun q => ?_, i2, fun v hv hr => ?_⟩
      · obtain ⟨v, q1, q2⟩ := i1 q; exact ⟨v, by omega, q2⟩
      · by_cases e : v = k
        · subst e
          have h2 : (bstN a row v).2 = true ∧ ¬ (bstN a row v).1 < a * v := by
            refine ⟨?_, fun q => h ⟨hr, .inr q⟩⟩
            cases q : (bstN a row v).2
            · exact absurd ⟨hr, .inl q⟩ h
            · rfl
          exact ⟨h2.1, by omega⟩
        · exact i3 v (by omega) hr
theorem mulR {a : Int} {v n : Nat} (ha : -9 ≤ a ∧ a ≤ 9) (hv : v < n) (hn : n ≤ 4) : -27 ≤ a * v ∧ a * v ≤ 27 := by
  have : v = 0 ∨ v = 1 ∨ v = 2 ∨ v = 3 := by omega
  rcases this with rfl | rfl | rfl | rfl <;> omega
theorem bst_rng {a : Int} {row : List Bool} {k : Nat} (ha : -9 ≤ a ∧ a ≤ 9) (hk : k ≤ 4) : -27 ≤ (bstN a row k).1 ∧ (bstN a row k).1 ≤ 27 := by
  obtain ⟨i1, i2, _⟩ := bst_spec (a := a) (row := row) (k := k)
  cases h : (bstN a row k).2
  · rw [i2 h]; omega
  · obtain ⟨v, h1, _, h2⟩ := i1 h
    rw [h2]; exact mulR ha h1 hk
abbrev vrN (r : Rl) (i : Nat) : Nat := (r.2.1.getD i default).toNat
abbrev cfN (r : Rl) (i : Nat) : Int := r.2.2.1.getD i default
def bstR (r : Rl) (d : List (List Bool)) (i : Nat) : Int := (bstN (cfN r i) (d.getD (vrN r i) default) (d.getD (vrN r i) default).length).1
def sumR (f : Nat → Int) : Nat → Int
  | 0 => 0
  | n + 1 => sumR f n + f n
abbrev totR (r : Rl) (d : List (List Bool)) : Int := sumR (bstR r d) r.2.1.length
/-- A row, of which the first elements have been tested. -/
def brP (rest a b : Int) (row : List Bool) : Nat → List Bool
  | 0 => row
  | k + 1 => (brP rest a b row k).set k (row.getD k default && decide (b ≤ rest + a * k))
theorem brP_len {rest a b : Int} {row : List Bool} : ∀ {k : Nat}, (brP rest a b row k).length = row.length
  | 0 => rfl
  | k + 1 => by rw [brP, List.length_set, brP_len]
theorem brP_at {rest a b : Int} {row : List Bool} {v : Nat} : ∀ {k : Nat}, k ≤ row.length → (brP rest a b row k).getD v default = if v < k then (row.getD v default && decide (b ≤ rest + a * v)) else row.getD v default
  | 0, _ => by rw [if_neg (Nat.not_lt_zero _)]; rfl
  | k + 1, h => by
    have ih := brP_at (rest := rest) (a := a) (b := b) (row := row) (v := v) (k := k) (by omega)
    by_cases e : v = k
    · subst e
      rw [brP, if_pos (by omega), List.getD_eq_getElem?_getD, List.getElem?_set_self (by rw [brP_len]; omega)]; rfl
    · rw [brP, getD_setne e, ih]
      by_cases q : v < k
      · rw [if_pos q, if_pos (by omega)]
      · rw [if_neg q, if_neg (by omega)]
def brD (r : Rl) (d : List (List Bool)) : Nat → List (List Bool)
  | 0 => d
  | i + 1 => (brD r d i).set (vrN r i) (brP (totR r d - bstR r d i) (cfN r i) r.2.2.2.1 (d.getD (vrN r i) default) (d.getD (vrN r i) default).length)
theorem brD_len {r : Rl} {d : List (List Bool)} : ∀ {i : Nat}, (brD r d i).length = d.length
  | 0 => rfl
  | i + 1 => by rw [brD, List.length_set, brD_len]
theorem set_row {α : Type} [Inhabited α] {l : List α} {i j : Nat} {a : α} (hi : i < l.length) : (l.set i a).getD j default = if j = i then a else l.getD j default := by
  by_cases e : j = i
  · subst e; rw [if_pos rfl, List.getD_eq_getElem?_getD, List.getElem?_set_self hi]; rfl
  · rw [if_neg e, getD_setne e]
theorem vs_ne {n : Int} {r : Rl} (h : rOk n r = true) {i j : Nat} (hi : i < r.2.1.length) (hj : j < i) : vrN r j ≠ vrN r i := by
  have h1 := rng_at (rOk_parts h).1 hi
  simp only [Bool.and_eq_true, decide_eq_true_eq, Bool.not_eq_true', decide_eq_false_iff_not] at h1
  have h2 := rOk_vs h i hi
  have h3 := rOk_vs h j (by omega)
  intro e
  refine h1.2 ?_
  have : r.2.1.getD i default = r.2.1.getD j default := by unfold vrN at e; omega
  rw [this]; exact vs_in hi hj
theorem brD_row {n : Int} {r : Rl} {d : List (List Bool)} (h : rOk n r = true) (hd : (d.length : Int) = n) : ∀ {i : Nat} {j : Nat}, i ≤ r.2.1.length → (∀ k, k < i → vrN r k ≠ j) → (brD r d i).getD j default = d.getD j default
  | 0, j, _, _ => rfl
  | i + 1, j, hi, hk => by
    have h2 := rOk_vs h i (by omega)
    rw [brD, set_row (by rw [brD_len]; unfold vrN; omega), if_neg (fun e => hk i (by omega) e.symm), brD_row h hd (by omega) (fun k q => hk k (by omega))]
theorem brD_cel {n : Int} {r : Rl} {d : List (List Bool)} (h : rOk n r = true) (hd : (d.length : Int) = n) {j v : Nat} : ∀ {i : Nat}, i ≤ r.2.1.length →
    (cel (brD r d i) j v = true ↔ cel d j v = true ∧ ∀ k, k < i → vrN r k = j → r.2.2.2.1 ≤ totR r d - bstR r d k + cfN r k * v)
  | 0, _ => ⟨fun q => ⟨q, fun k hk => absurd hk (Nat.not_lt_zero _)⟩, fun q => q.1⟩
  | i + 1, hi => by
    have h2 := rOk_vs h i (by omega)
    have hil : vrN r i < d.length := by unfold vrN; omega
    by_cases e : vrN r i = j
    · have hc : cel (brD r d (i + 1)) j v = ((d.getD j default).getD v default && decide (v < (d.getD j default).length → r.2.2.2.1 ≤ totR r d - bstR r d i + cfN r i * v)) := by
        unfold cel
        rw [brD, set_row (by rw [brD_len]; exact hil), if_pos e.symm, brP_at (Nat.le_refl _), e]
        by_cases q : v < (d.getD j default).length
        · rw [if_pos q]; congr 1; exact decide_eq_decide.2 ⟨fun a _ => a, fun a => a q⟩
        · rw [if_neg q, decide_eq_true (fun a => absurd a q), Bool.and_true]
      rw [hc, Bool.and_eq_true, decide_eq_true_eq]
      constructor
      · rintro ⟨q1, q2⟩
        have hv : v < (d.getD j default).length := by
          refine Classical.not_not.1 fun a => ?_
          rw [List.getD_eq_getElem?_getD, List.getElem?_eq_none (by omega)] at q1; cases q1
        refine ⟨q1, fun k hk ek => ?_⟩
        by_cases a : k = i
        · subst a; exact q2 hv
        · exact absurd (ek.trans e.symm) (vs_ne h (by omega) (by omega))
      · rintro ⟨q1, q2⟩
        exact ⟨q1, fun _ => q2 i (by omega) e⟩
    · have hc : cel (brD r d (i + 1)) j v = cel (brD r d i) j v := by
        unfold cel
        rw [brD, set_row (by rw [brD_len]; exact hil), if_neg (fun q => e q.symm)]
      rw [hc, brD_cel h hd (by omega)]
      constructor
      · rintro ⟨q1, q2⟩
        refine ⟨q1, fun k hk ek => ?_⟩
        by_cases a : k = i
        · subst a; exact absurd ek e
        · exact q2 k (by omega) ek
      · rintro ⟨q1, q2⟩
        exact ⟨q1, fun k hk => q2 k (by omega)⟩
theorem brD_fits {n : Int} {sz : List Int} {r : Rl} {d : List (List Bool)} (h : rOk n r = true) (hs : (sz.length : Int) = n) (hd : fitsB sz d = true) : ∀ {i : Nat}, i ≤ r.2.1.length → fitsB sz (brD r d i) = true
  | 0, _ => hd
  | i + 1, hi => by
    have ih := brD_fits h hs hd (i := i) (by omega)
    obtain ⟨d1, d2⟩ := fits_at hd
    obtain ⟨e1, e2⟩ := fits_at ih
    have h2 := rOk_vs h i (by omega)
    have hil : vrN r i < (brD r d i).length := by unfold vrN; omega
    refine fits_yes (by rw [brD_len]; exact d1) (List.all_eq_true.2 fun k hk => decide_eq_true ?_)
    rw [List.mem_range, brD_len] at hk
    rw [brD, set_row hil]
    by_cases q : k = vrN r i
    · rw [if_pos q, brP_len, ← q]; exact d2 k hk
    · rw [if_neg q]; exact e2 k (by omega)
/-! ### Sums -/
theorem sumR_le {f g : Nat → Int} : ∀ {n : Nat}, (∀ j, j < n → f j ≤ g j) → sumR f n ≤ sumR g n
  | 0, _ => Int.le_refl _
  | n + 1, h => by have h1 := sumR_le (n := n) (fun j hj => h j (by omega)); have h2 := h n (by omega); simp only [sumR]; omega
theorem sumR_le1 {f g : Nat → Int} {k : Nat} : ∀ {n : Nat}, k < n → (∀ j, j < n → f j ≤ g j) → sumR f n ≤ sumR g n - g k + f k
  | n + 1, hk, h => by
    simp only [sumR]
    by_cases e : k = n
    · subst e; have := sumR_le (n := k) (fun j hj => h j (by omega)); omega
    · have h1 := sumR_le1 (k := k) (n := n) (by omega) (fun j hj => h j (by omega)); have h2 := h n (by omega); omega
theorem sumR_eq {f g : Nat → Int} : ∀ {n : Nat}, (∀ j, j < n → f j = g j) → sumR f n = sumR g n
  | 0, _ => rfl
  | n + 1, h => by simp only [sumR]; rw [sumR_eq (n := n) (fun j hj => h j (by omega)), h n (by omega)]
theorem sumR_eq1 {f g : Nat → Int} {k : Nat} : ∀ {n : Nat}, k < n → (∀ j, j < n → j ≠ k → f j = g j) → sumR f n = sumR g n - g k + f k
  | n + 1, hk, h => by
    simp only [sumR]
    by_cases e : k = n
    · subst e; rw [sumR_eq (n := k) (fun j hj => h j (by omega) (by omega))]; omega
    · have h1 := sumR_eq1 (k := k) (n := n) (by omega) (fun j hj => h j (by omega)); have h2 := h n (by omega) (fun q => e q.symm); omega
theorem sumR_rng {f : Nat → Int} {b : Int} : ∀ {n : Nat}, (∀ j, j < n → -b ≤ f j ∧ f j ≤ b) → -(b * n) ≤ sumR f n ∧ sumR f n ≤ b * n
  | 0, _ => by simp [sumR]
  | n + 1, h => by
    have h1 := sumR_rng (n := n) (fun j hj => h j (by omega)); have h2 := h n (by omega)
    simp only [sumR]
    have h3 : b * ((n + 1 : Nat) : Int) = b * n + b := by rw [Int.natCast_add, Int.mul_add]; simp
    rw [h3]; omega
theorem dot_sum {a x : List Int} : ∀ {n : Nat}, dotC a x n = sumR (fun i => a.getD i default * x.getD i default) n
  | 0 => rfl
  | n + 1 => by rw [dot_next, dot_sum, sumR]
/-! ### Bounds are exact -/
section
variable {m : Md} {r : Rl} {d : List (List Bool)}
theorem cell_rng (hd : fitsB m.1 d = true) {i v : Nat} (h : cel d i v = true) : i < d.length ∧ v < (d.getD i default).length := by
  unfold cel at h
  have h1 : v < (d.getD i default).length := by
    refine Classical.not_not.1 fun a => ?_
    rw [List.getD_eq_getElem?_getD, List.getElem?_eq_none (by omega)] at h; cases h
  refine ⟨Classical.not_not.1 fun a => ?_, h1⟩
  rw [List.getD_eq_getElem?_getD, List.getElem?_eq_none (by omega)] at h1
  exact absurd h1 (Nat.not_lt_zero _)
theorem bst_ge {j v : Nat} (h : cel d (vrN r j) v = true) (hd : fitsB m.1 d = true) : cfN r j * v ≤ bstR r d j :=
  ((bst_spec (a := cfN r j) (row := d.getD (vrN r j) default) (k := (d.getD (vrN r j) default).length)).2.2 v (cell_rng hd h).2 h).2
theorem dot_eq {c : List Int} (hk : r.2.2.1.length = r.2.1.length) : dotC r.2.2.1 (valsC r.2.1 c) (valsC r.2.1 c).length = sumR (fun j => cfN r j * c.getD (vrN r j) default) r.2.1.length := by
  rw [dot_sum, vals_len]
  refine sumR_eq fun j hj => ?_
  rw [vals_at hj]
theorem filt_br (hm : mOk m = true) (hr : rOk m.1.length r = true) (h1 : r.1 = 1) (hd : fitsB m.1 d = true) : leD (filtD m r d) (brD r d r.2.1.length) := by
  intro i v q
  obtain ⟨c, q1, q2, q3, rfl⟩ := (filt_cel hm).1 q
  obtain ⟨q4, q5⟩ := okC2_iff.1 q2
  have hl := rOk_lin hr h1
  obtain ⟨d1, d2⟩ := fits_at hd
  obtain ⟨c1, c2⟩ := cv_at q1
  rw [hold_1 h1, decide_eq_true_eq, dot_eq hl.1] at q5
  refine (brD_cel hr (by omega) (Nat.le_refl _)).2 ⟨inB_iff.1 q4 i q3, fun k hk e => ?_⟩
  have hb : ∀ j, j < r.2.1.length → cfN r j * c.getD (vrN r j) default ≤ bstR r d j := fun j hj => by
    have h2 := rOk_vs hr j hj
    have h3 := inB_iff.1 q4 (vrN r j) (by unfold vrN; omega)
    have h4 := bst_ge (r := r) (j := j) h3 hd
    have h5 := c2 (vrN r j) (by unfold vrN; omega)
    rw [Int.toNat_of_nonneg h5.1] at h4
    exact h4
  have h6 := sumR_le1 hk hb
  rw [e] at h6
  have h7 := c2 i q3
  rw [Int.toNat_of_nonneg h7.1]
  show _ ≤ sumR _ _ - _ + _
  omega
theorem br_filt (hm : mOk m = true) (hr : rOk m.1.length r = true) (h1 : r.1 = 1) (hd : fitsB m.1 d = true) (he : emB (brD r d r.2.1.length) = false) : leD (brD r d r.2.1.length) (filtD m r d) := by
  intro i0 v0 q
  have hl := rOk_lin hr h1
  have hh := (rOk_parts hr).2.1.1
  obtain ⟨d1, d2⟩ := fits_at hd
  obtain ⟨q1, q2⟩ := (brD_cel hr (by omega) (Nat.le_refl _)).1 q
  have hne := em_no.1 he
  -- the best value of each cell
  have hex : ∀ i : Nat, ∃ w : Nat, i < d.length → cel d i w = true ∧ ∀ j, j < r.2.1.length → vrN r j = i → cfN r j * w = bstR r d j := by
    intro i
    by_cases hi : i < d.length
    · obtain ⟨w, hw⟩ := hne i (by rw [brD_len]; exact hi)
      have hw := ((brD_cel hr (by omega) (Nat.le_refl _)).1 hw).1
      by_cases hj : ∃ j, j < r.2.1.length ∧ vrN r j = i
      · obtain ⟨j, hj, e⟩ := hj
        obtain ⟨i1, i2, i3⟩ := bst_spec (a := cfN r j) (row := d.getD i default) (k := (d.getD i default).length)
        obtain ⟨u, u1, u2, u3⟩ := i1 (i3 w (cell_rng hd hw).2 hw).1
        refine ⟨u, fun _ => ⟨u2, fun k hk e2 => ?_⟩⟩
        have hjk : k = j := by
          rcases Nat.lt_trichotomy k j with a | a | a
          · exact absurd (e2.trans e.symm) (vs_ne hr hj a)
          · exact a
          · exact absurd (e.trans e2.symm) (vs_ne hr hk a)
        subst hjk
        unfold bstR; rw [e]; exact u3.symm
      · exact ⟨w, fun _ => ⟨hw, fun j q1 q2 => absurd ⟨j, q1, q2⟩ hj⟩⟩
    · exact ⟨0, fun a => absurd a hi⟩
  obtain ⟨g, hg⟩ := Classical.axiomOfChoice hex
  have hi0 := (cell_rng hd q1).1
  let c : List Int := (List.range d.length).map (fun i => if i = i0 then (v0 : Int) else (g i : Int))
  have hcl : c.length = d.length := by simp [c]
  have hca : ∀ i, i < d.length → c.getD i default = if i = i0 then (v0 : Int) else (g i : Int) := fun i hi => by
    simp only [c]
    rw [List.getD_eq_getElem?_getD, List.getElem?_map, List.getElem?_range hi]; rfl
  have hcd : ∀ i, i < d.length → cel d i (c.getD i default).toNat = true ∧ 0 ≤ c.getD i default := fun i hi => by
    rw [hca i hi]
    by_cases e : i = i0
    · rw [if_pos e, Int.toNat_natCast, e]; exact ⟨q1, by omega⟩
    · rw [if_neg e, Int.toNat_natCast]; exact ⟨(hg i hi).1, by omega⟩
  have hcv : cvL m.1 c = true := by
    refine cv_yes (by omega) (List.all_eq_true.2 fun i hi => decide_eq_true ?_)
    rw [List.mem_range, hcl] at hi
    have h3 := hcd i hi
    have h4 := (cell_rng hd h3.1).2
    have h5 := d2 i hi
    omega
  refine (filt_cel hm).2 ⟨c, hcv, okC2_iff.2 ⟨inB_iff.2 fun i hi => (hcd i (by omega)).1, ?_⟩, by omega, by rw [hca i0 hi0, if_pos rfl]; rfl⟩
  rw [hold_1 h1, decide_eq_true_eq, dot_eq hl.1]
  have hvl : ∀ j, j < r.2.1.length → vrN r j < d.length := fun j hj => by have := rOk_vs hr j hj; unfold vrN; omega
  have hgj : ∀ j, j < r.2.1.length → vrN r j ≠ i0 → cfN r j * c.getD (vrN r j) default = bstR r d j := fun j hj e => by
    rw [hca _ (hvl j hj), if_neg e]; exact (hg _ (hvl j hj)).2 j hj rfl
  by_cases hj : ∃ j, j < r.2.1.length ∧ vrN r j = i0
  · obtain ⟨j, hj, e⟩ := hj
    have h6 := sumR_eq1 (f := fun j => cfN r j * c.getD (vrN r j) default) (g := bstR r d) hj (fun k hk hkj => hgj k hk (fun a => by
      rcases Nat.lt_trichotomy k j with b | b | b
      · exact vs_ne hr hj b (a.trans e.symm)
      · exact hkj b
      · exact vs_ne hr hk b (e.trans a.symm)))
    have h7 := q2 j hj e
    rw [h6]
    show _ ≤ sumR _ _ - _ + cfN r j * c.getD (vrN r j) default
    rw [e, hca i0 hi0, if_pos rfl]
    exact h7
  · have h6 := sumR_eq (f := fun j => cfN r j * c.getD (vrN r j) default) (g := bstR r d) (fun k hk => hgj k hk (fun a => hj ⟨k, hk, a⟩))
    rw [h6]
    obtain ⟨w, hw⟩ := hne (vrN r 0) (by rw [brD_len]; exact hvl 0 (by omega))
    obtain ⟨w1, w2⟩ := (brD_cel hr (by omega) (Nat.le_refl _)).1 hw
    have w3 := w2 0 (by omega) rfl
    have w4 := bst_ge (r := r) (j := 0) w1 hd
    show _ ≤ sumR _ _
    have w5 : totR r d = sumR (bstR r d) r.2.1.length := rfl
    omega
theorem br_le (hr : rOk m.1.length r = true) (hd : fitsB m.1 d = true) : leD (brD r d r.2.1.length) d := fun i v q => ((brD_cel hr (by have := (fits_at hd).1; omega) (Nat.le_refl _)).1 q).1
theorem br_eq (hm : mOk m = true) (hr : rOk m.1.length r = true) (h1 : r.1 = 1) (hd : fitsB m.1 d = true) (he : emB (brD r d r.2.1.length) = false) : brD r d r.2.1.length = filtD m r d :=
  leD_eq (brD_fits hr rfl hd (Nat.le_refl _)) (filt_fits hm) (br_filt hm hr h1 hd he) (filt_br hm hr h1 hd)
theorem em_mono {a b : List (List Bool)} (hl : a.length = b.length) (h : leD a b) (h2 : emB a = false) : emB b = false :=
  em_no.2 fun i hi => by obtain ⟨v, q⟩ := em_no.1 h2 i (by omega); exact ⟨v, h i v q⟩
theorem br_em (hm : mOk m = true) (hr : rOk m.1.length r = true) (h1 : r.1 = 1) (hd : fitsB m.1 d = true) : emB (brD r d r.2.1.length) = emB (filtD m r d) := by
  cases he : emB (brD r d r.2.1.length)
  · rw [← br_eq hm hr h1 hd he, he]
  · cases hf : emB (filtD m r d)
    · rw [em_mono (fits_len (filt_fits hm) (brD_fits hr rfl hd (Nat.le_refl _))).1 (filt_br hm hr h1 hd) hf] at he; cases he
    · rfl
end
def brOk (m : Md) (i : Int) (d : List (List Bool)) : Bool := dmB m d && (!emB d && (decide (0 ≤ i ∧ i < m.2.length) && decide ((m.2.getD i.toNat default).1 = 1)))
def bdD (m : Md) (i : Int) (d : List (List Bool)) : List (List Bool) := if brOk m i d then brD (m.2.getD i.toNat default) d (m.2.getD i.toNat default).2.1.length else []
theorem bd_bad {m : Md} {i : Int} {d : List (List Bool)} (h : brOk m i d = false) : bdD m i d = [] := by unfold bdD; rw [if_neg (by rw [h]; decide)]
theorem bd_ok {m : Md} {i : Int} {d : List (List Bool)} (h : brOk m i d = true) : bdD m i d = brD (m.2.getD i.toNat default) d (m.2.getD i.toNat default).2.1.length := by unfold bdD; rw [if_pos h]
theorem br_parts {m : Md} {i : Int} {d : List (List Bool)} (h : brOk m i d = true) : dmB m d = true ∧ emB d = false ∧ (0 ≤ i ∧ i < m.2.length) ∧ (m.2.getD i.toNat default).1 = 1 := by
  unfold brOk at h
  simp only [Bool.and_eq_true, Bool.not_eq_true', decide_eq_true_eq] at h
  exact ⟨h.1, h.2.1, h.2.2.1, h.2.2.2⟩
end Go.Ab

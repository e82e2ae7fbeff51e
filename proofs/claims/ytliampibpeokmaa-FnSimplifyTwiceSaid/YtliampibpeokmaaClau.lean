/- The clauses of a constraint. -/
import Derived.Test.YtliampibpeokmaaCov
set_option linter.unusedSimpArgs false
set_option linter.unusedVariables false
namespace Go.Ab
/-- The terms whose bits are set. -/
def selF : List Term → Nat → List Term
  | [], _ => []
  | t :: r, s => if s % 2 = 1 then t :: selF r (s / 2) else selF r (s / 2)
theorem selF_nil {ts : List Term} : ∀ {s : Nat}, s < 2 ^ ts.length → (selF ts s = [] ↔ s = 0) := by
  induction ts with
  | nil => intro s h; simp at h; simp [selF, h]
  | cons t r ih =>
    intro s h
    rw [List.length_cons, Nat.pow_succ] at h
    have := ih (s := s / 2) (by omega)
    rw [selF]
    by_cases e : s % 2 = 1
    · rw [if_pos e]; constructor
      · intro q; cases q
      · intro q; omega
    · rw [if_neg e, this]; omega
theorem testBit_succ' {s k : Nat} : s.testBit (k + 1) = (s / 2).testBit k := Nat.testBit_succ ..
theorem selF_next : ∀ {ts : List Term} {k : Nat} {s : Nat}, k < ts.length → selF (ts.take (k + 1)) s = selF (ts.take k) s ++ (if s.testBit k then [ts.getD k default] else [])
  | t :: r, 0, s, _ => by
    have e : s.testBit 0 = decide (s % 2 = 1) := Nat.testBit_zero ..
    rw [e]
    by_cases q : s % 2 = 1
    · simp [selF, q]
    · simp [selF, q]
  | t :: r, k + 1, s, h => by
    have ih := selF_next (ts := r) (k := k) (s := s / 2) (by simpa using h)
    rw [testBit_succ']
    simp only [List.take_succ_cons, selF, ih]
    have e : (t :: r).getD (k + 1) default = r.getD k default := rfl
    rw [e]
    split <;> rfl
theorem selF_len {ts : List Term} : ∀ {s : Nat}, (selF ts s).length ≤ ts.length := by
  induction ts with
  | nil => intro s; exact Nat.le_refl _
  | cons t r ih =>
    intro s
    rw [selF]
    have := ih (s := s / 2)
    split
    · simp; omega
    · simp; omega
theorem selF_mem {ts : List Term} : ∀ {s : Nat} {t : Term}, t ∈ selF ts s → t ∈ ts := by
  induction ts with
  | nil => intro s t h; cases h
  | cons u r ih =>
    intro s t h
    rw [selF] at h
    split at h
    · rcases List.mem_cons.1 h with rfl | h
      · simp
      · simp [ih h]
    · simp [ih h]
theorem okFrom_mono {l : List Term} {a b : Int} (hab : a ≤ b) (hl : okFrom b l = true) : okFrom a l = true := by
  cases l with
  | nil => rfl
  | cons u s =>
    by_cases hu : litOk u.2 = true ∧ b < varOf u.2 ∧ 1 ≤ u.1 ∧ u.1 ≤ 1000
    · rw [okFrom_good hu.1 hu.2.1 hu.2.2.1 hu.2.2.2] at hl
      rw [okFrom_good hu.1 (by omega) hu.2.2.1 hu.2.2.2]; exact hl
    · rw [okFrom_bad hu] at hl; cases hl
theorem okFrom_sel {ts : List Term} : ∀ {p : Int} {s : Nat}, okFrom p ts = true → okFrom p (selF ts s) = true := by
  induction ts with
  | nil => intro p s h; rfl
  | cons t r ih =>
    intro p s h
    by_cases hv : litOk t.2 = true ∧ p < varOf t.2 ∧ 1 ≤ t.1 ∧ t.1 ≤ 1000
    · rw [okFrom_good hv.1 hv.2.1 hv.2.2.1 hv.2.2.2] at h
      have i := ih (s := s / 2) h
      rw [selF]
      split
      · rw [okFrom_good hv.1 hv.2.1 hv.2.2.1 hv.2.2.2]; exact i
      · exact okFrom_mono (by omega) i
    · rw [okFrom_bad hv] at h; cases h
def oneT (t : Term) : Term := (1, t.2)
theorem okFrom_one : ∀ {ts : List Term} {p : Int}, okFrom p ts = true → okFrom p (ts.map oneT) = true
  | [], _, _ => rfl
  | t :: r, p, h => by
    by_cases hv : litOk t.2 = true ∧ p < varOf t.2 ∧ 1 ≤ t.1 ∧ t.1 ≤ 1000
    · rw [okFrom_good hv.1 hv.2.1 hv.2.2.1 hv.2.2.2] at h
      show okFrom p (oneT t :: r.map oneT) = true
      rw [okFrom_good (t := oneT t) hv.1 hv.2.1 (Int.le_refl 1) (show (1 : Int) ≤ 1000 by decide)]
      exact okFrom_one h
    · rw [okFrom_bad hv] at h; cases h
/-- The least coefficient, from a start. -/
def mnV (b : Int) (ts : List Term) : Int := ts.foldl (fun m t => min m t.1) b
theorem mnV_snoc {b : Int} {ts : List Term} {t : Term} : mnV b (ts ++ [t]) = min (mnV b ts) t.1 := by unfold mnV; rw [List.foldl_append]; rfl
theorem mnV_le {ts : List Term} : ∀ {b : Int}, mnV b ts ≤ b ∧ ∀ t ∈ ts, mnV b ts ≤ t.1 := by
  induction ts with
  | nil => intro b; exact ⟨Int.le_refl _, fun t ht => by cases ht⟩
  | cons u r ih =>
    intro b
    obtain ⟨h1, h2⟩ := ih (b := min b u.1)
    have e : mnV b (u :: r) = mnV (min b u.1) r := rfl
    rw [e]
    refine ⟨by omega, fun t ht => ?_⟩
    rcases List.mem_cons.1 ht with rfl | ht
    · omega
    · exact h2 t ht
theorem mnV_att {ts : List Term} : ∀ {b : Int}, mnV b ts = b ∨ ∃ t ∈ ts, mnV b ts = t.1 := by
  induction ts with
  | nil => intro b; exact .inl rfl
  | cons u r ih =>
    intro b
    have e : mnV b (u :: r) = mnV (min b u.1) r := rfl
    rw [e]
    rcases ih (b := min b u.1) with h | ⟨t, h1, h2⟩
    · by_cases q : b ≤ u.1
      · left; rw [h]; omega
      · right; exact ⟨u, by simp, by rw [h]; omega⟩
    · right; exact ⟨t, by simp [h1], h2⟩
theorem mnV_eq {ts : List Term} (h : ∀ t ∈ ts, t.1 ≤ 1000) (hn : ts ≠ []) : mnV 20000 ts = mnV 1000 ts := by
  obtain ⟨a1, a2⟩ := mnV_le (ts := ts) (b := 20000)
  obtain ⟨b1, b2⟩ := mnV_le (ts := ts) (b := 1000)
  have hx : ∃ t, t ∈ ts := by
    cases ts with
    | nil => exact absurd rfl hn
    | cons t r => exact ⟨t, by simp⟩
  obtain ⟨t, ht⟩ := hx
  have c1 := h t ht
  have c2 := a2 t ht
  have c3 := b2 t ht
  rcases mnV_att (ts := ts) (b := 20000) with q | ⟨u, u1, u2⟩
  · omega
  · rcases mnV_att (ts := ts) (b := 1000) with q | ⟨v, v1, v2⟩
    · have := h u u1; have := b2 u u1; omega
    · have := b2 u u1; have := a2 v v1; omega
def leftV (c : Con) (s : Nat) : Int := totV c.1 - totV (selF c.1 s)
def incV (c : Con) (s : Nat) : Bool := decide (leftV c s < c.2) && (decide (s = 0) || decide (c.2 ≤ leftV c s + mnV 20000 (selF c.1 s)))
def clC (c : Con) (s : Nat) : Con := ((selF c.1 s).map oneT, 1)
def clN (c : Con) : Nat → List Con
  | 0 => []
  | s + 1 => clN c s ++ (if incV c s then [clC c s] else [])
theorem clN_yes {c : Con} {s : Nat} (h : incV c s = true) : clN c (s + 1) = clN c s ++ [clC c s] := by rw [clN, if_pos h]
theorem clN_no {c : Con} {s : Nat} (h : incV c s = false) : clN c (s + 1) = clN c s := by rw [clN, if_neg (by rw [h]; decide), List.append_nil]
theorem clN_mono {c : Con} {s : Nat} : ∀ {m : Nat}, s ≤ m → (clN c s).length ≤ (clN c m).length
  | 0, h => by rw [show s = 0 by omega]; exact Nat.le_refl _
  | m + 1, h => by
    by_cases e : s = m + 1
    · subst e; exact Nat.le_refl _
    · have := clN_mono (c := c) (s := s) (m := m) (by omega)
      rw [clN, List.length_append]; omega
theorem clN_len {c : Con} : ∀ {s : Nat}, (clN c s).length ≤ s
  | 0 => Nat.le_refl _
  | s + 1 => by
    have := clN_len (c := c) (s := s)
    rw [clN, List.length_append]
    split <;> simp <;> omega
theorem clN_mem {c : Con} : ∀ {m : Nat} {d : Con}, d ∈ clN c m ↔ ∃ s, s < m ∧ incV c s = true ∧ clC c s = d
  | 0, d => by simp [clN]
  | m + 1, d => by
    have ih := clN_mem (c := c) (m := m) (d := d)
    rw [clN, List.mem_append, ih]
    constructor
    · rintro (⟨s, h1, h2⟩ | h)
      · exact ⟨s, by omega, h2⟩
      · split at h
        · rename_i q; simp at h; exact ⟨m, by omega, q, h.symm⟩
        · cases h
    · rintro ⟨s, h1, h2, h3⟩
      by_cases e : s = m
      · subst e; right; rw [if_pos h2]; simp [h3]
      · left; exact ⟨s, by omega, h2, h3⟩
def clA (c : Con) : List Con := clN c (2 ^ c.1.length)
def clB (c : Con) : Bool := cOk c && decide ((clA c).length ≤ 400)
def clL (c : Con) : List Con := if clB c then clA c else []
theorem clL_ok {c : Con} (h : clB c = true) : clL c = clA c := by unfold clL; rw [if_pos h]
theorem clL_bad {c : Con} (h : clB c = false) : clL c = [] := by unfold clL; rw [if_neg (by rw [h]; decide)]
theorem clB_of {c : Con} (h : cOk c = true) (h2 : (clA c).length ≤ 400) : clB c = true := by unfold clB; rw [h, decide_eq_true h2]; rfl
theorem clB_no {c : Con} (h : cOk c = false ∨ ¬ (clA c).length ≤ 400) : clB c = false := by
  unfold clB
  rcases h with h | h
  · rw [h]; rfl
  · rw [decide_eq_false h, Bool.and_false]
theorem clB_parts {c : Con} (h : clB c = true) : cOk c = true ∧ (clA c).length ≤ 400 := by
  unfold clB at h; simpa only [Bool.and_eq_true, decide_eq_true_eq] using h
/-! ### Values against the clauses -/
theorem sel_low {bs : List Bool} {ts : List Term} (hc : ∀ t ∈ ts, 1 ≤ t.1 ∧ t.1 ≤ 1000) : ∀ {s : Nat}, (∀ t ∈ selF ts s, litV bs t.2 = false) → sumV ts bs ≤ totV ts - totV (selF ts s) := by
  induction ts with
  | nil => intro s _; simp [sumV, totV, selF]
  | cons t r ih =>
    intro s h
    have h1 := hc t (by simp)
    have e : term bs t = if litV bs t.2 then t.1 else 0 := rfl
    rw [sumV_cons, totV_cons]
    rw [selF] at h ⊢
    split at h
    · rename_i q
      have i := ih (fun t ht => hc t (by simp [ht])) (s := s / 2) (fun t ht => h t (by simp [ht]))
      have := h t (by simp)
      rw [if_pos q, totV_cons]
      rw [this] at e
      simp at e
      omega
    · rename_i q
      have i := ih (fun t ht => hc t (by simp [ht])) (s := s / 2) h
      rw [if_neg q]
      rw [e]; split <;> omega
theorem clause_holds {ts : List Term} {bs : List Bool} (hc : ∀ t ∈ ts, 1 ≤ t.1) : holdsV (ts.map oneT, 1) bs = ts.any (fun t => litV bs t.2) := by
  have key : ∀ ts : List Term, 0 ≤ sumV (ts.map oneT) bs ∧ (1 ≤ sumV (ts.map oneT) bs ↔ ts.any (fun t => litV bs t.2) = true) := by
    intro ts
    induction ts with
    | nil => simp [sumV]
    | cons t r ih =>
      obtain ⟨i1, i2⟩ := ih
      rw [List.map_cons, sumV_cons, List.any_cons]
      have e : term bs (oneT t) = if litV bs t.2 then 1 else 0 := rfl
      rw [e]
      cases litV bs t.2
      · simp only [Bool.false_eq_true, if_false, Bool.false_or]; rw [← i2]; omega
      · simp only [if_true, Bool.true_or]; exact ⟨by omega, fun _ => trivial, fun _ => by omega⟩
  obtain ⟨k1, k2⟩ := key ts
  unfold holdsV
  cases q : ts.any (fun t => litV bs t.2)
  · rw [q] at k2; exact decide_eq_false (fun h => by cases k2.1 h)
  · rw [q] at k2; exact decide_eq_true (k2.2 rfl)
/-- Every set of bits is a number. -/
theorem bits_of (p : Nat → Bool) : ∀ n, ∃ s, s < 2 ^ n ∧ ∀ i, i < n → s.testBit i = p i
  | 0 => ⟨0, by decide, fun i h => by omega⟩
  | n + 1 => by
    obtain ⟨s, h1, h2⟩ := bits_of p n
    rw [Nat.pow_succ]
    cases q : p n
    · refine ⟨s, by omega, fun i hi => ?_⟩
      by_cases e : i = n
      · subst e; rw [q]; exact Nat.testBit_lt_two_pow h1
      · exact h2 i (by omega)
    · refine ⟨2 ^ n + s, by omega, fun i hi => ?_⟩
      by_cases e : i = n
      · subst e; rw [q, Nat.testBit_two_pow_add_eq, Nat.testBit_lt_two_pow h1]; rfl
      · rw [Nat.testBit_two_pow_add_gt (by omega)]; exact h2 i (by omega)
theorem sel_bits {ts : List Term} : ∀ {s : Nat} {t : Term}, t ∈ selF ts s → ∃ i, i < ts.length ∧ s.testBit i = true ∧ ts.getD i default = t := by
  induction ts with
  | nil => intro s t h; cases h
  | cons u r ih =>
    intro s t h
    rw [selF] at h
    split at h
    · rename_i q
      rcases List.mem_cons.1 h with rfl | h
      · exact ⟨0, by simp, by rw [Nat.testBit_zero]; simp [q], rfl⟩
      · obtain ⟨i, i1, i2, i3⟩ := ih h
        exact ⟨i + 1, by simp; omega, by rw [testBit_succ']; exact i2, i3⟩
    · obtain ⟨i, i1, i2, i3⟩ := ih h
      exact ⟨i + 1, by simp; omega, by rw [testBit_succ']; exact i2, i3⟩
/-- One bit less. -/
theorem sel_drop {ts : List Term} : ∀ {s : Nat} {t : Term}, t ∈ selF ts s → ∃ s', s' < s ∧ totV (selF ts s') = totV (selF ts s) - t.1 ∧ ∀ u ∈ selF ts s', u ∈ selF ts s := by
  induction ts with
  | nil => intro s t h; cases h
  | cons u r ih =>
    intro s t h
    rw [selF] at h
    split at h
    · rename_i q
      rcases List.mem_cons.1 h with rfl | h
      · refine ⟨s - 1, by omega, ?_, fun v hv => ?_⟩
        · rw [selF, selF, if_pos q, if_neg (by omega), totV_cons, show (s - 1) / 2 = s / 2 by omega]; omega
        · rw [selF, if_neg (by omega), show (s - 1) / 2 = s / 2 by omega] at hv
          rw [selF, if_pos q]; simp [hv]
      · obtain ⟨s', h1, h2, h3⟩ := ih h
        refine ⟨2 * s' + 1, by omega, ?_, fun v hv => ?_⟩
        · rw [selF, selF, if_pos q, if_pos (by omega), totV_cons, totV_cons, show (2 * s' + 1) / 2 = s' by omega, h2]; omega
        · rw [selF, if_pos (by omega), show (2 * s' + 1) / 2 = s' by omega] at hv
          rw [selF, if_pos q]
          rcases List.mem_cons.1 hv with rfl | hv
          · simp
          · simp [h3 v hv]
    · rename_i q
      obtain ⟨s', h1, h2, h3⟩ := ih h
      refine ⟨2 * s', by omega, ?_, fun v hv => ?_⟩
      · rw [selF, selF, if_neg q, if_neg (by omega), show 2 * s' / 2 = s' by omega, h2]
      · rw [selF, if_neg (by omega), show 2 * s' / 2 = s' by omega] at hv
        rw [selF, if_neg q]; exact h3 v hv
theorem inc_below {c : Con} (hc : cOk c = true) : ∀ m s, s ≤ m → s < 2 ^ c.1.length → leftV c s < c.2 → ∃ s', s' < 2 ^ c.1.length ∧ incV c s' = true ∧ ∀ t ∈ selF c.1 s', t ∈ selF c.1 s := by
  intro m
  induction m with
  | zero =>
    intro s h1 h2 h3
    refine ⟨s, h2, ?_, fun t ht => ht⟩
    unfold incV
    rw [decide_eq_true h3, decide_eq_true (show s = 0 by omega)]; rfl
  | succ m ih =>
    intro s h1 h2 h3
    cases q : incV c s
    · unfold incV at q
      rw [decide_eq_true h3, Bool.true_and, Bool.or_eq_false_iff, decide_eq_false_iff_not, decide_eq_false_iff_not] at q
      obtain ⟨q1, q2⟩ := q
      have hne : selF c.1 s ≠ [] := fun e => q1 ((selF_nil h2).1 e)
      have hx : ∃ t ∈ selF c.1 s, mnV 20000 (selF c.1 s) = t.1 := by
        rcases mnV_att (ts := selF c.1 s) (b := 20000) with e | e
        · exfalso
          cases e2 : selF c.1 s with
          | nil => exact hne e2
          | cons t r =>
            have h5 := (mnV_le (ts := selF c.1 s) (b := 20000)).2 t (by rw [e2]; simp)
            have h6 := cOk_coefs hc t (selF_mem (s := s) (by rw [e2]; simp))
            omega
        · exact e
      obtain ⟨t, t1, t2⟩ := hx
      obtain ⟨s', e1, e2, e3⟩ := sel_drop t1
      obtain ⟨s2, f1, f2, f3⟩ := ih s' (by omega) (by omega) (by unfold leftV at *; rw [e2]; omega)
      exact ⟨s2, f1, f2, fun u hu => e3 u (f3 u hu)⟩
    · exact ⟨s, h2, q, fun t ht => ht⟩
theorem cl_sat {c : Con} (hc : cOk c = true) (bs : List Bool) : satV (clA c) bs = holdsV c bs := by
  have hcf := cOk_coefs hc
  unfold satV
  apply Bool.eq_iff_iff.2
  rw [List.all_eq_true]
  constructor
  · intro h
    cases q : holdsV c bs
    · exfalso
      have q1 : ¬ c.2 ≤ sumV c.1 bs := of_decide_eq_false q
      obtain ⟨s, s1, s2⟩ := bits_of (fun i => !litV bs (c.1.getD i default).2) c.1.length
      -- the false literals' sum
      have key : ∀ ts : List Term, ∀ s : Nat, (∀ i, i < ts.length → s.testBit i = !litV bs (ts.getD i default).2) → sumV ts bs = totV ts - totV (selF ts s) ∧ ∀ t ∈ selF ts s, litV bs t.2 = false := by
        intro ts
        induction ts with
        | nil => intro s _; exact ⟨by simp [sumV, totV, selF], fun t ht => by cases ht⟩
        | cons t r ih =>
          intro s hb
          have h0 := hb 0 (by simp)
          rw [Nat.testBit_zero] at h0
          have h0' : decide (s % 2 = 1) = !litV bs t.2 := h0
          obtain ⟨i1, i2⟩ := ih (s / 2) (fun i hi => by have := hb (i + 1) (by simp; omega); rw [testBit_succ'] at this; exact this)
          have e : term bs t = if litV bs t.2 then t.1 else 0 := rfl
          rw [sumV_cons, totV_cons, selF, e]
          cases ql : litV bs t.2
          · rw [ql] at h0'
            rw [if_pos (of_decide_eq_true h0'), totV_cons]
            refine ⟨by simp; omega, fun u hu => ?_⟩
            rcases List.mem_cons.1 hu with rfl | hu
            · exact ql
            · exact i2 u hu
          · rw [ql] at h0'
            rw [if_neg (of_decide_eq_false h0')]
            exact ⟨by simp; omega, i2⟩
      obtain ⟨k1, k2⟩ := key c.1 s s2
      obtain ⟨s', f1, f2, f3⟩ := inc_below hc s s (Nat.le_refl _) s1 (by unfold leftV; omega)
      have h2 := h (clC c s') (clN_mem.2 ⟨s', f1, f2, rfl⟩)
      unfold clC at h2
      rw [clause_holds (fun t ht => (hcf t (selF_mem ht)).1)] at h2
      obtain ⟨t, t1, t2⟩ := List.any_eq_true.1 h2
      rw [k2 t (f3 t t1)] at t2; cases t2
    · rfl
  · intro h d hd
    obtain ⟨s, s1, s2, rfl⟩ := clN_mem.1 hd
    unfold clC
    rw [clause_holds (fun t ht => (hcf t (selF_mem ht)).1)]
    cases q : (selF c.1 s).any (fun t => litV bs t.2)
    · exfalso
      have h3 : ∀ t ∈ selF c.1 s, litV bs t.2 = false := fun t ht => by
        cases e : litV bs t.2
        · rfl
        · have : (selF c.1 s).any (fun t => litV bs t.2) = true := List.any_eq_true.2 ⟨t, ht, e⟩
          rw [q] at this; cases this
      have h4 := sel_low hcf h3
      have h5 := of_decide_eq_true h
      unfold incV leftV at s2
      simp only [Bool.and_eq_true, decide_eq_true_eq] at s2
      omega
    · rfl
theorem cl_ok {c : Con} (h : clB c = true) : pOk (clA c) = true := by
  obtain ⟨h1, h2⟩ := clB_parts h
  unfold pOk
  rw [decide_eq_true h2, Bool.true_and]
  apply List.all_eq_true.2
  intro d hd
  obtain ⟨s, _, _, rfl⟩ := clN_mem.1 hd
  exact cOk_mk (okFrom_one (okFrom_sel (cOk_ok h1))) (by decide) (by decide)
theorem cl_cs {c : Con} (h : clB c = true) : csV (clA c) = csV [c] := by
  have h1 := (clB_parts h).1
  rw [csV_one]
  unfold csV ccV
  rw [if_pos (cl_ok h), if_pos h1]
  have : cntS (clA c) 4096 = cntH c 4096 := by unfold cntS cntH; congr 1; funext n; exact cl_sat h1 _
  rw [this]
theorem cl_sa {c : Con} (h : clB c = true) {bs : List Bool} (hb : bs.length = 12) : saV (clA c) bs = evV c bs := by
  have h1 := (clB_parts h).1
  unfold saV evV
  rw [cl_ok h, h1, hb, cl_sat h1]
end Go.Ab
namespace Go.Ab
/-! ### A clause out of its literals -/
def oneL (l : Int) : Term := (1, l)
def seenG : List Int → Int → Int
  | [], _ => 0
  | l :: r, v => if varOf l = v then l else seenG r v
theorem seen_0 {v : Int} : ∀ {ls : List Int}, (∀ l ∈ ls, varOf l ≠ v) → seenG ls v = 0
  | [], _ => rfl
  | l :: r, h => by rw [seenG, if_neg (h l (by simp)), seen_0 (fun l hl => h l (by simp [hl]))]
theorem seen_app {v x : Int} : ∀ {ls : List Int}, (∀ l ∈ ls, varOf l ≠ varOf x) → seenG (ls ++ [x]) v = if v = varOf x then x else seenG ls v
  | [], _ => by
    show (if varOf x = v then x else 0) = _
    by_cases e : varOf x = v
    · rw [if_pos e, if_pos e.symm]
    · rw [if_neg e, if_neg (Ne.symm e)]; rfl
  | l :: r, h => by
    have ih := seen_app (v := v) (x := x) (ls := r) (fun l hl => h l (by simp [hl]))
    have h0 := h l (by simp)
    rw [List.cons_append, seenG, ih, seenG]
    by_cases e : varOf l = v
    · rw [if_pos e, if_pos e, if_neg (by omega)]
    · rw [if_neg e, if_neg e]
theorem lit_apart {ls : List Int} (h : okFrom 0 (ls.map oneL) = true) {k : Nat} (hk : k < ls.length) : ∀ l ∈ ls.take k, varOf l ≠ varOf (ls.getD k default) := by
  intro l hl
  have := okFrom_take_ne h (k := k) (by simpa using hk) (oneL l) (by rw [← List.map_take]; exact List.mem_map.2 ⟨l, hl, rfl⟩)
  have e : ((ls.map oneL).getD k default).2 = ls.getD k default := by
    have := mapD_at (f := oneL) (l := ls) (i := k) hk
    rw [this]; rfl
  rw [e] at this
  exact this
theorem lit_ok {ls : List Int} (h : okFrom 0 (ls.map oneL) = true) {k : Nat} (hk : k < ls.length) : litOk (ls.getD k default) = true := by
  have := (okFrom_all h (oneL (ls.getD k default)) (List.mem_map.2 ⟨_, getD_mem hk, rfl⟩)).1
  exact this
theorem lits_len {ls : List Int} (h : okFrom 0 (ls.map oneL) = true) : ls.length ≤ 12 := by
  have := okFrom_len h
  rw [List.length_map] at this; omega
def rowS (ls : List Int) : List Int := (List.range 13).map (fun (v : Nat) => seenG ls (v : Int))
theorem rowS_len {ls : List Int} : (rowS ls).length = 13 := by simp [rowS]
theorem rowS_at {ls : List Int} {v : Nat} (h : v < 13) : (rowS ls).getD v default = seenG ls (v : Int) := by
  unfold rowS
  rw [List.getD_eq_getElem?_getD, List.getElem?_map, List.getElem?_range h]; rfl
theorem rowS_nil : (rowS []).map dI = List.replicate 13 [V.p (.int .i64 0)] := rfl
theorem rowS_set {ls : List Int} (h : okFrom 0 (ls.map oneL) = true) {k : Nat} (hk : k < ls.length) : ((rowS (ls.take k)).map dI).set (varOf (ls.getD k default)).toNat (dI (ls.getD k default)) = (rowS (ls.take (k + 1))).map dI := by
  have hl := litOk_iff.1 (lit_ok h hk)
  have hv : varOf (ls.getD k default) = max (ls.getD k default) (-(ls.getD k default)) := rfl
  rw [← List.map_set, take_succD (d := default) hk]
  congr 1
  unfold rowS
  have e : ∀ v : Nat, seenG (ls.take k ++ [ls.getD k default]) (v : Int) = if v = (varOf (ls.getD k default)).toNat then ls.getD k default else seenG (ls.take k) (v : Int) := by
    intro v
    rw [seen_app (lit_apart h hk)]
    by_cases q : v = (varOf (ls.getD k default)).toNat
    · rw [if_pos q, if_pos (by omega)]
    · rw [if_neg q, if_neg (by omega)]
  have := map_range_set (f := fun v : Nat => seenG (ls.take k) (v : Int)) (g := fun v : Nat => seenG (ls.take k ++ [ls.getD k default]) (v : Int)) (n := 13) (k := (varOf (ls.getD k default)).toNat) (fun j _ => by
    rw [e j, e (varOf (ls.getD k default)).toNat, if_pos rfl])
  rw [e, if_pos rfl] at this
  exact this
def filtN (ls : List Int) (v : Int) : List Int := ls.filter (fun l => decide (varOf l ≤ v))
theorem filt_gt {ls : List Int} {p v : Int} (h : okFrom p (ls.map oneL) = true) (hv : v ≤ p) : filtN ls v = [] := by
  unfold filtN
  rw [List.filter_eq_nil_iff]
  intro l hl q
  have := okFrom_gt h (oneL l) (List.mem_map.2 ⟨l, hl, rfl⟩)
  have e : (oneL l).2 = l := rfl
  rw [e] at this
  have := of_decide_eq_true q
  omega
theorem filt_next {v : Int} : ∀ {ls : List Int} {p : Int}, okFrom p (ls.map oneL) = true → filtN ls (v + 1) = filtN ls v ++ (if seenG ls (v + 1) ≠ 0 then [seenG ls (v + 1)] else [])
  | [], _, _ => rfl
  | l :: r, p, h => by
    by_cases hv : litOk l = true ∧ p < varOf l
    · have h' : okFrom (varOf l) (r.map oneL) = true := by
        have := okFrom_good (p := p) (t := oneL l) (r := r.map oneL) hv.1 hv.2 (Int.le_refl 1) (show (1 : Int) ≤ 1000 by decide)
        rw [show (l :: r).map oneL = oneL l :: r.map oneL from rfl, this] at h
        exact h
      have hl0 : l ≠ 0 := (litOk_iff.1 hv.1).1
      by_cases e : varOf l = v + 1
      · have e1 : filtN (l :: r) (v + 1) = l :: filtN r (v + 1) := List.filter_cons_of_pos (by rw [decide_eq_true_eq]; omega)
        have e2 : filtN (l :: r) v = filtN r v := List.filter_cons_of_neg (by rw [decide_eq_true_eq]; omega)
        rw [e1, e2, filt_gt h' (by omega), filt_gt h' (by omega), seenG, if_pos e, if_pos hl0]; rfl
      · have ih := filt_next (v := v) h'
        rw [seenG, if_neg e]
        by_cases q : varOf l ≤ v
        · have e1 : filtN (l :: r) (v + 1) = l :: filtN r (v + 1) := List.filter_cons_of_pos (by rw [decide_eq_true_eq]; omega)
          have e2 : filtN (l :: r) v = l :: filtN r v := List.filter_cons_of_pos (by rw [decide_eq_true_eq]; omega)
          rw [e1, e2, ih]; rfl
        · have e1 : filtN (l :: r) (v + 1) = filtN r (v + 1) := List.filter_cons_of_neg (by rw [decide_eq_true_eq]; omega)
          have e2 : filtN (l :: r) v = filtN r v := List.filter_cons_of_neg (by rw [decide_eq_true_eq]; omega)
          rw [e1, e2, ih]
    · exfalso
      rw [show (l :: r).map oneL = oneL l :: r.map oneL from rfl, okFrom_bad (t := oneL l) (fun q => hv ⟨q.1, q.2.1⟩)] at h
      cases h
theorem filt_all {ls : List Int} (h : okFrom 0 (ls.map oneL) = true) : filtN ls 12 = ls := by
  unfold filtN
  rw [List.filter_eq_self]
  intro l hl
  have := litOk_iff.1 (okFrom_all h (oneL l) (List.mem_map.2 ⟨l, hl, rfl⟩)).1
  have e : (oneL l).2 = l := rfl
  rw [e] at this
  apply decide_eq_true
  unfold varOf; omega
theorem sel_lits {ts : List Term} {s : Nat} : ((selF ts s).map (·.2)).map oneL = (selF ts s).map oneT := by rw [List.map_map]; rfl
theorem sel_tot_rng {c : Con} (h : cOk c = true) {k s : Nat} : 0 ≤ totV (selF (c.1.take k) s) ∧ totV (selF (c.1.take k) s) ≤ 12000 := by
  have h1 := totV_bounds (ts := selF (c.1.take k) s) (fun t ht => cOk_coefs h t (List.mem_of_mem_take (selF_mem ht)))
  have h2 := selF_len (ts := c.1.take k) (s := s)
  have h3 := cOk_len h
  rw [List.length_take] at h2
  omega
theorem totV_snoc {ts : List Term} {t : Term} : totV (ts ++ [t]) = totV ts + t.1 := by unfold totV; rw [List.foldl_append]; rfl
theorem pow12 {c : Con} (h : cOk c = true) : 2 ^ c.1.length ≤ 4096 := Nat.le_trans (Nat.pow_le_pow_right (by decide) (cOk_len h)) (by decide)
theorem sel_y {ts : List Term} {k s : Nat} (hk : k < ts.length) (h : ((s / 2 ^ k % 2 : Nat) : Int) = 1) : selF (ts.take (k + 1)) s = selF (ts.take k) s ++ [ts.getD k default] := by
  rw [selF_next hk, bit_div, if_pos]
  exact decide_eq_true (by omega)
theorem sel_n {ts : List Term} {k s : Nat} (hk : k < ts.length) (h : ((s / 2 ^ k % 2 : Nat) : Int) ≠ 1) : selF (ts.take (k + 1)) s = selF (ts.take k) s := by
  rw [selF_next hk, bit_div, if_neg, List.append_nil]
  rw [decide_eq_true_eq]; omega
theorem mnV_rng {c : Con} (h : cOk c = true) {k s : Nat} {b : Int} (hb : 1 ≤ b) : 1 ≤ mnV b (selF (c.1.take k) s) ∧ mnV b (selF (c.1.take k) s) ≤ b := by
  refine ⟨?_, (mnV_le).1⟩
  rcases mnV_att (ts := selF (c.1.take k) s) (b := b) with e | ⟨t, t1, t2⟩
  · omega
  · have := cOk_coefs h t (List.mem_of_mem_take (selF_mem t1)); omega
end Go.Ab

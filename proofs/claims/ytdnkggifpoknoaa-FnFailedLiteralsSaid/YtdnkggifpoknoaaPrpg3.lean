/- Propagation, told plainly. -/
import Derived.Test.YtdnkggifpoknoaaClau
set_option linter.unusedSimpArgs false
set_option linter.unusedVariables false
namespace Go.Ab
def slF (p : List Int) (ts : List Term) (b : Int) : Int := ts.foldl (fun s t => if 0 ≤ stV p t.2 then s + t.1 else s) b
def slV (c : Con) (p : List Int) : Int := slF p c.1 (-c.2)
theorem slF_next {p : List Int} {b : Int} {ts : List Term} {k : Nat} (h : k < ts.length) : slF p (ts.take (k + 1)) b = if 0 ≤ stV p (ts.getD k default).2 then slF p (ts.take k) b + (ts.getD k default).1 else slF p (ts.take k) b := by
  unfold slF
  rw [take_succD (d := default) h, List.foldl_append]; rfl
theorem slF_rng {p : List Int} : ∀ {ts : List Term} {b : Int}, (∀ t ∈ ts, 1 ≤ t.1 ∧ t.1 ≤ 1000) → b ≤ slF p ts b ∧ slF p ts b ≤ b + 1000 * ts.length
  | [], b, _ => by simp [slF]
  | t :: r, b, h => by
    have ht := h t (by simp)
    have ih := slF_rng (p := p) (ts := r) (b := if 0 ≤ stV p t.2 then b + t.1 else b) (fun t ht => h t (by simp [ht]))
    have e : slF p (t :: r) b = slF p r (if 0 ≤ stV p t.2 then b + t.1 else b) := rfl
    rw [e, List.length_cons]
    by_cases h0 : 0 ≤ stV p t.2
    · rw [if_pos h0] at ih ⊢; omega
    · rw [if_neg h0] at ih ⊢; omega
theorem slF_take {c : Con} (hc : cOk c = true) (p : List Int) (k : Nat) : -20000 ≤ slF p (c.1.take k) (-c.2) ∧ slF p (c.1.take k) (-c.2) ≤ 12000 := by
  have h1 := cOk_bound hc
  have h2 := cOk_len hc
  have h3 := slF_rng (p := p) (b := -c.2) (ts := c.1.take k) (fun t ht => cOk_coefs hc t (List.mem_of_mem_take ht))
  have h4 : (c.1.take k).length ≤ c.1.length := by rw [List.length_take]; omega
  omega
def impF (p : List Int) (s : Int) (ts : List Term) : List Int := (ts.filter (fun t => decide (stV p t.2 = 0 ∧ s < t.1))).map (·.2)
def impC (c : Con) (p : List Int) : List Int := impF p (slV c p) c.1
theorem impF_yes {p : List Int} {s : Int} {ts : List Term} {k : Nat} (h : k < ts.length) (hc : stV p (ts.getD k default).2 = 0 ∧ s < (ts.getD k default).1) : impF p s (ts.take (k + 1)) = impF p s (ts.take k) ++ [(ts.getD k default).2] := by
  unfold impF
  rw [take_succD (d := default) h, List.filter_append, List.filter_cons_of_pos (by rw [decide_eq_true_eq]; exact hc)]; simp
theorem impF_no {p : List Int} {s : Int} {ts : List Term} {k : Nat} (h : k < ts.length) (hc : ¬ (stV p (ts.getD k default).2 = 0 ∧ s < (ts.getD k default).1)) : impF p s (ts.take (k + 1)) = impF p s (ts.take k) := by
  unfold impF
  rw [take_succD (d := default) h, List.filter_append, List.filter_cons_of_neg (by rw [decide_eq_true_eq]; exact hc)]; simp
theorem impF_len {p : List Int} {s : Int} {ts : List Term} : (impF p s ts).length ≤ ts.length := by
  unfold impF; rw [List.length_map]; exact List.length_filter_le ..
theorem impF_take {p : List Int} {s : Int} {ts : List Term} {k : Nat} : (impF p s (ts.take k)).length ≤ k := by
  have := impF_len (p := p) (s := s) (ts := ts.take k)
  rw [List.length_take] at this; omega
theorem impC_len {c : Con} (hc : cOk c = true) {p : List Int} : (impC c p).length ≤ 12 := by
  have := impF_len (p := p) (s := slV c p) (ts := c.1)
  have := cOk_len hc
  unfold impC; omega
theorem impC_mem {c : Con} {p : List Int} {m : Int} (h : m ∈ impC c p) : ∃ t ∈ c.1, t.2 = m ∧ stV p m = 0 ∧ slV c p < t.1 := by
  unfold impC impF at h
  obtain ⟨t, ht, rfl⟩ := List.mem_map.1 h
  rw [List.mem_filter, decide_eq_true_eq] at ht
  exact ⟨t, ht.1, rfl, ht.2⟩
theorem impC_lit {c : Con} (hc : cOk c = true) {p : List Int} {m : Int} (h : m ∈ impC c p) : litOk m = true := by
  obtain ⟨t, ht, rfl, _⟩ := impC_mem h
  exact (okFrom_all (cOk_ok hc) t ht).1
theorem impC_at {c : Con} (hc : cOk c = true) {p : List Int} {k : Nat} (h : k < (impC c p).length) : litOk ((impC c p).getD k default) = true := impC_lit hc (getD_mem h)
/-! ### Literals made true -/
def asg (p : List Int) (m : Int) : List Int := p.set (varOf m - 1).toNat (if m < 0 then -1 else 1)
def asgL (p : List Int) (ms : List Int) : List Int := ms.foldl asg p
theorem asg_len {p : List Int} {m : Int} : (asg p m).length = p.length := by simp [asg]
theorem asgL_len : ∀ {ms : List Int} {p : List Int}, (asgL p ms).length = p.length
  | [], p => rfl
  | m :: r, p => by show (asgL (asg p m) r).length = _; rw [asgL_len, asg_len]
theorem asgL_next {p : List Int} {ms : List Int} {k : Nat} (h : k < ms.length) : asgL p (ms.take (k + 1)) = asg (asgL p (ms.take k)) (ms.getD k default) := by
  unfold asgL
  rw [take_succD (d := default) h, List.foldl_append]; rfl
theorem asg_ok {p : List Int} {m : Int} (h : paOk p = true) : paOk (asg p m) = true := by
  unfold paOk at h ⊢
  simp only [Bool.and_eq_true, decide_eq_true_eq, List.all_eq_true] at h ⊢
  refine ⟨by rw [asg_len]; exact h.1, fun a ha => ?_⟩
  rcases List.mem_or_eq_of_mem_set ha with ha | rfl
  · exact h.2 a ha
  · split <;> omega
theorem asgL_ok : ∀ {ms : List Int} {p : List Int}, paOk p = true → paOk (asgL p ms) = true
  | [], p, h => h
  | m :: r, p, h => asgL_ok (ms := r) (asg_ok h)
theorem asg_at {p : List Int} {m : Int} {i : Nat} (hi : i < p.length) : (asg p m).getD i default = if i = (varOf m - 1).toNat then (if m < 0 then -1 else 1) else p.getD i default := by
  unfold asg
  simp only [List.getD_eq_getElem?_getD, List.getElem?_set]
  by_cases e : (varOf m - 1).toNat = i
  · subst e; rw [if_pos rfl, if_pos hi, if_pos rfl]; rfl
  · rw [if_neg e, if_neg (fun h => e h.symm)]
theorem stV_asg {p : List Int} (hp : p.length = 12) {m l : Int} (hm : litOk m = true) (hl : litOk l = true) : stV (asg p m) l = if l = m then 1 else if l = -m then -1 else stV p l := by
  have h1 := litOk_iff.1 hm
  have h2 := litOk_iff.1 hl
  have hv : varOf m = max m (-m) := rfl
  unfold stV
  by_cases hl0 : l < 0
  · rw [if_pos hl0, if_pos hl0, asg_at (by omega)]
    by_cases e : (-l - 1).toNat = (varOf m - 1).toNat
    · rw [if_pos e]
      by_cases hm0 : m < 0
      · rw [if_pos hm0, if_pos (by omega)]; omega
      · rw [if_neg hm0, if_neg (by omega), if_pos (by omega)]
    · rw [if_neg e, if_neg (by omega), if_neg (by omega)]
  · rw [if_neg hl0, if_neg hl0, asg_at (by omega)]
    by_cases e : (l - 1).toNat = (varOf m - 1).toNat
    · rw [if_pos e]
      by_cases hm0 : m < 0
      · rw [if_pos hm0, if_neg (by omega), if_pos (by omega)]
      · rw [if_neg hm0, if_pos (by omega)]
    · rw [if_neg e, if_neg (by omega), if_neg (by omega)]
/-- How many variables have no value. -/
def zer (p : List Int) : Nat := p.countP (fun a => decide (a = 0))
theorem zer_set : ∀ {p : List Int} {i : Nat} {v : Int}, i < p.length → p.getD i default = 0 → v ≠ 0 → zer (p.set i v) + 1 = zer p
  | [], i, v, h, _, _ => by simp at h
  | a :: r, 0, v, _, h, hv => by
    simp only [List.getD_cons_zero] at h
    subst h
    simp only [List.set_cons_zero, zer, List.countP_cons]
    simp [hv]
  | a :: r, i + 1, v, h, h2, hv => by
    have := zer_set (p := r) (i := i) (v := v) (by simpa using h) (by simpa using h2) hv
    simp only [List.set_cons_succ, zer, List.countP_cons] at this ⊢
    omega
theorem stV_zero {p : List Int} {m : Int} (hm : litOk m = true) (h : stV p m = 0) : p.getD (varOf m - 1).toNat default = 0 := by
  have h1 := litOk_iff.1 hm
  have hv : varOf m = max m (-m) := rfl
  unfold stV at h
  by_cases hm0 : m < 0
  · rw [if_pos hm0] at h
    rw [show (varOf m - 1).toNat = (-m - 1).toNat by omega]; omega
  · rw [if_neg hm0] at h
    rw [show (varOf m - 1).toNat = (m - 1).toNat by omega]; omega
theorem zer_asg {p : List Int} (hp : p.length = 12) {m : Int} (hm : litOk m = true) (h : stV p m = 0) : zer (asg p m) + 1 = zer p := by
  have h1 := litOk_iff.1 hm
  have hv : varOf m = max m (-m) := rfl
  exact zer_set (by omega) (stV_zero hm h) (by split <;> decide)
theorem okFrom_gt' : ∀ {ts : List Term} {p : Int}, okFrom p ts = true → ∀ t ∈ ts, p < varOf t.2
  | [], _, _, t, ht => by simp at ht
  | x :: r, p, h, t, ht => by
    simp only [okFrom, Bool.and_eq_true, decide_eq_true_eq] at h
    rcases List.mem_cons.1 ht with rfl | ht
    · exact h.2.1
    · have := okFrom_gt' h.2.2.2 t ht; omega
theorem okFrom_apart' : ∀ {ts : List Term} {p : Int}, okFrom p ts = true → ts.Pairwise (fun a b => varOf a.2 < varOf b.2)
  | [], _, _ => .nil
  | x :: r, p, h => by
    simp only [okFrom, Bool.and_eq_true, decide_eq_true_eq] at h
    exact .cons (fun t ht => okFrom_gt' h.2.2.2 t ht) (okFrom_apart' h.2.2.2)
theorem imp_apart {c : Con} (hc : cOk c = true) {p : List Int} : (impC c p).Pairwise (fun a b => varOf a < varOf b) := by
  unfold impC impF
  rw [List.pairwise_map]
  exact (okFrom_apart' (cOk_ok hc)).filter _
theorem zer_asgL : ∀ {ms : List Int} {p : List Int}, p.length = 12 → (∀ m ∈ ms, litOk m = true ∧ stV p m = 0) → ms.Pairwise (fun a b => varOf a < varOf b) → zer (asgL p ms) + ms.length = zer p
  | [], p, _, _, _ => rfl
  | m :: r, p, hp, h, hw => by
    have hm := h m (by simp)
    rw [List.pairwise_cons] at hw
    have h1 := zer_asg hp hm.1 hm.2
    have ih := zer_asgL (ms := r) (p := asg p m) (by rw [asg_len]; exact hp) (fun l hl => by
      have h2 := h l (by simp [hl])
      have h3 := hw.1 l hl
      refine ⟨h2.1, ?_⟩
      rw [stV_asg hp hm.1 h2.1, if_neg (by rintro rfl; omega), if_neg (by rintro rfl; simp only [varOf, Int.neg_neg] at h3; omega)]
      exact h2.2) hw.2
    show zer (asgL (asg p m) r) + (r.length + 1) = zer p
    omega
theorem zer_imp {c : Con} (hc : cOk c = true) {p : List Int} (hp : p.length = 12) {k : Nat} (hk : k ≤ (impC c p).length) : zer (asgL p ((impC c p).take k)) + k = zer p := by
  have := zer_asgL (ms := (impC c p).take k) hp (fun m hm => by
    have hm := List.mem_of_mem_take hm
    obtain ⟨t, ht, rfl, h1, _⟩ := impC_mem hm
    exact ⟨impC_lit hc hm, h1⟩) ((imp_apart hc).take)
  rw [List.length_take, Nat.min_eq_left hk] at this; exact this
theorem zer_impA {c : Con} (hc : cOk c = true) {p : List Int} (hp : p.length = 12) : zer (asgL p (impC c p)) + (impC c p).length = zer p := by
  have := zer_imp hc hp (k := (impC c p).length) (Nat.le_refl _)
  rwa [List.take_length] at this
/-! ### Rounds -/
def rnd : List Con → Int → List Int → List Int × Int
  | [], _, p => (p, -1)
  | c :: r, i, p => if slV c p < 0 then (p, i) else rnd r (i + 1) (asgL p (impC c p))
def prop (l : List Con) (p : List Int) : List Int × Int :=
  if 0 ≤ (rnd l 0 p).2 then rnd l 0 p else if h : zer (rnd l 0 p).1 < zer p then prop l (rnd l 0 p).1 else rnd l 0 p
termination_by zer p
theorem rnd_cons {c : Con} {r : List Con} {i : Int} {p : List Int} : rnd (c :: r) i p = if slV c p < 0 then (p, i) else rnd r (i + 1) (asgL p (impC c p)) := rfl
theorem rnd_hit {l : List Con} {k : Nat} {p : List Int} (hk : k < l.length) (h : slV (l.getD k default) p < 0) : rnd (l.drop k) (k : Int) p = (p, (k : Int)) := by
  rw [drop_getD (d := default) hk, rnd_cons, if_pos h]
theorem rnd_step {l : List Con} {k : Nat} {p : List Int} (hk : k < l.length) (h : ¬ slV (l.getD k default) p < 0) : rnd (l.drop k) (k : Int) p = rnd (l.drop (k + 1)) ((k + 1 : Nat) : Int) (asgL p (impC (l.getD k default) p)) := by
  rw [drop_getD (d := default) hk, rnd_cons, if_neg h]; rfl
theorem rnd_end {l : List Con} {k : Nat} {i : Int} {p : List Int} (hk : l.length ≤ k) : rnd (l.drop k) i p = (p, -1) := by
  rw [List.drop_of_length_le hk]; rfl
theorem prop_bad {l : List Con} {p p' : List Int} {k : Nat} (h : rnd l 0 p = (p', (k : Int))) : prop l p = (p', (k : Int)) := by
  rw [prop, h]; simp
theorem prop_again {l : List Con} {p p' : List Int} (h : rnd l 0 p = (p', -1)) (h2 : zer p' < zer p) : prop l p = prop l p' := by
  rw [prop, h]; simp [h2]
theorem prop_done {l : List Con} {p p' : List Int} (h : rnd l 0 p = (p', -1)) (h2 : ¬ zer p' < zer p) : prop l p = (p', -1) := by
  rw [prop, h]; simp [h2]
theorem rnd_ok : ∀ {l : List Con} {i : Int} {p : List Int}, paOk p = true → paOk (rnd l i p).1 = true
  | [], i, p, h => h
  | c :: r, i, p, h => by
    rw [rnd_cons]
    split
    · exact h
    · exact rnd_ok (asgL_ok h)
theorem prop_ind {l : List Con} {P : List Int → Prop} (h : ∀ p, P p → P (rnd l 0 p).1) : ∀ {n : Nat} {p : List Int}, zer p ≤ n → P p → P (prop l p).1 := by
  intro n
  induction n with
  | zero =>
    intro p hn hp
    rw [prop]
    split
    · exact h p hp
    · split
      · omega
      · exact h p hp
  | succ n ih =>
    intro p hn hp
    rw [prop]
    split
    · exact h p hp
    · split
      · exact ih (by omega) (h p hp)
      · exact h p hp
theorem prop_ok {l : List Con} {p : List Int} (h : paOk p = true) : paOk (prop l p).1 = true :=
  prop_ind (P := fun p => paOk p = true) (fun _ h => rnd_ok h) (Nat.le_refl _) h
theorem rnd_rng : ∀ {l : List Con} {i : Int} {p : List Int}, 0 ≤ i → (rnd l i p).2 = -1 ∨ (i ≤ (rnd l i p).2 ∧ (rnd l i p).2 < i + l.length)
  | [], i, p, h => .inl rfl
  | c :: r, i, p, h => by
    rw [rnd_cons]
    split
    · right; simp only [List.length_cons]; omega
    · rcases rnd_rng (l := r) (i := i + 1) (p := asgL p (impC c p)) (by omega) with h | h
      · exact .inl h
      · right; simp only [List.length_cons]; omega
theorem prop_rng {l : List Con} : ∀ {n : Nat} {p : List Int}, zer p ≤ n → (prop l p).2 = -1 ∨ (0 ≤ (prop l p).2 ∧ (prop l p).2 < l.length) := by
  intro n
  induction n with
  | zero =>
    intro p hn
    have := rnd_rng (l := l) (i := 0) (p := p) (by decide)
    rw [prop]
    split
    · omega
    · split <;> omega
  | succ n ih =>
    intro p hn
    have := rnd_rng (l := l) (i := 0) (p := p) (by decide)
    rw [prop]
    split
    · omega
    · split
      · exact ih (by omega)
      · omega
end Go.Ab

/- What propagation means: fixed points, order, soundness. -/
set_option linter.unusedSimpArgs false
set_option linter.unusedVariables false
namespace Go.Ab
def sumF (f : Term → Int) : List Term → Int
  | [] => 0
  | t :: r => f t + sumF f r
theorem sumF_le {f g : Term → Int} : ∀ {ts : List Term}, (∀ t ∈ ts, f t ≤ g t) → sumF f ts ≤ sumF g ts
  | [], _ => Int.le_refl _
  | t :: r, h => by
    have h1 := h t (by simp)
    have h2 := sumF_le (ts := r) (fun t ht => h t (by simp [ht]))
    simp only [sumF]; omega
theorem sumF_lt {f g : Term → Int} {t0 : Term} {d : Int} : ∀ {ts : List Term}, (∀ t ∈ ts, f t ≤ g t) → t0 ∈ ts → f t0 + d ≤ g t0 → sumF f ts + d ≤ sumF g ts
  | [], _, h, _ => by simp at h
  | t :: r, h, hm, h0 => by
    have h1 := h t (by simp)
    simp only [sumF]
    rcases List.mem_cons.1 hm with rfl | hm
    · have h2 := sumF_le (ts := r) (fun t ht => h t (by simp [ht])); omega
    · have h2 := sumF_lt (ts := r) (fun t ht => h t (by simp [ht])) hm h0; omega
theorem sumV_F {bs : List Bool} : ∀ {ts : List Term}, sumV ts bs = sumF (fun t => if litV bs t.2 then t.1 else 0) ts
  | [] => rfl
  | t :: r => by rw [sumV_cons, sumV_F]; rfl
theorem slF_F {p : List Int} : ∀ {ts : List Term} {b : Int}, slF p ts b = b + sumF (fun t => if 0 ≤ stV p t.2 then t.1 else 0) ts
  | [], b => by simp [slF, sumF]
  | t :: r, b => by
    have e : slF p (t :: r) b = slF p r (if 0 ≤ stV p t.2 then b + t.1 else b) := rfl
    rw [e, slF_F]
    simp only [sumF]
    split <;> omega
theorem slV_F {c : Con} {p : List Int} : slV c p = sumF (fun t => if 0 ≤ stV p t.2 then t.1 else 0) c.1 - c.2 := by
  unfold slV; rw [slF_F]; omega
theorem stV_neg {p : List Int} {m : Int} (h : m ≠ 0) : stV p (-m) = -stV p m := by
  unfold stV
  by_cases h0 : m < 0
  · rw [if_pos h0, if_neg (by omega)]; simp
  · rw [if_neg h0, if_pos (by omega)]; simp
theorem litV_opp {bs : List Bool} {m : Int} (h : m ≠ 0) : litV bs (-m) = !litV bs m := by
  unfold litV
  rw [show varOf (-m) = varOf m by unfold varOf; omega]
  by_cases h0 : 0 < m
  · rw [decide_eq_true h0, decide_eq_false (by omega)]; cases bs.getD (varOf m - 1).toNat default <;> rfl
  · rw [decide_eq_false h0, decide_eq_true (by omega)]; cases bs.getD (varOf m - 1).toNat default <;> rfl
theorem litOk_opp {m : Int} (h : litOk m = true) : litOk (-m) = true := by rw [litOk_iff] at *; omega
/-! ### What was told stays told -/
def leP (p q : List Int) : Prop := ∀ m, litOk m = true → stV p m ≠ 0 → stV q m = stV p m
theorem rnd_len : ∀ {l : List Con} {i : Int} {p : List Int}, (rnd l i p).1.length = p.length
  | [], i, p => rfl
  | c :: r, i, p => by
    rw [rnd_cons]
    split
    · rfl
    · rw [rnd_len, asgL_len]
def fixP (l : List Con) (q : List Int) : Prop := ∀ c ∈ l, 0 ≤ slV c q ∧ impC c q = []
theorem rnd_fix : ∀ {l : List Con} {i : Int} {p q : List Int}, l.all cOk = true → p.length = 12 → 0 ≤ i → rnd l i p = (q, -1) → zer q ≤ zer p ∧ (zer q = zer p → q = p ∧ fixP l p)
  | [], i, p, q, _, _, _, h => by
    have : p = q := congrArg Prod.fst h
    subst this
    exact ⟨Nat.le_refl _, fun _ => ⟨rfl, fun c hc => by simp at hc⟩⟩
  | c :: r, i, p, q, hl, hp, hi, h => by
    simp only [List.all_cons, Bool.and_eq_true] at hl
    rw [rnd_cons] at h
    split at h
    · have := congrArg Prod.snd h
      simp at this; omega
    · rename_i hs
      obtain ⟨h1, h2⟩ := rnd_fix hl.2 (by rw [asgL_len]; exact hp) (by omega) h
      have h3 := zer_impA hl.1 hp
      refine ⟨by omega, fun e => ?_⟩
      have h4 : (impC c p).length = 0 := by omega
      have h5 : impC c p = [] := List.length_eq_zero_iff.1 h4
      have h6 : asgL p (impC c p) = p := by rw [h5]; rfl
      rw [h6] at h2
      obtain ⟨rfl, h7⟩ := h2 e
      refine ⟨rfl, fun d hd => ?_⟩
      rcases List.mem_cons.1 hd with rfl | hd
      · exact ⟨by omega, h5⟩
      · exact h7 d hd
theorem prop_fix {l : List Con} (hl : l.all cOk = true) : ∀ {n : Nat} {p q : List Int}, zer p ≤ n → p.length = 12 → prop l p = (q, -1) → fixP l q := by
  intro n
  induction n with
  | zero =>
    intro p q hn hp h
    cases e : rnd l 0 p with
    | mk a b =>
      have hr := rnd_rng (l := l) (i := 0) (p := p) (by decide)
      rw [e] at hr
      rcases hr with hr | hr
      · dsimp only at hr; subst hr
        have h1 := rnd_fix hl hp (by decide) e
        rw [prop_done e (by omega)] at h
        obtain rfl : a = q := congrArg Prod.fst h
        obtain ⟨rfl, h2⟩ := h1.2 (by omega)
        exact h2
      · rw [prop, e] at h
        simp only [hr.1, if_true] at h
        have := congrArg Prod.snd h
        simp at this hr; omega
  | succ n ih =>
    intro p q hn hp h
    cases e : rnd l 0 p with
    | mk a b =>
      have hr := rnd_rng (l := l) (i := 0) (p := p) (by decide)
      rw [e] at hr
      rcases hr with hr | hr
      · dsimp only at hr; subst hr
        have h1 := rnd_fix hl hp (by decide) e
        by_cases hz : zer a < zer p
        · rw [prop_again e hz] at h
          exact ih (by omega) (by have := rnd_len (l := l) (i := 0) (p := p); rw [e] at this; exact this.trans hp) h
        · rw [prop_done e hz] at h
          obtain rfl : a = q := congrArg Prod.fst h
          obtain ⟨rfl, h2⟩ := h1.2 (by omega)
          exact h2
      · rw [prop, e] at h
        simp only [hr.1, if_true] at h
        have := congrArg Prod.snd h
        simp at this hr; omega
/-- Below a fixed point nothing is violated, and propagation stays below. -/
theorem below {c : Con} (hc : cOk c = true) {p q : List Int} (hp : paOk p = true) (hq : paOk q = true) (h : leP p q) (h1 : 0 ≤ slV c q) (h2 : impC c q = []) : 0 ≤ slV c p ∧ leP (asgL p (impC c p)) q := by
  have hlt : ∀ t ∈ c.1, litOk t.2 = true ∧ 1 ≤ t.1 ∧ t.1 ≤ 1000 := okFrom_all (cOk_ok hc)
  have hle : ∀ t ∈ c.1, (if 0 ≤ stV q t.2 then t.1 else 0) ≤ (if 0 ≤ stV p t.2 then t.1 else 0) := fun t ht => by
    have h3 := hlt t ht
    by_cases h4 : 0 ≤ stV p t.2
    · rw [if_pos h4]; split <;> omega
    · rw [if_neg h4, if_neg (by rw [h t.2 h3.1 (by omega)]; exact h4)]; exact Int.le_refl _
  have hs : slV c q ≤ slV c p := by rw [slV_F, slV_F]; have := sumF_le hle; omega
  refine ⟨by omega, ?_⟩
  have key : ∀ m ∈ impC c p, stV q m = 1 := by
    intro m hm
    obtain ⟨t, ht, rfl, h3, h4⟩ := impC_mem hm
    have h5 := hlt t ht
    have hr := stV_rng hq t.2
    by_cases e0 : stV q t.2 = 0
    · exfalso
      have : t.2 ∈ impC c q := List.mem_map.2 ⟨t, List.mem_filter.2 ⟨ht, by rw [decide_eq_true_eq]; exact ⟨e0, by omega⟩⟩, rfl⟩
      rw [h2] at this; simp at this
    · by_cases e1 : stV q t.2 = -1
      · exfalso
        have := sumF_lt (d := t.1) hle ht (by rw [if_neg (by omega), if_pos (by omega)]; omega)
        rw [slV_F] at h1 h4; omega
      · omega
  have hmono : ∀ {ms : List Int} {p : List Int}, p.length = 12 → leP p q → (∀ m ∈ ms, litOk m = true ∧ stV q m = 1) → leP (asgL p ms) q := by
    intro ms
    induction ms with
    | nil => intro p _ h _; exact h
    | cons m r ih =>
      intro p hp h hm
      have hm0 := hm m (by simp)
      refine ih (p := asg p m) (by rw [asg_len]; exact hp) (fun l hl h0 => ?_) (fun m hm' => hm m (by simp [hm']))
      rw [stV_asg hp hm0.1 hl] at h0 ⊢
      by_cases e1 : l = m
      · subst e1; rw [if_pos rfl]; exact hm0.2
      · rw [if_neg e1] at h0 ⊢
        by_cases e2 : l = -m
        · subst e2; rw [if_pos rfl, stV_neg (litOk_iff.1 hm0.1).1, hm0.2]
        · rw [if_neg e2] at h0 ⊢; exact h l hl h0
  exact hmono (paOk_len hp) h (fun m hm => ⟨impC_lit hc hm, key m hm⟩)
theorem rnd_below : ∀ {l : List Con} {i : Int} {p q : List Int}, l.all cOk = true → paOk p = true → paOk q = true → leP p q → fixP l q → (rnd l i p).2 = -1 ∧ leP (rnd l i p).1 q
  | [], i, p, q, _, _, _, h, _ => ⟨rfl, h⟩
  | c :: r, i, p, q, hl, hp, hq, h, hf => by
    simp only [List.all_cons, Bool.and_eq_true] at hl
    have h1 := hf c (by simp)
    have h2 := below hl.1 hp hq h h1.1 h1.2
    rw [rnd_cons, if_neg (by omega)]
    exact rnd_below hl.2 (asgL_ok hp) hq h2.2 (fun d hd => hf d (by simp [hd]))
theorem prop_below {l : List Con} (hl : l.all cOk = true) {q : List Int} (hq : paOk q = true) (hf : fixP l q) : ∀ {n : Nat} {p : List Int}, zer p ≤ n → paOk p = true → leP p q → (prop l p).2 = -1 ∧ leP (prop l p).1 q := by
  intro n
  induction n with
  | zero =>
    intro p hn hp h
    have h1 := rnd_below (i := 0) hl hp hq h hf
    rw [prop, if_neg (by omega), dif_neg (by omega)]; exact h1
  | succ n ih =>
    intro p hn hp h
    have h1 := rnd_below (i := 0) hl hp hq h hf
    rw [prop, if_neg (by omega)]
    split
    · exact ih (by omega) (rnd_ok hp) h1.2
    · exact h1
/-! ### Values -/
def agB (p : List Int) (bs : List Bool) : Prop := ∀ m, litOk m = true → stV p m = 1 → litV bs m = true
theorem ag_no {p : List Int} {bs : List Bool} (h : agB p bs) {m : Int} (hm : litOk m = true) (h0 : stV p m = -1) : litV bs m = false := by
  have hm0 := (litOk_iff.1 hm).1
  have := h (-m) (litOk_opp hm) (by rw [stV_neg hm0, h0]; rfl)
  rw [litV_opp hm0] at this
  simpa using this
theorem ag_step {c : Con} (hc : cOk c = true) {p : List Int} (hp : paOk p = true) {bs : List Bool} (h : agB p bs) (hv : holdsV c bs = true) : 0 ≤ slV c p ∧ agB (asgL p (impC c p)) bs := by
  have hlt : ∀ t ∈ c.1, litOk t.2 = true ∧ 1 ≤ t.1 ∧ t.1 ≤ 1000 := okFrom_all (cOk_ok hc)
  unfold holdsV at hv
  rw [decide_eq_true_eq, sumV_F] at hv
  have hle : ∀ t ∈ c.1, (if litV bs t.2 then t.1 else 0) ≤ (if 0 ≤ stV p t.2 then t.1 else 0) := fun t ht => by
    have h3 := hlt t ht
    have hr := stV_rng hp t.2
    by_cases h4 : 0 ≤ stV p t.2
    · rw [if_pos h4]; split <;> omega
    · rw [if_neg h4, if_neg (by rw [ag_no h h3.1 (by omega)]; decide)]; exact Int.le_refl _
  have hs : 0 ≤ slV c p := by rw [slV_F]; have := sumF_le hle; omega
  refine ⟨hs, ?_⟩
  have key : ∀ m ∈ impC c p, litV bs m = true := by
    intro m hm
    obtain ⟨t, ht, rfl, h3, h4⟩ := impC_mem hm
    cases e : litV bs t.2
    · exfalso
      have := sumF_lt (d := t.1) hle ht (by rw [if_neg (by rw [e]; decide), if_pos (by omega)]; omega)
      rw [slV_F] at h4; omega
    · rfl
  have hmono : ∀ {ms : List Int} {p : List Int}, p.length = 12 → agB p bs → (∀ m ∈ ms, litOk m = true ∧ litV bs m = true) → agB (asgL p ms) bs := by
    intro ms
    induction ms with
    | nil => intro p _ h _; exact h
    | cons m r ih =>
      intro p hp h hm
      have hm0 := hm m (by simp)
      refine ih (p := asg p m) (by rw [asg_len]; exact hp) (fun l hl h0 => ?_) (fun m hm' => hm m (by simp [hm']))
      rw [stV_asg hp hm0.1 hl] at h0
      by_cases e1 : l = m
      · subst e1; exact hm0.2
      · rw [if_neg e1] at h0
        by_cases e2 : l = -m
        · subst e2; rw [if_pos rfl] at h0; cases h0
        · rw [if_neg e2] at h0; exact h l hl h0
  exact hmono (paOk_len hp) h (fun m hm => ⟨impC_lit hc hm, key m hm⟩)
theorem rnd_ag : ∀ {l : List Con} {i : Int} {p : List Int} {bs : List Bool}, l.all cOk = true → paOk p = true → agB p bs → satV l bs = true → (rnd l i p).2 = -1 ∧ agB (rnd l i p).1 bs
  | [], i, p, bs, _, _, h, _ => ⟨rfl, h⟩
  | c :: r, i, p, bs, hl, hp, h, hs => by
    simp only [List.all_cons, Bool.and_eq_true] at hl
    unfold satV at hs
    simp only [List.all_cons, Bool.and_eq_true] at hs
    have h2 := ag_step hl.1 hp h hs.1
    rw [rnd_cons, if_neg (by omega)]
    exact rnd_ag hl.2 (asgL_ok hp) h2.2 hs.2
theorem prop_ag {l : List Con} (hl : l.all cOk = true) {bs : List Bool} (hs : satV l bs = true) : ∀ {n : Nat} {p : List Int}, zer p ≤ n → paOk p = true → agB p bs → (prop l p).2 = -1 ∧ agB (prop l p).1 bs := by
  intro n
  induction n with
  | zero =>
    intro p hn hp h
    have h1 := rnd_ag (i := 0) hl hp h hs
    rw [prop, if_neg (by omega), dif_neg (by omega)]; exact h1
  | succ n ih =>
    intro p hn hp h
    have h1 := rnd_ag (i := 0) hl hp h hs
    rw [prop, if_neg (by omega)]
    split
    · exact ih (by omega) (rnd_ok hp) h1.2
    · exact h1
/-! ### By reverse unit propagation -/
def zeroP : List Int := List.replicate 12 0
theorem zero_ok : paOk zeroP = true := by decide
def rupV (l : List Con) (c : Con) : Bool := decide (0 ≤ (prop (l ++ [negC c]) zeroP).2)
theorem rup_no {l : List Con} {c : Con} (hl : l.all cOk = true) (hc : cOk c = true) (h : rupV l c = false) : ∃ q, paOk q = true ∧ fixP l q ∧ 0 ≤ slV (negC c) q ∧ impC (negC c) q = [] := by
  have hl2 : (l ++ [negC c]).all cOk = true := by rw [List.all_append, hl]; simp [negC_ok hc]
  unfold rupV at h
  rw [decide_eq_false_iff_not] at h
  have h1 := prop_rng (l := l ++ [negC c]) (n := zer zeroP) (p := zeroP) (Nat.le_refl _)
  have h2 : prop (l ++ [negC c]) zeroP = ((prop (l ++ [negC c]) zeroP).1, -1) := Prod.ext rfl (by dsimp only; omega)
  have h3 := prop_fix hl2 (Nat.le_refl _) (by rfl) h2
  exact ⟨_, prop_ok zero_ok, fun d hd => h3 d (by simp [hd]), h3 _ (by simp)⟩
/-- A fixed point of the negation of a clause makes all of its literals false. -/
theorem neg_clause {ts : List Term} {q : List Int} (hq : paOk q = true) (hk : okFrom 0 (ts.map oneT) = true) (h1 : 0 ≤ slV (negC (ts.map oneT, 1)) q) (h2 : impC (negC (ts.map oneT, 1)) q = []) : ∀ t ∈ ts, stV q t.2 = -1 := by
  have hlt := okFrom_all hk
  have htot : ∀ {ts : List Term}, totV (ts.map oneT) = ts.length := by
    intro ts
    induction ts with
    | nil => rfl
    | cons t r ih => rw [List.map_cons, totV_cons, ih, List.length_cons]; simp only [oneT]; omega
  have hn1 : (negC (ts.map oneT, 1)).1 = (ts.map oneT).map negT := rfl
  have hn2 : (negC (ts.map oneT, 1)).2 = ts.length := by
    show max 0 (totV (ts.map oneT) - 1 + 1) = _
    rw [htot]; omega
  have hlen : ∀ {us : List Term}, (∀ t ∈ us, t.1 = 1) → sumF (fun t => t.1) us = us.length := by
    intro us
    induction us with
    | nil => intro _; rfl
    | cons t r ih => intro h; simp only [sumF, List.length_cons]; rw [ih (fun t ht => h t (by simp [ht])), h t (by simp)]; omega
  have hone : ∀ u ∈ (ts.map oneT).map negT, u.1 = 1 := by
    intro u hu
    obtain ⟨a, ha, rfl⟩ := List.mem_map.1 hu
    obtain ⟨t, _, rfl⟩ := List.mem_map.1 ha
    rfl
  have hl2 := hlen hone
  rw [slV_F, hn1, hn2] at h1
  simp only [List.length_map] at hl2
  have hle : ∀ u ∈ (ts.map oneT).map negT, (if 0 ≤ stV q u.2 then u.1 else 0) ≤ u.1 := fun u hu => by
    have := hone u hu; split <;> omega
  intro t ht
  have hmem : negT (oneT t) ∈ (ts.map oneT).map negT := List.mem_map.2 ⟨_, List.mem_map.2 ⟨t, ht, rfl⟩, rfl⟩
  have hlo := (hlt (oneT t) (List.mem_map.2 ⟨t, ht, rfl⟩)).1
  have hm0 : t.2 ≠ 0 := (litOk_iff.1 hlo).1
  have hst : stV q (negT (oneT t)).2 = -stV q t.2 := stV_neg hm0
  have hr := stV_rng hq t.2
  by_cases e1 : stV q t.2 = 1
  · exfalso
    have h3 := sumF_lt (d := 1) (g := Prod.fst) hle hmem (by rw [if_neg (by omega), hone _ hmem]; decide)
    have h4 : sumF Prod.fst ((ts.map oneT).map negT) = ts.length := hl2
    omega
  · by_cases e0 : stV q t.2 = 0
    · exfalso
      have hs : slV (negC (ts.map oneT, 1)) q ≤ 0 := by
        rw [slV_F, hn1, hn2]
        have h3 := sumF_le (g := Prod.fst) hle
        have h4 : sumF Prod.fst ((ts.map oneT).map negT) = ts.length := hl2
        omega
      have : (negT (oneT t)).2 ∈ impC (negC (ts.map oneT, 1)) q := List.mem_map.2 ⟨_, List.mem_filter.2 ⟨hmem, by rw [decide_eq_true_eq]; exact ⟨by omega, by rw [hone _ hmem]; exact Int.lt_of_le_of_lt hs (by decide)⟩⟩, rfl⟩
      rw [h2] at this; simp at this
    · omega
end Go.Ab

/- Rows in which literals are made true. -/
set_option linter.unusedSimpArgs false
set_option linter.unusedVariables false
namespace Go.Ab
theorem asg_rowp {p : List Int} {m : Int} (h : 0 < m) : (p.map dI).set (m - 1).toNat [.p (.int .i64 1)] = (asg p m).map dI := by
  unfold asg varOf
  rw [if_neg (by omega), List.map_set, show max m (-m) - 1 = m - 1 by omega]; rfl
theorem asg_rown {p : List Int} {m : Int} (h : m ≤ 0) (h0 : m ≠ 0) : (p.map dI).set (-m - 1).toNat [.p (.int .i64 (-1))] = (asg p m).map dI := by
  unfold asg varOf
  rw [if_pos (by omega), List.map_set, show max m (-m) - 1 = -m - 1 by omega]; rfl
end Go.Ab
namespace Go.Ab
def failS (l : List Con) (ms : List Int) : List Int := ms.filter (fun m => decide (0 ≤ (prop l (justV m)).2))
def failN (l : List Con) : Nat → List Int
  | 0 => []
  | k + 1 => failN l k ++ failS l [(k : Int) + 1, -((k : Int) + 1)]
def failL (l : List Con) : List Int := if pOk l then failN l 12 else []
theorem failL_ok {l : List Con} (h : pOk l = true) : failL l = failN l 12 := by unfold failL; rw [if_pos h]
theorem failL_bad {l : List Con} (h : pOk l = false) : failL l = [] := by unfold failL; rw [if_neg (by rw [h]; decide)]
theorem failS_len {l : List Con} {ms : List Int} : (failS l ms).length ≤ ms.length := List.length_filter_le ..
theorem failN_len {l : List Con} : ∀ {k : Nat}, (failN l k).length ≤ 2 * k
  | 0 => Nat.le_refl _
  | k + 1 => by
    have h1 := failN_len (l := l) (k := k)
    have h2 := failS_len (l := l) (ms := [(k : Int) + 1, -((k : Int) + 1)])
    simp only [List.length_cons, List.length_nil] at h2
    rw [failN, List.length_append]; omega
theorem failS_yes {l : List Con} {ms : List Int} {j : Nat} (h : j < ms.length) (h2 : 0 ≤ (prop l (justV (ms.getD j default))).2) : failS l (ms.take (j + 1)) = failS l (ms.take j) ++ [ms.getD j default] := by
  unfold failS
  rw [take_succD (d := default) h, List.filter_append, List.filter_cons_of_pos (by rw [decide_eq_true_eq]; exact h2)]; rfl
theorem failS_no {l : List Con} {ms : List Int} {j : Nat} (h : j < ms.length) (h2 : ¬ 0 ≤ (prop l (justV (ms.getD j default))).2) : failS l (ms.take (j + 1)) = failS l (ms.take j) := by
  unfold failS
  rw [take_succD (d := default) h, List.filter_append, List.filter_cons_of_neg (by rw [decide_eq_true_eq]; exact h2)]; simp
theorem two_lit {k j : Nat} (h : k < 12 ∧ j < 2) : litOk (([(k : Int) + 1, -((k : Int) + 1)] : List Int).getD j default) = true := by
  obtain ⟨h1, h2⟩ := h
  match j, h2 with
  | 0, _ => show litOk ((k : Int) + 1) = true; rw [litOk_iff]; omega
  | 1, _ => show litOk (-((k : Int) + 1)) = true; rw [litOk_iff]; omega
theorem failN_mem {l : List Con} : ∀ {k : Nat} {m : Int}, k ≤ 12 → m ∈ failN l k → litOk m = true ∧ 0 ≤ (prop l (justV m)).2
  | 0, m, _, h => by simp [failN] at h
  | k + 1, m, hk, h => by
    rw [failN, List.mem_append] at h
    rcases h with h | h
    · exact failN_mem (by omega) h
    · unfold failS at h
      rw [List.mem_filter, decide_eq_true_eq] at h
      refine ⟨?_, h.2⟩
      rw [litOk_iff]
      have := h.1
      simp only [List.mem_cons, List.not_mem_nil, or_false] at this
      omega
end Go.Ab

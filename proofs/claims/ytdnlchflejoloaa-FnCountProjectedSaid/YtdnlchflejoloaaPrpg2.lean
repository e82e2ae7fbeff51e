/- What propagation means: fixed points, order, soundness. -/
import Derived.Test.YtdnlchflejoloaaPrpg
set_option linter.unusedSimpArgs false
set_option linter.unusedVariables false
namespace Go.Ab
def sumF (f : Term → Int) : List Term → Int
  | [] => 0
  | t :: r => f t + sumF f r
theorem sumF_le {f g : Term → Int} : ∀ {ts : List Term}, (∀ t ∈ ts, f t ≤ g t) → sumF f ts ≤ sumF g ts
  | [], _ => Int.le_refl _
  | t :: r, h => by
    have h1 := h t (by simp)
    have h2 := sumF_le (ts := r) (fun t ht => h t (by simp [ht]))
    simp only [sumF]; omega
theorem sumF_lt {f g : Term → Int} {t0 : Term} {d : Int} : ∀ {ts : List Term}, (∀ t ∈ ts, f t ≤ g t) → t0 ∈ ts → f t0 + d ≤ g t0 → sumF f ts + d ≤ sumF g ts
  | [], _, h, _ => by simp at h
  | t :: r, h, hm, h0 => by
    have h1 := h t (by simp)
    simp only [sumF]
    rcases List.mem_cons.1 hm with rfl | hm
    · have h2 := sumF_le (ts := r) (fun t ht => h t (by simp [ht])); omega
    · have h2 := sumF_lt (ts := r) (fun t ht => h t (by simp [ht])) hm h0; omega
theorem sumF_eq {f g : Term → Int} {ts : List Term} (h : ∀ t ∈ ts, f t = g t) : sumF f ts = sumF g ts :=
  Int.le_antisymm (sumF_le fun t ht => Int.le_of_eq (h t ht)) (sumF_le fun t ht => Int.le_of_eq (h t ht).symm)
theorem sumV_F {bs : List Bool} : ∀ {ts : List Term}, sumV ts bs = sumF (fun t => if litV bs t.2 then t.1 else 0) ts
  | [] => rfl
  | t :: r => by rw [sumV_cons, sumV_F]; rfl
theorem totV_F : ∀ {ts : List Term}, totV ts = sumF (fun t => t.1) ts
  | [] => rfl
  | t :: r => by rw [totV_cons, totV_F]; rfl
theorem slF_F {p : List Int} : ∀ {ts : List Term} {b : Int}, slF p ts b = b + sumF (fun t => if 0 ≤ stV p t.2 then t.1 else 0) ts
  | [], b => by simp [slF, sumF]
  | t :: r, b => by
    have e : slF p (t :: r) b = slF p r (if 0 ≤ stV p t.2 then b + t.1 else b) := rfl
    rw [e, slF_F]
    simp only [sumF]
    split <;> omega
theorem slV_F {c : Con} {p : List Int} : slV c p = sumF (fun t => if 0 ≤ stV p t.2 then t.1 else 0) c.1 - c.2 := by
  unfold slV; rw [slF_F]; omega
theorem stV_neg {p : List Int} {m : Int} (h : m ≠ 0) : stV p (-m) = -stV p m := by
  unfold stV
  by_cases h0 : m < 0
  · rw [if_pos h0, if_neg (by omega)]; simp
  · rw [if_neg h0, if_pos (by omega)]; simp
theorem litV_opp {bs : List Bool} {m : Int} (h : m ≠ 0) : litV bs (-m) = !litV bs m := by
  unfold litV
  rw [show varOf (-m) = varOf m by unfold varOf; omega]
  by_cases h0 : 0 < m
  · rw [decide_eq_true h0, decide_eq_false (by omega)]; cases bs.getD (varOf m - 1).toNat default <;> rfl
  · rw [decide_eq_false h0, decide_eq_true (by omega)]; cases bs.getD (varOf m - 1).toNat default <;> rfl
theorem litOk_opp {m : Int} (h : litOk m = true) : litOk (-m) = true := by rw [litOk_iff] at *; omega
/-! ### What was told stays told -/
def leP (p q : List Int) : Prop := ∀ m, litOk m = true → stV p m ≠ 0 → stV q m = stV p m
theorem leP_refl (p : List Int) : leP p p := fun _ _ _ => rfl
theorem leP_trans {p q r : List Int} (h : leP p q) (k : leP q r) : leP p r := fun m hm h0 => by
  have h1 := h m hm h0
  rw [k m hm (by rw [h1]; exact h0), h1]
theorem leP_asg {p : List Int} (hp : p.length = 12) {m : Int} (hm : litOk m = true) (h : stV p m = 0) : leP p (asg p m) := by
  intro l hl h0
  have hm0 := (litOk_iff.1 hm).1
  rw [stV_asg hp hm hl, if_neg (by rintro rfl; exact h0 h), if_neg (by rintro rfl; exact h0 (by rw [stV_neg hm0, h]; rfl))]
theorem leP_asgL : ∀ {ms : List Int} {p : List Int}, p.length = 12 → (∀ m ∈ ms, litOk m = true ∧ stV p m = 0) → ms.Pairwise (fun a b => varOf a < varOf b) → leP p (asgL p ms)
  | [], p, _, _, _ => leP_refl p
  | m :: r, p, hp, h, hw => by
    have hm := h m (by simp)
    rw [List.pairwise_cons] at hw
    refine leP_trans (leP_asg hp hm.1 hm.2) (leP_asgL (ms := r) (p := asg p m) (by rw [asg_len]; exact hp) (fun l hl => ?_) hw.2)
    have h2 := h l (by simp [hl])
    have h3 := hw.1 l hl
    refine ⟨h2.1, ?_⟩
    rw [stV_asg hp hm.1 h2.1, if_neg (by rintro rfl; omega), if_neg (by rintro rfl; simp only [varOf, Int.neg_neg] at h3; omega)]
    exact h2.2
theorem leP_imp {c : Con} (hc : cOk c = true) {p : List Int} (hp : p.length = 12) : leP p (asgL p (impC c p)) :=
  leP_asgL hp (fun m hm => let ⟨t, ht, e, h1, _⟩ := impC_mem hm; ⟨impC_lit hc hm, h1⟩) (imp_apart hc)
theorem leP_rnd : ∀ {l : List Con} {i : Int} {p : List Int}, l.all cOk = true → p.length = 12 → leP p (rnd l i p).1
  | [], i, p, _, _ => leP_refl p
  | c :: r, i, p, h, hp => by
    simp only [List.all_cons, Bool.and_eq_true] at h
    rw [rnd_cons]
    split
    · exact leP_refl p
    · exact leP_trans (leP_imp h.1 hp) (leP_rnd h.2 (by rw [asgL_len]; exact hp))
theorem rnd_len : ∀ {l : List Con} {i : Int} {p : List Int}, (rnd l i p).1.length = p.length
  | [], i, p => rfl
  | c :: r, i, p => by
    rw [rnd_cons]
    split
    · rfl
    · rw [rnd_len, asgL_len]
theorem leP_prop {l : List Con} (h : l.all cOk = true) {p : List Int} (hp : p.length = 12) : leP p (prop l p).1 := by
  have := prop_ind (l := l) (P := fun q => q.length = 12 ∧ leP p q) (fun q hq => ⟨by rw [rnd_len]; exact hq.1, leP_trans hq.2 (leP_rnd h hq.1)⟩) (n := zer p) (p := p) (Nat.le_refl _) ⟨hp, leP_refl p⟩
  exact this.2
/-! ### Fixed points -/
def fixP (l : List Con) (q : List Int) : Prop := ∀ c ∈ l, 0 ≤ slV c q ∧ impC c q = []
theorem rnd_fix : ∀ {l : List Con} {i : Int} {p q : List Int}, l.all cOk = true → p.length = 12 → 0 ≤ i → rnd l i p = (q, -1) → zer q ≤ zer p ∧ (zer q = zer p → q = p ∧ fixP l p)
  | [], i, p, q, _, _, _, h => by
    have : p = q := congrArg Prod.fst h
    subst this
    exact ⟨Nat.le_refl _, fun _ => ⟨rfl, fun c hc => by simp at hc⟩⟩
  | c :: r, i, p, q, hl, hp, hi, h => by
    simp only [List.all_cons, Bool.and_eq_true] at hl
    rw [rnd_cons] at h
    split at h
    · have := congrArg Prod.snd h
      simp at this; omega
    · rename_i hs
      obtain ⟨h1, h2⟩ := rnd_fix hl.2 (by rw [asgL_len]; exact hp) (by omega) h
      have h3 := zer_impA hl.1 hp
      refine ⟨by omega, fun e => ?_⟩
      have h4 : (impC c p).length = 0 := by omega
      have h5 : impC c p = [] := List.length_eq_zero_iff.1 h4
      have h6 : asgL p (impC c p) = p := by rw [h5]; rfl
      rw [h6] at h2
      obtain ⟨rfl, h7⟩ := h2 e
      refine ⟨rfl, fun d hd => ?_⟩
      rcases List.mem_cons.1 hd with rfl | hd
      · exact ⟨by omega, h5⟩
      · exact h7 d hd
theorem prop_fix {l : List Con} (hl : l.all cOk = true) : ∀ {n : Nat} {p q : List Int}, zer p ≤ n → p.length = 12 → prop l p = (q, -1) → fixP l q := by
  intro n
  induction n with
  | zero =>
    intro p q hn hp h
    cases e : rnd l 0 p with
    | mk a b =>
      have hr := rnd_rng (l := l) (i := 0) (p := p) (by decide)
      rw [e] at hr
      rcases hr with hr | hr
      · dsimp only at hr; subst hr
        have h1 := rnd_fix hl hp (by decide) e
        rw [prop_done e (by omega)] at h
        obtain rfl : a = q := congrArg Prod.fst h
        obtain ⟨rfl, h2⟩ := h1.2 (by omega)
        exact h2
      · rw [prop, e] at h
        simp only [hr.1, if_true] at h
        have := congrArg Prod.snd h
        simp at this hr; omega
  | succ n ih =>
    intro p q hn hp h
    cases e : rnd l 0 p with
    | mk a b =>
      have hr := rnd_rng (l := l) (i := 0) (p := p) (by decide)
      rw [e] at hr
      rcases hr with hr | hr
      · dsimp only at hr; subst hr
        have h1 := rnd_fix hl hp (by decide) e
        by_cases hz : zer a < zer p
        · rw [prop_again e hz] at h
          exact ih (by omega) (by have := rnd_len (l := l) (i := 0) (p := p); rw [e] at this; exact this.trans hp) h
        · rw [prop_done e hz] at h
          obtain rfl : a = q := congrArg Prod.fst h
          obtain ⟨rfl, h2⟩ := h1.2 (by omega)
          exact h2
      · rw [prop, e] at h
        simp only [hr.1, if_true] at h
        have := congrArg Prod.snd h
        simp at this hr; omega
theorem fix_prop {l : List Con} {q : List Int} (h : fixP l q) : prop l q = (q, -1) := by
  have : ∀ {l : List Con} {i : Int}, fixP l q → rnd l i q = (q, -1) := by
    intro l
    induction l with
    | nil => intro i _; rfl
    | cons c r ih =>
      intro i h
      have h1 := h c (by simp)
      rw [rnd_cons, if_neg (by omega), h1.2]
      exact ih (fun d hd => h d (by simp [hd]))
  exact prop_done (this h) (by omega)
/-- Below a fixed point nothing is violated, and propagation stays below. -/
theorem below {c : Con} (hc : cOk c = true) {p q : List Int} (hp : paOk p = true) (hq : paOk q = true) (h : leP p q) (h1 : 0 ≤ slV c q) (h2 : impC c q = []) : 0 ≤ slV c p ∧ leP (asgL p (impC c p)) q := by
  have hlt : ∀ t ∈ c.1, litOk t.2 = true ∧ 1 ≤ t.1 ∧ t.1 ≤ 1000 := okFrom_all (cOk_ok hc)
  have hle : ∀ t ∈ c.1, (if 0 ≤ stV q t.2 then t.1 else 0) ≤ (if 0 ≤ stV p t.2 then t.1 else 0) := fun t ht => by
    have h3 := hlt t ht
    by_cases h4 : 0 ≤ stV p t.2
    · rw [if_pos h4]; split <;> omega
    · rw [if_neg h4, if_neg (by rw [h t.2 h3.1 (by omega)]; exact h4)]; exact Int.le_refl _
  have hs : slV c q ≤ slV c p := by rw [slV_F, slV_F]; have := sumF_le hle; omega
  refine ⟨by omega, ?_⟩
  have key : ∀ m ∈ impC c p, stV q m = 1 := by
    intro m hm
    obtain ⟨t, ht, rfl, h3, h4⟩ := impC_mem hm
    have h5 := hlt t ht
    have hr := stV_rng hq t.2
    by_cases e0 : stV q t.2 = 0
    · exfalso
      have : t.2 ∈ impC c q := List.mem_map.2 ⟨t, List.mem_filter.2 ⟨ht, by rw [decide_eq_true_eq]; exact ⟨e0, by omega⟩⟩, rfl⟩
      rw [h2] at this; simp at this
    · by_cases e1 : stV q t.2 = -1
      · exfalso
        have := sumF_lt (d := t.1) hle ht (by rw [if_neg (by omega), if_pos (by omega)]; omega)
        rw [slV_F] at h1 h4; omega
      · omega
  have hmono : ∀ {ms : List Int} {p : List Int}, p.length = 12 → leP p q → (∀ m ∈ ms, litOk m = true ∧ stV q m = 1) → leP (asgL p ms) q := by
    intro ms
    induction ms with
    | nil => intro p _ h _; exact h
    | cons m r ih =>
      intro p hp h hm
      have hm0 := hm m (by simp)
      refine ih (p := asg p m) (by rw [asg_len]; exact hp) (fun l hl h0 => ?_) (fun m hm' => hm m (by simp [hm']))
      rw [stV_asg hp hm0.1 hl] at h0 ⊢
      by_cases e1 : l = m
      · subst e1; rw [if_pos rfl]; exact hm0.2
      · rw [if_neg e1] at h0 ⊢
        by_cases e2 : l = -m
        · subst e2; rw [if_pos rfl, stV_neg (litOk_iff.1 hm0.1).1, hm0.2]
        · rw [if_neg e2] at h0 ⊢; exact h l hl h0
  exact hmono (paOk_len hp) h (fun m hm => ⟨impC_lit hc hm, key m hm⟩)
theorem rnd_below : ∀ {l : List Con} {i : Int} {p q : List Int}, l.all cOk = true → paOk p = true → paOk q = true → leP p q → fixP l q → (rnd l i p).2 = -1 ∧ leP (rnd l i p).1 q
  | [], i, p, q, _, _, _, h, _ => ⟨rfl, h⟩
  | c :: r, i, p, q, hl, hp, hq, h, hf => by
    simp only [List.all_cons, Bool.and_eq_true] at hl
    have h1 := hf c (by simp)
    have h2 := below hl.1 hp hq h h1.1 h1.2
    rw [rnd_cons, if_neg (by omega)]
    exact rnd_below hl.2 (asgL_ok hp) hq h2.2 (fun d hd => hf d (by simp [hd]))
theorem prop_below {l : List Con} (hl : l.all cOk = true) {q : List Int} (hq : paOk q = true) (hf : fixP l q) : ∀ {n : Nat} {p : List Int}, zer p ≤ n → paOk p = true → leP p q → (prop l p).2 = -1 ∧ leP (prop l p).1 q := by
  intro n
  induction n with
  | zero =>
    intro p hn hp h
    have h1 := rnd_below (i := 0) hl hp hq h hf
    rw [prop, if_neg (by omega), dif_neg (by omega)]; exact h1
  | succ n ih =>
    intro p hn hp h
    have h1 := rnd_below (i := 0) hl hp hq h hf
    rw [prop, if_neg (by omega)]
    split
    · exact ih (by omega) (rnd_ok hp) h1.2
    · exact h1
/-! ### Values -/
def agB (p : List Int) (bs : List Bool) : Prop := ∀ m, litOk m = true → stV p m = 1 → litV bs m = true
theorem ag_no {p : List Int} {bs : List Bool} (h : agB p bs) {m : Int} (hm : litOk m = true) (h0 : stV p m = -1) : litV bs m = false := by
  have hm0 := (litOk_iff.1 hm).1
  have := h (-m) (litOk_opp hm) (by rw [stV_neg hm0, h0]; rfl)
  rw [litV_opp hm0] at this
  simpa using this
theorem ag_step {c : Con} (hc : cOk c = true) {p : List Int} (hp : paOk p = true) {bs : List Bool} (h : agB p bs) (hv : holdsV c bs = true) : 0 ≤ slV c p ∧ agB (asgL p (impC c p)) bs := by
  have hlt : ∀ t ∈ c.1, litOk t.2 = true ∧ 1 ≤ t.1 ∧ t.1 ≤ 1000 := okFrom_all (cOk_ok hc)
  unfold holdsV at hv
  rw [decide_eq_true_eq, sumV_F] at hv
  have hle : ∀ t ∈ c.1, (if litV bs t.2 then t.1 else 0) ≤ (if 0 ≤ stV p t.2 then t.1 else 0) := fun t ht => by
    have h3 := hlt t ht
    have hr := stV_rng hp t.2
    by_cases h4 : 0 ≤ stV p t.2
    · rw [if_pos h4]; split <;> omega
    · rw [if_neg h4, if_neg (by rw [ag_no h h3.1 (by omega)]; decide)]; exact Int.le_refl _
  have hs : 0 ≤ slV c p := by rw [slV_F]; have := sumF_le hle; omega
  refine ⟨hs, ?_⟩
  have key : ∀ m ∈ impC c p, litV bs m = true := by
    intro m hm
    obtain ⟨t, ht, rfl, h3, h4⟩ := impC_mem hm
    cases e : litV bs t.2
    · exfalso
      have := sumF_lt (d := t.1) hle ht (by rw [if_neg (by rw [e]; decide), if_pos (by omega)]; omega)
      rw [slV_F] at h4; omega
    · rfl
  have hmono : ∀ {ms : List Int} {p : List Int}, p.length = 12 → agB p bs → (∀ m ∈ ms, litOk m = true ∧ litV bs m = true) → agB (asgL p ms) bs := by
    intro ms
    induction ms with
    | nil => intro p _ h _; exact h
    | cons m r ih =>
      intro p hp h hm
      have hm0 := hm m (by simp)
      refine ih (p := asg p m) (by rw [asg_len]; exact hp) (fun l hl h0 => ?_) (fun m hm' => hm m (by simp [hm']))
      rw [stV_asg hp hm0.1 hl] at h0
      by_cases e1 : l = m
      · subst e1; exact hm0.2
      · rw [if_neg e1] at h0
        by_cases e2 : l = -m
        · subst e2; rw [if_pos rfl] at h0; cases h0
        · rw [if_neg e2] at h0; exact h l hl h0
  exact hmono (paOk_len hp) h (fun m hm => ⟨impC_lit hc hm, key m hm⟩)
theorem rnd_ag : ∀ {l : List Con} {i : Int} {p : List Int} {bs : List Bool}, l.all cOk = true → paOk p = true → agB p bs → satV l bs = true → (rnd l i p).2 = -1 ∧ agB (rnd l i p).1 bs
  | [], i, p, bs, _, _, h, _ => ⟨rfl, h⟩
  | c :: r, i, p, bs, hl, hp, h, hs => by
    simp only [List.all_cons, Bool.and_eq_true] at hl
    unfold satV at hs
    simp only [List.all_cons, Bool.and_eq_true] at hs
    have h2 := ag_step hl.1 hp h hs.1
    rw [rnd_cons, if_neg (by omega)]
    exact rnd_ag hl.2 (asgL_ok hp) h2.2 hs.2
theorem prop_ag {l : List Con} (hl : l.all cOk = true) {bs : List Bool} (hs : satV l bs = true) : ∀ {n : Nat} {p : List Int}, zer p ≤ n → paOk p = true → agB p bs → (prop l p).2 = -1 ∧ agB (prop l p).1 bs := by
  intro n
  induction n with
  | zero =>
    intro p hn hp h
    have h1 := rnd_ag (i := 0) hl hp h hs
    rw [prop, if_neg (by omega), dif_neg (by omega)]; exact h1
  | succ n ih =>
    intro p hn hp h
    have h1 := rnd_ag (i := 0) hl hp h hs
    rw [prop, if_neg (by omega)]
    split
    · exact ih (by omega) (rnd_ok hp) h1.2
    · exact h1
/-! ### By reverse unit propagation -/
def zeroP : List Int := List.replicate 12 0
theorem zero_ok : paOk zeroP = true := by decide
theorem stV_zeroP {m : Int} : stV zeroP m = 0 := by
  have : ∀ k, zeroP.getD k default = 0 := fun k => by
    unfold zeroP
    rw [List.getD_eq_getElem?_getD, List.getElem?_replicate]
    split <;> rfl
  unfold stV; rw [this, this]; split <;> rfl
theorem leP_zero {q : List Int} : leP zeroP q := fun m _ h => absurd stV_zeroP h
def rupV (l : List Con) (c : Con) : Bool := decide (0 ≤ (prop (l ++ [negC c]) zeroP).2)
theorem rup_no {l : List Con} {c : Con} (hl : l.all cOk = true) (hc : cOk c = true) (h : rupV l c = false) : ∃ q, paOk q = true ∧ fixP l q ∧ 0 ≤ slV (negC c) q ∧ impC (negC c) q = [] := by
  have hl2 : (l ++ [negC c]).all cOk = true := by rw [List.all_append, hl]; simp [negC_ok hc]
  unfold rupV at h
  rw [decide_eq_false_iff_not] at h
  have h1 := prop_rng (l := l ++ [negC c]) (n := zer zeroP) (p := zeroP) (Nat.le_refl _)
  have h2 : prop (l ++ [negC c]) zeroP = ((prop (l ++ [negC c]) zeroP).1, -1) := Prod.ext rfl (by dsimp only; omega)
  have h3 := prop_fix hl2 (Nat.le_refl _) (by rfl) h2
  exact ⟨_, prop_ok zero_ok, fun d hd => h3 d (by simp [hd]), h3 _ (by simp)⟩
/-- A fixed point of the negation of a clause makes all of its literals false. -/
theorem neg_clause {ts : List Term} {q : List Int} (hq : paOk q = true) (hk : okFrom 0 (ts.map oneT) = true) (h1 : 0 ≤ slV (negC (ts.map oneT, 1)) q) (h2 : impC (negC (ts.map oneT, 1)) q = []) : ∀ t ∈ ts, stV q t.2 = -1 := by
  have hlt := okFrom_all hk
  have htot : ∀ {ts : List Term}, totV (ts.map oneT) = ts.length := by
    intro ts
    induction ts with
    | nil => rfl
    | cons t r ih => rw [List.map_cons, totV_cons, ih, List.length_cons]; simp only [oneT]; omega
  have hn1 : (negC (ts.map oneT, 1)).1 = (ts.map oneT).map negT := rfl
  have hn2 : (negC (ts.map oneT, 1)).2 = ts.length := by
    show max 0 (totV (ts.map oneT) - 1 + 1) = _
    rw [htot]; omega
  have hlen : ∀ {us : List Term}, (∀ t ∈ us, t.1 = 1) → sumF (fun t => t.1) us = us.length := by
    intro us
    induction us with
    | nil => intro _; rfl
    | cons t r ih => intro h; simp only [sumF, List.length_cons]; rw [ih (fun t ht => h t (by simp [ht])), h t (by simp)]; omega
  have hone : ∀ u ∈ (ts.map oneT).map negT, u.1 = 1 := by
    intro u hu
    obtain ⟨a, ha, rfl⟩ := List.mem_map.1 hu
    obtain ⟨t, _, rfl⟩ := List.mem_map.1 ha
    rfl
  have hl2 := hlen hone
  rw [slV_F, hn1, hn2] at h1
  simp only [List.length_map] at hl2
  have hle : ∀ u ∈ (ts.map oneT).map negT, (if 0 ≤ stV q u.2 then u.1 else 0) ≤ u.1 := fun u hu => by
    have := hone u hu; split <;> omega
  intro t ht
  have hmem : negT (oneT t) ∈ (ts.map oneT).map negT := List.mem_map.2 ⟨_, List.mem_map.2 ⟨t, ht, rfl⟩, rfl⟩
  have hlo := (hlt (oneT t) (List.mem_map.2 ⟨t, ht, rfl⟩)).1
  have hm0 : t.2 ≠ 0 := (litOk_iff.1 hlo).1
  have hst : stV q (negT (oneT t)).2 = -stV q t.2 := stV_neg hm0
  have hr := stV_rng hq t.2
  by_cases e1 : stV q t.2 = 1
  · exfalso
    have h3 := sumF_lt (d := 1) (g := Prod.fst) hle hmem (by rw [if_neg (by omega), hone _ hmem]; decide)
    have h4 : sumF Prod.fst ((ts.map oneT).map negT) = ts.length := hl2
    omega
  · by_cases e0 : stV q t.2 = 0
    · exfalso
      have hs : slV (negC (ts.map oneT, 1)) q ≤ 0 := by
        rw [slV_F, hn1, hn2]
        have h3 := sumF_le (g := Prod.fst) hle
        have h4 : sumF Prod.fst ((ts.map oneT).map negT) = ts.length := hl2
        omega
      have : (negT (oneT t)).2 ∈ impC (negC (ts.map oneT, 1)) q := List.mem_map.2 ⟨_, List.mem_filter.2 ⟨hmem, by rw [decide_eq_true_eq]; exact ⟨by omega, by rw [hone _ hmem]; exact Int.lt_of_le_of_lt hs (by decide)⟩⟩, rfl⟩
      rw [h2] at this; simp at this
    · omega
end Go.Ab

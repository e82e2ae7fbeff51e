/- Fixing told by values; pure literals; implications. -/
import Derived.Test.YtliampibpeokmaaFix
import Derived.Test.YtliampibpeokmaaLaws3
set_option linter.unusedSimpArgs false
set_option linter.unusedVariables false
namespace Go.Ab
/-! ### Values overwritten by a partial assignment -/
def ovV (p : List Int) (bs : List Bool) : List Bool := (List.range 12).map (fun i => if p.getD i default = 1 then true else if p.getD i default = -1 then false else bs.getD i default)
theorem ov_len {p : List Int} {bs : List Bool} : (ovV p bs).length = 12 := by simp [ovV]
theorem ov_at {p : List Int} {bs : List Bool} {i : Nat} (h : i < 12) : (ovV p bs).getD i default = if p.getD i default = 1 then true else if p.getD i default = -1 then false else bs.getD i default := by
  unfold ovV
  rw [List.getD_eq_getElem?_getD, List.getElem?_map, List.getElem?_range h]; rfl
theorem lit_ov {p : List Int} (hp : paOk p = true) {bs : List Bool} {l : Int} (h : litOk l = true) : litV (ovV p bs) l = if stV p l = 1 then true else if stV p l = -1 then false else litV bs l := by
  have h1 := litOk_iff.1 h
  have hi : (varOf l - 1).toNat < 12 := by unfold varOf; omega
  unfold litV
  rw [ov_at hi]
  unfold stV
  by_cases hn : l < 0
  · have e : (varOf l - 1).toNat = (-l - 1).toNat := by unfold varOf; omega
    have hr := paOk_at hp (-l - 1).toNat
    rw [if_pos hn, e, decide_eq_false (by omega)]
    by_cases e1 : p.getD (-l - 1).toNat default = 1
    · rw [if_pos e1, if_neg (by omega), if_pos (by omega)]; rfl
    · by_cases e2 : p.getD (-l - 1).toNat default = -1
      · rw [if_neg e1, if_pos e2, if_pos (by omega)]; rfl
      · rw [if_neg e1, if_neg e2, if_neg (by omega), if_neg (by omega)]
  · have e : (varOf l - 1).toNat = (l - 1).toNat := by unfold varOf; omega
    rw [if_neg hn, e, decide_eq_true (by omega)]
    by_cases e1 : p.getD (l - 1).toNat default = 1
    · rw [if_pos e1, if_pos e1]; rfl
    · by_cases e2 : p.getD (l - 1).toNat default = -1
      · rw [if_neg e1, if_pos e2, if_neg e1, if_pos e2]; rfl
      · rw [if_neg e1, if_neg e2, if_neg e1, if_neg e2]
theorem sum_ov {p : List Int} (hp : paOk p = true) {bs : List Bool} : ∀ {ts : List Term}, (∀ t ∈ ts, litOk t.2 = true) → sumV ts (ovV p bs) = trueS p ts + sumV (fixT p ts) bs
  | [], _ => rfl
  | t :: r, h => by
    have ih := sum_ov hp (bs := bs) (ts := r) (fun t ht => h t (by simp [ht]))
    have hl := h t (by simp)
    have hr := stV_rng hp t.2
    rw [sumV_cons, trueS_cons, ih]
    have e : term (ovV p bs) t = if litV (ovV p bs) t.2 then t.1 else 0 := rfl
    rw [e, lit_ov hp hl]
    unfold fixT
    by_cases e0 : stV p t.2 = 0
    · have n1 : ¬ stV p t.2 = 1 := by omega
      have n2 : ¬ stV p t.2 = -1 := by omega
      rw [List.filter_cons_of_pos (by rw [decide_eq_true_eq]; exact e0), sumV_cons]
      simp only [if_neg n1, if_neg n2]
      have : term bs t = if litV bs t.2 then t.1 else 0 := rfl
      omega
    · rw [List.filter_cons_of_neg (by rw [decide_eq_true_eq]; exact e0)]
      by_cases e1 : stV p t.2 = 1
      · simp only [if_pos e1, if_true]; omega
      · have e2 : stV p t.2 = -1 := by omega
        simp only [if_neg e1, if_pos e2, Bool.false_eq_true, if_false]; omega
theorem fix_holds {p : List Int} (hp : paOk p = true) {c : Con} (h : cOk c = true) (bs : List Bool) : holdsV (fixC p c) bs = holdsV c (ovV p bs) := by
  have hl : ∀ t ∈ c.1, litOk t.2 = true := fun t ht => (okFrom_all (cOk_ok h) t ht).1
  have e := sum_ov hp (bs := bs) hl
  have hb := fixB_eq (p := p) (cOk_coefs h) (cOk_bound h).1
  have hs := (sumV_bounds (bs := bs) (cOk_coefs (fix_ok (p := p) h))).1
  unfold holdsV
  have e2 : (fixC p c).2 = fixB p c.1 c.2 := rfl
  have e3 : (fixC p c).1 = fixT p c.1 := rfl
  rw [e2, e3, hb, e]
  rw [e3] at hs
  exact decide_eq_decide.2 (by omega)
theorem fix_sat {p : List Int} (hp : paOk p = true) {l : List Con} (h : l.all cOk = true) (bs : List Bool) : satV (l.map (fixC p)) bs = satV l (ovV p bs) := by
  unfold satV
  rw [List.all_map]
  apply Bool.eq_iff_iff.2
  rw [List.all_eq_true, List.all_eq_true]
  exact ⟨fun q c hc => by rw [← fix_holds hp (List.all_eq_true.1 h c hc)]; exact q c hc, fun q c hc => (fix_holds hp (List.all_eq_true.1 h c hc) bs).trans (q c hc)⟩
theorem ov_idem {p : List Int} {bs : List Bool} : ovV p (ovV p bs) = ovV p bs := by
  apply List.ext_getElem?
  intro i
  by_cases hi : i < 12
  · have h1 := ov_at (p := p) (bs := ovV p bs) hi
    have h2 := ov_at (p := p) (bs := bs) hi
    have h3 : (ovV p (ovV p bs)).getD i default = (ovV p bs).getD i default := by
      rw [h1, h2]
      by_cases e1 : p.getD i default = 1
      · rw [if_pos e1, if_pos e1]
      · rw [if_neg e1, if_neg e1]
        by_cases e2 : p.getD i default = -1
        · rw [if_pos e2, if_pos e2]
        · rw [if_neg e2, if_neg e2]
    rw [List.getD_eq_getElem?_getD, List.getD_eq_getElem?_getD, List.getElem?_eq_getElem (by rw [ov_len]; exact hi), List.getElem?_eq_getElem (by rw [ov_len]; exact hi)] at h3
    rw [List.getElem?_eq_getElem (by rw [ov_len]; exact hi), List.getElem?_eq_getElem (by rw [ov_len]; exact hi)]
    simpa using h3
  · rw [List.getElem?_eq_none (by rw [ov_len]; omega), List.getElem?_eq_none (by rw [ov_len]; omega)]
/-! ### Counts that are not zero -/
theorem cntS_pos {l : List Con} {k : Nat} : 0 < cntS l k ↔ ∃ n, n < k ∧ satV l (assn n) = true := by
  unfold cntS
  rw [List.countP_pos_iff]
  exact ⟨fun ⟨n, h1, h2⟩ => ⟨n, List.mem_range.1 h1, h2⟩, fun ⟨n, h1, h2⟩ => ⟨n, List.mem_range.2 h1, h2⟩⟩
theorem csV_pos {l : List Con} (h : pOk l = true) : 0 < csV l ↔ ∃ bs : List Bool, bs.length = 12 ∧ satV l bs = true := by
  unfold csV
  rw [if_pos h]
  have := cntS_pos (l := l) (k := 4096)
  constructor
  · intro q
    obtain ⟨n, h1, h2⟩ := this.1 (by omega)
    exact ⟨assn n, assn_length, h2⟩
  · rintro ⟨bs, h1, h2⟩
    obtain ⟨q1, q2⟩ := assn_enc h1
    have := this.2 ⟨enc bs, q1, by rw [q2]; exact h2⟩
    omega
/-! ### Coefficients -/
def coefF (m : Int) : List Term → Int
  | [] => 0
  | t :: r => if t.2 = m then t.1 else coefF m r
theorem coefF_hit {m : Int} {ts : List Term} {k : Nat} (h : k < ts.length) (hm : (ts.getD k default).2 = m) : coefF m (ts.drop k) = (ts.getD k default).1 := by
  rw [drop_getD (d := default) h, coefF, if_pos hm]
theorem coefF_skip {m : Int} {ts : List Term} {k : Nat} (h : k < ts.length) (hm : (ts.getD k default).2 ≠ m) : coefF m (ts.drop k) = coefF m (ts.drop (k + 1)) := by
  rw [drop_getD (d := default) h, coefF, if_neg hm]
theorem coefF_end {m : Int} {ts : List Term} {k : Nat} (h : ts.length ≤ k) : coefF m (ts.drop k) = 0 := by
  rw [List.drop_of_length_le h]; rfl
theorem coefF_rng {m : Int} : ∀ {ts : List Term}, (∀ t ∈ ts, 1 ≤ t.1 ∧ t.1 ≤ 1000) → 0 ≤ coefF m ts ∧ coefF m ts ≤ 1000
  | [], _ => by simp [coefF]
  | t :: r, h => by
    have h1 := h t (by simp)
    have h2 := coefF_rng (m := m) (ts := r) (fun t ht => h t (by simp [ht]))
    rw [coefF]; split <;> omega
theorem coefF_pos {m : Int} : ∀ {ts : List Term}, (∀ t ∈ ts, 1 ≤ t.1) → (0 < coefF m ts ↔ ∃ t ∈ ts, t.2 = m)
  | [], _ => by simp [coefF]
  | t :: r, h => by
    have h1 := h t (by simp)
    have h2 := coefF_pos (m := m) (ts := r) (fun t ht => h t (by simp [ht]))
    rw [coefF]
    by_cases e : t.2 = m
    · rw [if_pos e]; exact ⟨fun _ => ⟨t, by simp, e⟩, fun _ => by omega⟩
    · rw [if_neg e, h2]
      exact ⟨fun ⟨u, hu, q⟩ => ⟨u, by simp [hu], q⟩, fun ⟨u, hu, q⟩ => by
        rcases List.mem_cons.1 hu with rfl | hu
        · exact absurd q e
        · exact ⟨u, hu, q⟩⟩
/-! ### Pure literals -/
def hasV (l : List Con) (m : Int) : Bool := l.any (fun c => decide (0 < coefF m c.1))
theorem hasV_next {l : List Con} {m : Int} {k : Nat} (h : k < l.length) : hasV (l.take (k + 1)) m = (hasV (l.take k) m || decide (0 < coefF m (l.getD k default).1)) := by
  unfold hasV
  rw [take_succD (d := default) h, List.any_append, List.any_cons, List.any_nil, Bool.or_false]
def pureN (l : List Con) : Nat → List Int
  | 0 => []
  | k + 1 => pureN l k ++ (if hasV l ((k : Int) + 1) && !hasV l (-((k : Int) + 1)) then [(k : Int) + 1] else if hasV l (-((k : Int) + 1)) && !hasV l ((k : Int) + 1) then [-((k : Int) + 1)] else [])
theorem pureN_y {l : List Con} {k : Nat} (h1 : hasV l ((k : Int) + 1) = true) (h2 : hasV l (-((k : Int) + 1)) = false) : pureN l (k + 1) = pureN l k ++ [(k : Int) + 1] := by rw [pureN, h1, h2]; rfl
theorem pureN_n {l : List Con} {k : Nat} (h1 : hasV l ((k : Int) + 1) = false) (h2 : hasV l (-((k : Int) + 1)) = true) : pureN l (k + 1) = pureN l k ++ [-((k : Int) + 1)] := by rw [pureN, h1, h2]; rfl
theorem pureN_0 {l : List Con} {k : Nat} (h : hasV l ((k : Int) + 1) = hasV l (-((k : Int) + 1))) : pureN l (k + 1) = pureN l k := by
  rw [pureN, h]
  cases hasV l (-((k : Int) + 1)) <;> simp
theorem pureN_len {l : List Con} : ∀ {k : Nat}, (pureN l k).length ≤ k
  | 0 => Nat.le_refl _
  | k + 1 => by
    have := pureN_len (l := l) (k := k)
    rw [pureN, List.length_append]
    split
    · simp; omega
    · split <;> simp <;> omega
theorem pureN_mem {l : List Con} : ∀ {k : Nat} {m : Int}, m ∈ pureN l k → (m ≠ 0 ∧ -(k : Int) ≤ m ∧ m ≤ k) ∧ hasV l (-m) = false
  | 0, m, h => by cases h
  | k + 1, m, h => by
    rw [pureN] at h
    rcases List.mem_append.1 h with h1 | h1
    · have := pureN_mem h1; exact ⟨by omega, this.2⟩
    · split at h1
      · rename_i q
        simp at h1; subst h1
        simp only [Bool.and_eq_true, Bool.not_eq_true'] at q
        exact ⟨by omega, q.2⟩
      · split at h1
        · rename_i q
          simp at h1; subst h1
          simp only [Bool.and_eq_true, Bool.not_eq_true'] at q
          exact ⟨by omega, by rw [Int.neg_neg]; exact q.2⟩
        · cases h1
def pureL (l : List Con) : List Int := if pOk l then pureN l 12 else []
theorem pureL_ok {l : List Con} (h : pOk l = true) : pureL l = pureN l 12 := by unfold pureL; rw [if_pos h]
theorem pureL_bad {l : List Con} (h : pOk l = false) : pureL l = [] := by unfold pureL; rw [if_neg (by rw [h]; decide)]
/-- Making a literal true whose negation does not occur keeps a constraint. -/
theorem holds_pure {c : Con} (hc : cOk c = true) {m : Int} (hm : litOk m = true) (hno : ¬ 0 < coefF (-m) c.1) {bs : List Bool} (h : holdsV c bs = true) : holdsV c (ovV (justV m) bs) = true := by
  have hl : ∀ t ∈ c.1, litOk t.2 = true := fun t ht => (okFrom_all (cOk_ok hc) t ht).1
  have hcf := cOk_coefs hc
  have hnn : ∀ t ∈ c.1, t.2 ≠ -m := fun t ht e => hno ((coefF_pos (fun t ht => (hcf t ht).1)).2 ⟨t, ht, e⟩)
  have key : ∀ ts : List Term, (∀ t ∈ ts, t ∈ c.1) → sumV ts bs ≤ sumV ts (ovV (justV m) bs) := by
    intro ts
    induction ts with
    | nil => intro _; exact Int.le_refl _
    | cons t r ih =>
      intro q
      have i1 := ih (fun t ht => q t (by simp [ht]))
      have ht := q t (by simp)
      have c1 := hcf t ht
      rw [sumV_cons, sumV_cons]
      have e : term bs t ≤ term (ovV (justV m) bs) t := by
        unfold term
        rw [lit_ov just_ok (hl t ht), stV_just hm (hl t ht), if_neg (hnn t ht)]
        by_cases e1 : t.2 = m
        · simp only [if_pos e1, if_true]; split <;> omega
        · simp only [if_neg e1, show ¬ ((0 : Int) = 1) by decide, show ¬ ((0 : Int) = -1) by decide, if_false]; exact Int.le_refl _
      omega
  have := key c.1 (fun t ht => ht)
  have h0 := of_decide_eq_true h
  exact decide_eq_true (by omega)
theorem pure_sat {l : List Con} (h : pOk l = true) {m : Int} (hm : m ∈ pureL l) : litOk m = true ∧ (0 < csV l ↔ 0 < csV (flL l m)) := by
  rw [pureL_ok h] at hm
  obtain ⟨h1, h2⟩ := pureN_mem hm
  have hlit : litOk m = true := litOk_iff.2 (by omega)
  have hfo := flOk_of h hlit
  have hall := pOk_all h
  refine ⟨hlit, ?_⟩
  rw [csV_pos h, csV_pos (flL_pOk hfo), flL_ok hfo]
  constructor
  · rintro ⟨bs, e1, e2⟩
    refine ⟨bs, e1, ?_⟩
    rw [fix_sat just_ok hall]
    apply List.all_eq_true.2
    intro c hc
    refine holds_pure (List.all_eq_true.1 hall c hc) hlit ?_ (List.all_eq_true.1 e2 c hc)
    intro q
    have : hasV l (-m) = true := List.any_eq_true.2 ⟨c, hc, decide_eq_true q⟩
    rw [h2] at this; cases this
  · rintro ⟨bs, e1, e2⟩
    rw [fix_sat just_ok hall] at e2
    exact ⟨ovV (justV m) bs, ov_len, e2⟩
/-! ### Implication -/
theorem pOk_two {a b : Con} (ha : cOk a = true) (hb : cOk b = true) : pOk [a, b] = true := by simp [pOk, ha, hb]
theorem ic_neg {a b : Con} (ha : cOk a = true) (hb : cOk b = true) : icR a b = decide (csV [a, negC b] = 0) := by
  have hp := pOk_two ha (negC_ok hb)
  have h1 := csV_pos hp
  have hr := csV_rng [a, negC b]
  apply Bool.eq_iff_iff.2
  rw [icR_iff ha hb, decide_eq_true_eq]
  constructor
  · intro q
    have : ¬ 0 < csV [a, negC b] := by
      intro q2
      obtain ⟨bs, e1, e2⟩ := h1.1 q2
      simp only [satV, List.all_cons, List.all_nil, Bool.and_true, Bool.and_eq_true] at e2
      obtain ⟨k1, k2⟩ := assn_enc e1
      have := q (enc bs) k1 (by rw [k2]; exact e2.1)
      rw [k2] at this
      have e3 := e2.2
      rw [holds_neg hb, this] at e3; cases e3
    omega
  · intro q n hn hv
    cases hb2 : holdsV b (assn n)
    · exfalso
      have : 0 < csV [a, negC b] := h1.2 ⟨assn n, assn_length, by
        simp only [satV, List.all_cons, List.all_nil, Bool.and_true, Bool.and_eq_true]
        exact ⟨hv, by rw [holds_neg hb, hb2]; rfl⟩⟩
      omega
    · rfl
/-! ### Covering -/
def lossV (a b : Con) (k : Nat) : Int := (a.1.take k).foldl (fun s t => s + max 0 (t.1 - coefF t.2 b.1)) 0
theorem loss_next {a b : Con} {k : Nat} (h : k < a.1.length) : lossV a b (k + 1) = lossV a b k + max 0 ((a.1.getD k default).1 - coefF (a.1.getD k default).2 b.1) := by
  unfold lossV
  rw [take_succD (d := default) h, List.foldl_append]; rfl
def covB (a b : Con) : Bool := decide (b.2 ≤ a.2 - lossV a b a.1.length)
def covV (a b : Con) : Bool := cOk a && cOk b && covB a b
theorem loss_rng {a b : Con} (ha : cOk a = true) (hb : cOk b = true) : ∀ {k : Nat}, k ≤ a.1.length → 0 ≤ lossV a b k ∧ lossV a b k ≤ 1000 * k
  | 0, _ => by simp [lossV]
  | k + 1, h => by
    have ih := loss_rng ha hb (k := k) (by omega)
    have h1 := cOk_terms ha (k := k) (by omega)
    have h2 := coefF_rng (m := (a.1.getD k default).2) (cOk_coefs hb)
    rw [loss_next (by omega)]; omega
/-- The common part of a's true literals in b. -/
def comS (bs : List Bool) (ts us : List Term) : Int := ts.foldl (fun s t => s + (if litV bs t.2 then coefF t.2 us else 0)) 0
theorem comS_cons {bs : List Bool} {t : Term} {r us : List Term} : comS bs (t :: r) us = (if litV bs t.2 then coefF t.2 us else 0) + comS bs r us := by
  unfold comS
  rw [List.foldl_cons, foldl_add]; omega
theorem comS_one {bs : List Bool} {u : Term} (hu : 1 ≤ u.1) {us : List Term} (hus : ∀ t ∈ us, 1 ≤ t.1 ∧ t.1 ≤ 1000) : ∀ {ts : List Term} {p : Int}, okFrom p ts = true →
    comS bs ts (u :: us) ≤ comS bs ts us + (if ∃ t ∈ ts, t.2 = u.2 then term bs u else 0)
  | [], _, _ => by simp [comS]
  | t :: r, p, h => by
    have hg := okFrom_gt h
    by_cases hv : litOk t.2 = true ∧ p < varOf t.2 ∧ 1 ≤ t.1 ∧ t.1 ≤ 1000
    · have h0 := h
      rw [okFrom_good hv.1 hv.2.1 hv.2.2.1 hv.2.2.2] at h
      have ih := comS_one hu hus h (bs := bs)
      have hc := coefF_rng (m := t.2) hus
      rw [comS_cons, comS_cons]
      have e1 : coefF t.2 (u :: us) = if u.2 = t.2 then u.1 else coefF t.2 us := rfl
      by_cases e : u.2 = t.2
      · have hno : ¬ ∃ w ∈ r, w.2 = u.2 := by
          rintro ⟨w, hw, q⟩
          have := okFrom_gt h w hw
          rw [q, e] at this; omega
        rw [if_neg hno] at ih
        rw [if_pos (show ∃ w ∈ t :: r, w.2 = u.2 from ⟨t, by simp, e.symm⟩), e1, if_pos e]
        have e2 : term bs u = if litV bs t.2 then u.1 else 0 := by unfold term; rw [e]
        rw [e2]
        split <;> omega
      · rw [e1, if_neg e]
        by_cases q : ∃ w ∈ r, w.2 = u.2
        · have q2 : ∃ w ∈ t :: r, w.2 = u.2 := by obtain ⟨w, hw, e3⟩ := q; exact ⟨w, by simp [hw], e3⟩
          rw [if_pos q] at ih; rw [if_pos q2]; omega
        · have q2 : ¬ ∃ w ∈ t :: r, w.2 = u.2 := by
            rintro ⟨w, hw, e3⟩
            rcases List.mem_cons.1 hw with rfl | hw
            · exact e e3.symm
            · exact q ⟨w, hw, e3⟩
          rw [if_neg q] at ih; rw [if_neg q2]; omega
    · rw [okFrom_bad hv] at h; cases h
theorem comS_le {bs : List Bool} {ts : List Term} {p : Int} (h : okFrom p ts = true) : ∀ {us : List Term}, (∀ t ∈ us, 1 ≤ t.1 ∧ t.1 ≤ 1000) → comS bs ts us ≤ sumV us bs
  | [], _ => by
    have : ∀ ts : List Term, comS bs ts [] = 0 := by
      intro ts
      induction ts with
      | nil => rfl
      | cons t r ih => rw [comS_cons, ih]; have : coefF t.2 [] = 0 := rfl; rw [this]; split <;> rfl
    rw [this]; exact Int.le_refl _
  | u :: us, hu => by
    have h1 := hu u (by simp)
    have h2 : ∀ t ∈ us, 1 ≤ t.1 ∧ t.1 ≤ 1000 := fun t ht => hu t (by simp [ht])
    have i1 := comS_one (bs := bs) (u := u) h1.1 h2 h
    have i2 := comS_le h (bs := bs) h2
    have i3 : 0 ≤ term bs u := by unfold term; split <;> omega
    rw [sumV_cons]
    split at i1 <;> omega
theorem sum_loss {bs : List Bool} {us : List Term} (hus : ∀ t ∈ us, 1 ≤ t.1 ∧ t.1 ≤ 1000) : ∀ {ts : List Term}, (∀ t ∈ ts, 1 ≤ t.1 ∧ t.1 ≤ 1000) → sumV ts bs ≤ comS bs ts us + ts.foldl (fun s t => s + max 0 (t.1 - coefF t.2 us)) 0
  | [], _ => by simp [sumV, comS]
  | t :: r, h => by
    have ih := sum_loss hus (bs := bs) (ts := r) (fun t ht => h t (by simp [ht]))
    have h1 := h t (by simp)
    have hc := coefF_rng (m := t.2) hus
    rw [sumV_cons, comS_cons, List.foldl_cons, foldl_add]
    unfold term
    split <;> omega
theorem cov_holds {a b : Con} (h : covV a b = true) {bs : List Bool} (hv : holdsV a bs = true) : holdsV b bs = true := by
  unfold covV at h
  simp only [Bool.and_eq_true] at h
  obtain ⟨⟨ha, hb⟩, hc⟩ := h
  have h1 := of_decide_eq_true hc
  have h2 := of_decide_eq_true hv
  have h3 := comS_le (bs := bs) (cOk_ok ha) (cOk_coefs hb)
  have h4 := sum_loss (bs := bs) (cOk_coefs hb) (cOk_coefs ha)
  unfold lossV at h1
  rw [List.take_length] at h1
  exact decide_eq_true (by omega)
theorem cov_ic {a b : Con} (h : covV a b = true) : icR a b = true := by
  have h0 := h
  unfold covV at h
  simp only [Bool.and_eq_true] at h
  exact (icR_iff h.1.1 h.1.2).2 fun n _ hv => cov_holds h0 hv
theorem div_ic {c : Con} (h : cOk c = true) {k : Int} (hk : 1 ≤ k) : icR c (chC (divK k) c) = true := by
  refine (icR_iff h (div_ok h hk)).2 fun n _ hv => ?_
  have h2 := of_decide_eq_true hv
  have key : ∀ ts : List Term, (∀ t ∈ ts, 1 ≤ t.1 ∧ t.1 ≤ 1000) → sumV ts (assn n) ≤ sumV (ts.map (chT (divK k))) (assn n) * k := by
    intro ts
    induction ts with
    | nil => intro _; simp [sumV]
    | cons t r ih =>
      intro q
      have i1 := ih (fun t ht => q t (by simp [ht]))
      have q1 := q t (by simp)
      rw [List.map_cons, sumV_cons, sumV_cons, Int.add_mul]
      have e : term (assn n) t ≤ term (assn n) (chT (divK k) t) * k := by
        unfold term chT
        dsimp only
        split
        · unfold divK
          have := Int.lt_ediv_add_one_mul_self (t.1 + k - 1) (show 0 < k by omega)
          rw [Int.add_mul, Int.one_mul] at this
          omega
        · omega
      omega
  have h3 := key c.1 (cOk_coefs h)
  apply decide_eq_true
  show divK k c.2 ≤ sumV (c.1.map (chT (divK k))) (assn n)
  have hdk : divK k c.2 = (c.2 + k - 1) / k := rfl
  rw [hdk]
  have := Int.ediv_lt_iff_lt_mul (a := c.2 + k - 1) (b := sumV (c.1.map (chT (divK k))) (assn n) + 1) (c := k) (by omega)
  rw [Int.add_mul, Int.one_mul] at this
  omega
end Go.Ab
namespace Go.Ab
theorem ext12 {a b : List Bool} (ha : a.length = 12) (hb : b.length = 12) (h : ∀ i, i < 12 → a.getD i default = b.getD i default) : a = b := by
  apply List.ext_getElem?
  intro i
  by_cases hi : i < 12
  · have h3 := h i hi
    rw [List.getD_eq_getElem?_getD, List.getD_eq_getElem?_getD, List.getElem?_eq_getElem (by omega), List.getElem?_eq_getElem (by omega)] at h3
    rw [List.getElem?_eq_getElem (by omega), List.getElem?_eq_getElem (by omega)]
    simpa using h3
  · rw [List.getElem?_eq_none (by omega), List.getElem?_eq_none (by omega)]
/-! ### Fixing frees a variable -/
theorem just_v {m : Int} (hm : litOk m = true) : (justV m).getD (varOf m - 1).toNat default = if m < 0 then -1 else 1 := by
  have h1 := litOk_iff.1 hm
  rw [just_at]
  exact if_pos ⟨rfl, by unfold varOf; omega⟩
theorem just_0 {m : Int} {i : Nat} (h : i ≠ (varOf m - 1).toNat) : (justV m).getD i default = 0 := by
  rw [just_at]
  exact if_neg (fun q => h q.1)
theorem ov_just_v {m : Int} (hm : litOk m = true) {bs : List Bool} : (ovV (justV m) bs).getD (varOf m - 1).toNat default = decide (0 < m) := by
  have h1 := litOk_iff.1 hm
  rw [ov_at (by unfold varOf; omega), just_v hm]
  by_cases hn : m < 0
  · rw [if_pos hn, decide_eq_false (by omega)]; rfl
  · rw [if_neg hn, decide_eq_true (by omega)]; rfl
theorem ov_just_0 {m : Int} {bs : List Bool} {i : Nat} (hi : i < 12) (h : i ≠ (varOf m - 1).toNat) : (ovV (justV m) bs).getD i default = bs.getD i default := by
  rw [ov_at hi, just_0 h]; rfl
theorem ov_just_true {m : Int} (hm : litOk m = true) {bs : List Bool} (hb : bs.length = 12) (h : litV bs m = true) : ovV (justV m) bs = bs := by
  refine ext12 ov_len hb fun i hi => ?_
  by_cases e : i = (varOf m - 1).toNat
  · subst e
    unfold litV at h
    rw [beq_iff_eq] at h
    rw [ov_just_v hm, h]
  · exact ov_just_0 hi e
def bitOf (m : Int) : Nat := 12 - (varOf m).toNat
theorem bitOf_lt {m : Int} (hm : litOk m = true) : bitOf m < 12 ∧ 11 - bitOf m = (varOf m - 1).toNat := by
  have h1 := litOk_iff.1 hm
  unfold bitOf varOf
  omega
theorem lit_flip {m : Int} (hm : litOk m = true) (n : Nat) : litV (assn (n ^^^ 2 ^ bitOf m)) m = !litV (assn n) m := by
  obtain ⟨b1, b2⟩ := bitOf_lt hm
  have h1 := litOk_iff.1 hm
  have hi : (varOf m - 1).toNat < 12 := by unfold varOf; omega
  unfold litV
  rw [assn_flip hi b1, decide_eq_true b2.symm, Bool.xor_true]
  cases (assn n).getD (varOf m - 1).toNat default <;> cases decide (0 < m) <;> rfl
theorem ov_just_false {m : Int} (hm : litOk m = true) {n : Nat} (h : litV (assn n) m = false) : ovV (justV m) (assn n) = assn (n ^^^ 2 ^ bitOf m) := by
  obtain ⟨b1, b2⟩ := bitOf_lt hm
  refine ext12 ov_len assn_length fun i hi => ?_
  rw [assn_flip hi b1]
  by_cases e : i = (varOf m - 1).toNat
  · subst e
    rw [ov_just_v hm, decide_eq_true b2.symm, Bool.xor_true]
    unfold litV at h
    rw [beq_eq_false_iff_ne] at h
    cases q : (assn n).getD (varOf m - 1).toNat default <;> cases q2 : decide (0 < m) <;> first | rfl | (rw [q, q2] at h; exact absurd rfl h)
  · rw [ov_just_0 hi e, decide_eq_false (by omega), Bool.xor_false]
def unitC (m : Int) : Con := ([(1, m)], 1)
theorem unit_ok {m : Int} (hm : litOk m = true) : cOk (unitC m) = true := by
  refine cOk_mk ?_ (by decide) (by decide)
  rw [okFrom_good hm (varOf_pos hm) (Int.le_refl 1) (show (1 : Int) ≤ 1000 by decide)]; rfl
theorem unit_holds {m : Int} {bs : List Bool} : holdsV (unitC m) bs = litV bs m := by
  have e : sumV (unitC m).1 bs = if litV bs m then 1 else 0 := by simp [sumV, unitC, term]
  unfold holdsV
  rw [e]
  cases litV bs m <;> rfl
theorem fl_count {l : List Con} {m : Int} (h : flOk l m = true) (hl : l.length ≤ 399) : csV (flL l m) = 2 * csV (l ++ [unitC m]) := by
  obtain ⟨hp, hm⟩ := flOk_parts h
  have hall := pOk_all hp
  have hp2 : pOk (l ++ [unitC m]) = true := by
    unfold pOk
    rw [List.length_append, List.all_append, hall]
    simp [unit_ok hm]; omega
  have e1 : csV (flL l m) = ((cntS (flL l m) 4096 : Nat) : Int) := by unfold csV; rw [if_pos (flL_pOk h)]
  have e2 : csV (l ++ [unitC m]) = ((cntS (l ++ [unitC m]) 4096 : Nat) : Int) := by unfold csV; rw [if_pos hp2]
  rw [e1, e2]
  have key : cntS (flL l m) 4096 = 2 * cntS (l ++ [unitC m]) 4096 := by
    unfold cntS
    obtain ⟨b1, _⟩ := bitOf_lt hm
    have s1 : ∀ n, satV (l ++ [unitC m]) (assn n) = (satV l (assn n) && litV (assn n) m) := by
      intro n
      unfold satV
      rw [List.all_append, List.all_cons, List.all_nil, Bool.and_true, unit_holds]
    have s2 : ∀ n, satV (flL l m) (assn n) = satV l (ovV (justV m) (assn n)) := fun n => by rw [flL_ok h, fix_sat just_ok hall]
    rw [countP_split _ _ (fun n => litV (assn n) m)]
    have p1 : (List.range 4096).countP (fun n => satV (flL l m) (assn n) && litV (assn n) m) = (List.range 4096).countP (fun n => satV (l ++ [unitC m]) (assn n)) := by
      apply countP_same
      intro n _
      rw [s1, s2]
      cases q : litV (assn n) m
      · rw [Bool.and_false, Bool.and_false]
      · rw [ov_just_true hm assn_length q]
    have p2 : (List.range 4096).countP (fun n => satV (flL l m) (assn n) && !litV (assn n) m) = (List.range 4096).countP (fun n => satV (l ++ [unitC m]) (assn n)) := by
      rw [count_flip b1 (fun n => satV (l ++ [unitC m]) (assn n))]
      apply countP_same
      intro n _
      show (satV (flL l m) (assn n) && !litV (assn n) m) = satV (l ++ [unitC m]) (assn (n ^^^ 2 ^ bitOf m))
      rw [s1, s2, lit_flip hm]
      cases q : litV (assn n) m
      · rw [ov_just_false hm q]
      · rw [Bool.not_true, Bool.and_false, Bool.and_false]
    rw [p1, p2]; omega
  rw [key]; omega
/-! ### Overwriting, step by step -/
def ovN (p : List Int) (bs : List Bool) (k : Nat) : List Bool := (List.range 12).map (fun i => if i < k then (ovV p bs).getD i default else bs.getD i default)
theorem ovN_zero {p : List Int} {bs : List Bool} (h : bs.length = 12) : ovN p bs 0 = bs := by
  refine ext12 (by simp [ovN]) h fun i hi => ?_
  unfold ovN
  rw [List.getD_eq_getElem?_getD, List.getElem?_map, List.getElem?_range hi]; rfl
theorem ovN_len {p : List Int} {bs : List Bool} {k : Nat} : (ovN p bs k).length = 12 := by simp [ovN]
theorem ovN_at {p : List Int} {bs : List Bool} {k i : Nat} (hi : i < 12) : (ovN p bs k).getD i default = if i < k then (ovV p bs).getD i default else bs.getD i default := by
  unfold ovN
  rw [List.getD_eq_getElem?_getD, List.getElem?_map, List.getElem?_range hi]; rfl
theorem ovN_all {p : List Int} {bs : List Bool} : ovN p bs 12 = ovV p bs :=
  ext12 ovN_len ov_len fun i hi => by rw [ovN_at hi, if_pos hi]
theorem ovN_skip {p : List Int} {bs : List Bool} {k : Nat} (hk : k < 12) (h : p.getD k default = 0) : ovN p bs (k + 1) = ovN p bs k := by
  refine ext12 ovN_len ovN_len fun i hi => ?_
  rw [ovN_at hi, ovN_at hi]
  by_cases e : i = k
  · subst e
    rw [if_pos (by omega), if_neg (by omega), ov_at hi, h, if_neg (by decide), if_neg (by decide)]
  · by_cases e2 : i < k
    · rw [if_pos (by omega), if_pos e2]
    · rw [if_neg (by omega), if_neg e2]
theorem ovN_set {p : List Int} {bs : List Bool} {k : Nat} (hk : k < 12) (hr : -1 ≤ p.getD k default ∧ p.getD k default ≤ 1) (h : p.getD k default ≠ 0) : ovN p bs (k + 1) = (ovN p bs k).set k (decide (0 < p.getD k default)) := by
  refine ext12 ovN_len (by rw [List.length_set]; exact ovN_len) fun i hi => ?_
  rw [ovN_at hi, List.getD_eq_getElem?_getD (l := (ovN p bs k).set k _), List.getElem?_set]
  by_cases e : k = i
  · subst e
    rw [if_pos (by omega), if_pos rfl, if_pos (by rw [ovN_len]; exact hi), ov_at hi, Option.getD_some]
    by_cases q : p.getD k default = 1
    · rw [if_pos q, q]; rfl
    · have q2 : p.getD k default = -1 := by omega
      rw [if_neg q, if_pos q2, q2]; rfl
  · rw [if_neg e, ← List.getD_eq_getElem?_getD, ovN_at hi]
    by_cases e2 : i < k
    · rw [if_pos (by omega), if_pos e2]
    · rw [if_neg (by omega), if_neg e2]
end Go.Ab
namespace Go.Ab
theorem fpOk_parts {l : List Con} {p : List Int} (h : fpOk l p = true) : pOk l = true ∧ paOk p = true := by
  unfold fpOk at h; simpa only [Bool.and_eq_true] using h
theorem fpL_ok {l : List Con} {p : List Int} (h : fpOk l p = true) : fpL l p = l.map (fixC p) := by unfold fpL; rw [if_pos h]
theorem fpL_bad {l : List Con} {p : List Int} (h : fpOk l p = false) : fpL l p = [] := by unfold fpL; rw [if_neg (by rw [h]; decide)]
theorem fpL_pOk {l : List Con} {p : List Int} (h : fpOk l p = true) : pOk (fpL l p) = true := by
  rw [fpL_ok h]; exact pOk_map (fpOk_parts h).1 (fun _ h => fix_ok h)
theorem fp_sa {l : List Con} {p : List Int} (h : fpOk l p = true) {bs : List Bool} (hb : bs.length = 12) : saV (fpL l p) bs = saV l (ovV p bs) ∧ saV (fpL l p) (ovV p bs) = saV l (ovV p bs) := by
  obtain ⟨h1, h2⟩ := fpOk_parts h
  have h3 := fpL_pOk h
  have e : ∀ cs : List Bool, cs.length = 12 → saV (fpL l p) cs = saV l (ovV p cs) := by
    intro cs hc
    unfold saV
    rw [h3, h1, hc, ov_len, fpL_ok h, fix_sat h2 (pOk_all h1)]
  exact ⟨e bs hb, by rw [e _ ov_len, ov_idem]⟩
end Go.Ab
namespace Go.Ab
theorem all_lf_dB : ∀ l : List Bool, (l.map dB).flatten.all lf = true
  | [] => rfl
  | c :: r => by rw [List.map_cons, List.flatten_cons, List.all_append, all_lf_dB r]; rfl
theorem all_lf_dI : ∀ l : List Int, (l.map dI).flatten.all lf = true
  | [] => rfl
  | c :: r => by rw [List.map_cons, List.flatten_cons, List.all_append, all_lf_dI r]; rfl
end Go.Ab

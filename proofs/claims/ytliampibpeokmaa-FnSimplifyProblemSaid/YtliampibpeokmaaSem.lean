/- Fixing told by values; pure literals; implications. -/
import Derived.Test.YtliampibpeokmaaFix
import Derived.Test.YtliampibpeokmaaLaws3
set_option linter.unusedSimpArgs false
set_option linter.unusedVariables false
namespace Go.Ab
/-! ### Values overwritten by a partial assignment -/
def ovV (p : List Int) (bs : List Bool) : List Bool := (List.range 12).map (fun i => if p.getD i default = 1 then true else if p.getD i default = -1 then false else bs.getD i default)
theorem ov_len {p : List Int} {bs : List Bool} : (ovV p bs).length = 12 := by simp [ovV]
theorem ov_at {p : List Int} {bs : List Bool} {i : Nat} (h : i < 12) : (ovV p bs).getD i default = if p.getD i default = 1 then true else if p.getD i default = -1 then false else bs.getD i default := by
  unfold ovV
  rw [List.getD_eq_getElem?_getD, List.getElem?_map, List.getElem?_range h]; rfl
theorem lit_ov {p : List Int} (hp : paOk p = true) {bs : List Bool} {l : Int} (h : litOk l = true) : litV (ovV p bs) l = if stV p l = 1 then true else if stV p l = -1 then false else litV bs l := by
  have h1 := litOk_iff.1 h
  have hi : (varOf l - 1).toNat < 12 := by unfold varOf; omega
  unfold litV
  rw [ov_at hi]
  unfold stV
  by_cases hn : l < 0
  · have e : (varOf l - 1).toNat = (-l - 1).toNat := by unfold varOf; omega
    have hr := paOk_at hp (-l - 1).toNat
    rw [if_pos hn, e, decide_eq_false (by omega)]
    by_cases e1 : p.getD (-l - 1).toNat default = 1
    · rw [if_pos e1, if_neg (by omega), if_pos (by omega)]; rfl
    · by_cases e2 : p.getD (-l - 1).toNat default = -1
      · rw [if_neg e1, if_pos e2, if_pos (by omega)]; rfl
      · rw [if_neg e1, if_neg e2, if_neg (by omega), if_neg (by omega)]
  · have e : (varOf l - 1).toNat = (l - 1).toNat := by unfold varOf; omega
    rw [if_neg hn, e, decide_eq_true (by omega)]
    by_cases e1 : p.getD (l - 1).toNat default = 1
    · rw [if_pos e1, if_pos e1]; rfl
    · by_cases e2 : p.getD (l - 1).toNat default = -1
      · rw [if_neg e1, if_pos e2, if_neg e1, if_pos e2]; rfl
      · rw [if_neg e1, if_neg e2, if_neg e1, if_neg e2]
theorem sum_ov {p : List Int} (hp : paOk p = true) {bs : List Bool} : ∀ {ts : List Term}, (∀ t ∈ ts, litOk t.2 = true) → sumV ts (ovV p bs) = trueS p ts + sumV (fixT p ts) bs
  | [], _ => rfl
  | t :: r, h => by
    have ih := sum_ov hp (bs := bs) (ts := r) (fun t ht => h t (by simp [ht]))
    have hl := h t (by simp)
    have hr := stV_rng hp t.2
    rw [sumV_cons, trueS_cons, ih]
    have e : term (ovV p bs) t = if litV (ovV p bs) t.2 then t.1 else 0 := rfl
    rw [e, lit_ov hp hl]
    unfold fixT
    by_cases e0 : stV p t.2 = 0
    · have n1 : ¬ stV p t.2 = 1 := by omega
      have n2 : ¬ stV p t.2 = -1 := by omega
      rw [List.filter_cons_of_pos (by rw [decide_eq_true_eq]; exact e0), sumV_cons]
      simp only [if_neg n1, if_neg n2]
      have : term bs t = if litV bs t.2 then t.1 else 0 := rfl
      omega
    · rw [List.filter_cons_of_neg (by rw [decide_eq_true_eq]; exact e0)]
      by_cases e1 : stV p t.2 = 1
      · simp only [if_pos e1, if_true]; omega
      · have e2 : stV p t.2 = -1 := by omega
        simp only [if_neg e1, if_pos e2, Bool.false_eq_true, if_false]; omega
theorem fix_holds {p : List Int} (hp : paOk p = true) {c : Con} (h : cOk c = true) (bs : List Bool) : holdsV (fixC p c) bs = holdsV c (ovV p bs) := by
  have hl : ∀ t ∈ c.1, litOk t.2 = true := fun t ht => (okFrom_all (cOk_ok h) t ht).1
  have e := sum_ov hp (bs := bs) hl
  have hb := fixB_eq (p := p) (cOk_coefs h) (cOk_bound h).1
  have hs := (sumV_bounds (bs := bs) (cOk_coefs (fix_ok (p := p) h))).1
  unfold holdsV
  have e2 : (fixC p c).2 = fixB p c.1 c.2 := rfl
  have e3 : (fixC p c).1 = fixT p c.1 := rfl
  rw [e2, e3, hb, e]
  rw [e3] at hs
  exact decide_eq_decide.2 (by omega)
theorem fix_sat {p : List Int} (hp : paOk p = true) {l : List Con} (h : l.all cOk = true) (bs : List Bool) : satV (l.map (fixC p)) bs = satV l (ovV p bs) := by
  unfold satV
  rw [List.all_map]
  apply Bool.eq_iff_iff.2
  rw [List.all_eq_true, List.all_eq_true]
  exact ⟨fun q c hc => by rw [← fix_holds hp (List.all_eq_true.1 h c hc)]; exact q c hc, fun q c hc => (fix_holds hp (List.all_eq_true.1 h c hc) bs).trans (q c hc)⟩
def coefF (m : Int) : List Term → Int
  | [] => 0
  | t :: r => if t.2 = m then t.1 else coefF m r
theorem coefF_hit {m : Int} {ts : List Term} {k : Nat} (h : k < ts.length) (hm : (ts.getD k default).2 = m) : coefF m (ts.drop k) = (ts.getD k default).1 := by
  rw [drop_getD (d := default) h, coefF, if_pos hm]
theorem coefF_skip {m : Int} {ts : List Term} {k : Nat} (h : k < ts.length) (hm : (ts.getD k default).2 ≠ m) : coefF m (ts.drop k) = coefF m (ts.drop (k + 1)) := by
  rw [drop_getD (d := default) h, coefF, if_neg hm]
theorem coefF_end {m : Int} {ts : List Term} {k : Nat} (h : ts.length ≤ k) : coefF m (ts.drop k) = 0 := by
  rw [List.drop_of_length_le h]; rfl
theorem coefF_rng {m : Int} : ∀ {ts : List Term}, (∀ t ∈ ts, 1 ≤ t.1 ∧ t.1 ≤ 1000) → 0 ≤ coefF m ts ∧ coefF m ts ≤ 1000
  | [], _ => by simp [coefF]
  | t :: r, h => by
    have h1 := h t (by simp)
    have h2 := coefF_rng (m := m) (ts := r) (fun t ht => h t (by simp [ht]))
    rw [coefF]; split <;> omega
def hasV (l : List Con) (m : Int) : Bool := l.any (fun c => decide (0 < coefF m c.1))
def pureN (l : List Con) : Nat → List Int
  | 0 => []
  | k + 1 => pureN l k ++ (if hasV l ((k : Int) + 1) && !hasV l (-((k : Int) + 1)) then [(k : Int) + 1] else if hasV l (-((k : Int) + 1)) && !hasV l ((k : Int) + 1) then [-((k : Int) + 1)] else [])
def pureL (l : List Con) : List Int := if pOk l then pureN l 12 else []
def lossV (a b : Con) (k : Nat) : Int := (a.1.take k).foldl (fun s t => s + max 0 (t.1 - coefF t.2 b.1)) 0
theorem loss_next {a b : Con} {k : Nat} (h : k < a.1.length) : lossV a b (k + 1) = lossV a b k + max 0 ((a.1.getD k default).1 - coefF (a.1.getD k default).2 b.1) := by
  unfold lossV
  rw [take_succD (d := default) h, List.foldl_append]; rfl
def covB (a b : Con) : Bool := decide (b.2 ≤ a.2 - lossV a b a.1.length)
def covV (a b : Con) : Bool := cOk a && cOk b && covB a b
theorem loss_rng {a b : Con} (ha : cOk a = true) (hb : cOk b = true) : ∀ {k : Nat}, k ≤ a.1.length → 0 ≤ lossV a b k ∧ lossV a b k ≤ 1000 * k
  | 0, _ => by simp [lossV]
  | k + 1, h => by
    have ih := loss_rng ha hb (k := k) (by omega)
    have h1 := cOk_terms ha (k := k) (by omega)
    have h2 := coefF_rng (m := (a.1.getD k default).2) (cOk_coefs hb)
    rw [loss_next (by omega)]; omega
/-- The common part of a's true literals in b. -/
def comS (bs : List Bool) (ts us : List Term) : Int := ts.foldl (fun s t => s + (if litV bs t.2 then coefF t.2 us else 0)) 0
theorem comS_cons {bs : List Bool} {t : Term} {r us : List Term} : comS bs (t :: r) us = (if litV bs t.2 then coefF t.2 us else 0) + comS bs r us := by
  unfold comS
  rw [List.foldl_cons, foldl_add]; omega
theorem comS_one {bs : List Bool} {u : Term} (hu : 1 ≤ u.1) {us : List Term} (hus : ∀ t ∈ us, 1 ≤ t.1 ∧ t.1 ≤ 1000) : ∀ {ts : List Term} {p : Int}, okFrom p ts = true →
    comS bs ts (u :: us) ≤ comS bs ts us + (if ∃ t ∈ ts, t.2 = u.2 then term bs u else 0)
  | [], _, _ => by simp [comS]
  | t :: r, p, h => by
    have hg := okFrom_gt h
    by_cases hv : litOk t.2 = true ∧ p < varOf t.2 ∧ 1 ≤ t.1 ∧ t.1 ≤ 1000
    · have h0 := h
      rw [okFrom_good hv.1 hv.2.1 hv.2.2.1 hv.2.2.2] at h
      have ih := comS_one hu hus h (bs := bs)
      have hc := coefF_rng (m := t.2) hus
      rw [comS_cons, comS_cons]
      have e1 : coefF t.2 (u :: us) = if u.2 = t.2 then u.1 else coefF t.2 us := rfl
      by_cases e : u.2 = t.2
      · have hno : ¬ ∃ w ∈ r, w.2 = u.2 := by
          rintro ⟨w, hw, q⟩
          have := okFrom_gt h w hw
          rw [q, e] at this; omega
        rw [if_neg hno] at ih
        rw [if_pos (show ∃ w ∈ t :: r, w.2 = u.2 from ⟨t, by simp, e.symm⟩), e1, if_pos e]
        have e2 : term bs u = if litV bs t.2 then u.1 else 0 := by unfold term; rw [e]
        rw [e2]
        split <;> omega
      · rw [e1, if_neg e]
        by_cases q : ∃ w ∈ r, w.2 = u.2
        · have q2 : ∃ w ∈ t :: r, w.2 = u.2 := by obtain ⟨w, hw, e3⟩ := q; exact ⟨w, by simp [hw], e3⟩
          rw [if_pos q] at ih; rw [if_pos q2]; omega
        · have q2 : ¬ ∃ w ∈ t :: r, w.2 = u.2 := by
            rintro ⟨w, hw, e3⟩
            rcases List.mem_cons.1 hw with rfl | hw
            · exact e e3.symm
            · exact q ⟨w, hw, e3⟩
          rw [if_neg q] at ih; rw [if_neg q2]; omega
    · rw [okFrom_bad hv] at h; cases h
theorem comS_le {bs : List Bool} {ts : List Term} {p : Int} (h : okFrom p ts = true) : ∀ {us : List Term}, (∀ t ∈ us, 1 ≤ t.1 ∧ t.1 ≤ 1000) → comS bs ts us ≤ sumV us bs
  | [], _ => by
    have : ∀ ts : List Term, comS bs ts [] = 0 := by
      intro ts
      induction ts with
      | nil => rfl
      | cons t r ih => rw [comS_cons, ih]; have : coefF t.2 [] = 0 := rfl; rw [this]; split <;> rfl
    rw [this]; exact Int.le_refl _
  | u :: us, hu => by
    have h1 := hu u (by simp)
    have h2 : ∀ t ∈ us, 1 ≤ t.1 ∧ t.1 ≤ 1000 := fun t ht => hu t (by simp [ht])
    have i1 := comS_one (bs := bs) (u := u) h1.1 h2 h
    have i2 := comS_le h (bs := bs) h2
    have i3 : 0 ≤ term bs u := by unfold term; split <;> omega
    rw [sumV_cons]
    split at i1 <;> omega
theorem sum_loss {bs : List Bool} {us : List Term} (hus : ∀ t ∈ us, 1 ≤ t.1 ∧ t.1 ≤ 1000) : ∀ {ts : List Term}, (∀ t ∈ ts, 1 ≤ t.1 ∧ t.1 ≤ 1000) → sumV ts bs ≤ comS bs ts us + ts.foldl (fun s t => s + max 0 (t.1 - coefF t.2 us)) 0
  | [], _ => by simp [sumV, comS]
  | t :: r, h => by
    have ih := sum_loss hus (bs := bs) (ts := r) (fun t ht => h t (by simp [ht]))
    have h1 := h t (by simp)
    have hc := coefF_rng (m := t.2) hus
    rw [sumV_cons, comS_cons, List.foldl_cons, foldl_add]
    unfold term
    split <;> omega
theorem cov_holds {a b : Con} (h : covV a b = true) {bs : List Bool} (hv : holdsV a bs = true) : holdsV b bs = true := by
  unfold covV at h
  simp only [Bool.and_eq_true] at h
  obtain ⟨⟨ha, hb⟩, hc⟩ := h
  have h1 := of_decide_eq_true hc
  have h2 := of_decide_eq_true hv
  have h3 := comS_le (bs := bs) (cOk_ok ha) (cOk_coefs hb)
  have h4 := sum_loss (bs := bs) (cOk_coefs hb) (cOk_coefs ha)
  unfold lossV at h1
  rw [List.take_length] at h1
  exact decide_eq_true (by omega)
end Go.Ab
namespace Go.Ab
theorem ext12 {a b : List Bool} (ha : a.length = 12) (hb : b.length = 12) (h : ∀ i, i < 12 → a.getD i default = b.getD i default) : a = b := by
  apply List.ext_getElem?
  intro i
  by_cases hi : i < 12
  · have h3 := h i hi
    rw [List.getD_eq_getElem?_getD, List.getD_eq_getElem?_getD, List.getElem?_eq_getElem (by omega), List.getElem?_eq_getElem (by omega)] at h3
    rw [List.getElem?_eq_getElem (by omega), List.getElem?_eq_getElem (by omega)]
    simpa using h3
  · rw [List.getElem?_eq_none (by omega), List.getElem?_eq_none (by omega)]
/-! ### Fixing frees a variable -/
def bitOf (m : Int) : Nat := 12 - (varOf m).toNat
def unitC (m : Int) : Con := ([(1, m)], 1)
def ovN (p : List Int) (bs : List Bool) (k : Nat) : List Bool := (List.range 12).map (fun i => if i < k then (ovV p bs).getD i default else bs.getD i default)
end Go.Ab
namespace Go.Ab
theorem fpL_ok {l : List Con} {p : List Int} (h : fpOk l p = true) : fpL l p = l.map (fixC p) := by unfold fpL; rw [if_pos h]
end Go.Ab
namespace Go.Ab
theorem all_lf_dI : ∀ l : List Int, (l.map dI).flatten.all lf = true
  | [] => rfl
  | c :: r => by rw [List.map_cons, List.flatten_cons, List.all_append, all_lf_dI r]; rfl
end Go.Ab

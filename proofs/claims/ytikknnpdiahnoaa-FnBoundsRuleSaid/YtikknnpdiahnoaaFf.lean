/- What filtering by a rule keeps. -/
import Derived.Test.YtikknnpdiahnoaaFr
set_option linter.unusedSimpArgs false
set_option linter.unusedVariables false
namespace Go.Ab
def cel (d : List (List Bool)) (i v : Nat) : Bool := (d.getD i default).getD v default
def leD (a b : List (List Bool)) : Prop := ∀ i v, cel a i v = true → cel b i v = true
theorem fits_len {sz : List Int} {a b : List (List Bool)} (ha : fitsB sz a = true) (hb : fitsB sz b = true) : a.length = b.length ∧ ∀ i, (a.getD i default).length = (b.getD i default).length := by
  obtain ⟨a1, a2⟩ := fits_at ha
  obtain ⟨b1, b2⟩ := fits_at hb
  refine ⟨by omega, fun i => ?_⟩
  by_cases h : i < a.length
  · have := a2 i h; have := b2 i (by omega); omega
  · rw [List.getD_eq_getElem?_getD, List.getD_eq_getElem?_getD, List.getElem?_eq_none (by omega), List.getElem?_eq_none (by omega)]
theorem ext_getD {α : Type} {d : α} {a b : List α} (h : a.length = b.length) (h2 : ∀ i, i < a.length → a.getD i d = b.getD i d) : a = b := by
  refine List.ext_getElem h fun i h3 h4 => ?_
  have := h2 i h3
  rw [List.getD_eq_getElem?_getD, List.getD_eq_getElem?_getD, List.getElem?_eq_getElem h3, List.getElem?_eq_getElem h4] at this
  exact this
theorem fits_ext {sz : List Int} {a b : List (List Bool)} (ha : fitsB sz a = true) (hb : fitsB sz b = true) (h : ∀ i v, cel a i v = cel b i v) : a = b := by
  obtain ⟨h1, h2⟩ := fits_len ha hb
  exact ext_getD (d := default) h1 fun i hi => ext_getD (d := default) (h2 i) fun v hv => h i v
theorem leD_eq {sz : List Int} {a b : List (List Bool)} (ha : fitsB sz a = true) (hb : fitsB sz b = true) (h : leD a b) (h2 : leD b a) : a = b :=
  fits_ext ha hb fun i v => Bool.eq_iff_iff.2 ⟨h i v, h2 i v⟩
theorem inB_iff {d : List (List Bool)} {c : List Int} : inB d c = true ↔ ∀ i, i < c.length → cel d i (c.getD i default).toNat = true := by
  unfold inB
  rw [List.all_eq_true]
  exact ⟨fun h i hi => h i (List.mem_range.2 hi), fun h i hi => h i (List.mem_range.1 hi)⟩
theorem cel_set {d : List (List Bool)} {k j i v : Nat} (hk : k < d.length) (hj : j < (d.getD k default).length) (b : Bool) : cel (d.set k ((d.getD k default).set j b)) i v = if i = k ∧ v = j then b else cel d i v := by
  unfold cel
  by_cases h : i = k
  · subst h
    rw [List.getD_eq_getElem?_getD (l := d.set _ _), List.getElem?_set_self hk, Option.getD_some]
    by_cases h2 : v = j
    · subst h2
      rw [if_pos ⟨rfl, rfl⟩, List.getD_eq_getElem?_getD, List.getElem?_set_self hj]; rfl
    · rw [if_neg (fun q => h2 q.2), getD_setne h2]
  · rw [if_neg (fun q => h q.1), getD_setne h]
theorem mark_cel {sz : List Int} {d : List (List Bool)} {c : List Int} (hd : fitsB sz d = true) (hc : cvL sz c = true) {i v : Nat} : ∀ {k : Nat}, k ≤ c.length → (cel (markN d c k) i v = true ↔ cel d i v = true ∨ (i < k ∧ (c.getD i default).toNat = v))
  | 0, _ => ⟨fun h => .inl h, fun h => h.elim id fun q => absurd q.1 (Nat.not_lt_zero _)⟩
  | k + 1, hk => by
    have ih := mark_cel hd hc (i := i) (v := v) (k := k) (by omega)
    obtain ⟨c1, c2⟩ := cv_at hc
    obtain ⟨d1, d2⟩ := fits_at (fits_mark (c := c) (k := k) hd)
    have c3 := c2 k (by omega)
    have d3 := d2 k (by omega)
    rw [markN, cel_set (by omega) (by omega)]
    by_cases h : i = k ∧ v = (c.getD k default).toNat
    · rw [if_pos h]; exact ⟨fun _ => .inr ⟨by omega, by rw [h.1, h.2]⟩, fun _ => rfl⟩
    · rw [if_neg h, ih]
      constructor
      · rintro (q | q)
        · exact .inl q
        · exact .inr ⟨by omega, q.2⟩
      · rintro (q | q)
        · exact .inl q
        · refine .inr ⟨?_, q.2⟩
          by_cases e : i = k
          · subst e; exact absurd ⟨rfl, q.2.symm⟩ h
          · omega
theorem vl_lt {sz c : List Int} (hc : cvL sz c = true) : vlS sz c < prS sz := by
  obtain ⟨h1, h2⟩ := cv_at hc
  exact (nxt_val h1 h2).2.1
theorem cv_cons {s a : Int} {sz c : List Int} (h : cvL (s :: sz) (a :: c) = true) : (0 ≤ a ∧ a ≤ s) ∧ cvL sz c = true := by
  obtain ⟨h1, h2⟩ := cv_at h
  refine ⟨by have := h2 0 (by simp); simpa using this, cv_yes (by simpa using h1) (List.all_eq_true.2 fun i hi => decide_eq_true ?_)⟩
  have := h2 (i + 1) (by have := List.mem_range.1 hi; simp; omega)
  simpa using this
theorem vl_inj : ∀ {sz a b : List Int}, cvL sz a = true → cvL sz b = true → vlS sz a = vlS sz b → a = b
  | [], a, b, ha, hb, _ => by
    rw [List.eq_nil_of_length_eq_zero (cv_at ha).1, List.eq_nil_of_length_eq_zero (cv_at hb).1]
  | s :: sz, [], b, ha, _, _ => by have := (cv_at ha).1; simp at this
  | s :: sz, a :: as, [], _, hb, _ => by have := (cv_at hb).1; simp at this
  | s :: sz, a :: as, b :: bs, ha, hb, h => by
    obtain ⟨a1, a2⟩ := cv_cons ha
    obtain ⟨b1, b2⟩ := cv_cons hb
    have la := vl_lt a2
    have lb := vl_lt b2
    have h1 : a.toNat * prS sz + vlS sz as = b.toNat * prS sz + vlS sz bs := h
    have h2 : a.toNat = b.toNat := by
      rcases Nat.lt_trichotomy a.toNat b.toNat with q | q | q
      · have := Nat.mul_le_mul_right (prS sz) (show a.toNat + 1 ≤ b.toNat from q)
        rw [Nat.add_mul, Nat.one_mul] at this; omega
      · exact q
      · have := Nat.mul_le_mul_right (prS sz) (show b.toNat + 1 ≤ a.toNat from q)
        rw [Nat.add_mul, Nat.one_mul] at this; omega
    rw [h2] at h1
    rw [show a = b by omega, vl_inj a2 b2 (by omega)]
theorem cv_next {sz c : List Int} (hc : cvL sz c = true) : cvL sz (nxt sz c c.length).1 = true := (run_next (f := fun _ => true) (o := []) hc rfl).1
theorem run_cel {sz : List Int} {f : List Int → Bool} {i v : Nat} : ∀ {n : Nat} {c : List Int} {o : List (List Bool)}, cvL sz c = true → n = prS sz - vlS sz c → fitsB sz o = true →
    (cel (runF sz f n c o) i v = true ↔ cel o i v = true ∨ ∃ c', cvL sz c' = true ∧ vlS sz c ≤ vlS sz c' ∧ f c' = true ∧ i < c'.length ∧ (c'.getD i default).toNat = v)
  | 0, c, o, hc, hn, ho => by have := vl_lt hc; omega
  | n + 1, c, o, hc, hn, ho => by
    obtain ⟨h1, h2⟩ := cv_at hc
    obtain ⟨⟨a1, a2⟩, a3, a4, a5⟩ := nxt_val h1 h2
    have hs : cel (if f c then markN o c c.length else o) i v = true ↔ cel o i v = true ∨ (f c = true ∧ i < c.length ∧ (c.getD i default).toNat = v) := by
      cases hf : f c
      · simp
      · rw [if_pos rfl, mark_cel ho hc (Nat.le_refl _)]; simp
    have hf2 : fitsB sz (if f c then markN o c c.length else o) = true := by
      split
      · exact fits_mark ho
      · exact ho
    rw [runF]
    cases hb : (nxt sz c c.length).2
    · rw [if_neg (by decide), hs]
      have a6 := (a5 hb).1
      constructor
      · rintro (q | q)
        · exact .inl q
        · exact .inr ⟨c, hc, Nat.le_refl _, q⟩
      · rintro (q | ⟨c', q1, q2, q3⟩)
        · exact .inl q
        · have := vl_lt q1
          obtain rfl := vl_inj hc q1 (by omega)
          exact .inr q3
    · have a6 := a4 hb
      rw [if_pos rfl, run_cel (cv_next hc) (by omega) hf2, hs]
      constructor
      · rintro ((q | q) | ⟨c', q1, q2, q3⟩)
        · exact .inl q
        · exact .inr ⟨c, hc, Nat.le_refl _, q⟩
        · exact .inr ⟨c', q1, by omega, q3⟩
      · rintro (q | ⟨c', q1, q2, q3⟩)
        · exact .inl (.inl q)
        · by_cases e : vlS sz c = vlS sz c'
          · obtain rfl := vl_inj hc q1 e
            exact .inl (.inr q3)
          · exact .inr ⟨c', q1, by omega, q3⟩
theorem fd_cel {sz : List Int} {i v : Nat} : cel (fdL false sz) i v = false := by
  unfold cel fdL
  rw [List.getD_eq_getElem?_getD (l := List.map _ _), List.getElem?_map]
  cases sz[i]? with
  | none => rfl
  | some s =>
    simp only [Option.map_some, Option.getD_some]
    rw [List.getD_eq_getElem?_getD, List.getElem?_replicate]; split <;> rfl
theorem sz_pos {m : Md} (hm : mOk m = true) : ∀ k, k < m.1.length → 0 ≤ m.1.getD k default := fun k hk => ((mOk_sz hm).2 k hk).1
theorem filt_cel {m : Md} {r : Rl} {d : List (List Bool)} (hm : mOk m = true) {i v : Nat} : cel (filtD m r d) i v = true ↔ ∃ c, cvL m.1 c = true ∧ okC2 r d c = true ∧ i < c.length ∧ (c.getD i default).toNat = v := by
  unfold filtD
  rw [run_cel (cv_zero (sz_pos hm)) (by rw [vl_zero]; rfl) (fits_full (sz_pos hm)), fd_cel, vl_zero]
  constructor
  · rintro (q | ⟨c, q1, _, q2⟩)
    · cases q
    · exact ⟨c, q1, q2⟩
  · rintro ⟨c, q1, q2⟩
    exact .inr ⟨c, q1, Nat.zero_le _, q2⟩
theorem filt_fits {m : Md} {r : Rl} {d : List (List Bool)} (hm : mOk m = true) : fitsB m.1 (filtD m r d) = true := runF_fits (fits_full (sz_pos hm))
theorem okC2_iff {r : Rl} {d : List (List Bool)} {c : List Int} : okC2 r d c = true ↔ inB d c = true ∧ holdB r (valsC r.2.1 c) = true := by unfold okC2; rw [Bool.and_eq_true]
def allF (m : Md) (l : List Rl) (d : List (List Bool)) : List (List Bool) := l.foldl (fun d r => filtD m r d) d
/-- How many values the domains have. -/
def cntD (d : List (List Bool)) : Nat := sumW (List.countP id) d
def fixN (m : Md) : Nat → List (List Bool) → List (List Bool)
  | 0, d => d
  | n + 1, d => if allF m m.2 d = d then d else fixN m n (allF m m.2 d)
/-- Domains filtered by all rules. -/
def fmR (m : Md) (d : List (List Bool)) : List (List Bool) := fixN m (cntD d) d
def fmD (m : Md) (d : List (List Bool)) : List (List Bool) := if dmB m d then fmR m d else []
def emB (d : List (List Bool)) : Bool := d.any (fun x => !decide (true ∈ x))
def deB (m : Md) (d : List (List Bool)) : Bool := dmB m d && emB d
theorem em_no {d : List (List Bool)} : emB d = false ↔ ∀ i, i < d.length → ∃ v, cel d i v = true := by
  unfold emB
  rw [List.any_eq_false]
  constructor
  · intro h i hi
    have h1 := h _ (getD_mem (d := default) hi)
    simp only [Bool.not_eq_true', decide_eq_false_iff_not, Classical.not_not] at h1
    obtain ⟨v, hv, e⟩ := List.mem_iff_getElem.1 h1
    exact ⟨v, by unfold cel; rw [List.getD_eq_getElem?_getD, List.getElem?_eq_getElem hv, e]; rfl⟩
  · intro h x hx
    obtain ⟨i, hi, rfl⟩ := List.mem_iff_getElem.1 hx
    obtain ⟨v, q⟩ := h i hi
    simp only [Bool.not_eq_true', decide_eq_false_iff_not, Classical.not_not]
    unfold cel at q
    rw [List.getD_eq_getElem?_getD (l := d), List.getElem?_eq_getElem hi, Option.getD_some, List.getD_eq_getElem?_getD] at q
    cases e : d[i][v]? with
    | none => rw [e] at q; cases q
    | some b => rw [e] at q; exact q ▸ List.mem_of_getElem? e
end Go.Ab

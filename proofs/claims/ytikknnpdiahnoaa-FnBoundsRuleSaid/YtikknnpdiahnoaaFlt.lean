/- Cells, domains, filtering, told in plain lists. -/
import Derived.Test.YtikknnpdiahnoaaMod3
set_option linter.unusedSimpArgs false
set_option linter.unusedVariables false
namespace Go.Ab
/-! ### Domains and cells -/
def fitsB (sz : List Int) (d : List (List Bool)) : Bool := decide (d.length = sz.length) && (List.range d.length).all (fun k => decide (((d.getD k default).length : Int) = sz.getD k default + 1))
def dmB (m : Md) (d : List (List Bool)) : Bool := mOk m && fitsB m.1 d
def cvL (sz c : List Int) : Bool := decide (c.length = sz.length) && (List.range c.length).all (fun k => decide (0 ≤ c.getD k default ∧ c.getD k default ≤ sz.getD k default))
def cvB (m : Md) (c : List Int) : Bool := mOk m && cvL m.1 c
def cellD (d : List (List Bool)) (c : List Int) (k : Nat) : Bool := (d.getD k default).getD (c.getD k default).toNat default
def inB (d : List (List Bool)) (c : List Int) : Bool := (List.range c.length).all (cellD d c)
def ciB (m : Md) (d : List (List Bool)) (c : List Int) : Bool := dmB m d && (cvB m c && inB d c)
theorem rng_next {p : Nat → Bool} {k : Nat} (h : (List.range k).all p = true) (h2 : p k = true) : (List.range (k + 1)).all p = true := by
  rw [List.range_succ, List.all_append, h, List.all_cons, List.all_nil, h2]; rfl
theorem rng_no {p : Nat → Bool} {k n : Nat} (hk : k < n) (h : p k = false) : (List.range n).all p = false := by
  rw [Bool.eq_false_iff]
  intro q
  rw [List.all_eq_true.1 q k (List.mem_range.2 hk)] at h; cases h
theorem rng_at {p : Nat → Bool} {k n : Nat} (h : (List.range n).all p = true) (hk : k < n) : p k = true := List.all_eq_true.1 h k (List.mem_range.2 hk)
theorem fits_l {sz : List Int} {d : List (List Bool)} (h : d.length ≠ sz.length) : fitsB sz d = false := by unfold fitsB; rw [decide_eq_false h]; rfl
theorem fits_no {sz : List Int} {d : List (List Bool)} {k : Nat} (hk : k < d.length) (h : ((d.getD k default).length : Int) ≠ sz.getD k default + 1) : fitsB sz d = false := by
  unfold fitsB; rw [rng_no hk (decide_eq_false h), Bool.and_false]
theorem fits_yes {sz : List Int} {d : List (List Bool)} (h : d.length = sz.length) (h2 : (List.range d.length).all (fun k => decide (((d.getD k default).length : Int) = sz.getD k default + 1)) = true) : fitsB sz d = true := by
  unfold fitsB; rw [decide_eq_true h, h2]; rfl
theorem fits_at {sz : List Int} {d : List (List Bool)} (h : fitsB sz d = true) : d.length = sz.length ∧ ∀ k, k < d.length → ((d.getD k default).length : Int) = sz.getD k default + 1 := by
  unfold fitsB at h
  rw [Bool.and_eq_true, decide_eq_true_eq] at h
  exact ⟨h.1, fun k hk => of_decide_eq_true (rng_at h.2 hk)⟩
theorem cv_yes {sz c : List Int} (h : c.length = sz.length) (h2 : (List.range c.length).all (fun k => decide (0 ≤ c.getD k default ∧ c.getD k default ≤ sz.getD k default)) = true) : cvL sz c = true := by
  unfold cvL; rw [decide_eq_true h, h2]; rfl
theorem cv_at {sz c : List Int} (h : cvL sz c = true) : c.length = sz.length ∧ ∀ k, k < c.length → 0 ≤ c.getD k default ∧ c.getD k default ≤ sz.getD k default := by
  unfold cvL at h
  rw [Bool.and_eq_true, decide_eq_true_eq] at h
  exact ⟨h.1, fun k hk => of_decide_eq_true (rng_at h.2 hk)⟩
/-! ### What a rule says of its cells' values -/
def valsC (vs c : List Int) : List Int := vs.map (fun v => c.getD v.toNat default)
def dotC (a x : List Int) (k : Nat) : Int := ((List.range k).map (fun i => a.getD i default * x.getD i default)).sum
theorem dot_next {a x : List Int} {k : Nat} : dotC a x (k + 1) = dotC a x k + a.getD k default * x.getD k default := by
  unfold dotC; rw [List.range_succ, List.map_append, List.sum_append]; simp
theorem dot_rng {a x : List Int} {k : Nat} (h : ∀ i, i < k → -9 ≤ a.getD i default ∧ a.getD i default ≤ 9) (h2 : ∀ i, i < k → 0 ≤ x.getD i default ∧ x.getD i default ≤ 3) : -27 * (k : Int) ≤ dotC a x k ∧ dotC a x k ≤ 27 * k := by
  induction k with
  | zero => simp [dotC]
  | succ k ih =>
    have h3 := ih (fun i hi => h i (by omega)) (fun i hi => h2 i (by omega))
    have h4 := h k (by omega); have h5 := h2 k (by omega)
    rw [dot_next]
    have h6 : -27 ≤ a.getD k default * x.getD k default ∧ a.getD k default * x.getD k default ≤ 27 := by
      generalize a.getD k default = p at *; generalize x.getD k default = q at *
      have : q = 0 ∨ q = 1 ∨ q = 2 ∨ q = 3 := by omega
      rcases this with rfl | rfl | rfl | rfl <;> omega
    omega
def distB (x : List Int) (k : Nat) : Bool := (List.range k).all (fun i => !decide (x.getD i default ∈ x.take i))
def holdB (r : Rl) (x : List Int) : Bool := if r.1 = 1 then decide (r.2.2.2.1 ≤ dotC r.2.2.1 x x.length) else if r.1 = 2 then distB x x.length else if r.1 = 3 then decide (x ∈ r.2.2.2.2) else decide (x.getD 0 default < x.getD 1 default)
theorem hold_1 {r : Rl} {x : List Int} (h : r.1 = 1) : holdB r x = decide (r.2.2.2.1 ≤ dotC r.2.2.1 x x.length) := by unfold holdB; rw [if_pos h]
theorem hold_2 {r : Rl} {x : List Int} (h : r.1 = 2) : holdB r x = distB x x.length := by unfold holdB; rw [if_neg (by omega), if_pos h]
theorem hold_3 {r : Rl} {x : List Int} (h : r.1 = 3) : holdB r x = decide (x ∈ r.2.2.2.2) := by unfold holdB; rw [if_neg (by omega), if_neg (by omega), if_pos h]
theorem hold_4 {r : Rl} {x : List Int} (h : r.1 = 4) : holdB r x = decide (x.getD 0 default < x.getD 1 default) := by unfold holdB; rw [if_neg (by omega), if_neg (by omega), if_neg (by omega)]
theorem vals_len {vs c : List Int} : (valsC vs c).length = vs.length := by simp [valsC]
theorem vals_next {vs c : List Int} {k : Nat} (h : k < vs.length) : valsC (vs.take (k + 1)) c = valsC (vs.take k) c ++ [c.getD (vs.getD k default).toNat default] := by
  unfold valsC; rw [take_succD (d := default) h, List.map_append]; rfl
/-! ### Marking -/
def markN (d : List (List Bool)) (c : List Int) : Nat → List (List Bool)
  | 0 => d
  | k + 1 => (markN d c k).set k (((markN d c k).getD k default).set (c.getD k default).toNat true)
theorem markN_length {d : List (List Bool)} {c : List Int} : ∀ {k : Nat}, (markN d c k).length = d.length
  | 0 => rfl
  | k + 1 => by rw [markN, List.length_set, markN_length]
theorem markN_row {d : List (List Bool)} {c : List Int} : ∀ {k i : Nat}, ((markN d c k).getD i default).length = (d.getD i default).length
  | 0, i => rfl
  | k + 1, i => by
    rw [markN, List.getD_eq_getElem?_getD, List.getElem?_set]
    by_cases e : k = i
    · subst e
      rw [if_pos rfl]
      split
      · simp only [Option.getD_some, List.length_set]; exact markN_row
      · rename_i hk
        have h0 := markN_row (d := d) (c := c) (k := k) (i := k)
        rw [List.getD_eq_getElem?_getD, List.getElem?_eq_none (by omega)] at h0
        rw [← h0]
    · rw [if_neg e, ← List.getD_eq_getElem?_getD]; exact markN_row
theorem fits_mark {sz : List Int} {d : List (List Bool)} {c : List Int} {k : Nat} (h : fitsB sz d = true) : fitsB sz (markN d c k) = true := by
  obtain ⟨h1, h2⟩ := fits_at h
  refine fits_yes (by rw [markN_length]; exact h1) (List.all_eq_true.2 fun i hi => ?_)
  rw [List.mem_range, markN_length] at hi
  rw [markN_row]; exact decide_eq_true (h2 i hi)
/-! ### The next cell -/
def nxt (sz : List Int) : List Int → Nat → List Int × Bool
  | c, 0 => (c, false)
  | c, i + 1 => if c.getD i default < sz.getD i default then (c.set i (c.getD i default + 1), true) else nxt sz (c.set i 0) i
def prS : List Int → Nat
  | [] => 1
  | s :: r => (s + 1).toNat * prS r
def vlS : List Int → List Int → Nat
  | s :: sr, c :: cr => c.toNat * prS sr + vlS sr cr
  | _, _ => 0
theorem nxt_cons {s a : Int} {sz : List Int} : ∀ {i : Nat} {c : List Int}, nxt (s :: sz) (a :: c) (i + 1) = if (nxt sz c i).2 then (a :: (nxt sz c i).1, true) else (if a < s then ((a + 1) :: (nxt sz c i).1, true) else (0 :: (nxt sz c i).1, false))
  | 0, c => by
    simp only [nxt, List.getD_cons_zero, List.set_cons_zero]
    rfl
  | i + 1, c => by
    rw [nxt, List.getD_cons_succ, List.getD_cons_succ]
    rw [show nxt sz c (i + 1) = if c.getD i default < sz.getD i default then (c.set i (c.getD i default + 1), true) else nxt sz (c.set i 0) i from rfl]
    by_cases h : c.getD i default < sz.getD i default
    · rw [if_pos h, if_pos h]; rfl
    · rw [if_neg h, if_neg h, List.set_cons_succ]; exact nxt_cons
theorem nxt_val : ∀ {sz c : List Int}, c.length = sz.length → (∀ k, k < c.length → 0 ≤ c.getD k default ∧ c.getD k default ≤ sz.getD k default) →
    ((nxt sz c c.length).1.length = sz.length ∧ ∀ k, k < sz.length → 0 ≤ (nxt sz c c.length).1.getD k default ∧ (nxt sz c c.length).1.getD k default ≤ sz.getD k default) ∧
    vlS sz c < prS sz ∧ ((nxt sz c c.length).2 = true → vlS sz (nxt sz c c.length).1 = vlS sz c + 1) ∧ ((nxt sz c c.length).2 = false → vlS sz c + 1 = prS sz ∧ vlS sz (nxt sz c c.length).1 = 0)
  | [], [], _, _ => by simp [nxt, vlS, prS]
  | [], a :: c, h, _ => by simp at h
  | s :: sz, [], h, _ => by simp at h
  | s :: sz, a :: c, h, hv => by
    have hl : c.length = sz.length := by simpa using h
    have h0 := hv 0 (by simp)
    simp only [List.getD_cons_zero] at h0
    obtain ⟨⟨i1, i2⟩, i3, i4, i5⟩ := nxt_val hl (fun k hk => by have := hv (k + 1) (by simp; omega); simpa using this)
    rw [List.length_cons, nxt_cons]
    generalize hn : nxt sz c c.length = q at *
    obtain ⟨c', b⟩ := q
    dsimp only at i1 i2 i4 i5 ⊢
    have hat : ∀ x : Int, 0 ≤ x ∧ x ≤ s → ∀ k, k < (s :: sz).length → 0 ≤ (x :: c').getD k default ∧ (x :: c').getD k default ≤ (s :: sz).getD k default := by
      intro x hx k hk
      cases k with
      | zero => simpa using hx
      | succ k => have := i2 k (by simpa using hk); simpa using this
    have hP : prS (s :: sz) = (s.toNat + 1) * prS sz := by rw [prS, show (s + 1).toNat = s.toNat + 1 by omega]
    have hV : vlS (s :: sz) (a :: c) = a.toNat * prS sz + vlS sz c := rfl
    have has : a.toNat ≤ s.toNat := by omega
    have hlt : vlS (s :: sz) (a :: c) < prS (s :: sz) := by
      rw [hP, hV, Nat.add_mul, Nat.one_mul]
      have := Nat.mul_le_mul_right (prS sz) has
      omega
    cases b with
    | true =>
      rw [if_pos rfl]
      refine ⟨⟨by simp [i1], hat a h0⟩, hlt, fun _ => ?_, fun q => by cases q⟩
      show a.toNat * prS sz + vlS sz c' = _
      rw [hV, i4 rfl]; omega
    | false =>
      rw [if_neg (by decide)]
      obtain ⟨j1, j2⟩ := i5 rfl
      by_cases ha : a < s
      · rw [if_pos ha]
        refine ⟨⟨by simp [i1], hat _ (by omega)⟩, hlt, fun _ => ?_, fun q => by cases q⟩
        show (a + 1).toNat * prS sz + vlS sz c' = _
        rw [hV, j2, show (a + 1).toNat = a.toNat + 1 by omega, Nat.add_mul, Nat.one_mul]; omega
      · rw [if_neg ha]
        refine ⟨⟨by simp [i1], hat 0 (by omega)⟩, hlt, (fun q => by cases q), fun _ => ⟨?_, ?_⟩⟩
        · rw [hP, hV, show a.toNat = s.toNat by omega, Nat.add_mul, Nat.one_mul]; omega
        · show (0 : Int).toNat * prS sz + vlS sz c' = 0
          rw [j2]; simp
/-! ### Filtering -/
def runF (sz : List Int) (f : List Int → Bool) : Nat → List Int → List (List Bool) → List (List Bool)
  | 0, _, out => out
  | n + 1, c, out => if (nxt sz c c.length).2 then runF sz f n (nxt sz c c.length).1 (if f c then markN out c c.length else out) else (if f c then markN out c c.length else out)
def okC2 (r : Rl) (d : List (List Bool)) (c : List Int) : Bool := inB d c && holdB r (valsC r.2.1 c)
def filtD (m : Md) (r : Rl) (d : List (List Bool)) : List (List Bool) := runF m.1 (okC2 r d) (prS m.1) (List.replicate m.1.length 0) (fdL false m.1)
end Go.Ab

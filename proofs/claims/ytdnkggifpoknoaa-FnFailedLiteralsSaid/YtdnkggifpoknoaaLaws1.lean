/- What the laws on counts and on exclusion say, told plainly. -/
import Derived.Test.YtdnkggifpoknoaaDraw
set_option linter.unusedSimpArgs false
set_option linter.unusedVariables false
namespace Go.Ab
theorem foldl_add {α : Type} (f : α → Int) : ∀ (l : List α) (s : Int), l.foldl (fun s t => s + f t) s = s + l.foldl (fun s t => s + f t) 0
  | [], s => by simp
  | t :: r, s => by
    simp only [List.foldl_cons]
    rw [foldl_add f r (s + f t), foldl_add f r (0 + f t)]; omega
theorem sumV_cons {t : Term} {r : List Term} {bs : List Bool} : sumV (t :: r) bs = term bs t + sumV r bs := by
  unfold sumV
  rw [List.foldl_cons, foldl_add]; omega
theorem totV_cons {t : Term} {r : List Term} : totV (t :: r) = t.1 + totV r := by
  unfold totV
  rw [List.foldl_cons, foldl_add]; omega
/-! ### Values against a constraint -/
def evV (c : Con) (bs : List Bool) : Bool := cOk c && decide (bs.length = 12) && holdsV c bs
/-! ### Exclusion -/
def diffV (vs : List Int) (bs os : List Bool) : Bool := vs.any (fun v => bs.getD (v - 1).toNat default != os.getD (v - 1).toNat default)
def negT (t : Term) : Term := (t.1, -t.2)
def negC (c : Con) : Con := (c.1.map negT, max 0 (totV c.1 - c.2 + 1))
theorem okFrom_neg : ∀ {ts : List Term} {p : Int}, okFrom p ts = true → okFrom p (ts.map negT) = true
  | [], _, _ => rfl
  | t :: r, p, h => by
    by_cases hv : litOk t.2 = true ∧ p < varOf t.2 ∧ 1 ≤ t.1 ∧ t.1 ≤ 1000
    · rw [okFrom_good hv.1 hv.2.1 hv.2.2.1 hv.2.2.2] at h
      have e : varOf (negT t).2 = varOf t.2 := by unfold negT varOf; dsimp only; omega
      have l : litOk (negT t).2 = true := by have := litOk_iff.1 hv.1; rw [litOk_iff]; unfold negT; dsimp only; omega
      show okFrom p (negT t :: r.map negT) = true
      rw [okFrom_good l (by rw [e]; exact hv.2.1) hv.2.2.1 hv.2.2.2, e]
      exact okFrom_neg h
    · rw [okFrom_bad hv] at h; cases h
theorem negC_ok {c : Con} (h : cOk c = true) : cOk (negC c) = true := by
  have h1 := tot_take h (k := c.1.length) (Nat.le_refl _)
  have h2 := cOk_len h
  have h3 := cOk_bound h
  rw [List.take_length] at h1
  have h4 : okFrom 0 c.1 = true := by unfold cOk at h; simp at h; exact h.1
  unfold cOk negC
  rw [Bool.and_eq_true]
  exact ⟨okFrom_neg h4, decide_eq_true (by dsimp only; omega)⟩
def negR (c : Con) : Con := if cOk c then negC c else ([], 0)
/-! ### Terms changed in place -/
theorem set_coef {ts : List Term} {i : Nat} {v : Int} (h : i < ts.length) : (ts.map dT).set i ((dT (ts.getD i default)).set 0 (.p (.int .i64 v))) = (ts.set i (v, (ts.getD i default).2)).map dT := by
  rw [List.map_set]; rfl
theorem set_lit {ts : List Term} {i : Nat} {v : Int} (h : i < ts.length) : (ts.map dT).set i ((dT (ts.getD i default)).set 1 (.p (.int .i64 v))) = (ts.set i ((ts.getD i default).1, v)).map dT := by
  rw [List.map_set]; rfl
end Go.Ab
namespace Go.Ab
theorem coef_snoc {l : List Term} {a z lo hi : Int} (h : ∀ t ∈ l, lo ≤ t.1 ∧ t.1 ≤ hi) (h2 : lo ≤ a ∧ a ≤ hi) : ∀ t ∈ l ++ [(a, z)], lo ≤ t.1 ∧ t.1 ≤ hi := by
  intro t ht
  rcases List.mem_append.1 ht with h1 | h1
  · exact h t h1
  · simp at h1; subst h1; exact h2
def sclT (k : Int) (t : Term) : Term := (t.1 * k, t.2)
theorem coef_wide {ts : List Term} {lo hi : Int} (h : ∀ t ∈ ts, lo ≤ t.1 ∧ t.1 ≤ hi) (h1 : -1000000 ≤ lo) (h2 : hi ≤ 1000000) : ∀ t ∈ ts, -1000000 ≤ t.1 ∧ t.1 ≤ 1000000 := fun t ht => by have := h t ht; omega
theorem ofV_in {b : List Int} {p : Nat} {l : List Int} {lo hi : Int} (h : 0 < l.length) (h2 : ∀ t ∈ l, lo ≤ t ∧ t ≤ hi) : lo ≤ ofV b p l ∧ ofV b p l ≤ hi := h2 _ (ofV_mem h)
theorem tot_all {ts : List Term} (h : ∀ t ∈ ts, -1000000 ≤ t.1 ∧ t.1 ≤ 1000000) : -1000000 * (ts.length : Int) ≤ totV ts ∧ totV ts ≤ 1000000 * (ts.length : Int) := by
  have := tot_takeG h (Nat.le_refl _)
  rwa [List.take_length] at this
theorem neg_next {ts : List Term} {k : Nat} (h : k < ts.length) : ((ts.take k).map negT).map dT ++ [[.p (.int .i64 (ts.getD k default).1), .p (.int .i64 (-(ts.getD k default).2))]] = ((ts.take (k + 1)).map negT).map dT := by
  rw [take_succD (d := default) h, List.map_append, List.map_append]; rfl
end Go.Ab
namespace Go.Ab
end Go.Ab
namespace Go.Ab
/-! ### Drawn constraints -/
def l1D (b : List Int) (p : Nat) : Nat → List Term × Nat
  | 0 => ([], p)
  | k + 1 => if pickV b (l1D b p k).2 2 = 0 then ((l1D b p k).1 ++ [(ofV b ((l1D b p k).2 + 1) ([1, 1, 2, 3, 1, 5, 4] : List Int), if pickV b ((l1D b p k).2 + 2) 2 = 0 then -((k : Int) + 1) else (k : Int) + 1)], (l1D b p k).2 + 3) else ((l1D b p k).1, (l1D b p k).2 + 1)
theorem l1D_neg {b : List Int} {p k : Nat} (h : pickV b (l1D b p k).2 2 = 0) (h2 : pickV b ((l1D b p k).2 + 1 + 1) 2 = 0) : l1D b p (k + 1) = ((l1D b p k).1 ++ [(ofV b ((l1D b p k).2 + 1) ([1, 1, 2, 3, 1, 5, 4] : List Int), -((k : Int) + 1))], (l1D b p k).2 + 3) := by
  have h3 : pickV b ((l1D b p k).2 + 2) 2 = 0 := h2
  rw [l1D, if_pos h, if_pos h3]
theorem l1D_pos {b : List Int} {p k : Nat} (h : pickV b (l1D b p k).2 2 = 0) (h2 : pickV b ((l1D b p k).2 + 1 + 1) 2 ≠ 0) : l1D b p (k + 1) = ((l1D b p k).1 ++ [(ofV b ((l1D b p k).2 + 1) ([1, 1, 2, 3, 1, 5, 4] : List Int), (k : Int) + 1)], (l1D b p k).2 + 3) := by
  have h3 : pickV b ((l1D b p k).2 + 2) 2 ≠ 0 := h2
  rw [l1D, if_pos h, if_neg h3]
theorem l1D_no {b : List Int} {p k : Nat} (h : pickV b (l1D b p k).2 2 ≠ 0) : l1D b p (k + 1) = ((l1D b p k).1, (l1D b p k).2 + 1) := by
  rw [l1D, if_neg h]
theorem l1D_ok (b : List Int) (p : Nat) : ∀ k, (∀ t ∈ (l1D b p k).1, 1 ≤ t.1 ∧ t.1 ≤ 5) ∧ (l1D b p k).1.length ≤ k ∧ p ≤ (l1D b p k).2 ∧ (l1D b p k).2 ≤ p + 3 * k
  | 0 => ⟨(fun t ht => by cases ht), Nat.le_refl _, Nat.le_refl _, Nat.le_refl _⟩
  | k + 1 => by
    obtain ⟨h1, h2, h3, h4⟩ := l1D_ok b p k
    have hc : (1 : Int) ≤ ofV b ((l1D b p k).2 + 1) ([1, 1, 2, 3, 1, 5, 4] : List Int) ∧ ofV b ((l1D b p k).2 + 1) ([1, 1, 2, 3, 1, 5, 4] : List Int) ≤ 5 := ofV_in (l := [1, 1, 2, 3, 1, 5, 4]) (lo := 1) (hi := 5) (by decide) (by decide)
    by_cases e : pickV b (l1D b p k).2 2 = 0
    · by_cases e2 : pickV b ((l1D b p k).2 + 1 + 1) 2 = 0
      · rw [l1D_neg e e2]
        exact ⟨coef_snoc h1 hc, by simp; omega, by dsimp only; omega, by dsimp only; omega⟩
      · rw [l1D_pos e e2]
        exact ⟨coef_snoc h1 hc, by simp; omega, by dsimp only; omega, by dsimp only; omega⟩
    · rw [l1D_no e]
      exact ⟨h1, by dsimp only; omega, by dsimp only; omega, by dsimp only; omega⟩
def l1C (b : List Int) (p : Nat) (most : Int) : Con × Nat :=
  let d := l1D b p most.toNat
  if pickV b (d.2 + 1) 4 = 0 then ((d.1, pickV b (d.2 + 2) (totV d.1 + 2)), d.2 + 3) else ((d.1, ofV b d.2 ([1, 2, 1, 3, 0] : List Int)), d.2 + 2)
theorem l1C_y {b : List Int} {p : Nat} {most : Int} (h : pickV b ((l1D b p most.toNat).2 + 1) 4 = 0) : l1C b p most = (((l1D b p most.toNat).1, pickV b ((l1D b p most.toNat).2 + 1 + 1) (totV (l1D b p most.toNat).1 + 2)), (l1D b p most.toNat).2 + 3) := by unfold l1C; dsimp only; rw [if_pos h]
theorem l1C_n {b : List Int} {p : Nat} {most : Int} (h : pickV b ((l1D b p most.toNat).2 + 1) 4 ≠ 0) : l1C b p most = (((l1D b p most.toNat).1, ofV b (l1D b p most.toNat).2 ([1, 2, 1, 3, 0] : List Int)), (l1D b p most.toNat).2 + 2) := by unfold l1C; dsimp only; rw [if_neg h]
theorem l1C_ok (b : List Int) (p : Nat) (most : Int) (hm : 0 ≤ most ∧ most ≤ 12) : (∀ t ∈ (l1C b p most).1.1, 1 ≤ t.1 ∧ t.1 ≤ 5) ∧ (l1C b p most).1.1.length ≤ 12 ∧ p ≤ (l1C b p most).2 ∧ (l1C b p most).2 ≤ p + 40 := by
  obtain ⟨h1, h2, h3, h4⟩ := l1D_ok b p most.toNat
  by_cases e : pickV b ((l1D b p most.toNat).2 + 1) 4 = 0
  · rw [l1C_y e]; exact ⟨h1, by dsimp only; omega, by dsimp only; omega, by dsimp only; omega⟩
  · rw [l1C_n e]; exact ⟨h1, by dsimp only; omega, by dsimp only; omega, by dsimp only; omega⟩
/-- A constraint, sometimes made invalid. -/
def mutC (b : List Int) (p : Nat) (c : Con) : Con × Nat :=
  if pickV b p 40 = 0 then ((c.1, ofV b (p + 1) ([-1, 20001, 9223372036854775807] : List Int)), p + 2)
  else if pickV b p 40 = 1 then (if 0 < c.1.length then ((c.1.set 0 (ofV b (p + 1) ([0, -1, 1001] : List Int), (c.1.getD 0 default).2), c.2), p + 2) else (c, p + 1))
  else if pickV b p 40 = 2 then (if 0 < c.1.length then ((c.1.set (c.1.length - 1) ((c.1.getD (c.1.length - 1) default).1, ofV b (p + 1) ([0, 13, -13, 1, -9223372036854775808] : List Int)), c.2), p + 2) else (c, p + 1))
  else if pickV b p 40 = 3 then ((c.1 ++ [(1, 1)], c.2), p + 1) else (c, p + 1)
theorem mutC_ok (b : List Int) (p : Nat) (c : Con) : (mutC b p c).1.1.length ≤ c.1.length + 1 ∧ p ≤ (mutC b p c).2 ∧ (mutC b p c).2 ≤ p + 2 := by
  unfold mutC
  repeat' split
  all_goals (simp only [List.length_set, List.length_append, List.length_cons, List.length_nil]; omega)
def l15C (b : List Int) (p : Nat) : Con × Nat :=
  let d := l1C b (p + 1) (ofV b p ([4, 5, 3, 8] : List Int))
  let ts := d.1.1.map (sclT (ofV b d.2 ([1, 2, 3, 1] : List Int)))
  ((ts, pickV b (d.2 + 1) (totV ts + 2)), d.2 + 2)
/-- Drawn values. -/
def valB (b : List Int) (p : Nat) (n : Nat) : List Bool := (List.range n).map (fun i => decide (pickV b (p + i) 2 = 0))
def valV (b : List Int) (p : Nat) : List Bool := if pickV b (p + 12) 40 = 0 then (valB b p 12).take 11 else valB b p 12
end Go.Ab

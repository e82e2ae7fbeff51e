/- Constraints, told in plain lists. -/
import Derived.Test.YtliampibpeokmaaVals
set_option linter.unusedSimpArgs false
set_option linter.unusedVariables false
set_option linter.unnecessarySimpa false
namespace Go.Ab
def litOk (n : Int) : Bool := decide (n ≠ 0 ∧ -12 ≤ n ∧ n ≤ 12)
def varOf (n : Int) : Int := max n (-n)
theorem litOk_iff {n : Int} : litOk n = true ↔ (n ≠ 0 ∧ -12 ≤ n ∧ n ≤ 12) := by simp [litOk]
theorem litOk_not {n : Int} : litOk n = false ↔ ¬ (n ≠ 0 ∧ -12 ≤ n ∧ n ≤ 12) := by rw [← Bool.not_eq_true, litOk_iff]
theorem varOf_def {n : Int} : varOf n = max n (-n) := rfl
def okFrom : Int → List Term → Bool
  | _, [] => true
  | p, t :: r => litOk t.2 && (decide (p < varOf t.2) && (decide (1 ≤ t.1 ∧ t.1 ≤ 1000) && okFrom (varOf t.2) r))
def cOk (c : Con) : Bool := okFrom 0 c.1 && decide (0 ≤ c.2 ∧ c.2 ≤ 20000)
theorem okFrom_bad {p : Int} {t : Term} {r : List Term} (h : ¬ (litOk t.2 = true ∧ p < varOf t.2 ∧ 1 ≤ t.1 ∧ t.1 ≤ 1000)) : okFrom p (t :: r) = false := by
  rw [Bool.eq_false_iff]
  intro e
  simp only [okFrom, Bool.and_eq_true, decide_eq_true_eq] at e
  exact h ⟨e.1, e.2.1, e.2.2.1⟩
theorem okFrom_good {p : Int} {t : Term} {r : List Term} (h : litOk t.2 = true) (h2 : p < varOf t.2) (h3 : 1 ≤ t.1) (h4 : t.1 ≤ 1000) : okFrom p (t :: r) = okFrom (varOf t.2) r := by
  simp only [okFrom, h, Bool.true_and, h2, decide_true, h3, h4, and_self]
theorem drop_getD {α : Type} {d : α} {l : List α} {k : Nat} (h : k < l.length) : l.drop k = l.getD k d :: l.drop (k + 1) := by
  rw [List.drop_eq_getElem_cons h, List.getD_eq_getElem?_getD, List.getElem?_eq_getElem h, Option.getD_some]
def prevV (ts : List Term) (k : Nat) : Int := if k = 0 then 0 else varOf (ts.getD (k - 1) default).2
theorem prevV_succ {ts : List Term} {k : Nat} : prevV ts (k + 1) = varOf (ts.getD k default).2 := by simp [prevV]
theorem prevV_pos {ts : List Term} {k : Nat} (h : 0 < k) : prevV ts k = varOf (ts.getD (k - 1) default).2 := by unfold prevV; rw [if_neg (by omega)]
theorem varOf_pos {n : Int} (h : litOk n = true) : 0 < varOf n := by rw [litOk_iff] at h; unfold varOf; omega
theorem take_map_len {α β : Type} {f : α → β} {l : List α} : (l.map f).length = l.length := List.length_map ..
end Go.Ab
namespace Go.Ab
/-! ### Common divisors -/
def gcdL (ts : List Term) : Nat := ts.foldl (fun g t => Nat.gcd t.1.toNat g) 0
theorem gcdL_next {ts : List Term} {k : Nat} (h : k < ts.length) : gcdL (ts.take (k + 1)) = Nat.gcd (ts.getD k default).1.toNat (gcdL (ts.take k)) := by
  unfold gcdL
  rw [take_succD (d := default) h, List.foldl_append]; rfl
def cdiv (c : Con) : Int := if cOk c then ((gcdL c.1 : Nat) : Int) else 0
theorem okFrom_all : ∀ {ts : List Term} {p : Int}, okFrom p ts = true → ∀ t ∈ ts, litOk t.2 = true ∧ 1 ≤ t.1 ∧ t.1 ≤ 1000
  | [], _, _, t, ht => by simp at ht
  | x :: r, p, h, t, ht => by
    simp only [okFrom, Bool.and_eq_true, decide_eq_true_eq] at h
    rcases List.mem_cons.1 ht with rfl | ht
    · exact ⟨h.1, h.2.2.1⟩
    · exact okFrom_all h.2.2.2 t ht
theorem getD_mem {α : Type} {d : α} {l : List α} {k : Nat} (h : k < l.length) : l.getD k d ∈ l := by
  rw [List.getD_eq_getElem?_getD, List.getElem?_eq_getElem h, Option.getD_some]; exact List.getElem_mem h
theorem cOk_terms {c : Con} (h : cOk c = true) {k : Nat} (hk : k < c.1.length) : litOk (c.1.getD k default).2 = true ∧ 1 ≤ (c.1.getD k default).1 ∧ (c.1.getD k default).1 ≤ 1000 := by
  simp only [cOk, Bool.and_eq_true] at h
  exact okFrom_all h.1 _ (getD_mem hk)
theorem cOk_bound {c : Con} (h : cOk c = true) : 0 ≤ c.2 ∧ c.2 ≤ 20000 := by
  simp only [cOk, Bool.and_eq_true, decide_eq_true_eq] at h
  exact h.2
theorem okFrom_len : ∀ {ts : List Term} {p : Int}, okFrom p ts = true → (ts.length : Int) ≤ max (12 - p) 0
  | [], p, _ => by simp; omega
  | x :: r, p, h => by
    simp only [okFrom, Bool.and_eq_true, decide_eq_true_eq] at h
    have ih := okFrom_len h.2.2.2
    have h1 := litOk_iff.1 h.1
    have h2 := h.2.1
    simp only [varOf] at h2 ih
    rw [List.length_cons]; omega
theorem cOk_len {c : Con} (h : cOk c = true) : c.1.length ≤ 12 := by
  simp only [cOk, Bool.and_eq_true] at h
  have := okFrom_len h.1; omega
def szv (n : Nat) (k : Int) : Int := if (n : Int) ≤ k then k - n else -1
end Go.Ab
namespace Go.Ab
/-! ### Marks of numbers and terms -/
def marksI (k n : Nat) : List Int := (List.range n).map (fun i => ((k + i : Nat) : Int))
theorem marksI_length {k n : Nat} : (marksI k n).length = n := by simp [marksI]
theorem marksI_at {k n i : Nat} (h : i < n) : (marksI k n).getD i default = ((k + i : Nat) : Int) := by simp [marksI, h]
def markT (k i : Nat) : Term := (((k + 2 * i : Nat) : Int), ((k + 2 * i + 1 : Nat) : Int))
def marksT (k n : Nat) : List Term := (List.range n).map (markT k)
theorem marksT_length {k n : Nat} : (marksT k n).length = n := by simp [marksT]
theorem marksT_at {k n i : Nat} (h : i < n) : (marksT k n).getD i default = markT k i := by simp [marksT, h]
/-! ### Clauses that exclude -/
def varsFrom : Int → List Int → Bool
  | _, [] => true
  | p, v :: r => decide (p < v) && (decide (1 ≤ v ∧ v ≤ 12) && varsFrom v r)
theorem varsFrom_bad {p v : Int} {r : List Int} (h : ¬ (p < v ∧ 1 ≤ v ∧ v ≤ 12)) : varsFrom p (v :: r) = false := by
  rw [Bool.eq_false_iff]
  intro e
  simp only [varsFrom, Bool.and_eq_true, decide_eq_true_eq] at e
  exact h ⟨e.1, e.2.1⟩
theorem varsFrom_good {p v : Int} {r : List Int} (h : p < v) (h2 : 1 ≤ v) (h3 : v ≤ 12) : varsFrom p (v :: r) = varsFrom v r := by
  simp only [varsFrom, h, decide_true, h2, h3, and_self, Bool.true_and]
theorem varsFrom_all : ∀ {vs : List Int} {p : Int}, varsFrom p vs = true → ∀ v ∈ vs, 1 ≤ v ∧ v ≤ 12
  | [], _, _, v, hv => by simp at hv
  | x :: r, p, h, v, hv => by
    simp only [varsFrom, Bool.and_eq_true, decide_eq_true_eq] at h
    rcases List.mem_cons.1 hv with rfl | hv
    · exact h.2.1
    · exact varsFrom_all h.2.2 v hv
theorem vars_at {vs : List Int} (h : varsFrom 0 vs = true) {k : Nat} (hk : k < vs.length) : 1 ≤ vs.getD k default ∧ vs.getD k default ≤ 12 := varsFrom_all h _ (getD_mem hk)
theorem varsFrom_len : ∀ {vs : List Int} {p : Int}, varsFrom p vs = true → (vs.length : Int) ≤ max (12 - p) 0
  | [], p, _ => by simp; omega
  | x :: r, p, h => by
    simp only [varsFrom, Bool.and_eq_true, decide_eq_true_eq] at h
    have ih := varsFrom_len h.2.2
    rw [List.length_cons]; omega
theorem vars_len {vs : List Int} (h : varsFrom 0 vs = true) : vs.length ≤ 12 := by have := varsFrom_len h; omega
def prevI (vs : List Int) (k : Nat) : Int := if k = 0 then 0 else vs.getD (k - 1) default
theorem prevI_succ {vs : List Int} {k : Nat} : prevI vs (k + 1) = vs.getD k default := by simp [prevI]
theorem prevI_pos {vs : List Int} {k : Nat} (h : 0 < k) : prevI vs k = vs.getD (k - 1) default := by unfold prevI; rw [if_neg (by omega)]
theorem prevI_zero {vs : List Int} {k : Nat} (h : ¬ 0 < k) : prevI vs k = 0 := by unfold prevI; rw [if_pos (by omega)]
def exT (bs : List Bool) (v : Int) : Term := (1, if bs.getD (v - 1).toNat default then -v else v)
def exTs (vs : List Int) (bs : List Bool) : List Term := vs.map (exT bs)
def exOk (vs : List Int) (bs : List Bool) : Bool := varsFrom 0 vs && decide (bs.length = 12)
def exC (vs : List Int) (bs : List Bool) : Con := if exOk vs bs then (exTs vs bs, 1) else ([], 0)
theorem exTs_next {vs : List Int} {bs : List Bool} {k : Nat} {t : Term} (h : k < vs.length) (ht : exT bs (vs.getD k default) = t) : (exTs (vs.take k) bs).map dT ++ [dT t] = (exTs (vs.take (k + 1)) bs).map dT := by
  unfold exTs
  rw [take_succD (d := default) h, ← ht]; simp
theorem exTs_length {vs : List Int} {bs : List Bool} : (exTs vs bs).length = vs.length := by simp [exTs]
theorem exT_t {bs : List Bool} {v : Int} (h : bs.getD (v - 1).toNat default = true) : exT bs v = (1, -v) := by unfold exT; rw [if_pos h]
theorem exT_f {bs : List Bool} {v : Int} (h : bs.getD (v - 1).toNat default = false) : exT bs v = (1, v) := by unfold exT; rw [if_neg (by rw [h]; decide)]
theorem exC_len {vs : List Int} {bs : List Bool} : (exC vs bs).1.length ≤ 12 := by
  unfold exC exOk
  split
  · rename_i h
    simp only [Bool.and_eq_true] at h
    rw [exTs_length]; exact vars_len h.1
  · simp
end Go.Ab
namespace Go.Ab
theorem exOk_ok {vs : List Int} {bs : List Bool} (h : varsFrom 0 vs = true) (h2 : bs.length = 12) : exOk vs bs = true := by simp [exOk, h, h2]
theorem exC_ok {vs : List Int} {bs : List Bool} (h : varsFrom 0 vs = true) (h2 : bs.length = 12) : exC vs bs = (exTs vs bs, 1) := by unfold exC; rw [if_pos (exOk_ok h h2)]
theorem exOk_bad {vs : List Int} {bs : List Bool} (h : varsFrom 0 vs = false ∨ bs.length ≠ 12) : exOk vs bs = false := by
  rcases h with h | h <;> simp [exOk, h]
theorem exC_bad {vs : List Int} {bs : List Bool} (h : varsFrom 0 vs = false ∨ bs.length ≠ 12) : exC vs bs = ([], 0) := by unfold exC; rw [exOk_bad h]; rfl
end Go.Ab
namespace Go.Ab
theorem szv_le {n : Nat} (h : ¬ szv n 1048576 < 0) : n ≤ 1048576 := by unfold szv at h; split at h <;> omega
theorem szv_rng {n : Nat} (h : ¬ szv n 1048576 < 0) : 0 ≤ szv n 1048576 ∧ szv n 1048576 ≤ 4611686018427387904 := by unfold szv at *; split at h <;> omega
theorem szv_le2 {n m : Nat} (h : ¬ szv m (szv n 1048576) < 0) : m ≤ 1048576 := by
  unfold szv at h
  split at h
  · split at h <;> omega
  · omega
end Go.Ab

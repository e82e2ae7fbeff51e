/- All values of twelve variables, told in plain lists. -/
import Derived.Test.YtliampibpeokmaaCons
set_option linter.unusedSimpArgs false
set_option linter.unusedVariables false
set_option linter.unnecessarySimpa false
namespace Go.Ab
def assn (n : Nat) : List Bool := (List.range 12).map (fun i => n.testBit (11 - i))
def enc : List Bool → Nat
  | [] => 0
  | b :: r => 2 ^ r.length * (if b then 1 else 0) + enc r
def litV (bs : List Bool) (l : Int) : Bool := bs.getD (varOf l - 1).toNat default == decide (0 < l)
def term (bs : List Bool) (t : Term) : Int := if litV bs t.2 then t.1 else 0
def sumV (ts : List Term) (bs : List Bool) : Int := ts.foldl (fun s t => s + term bs t) 0
theorem sumV_next {ts : List Term} {bs : List Bool} {k : Nat} (h : k < ts.length) : sumV (ts.take (k + 1)) bs = sumV (ts.take k) bs + term bs (ts.getD k default) := by
  unfold sumV
  rw [take_succD (d := default) h, List.foldl_append]; rfl
def holdsV (c : Con) (bs : List Bool) : Bool := decide (c.2 ≤ sumV c.1 bs)
def totV (ts : List Term) : Int := ts.foldl (fun s t => s + t.1) 0
theorem totV_next {ts : List Term} {k : Nat} (h : k < ts.length) : totV (ts.take (k + 1)) = totV (ts.take k) + (ts.getD k default).1 := by
  unfold totV
  rw [take_succD (d := default) h, List.foldl_append]; rfl
theorem sumV_bounds {ts : List Term} {bs : List Bool} (h : ∀ t ∈ ts, 1 ≤ t.1 ∧ t.1 ≤ 1000) : 0 ≤ sumV ts bs ∧ sumV ts bs ≤ 1000 * ts.length := by
  suffices ∀ (ts : List Term) (s : Int), (∀ t ∈ ts, 1 ≤ t.1 ∧ t.1 ≤ 1000) → s ≤ ts.foldl (fun s t => s + term bs t) s ∧ ts.foldl (fun s t => s + term bs t) s ≤ s + 1000 * ts.length by
    have := this ts 0 h
    unfold sumV; omega
  intro ts
  induction ts with
  | nil => intro s _; simp
  | cons t r ih =>
    intro s h
    have h1 := h t (by simp)
    have h2 := ih (s + term bs t) (fun t ht => h t (by simp [ht]))
    have h3 : 0 ≤ term bs t ∧ term bs t ≤ 1000 := by unfold term; split <;> omega
    simp only [List.foldl_cons, List.length_cons]
    omega
theorem totV_bounds {ts : List Term} (h : ∀ t ∈ ts, 1 ≤ t.1 ∧ t.1 ≤ 1000) : 0 ≤ totV ts ∧ totV ts ≤ 1000 * ts.length := by
  suffices ∀ (ts : List Term) (s : Int), (∀ t ∈ ts, 1 ≤ t.1 ∧ t.1 ≤ 1000) → s ≤ ts.foldl (fun s t => s + t.1) s ∧ ts.foldl (fun s t => s + t.1) s ≤ s + 1000 * ts.length by
    have := this ts 0 h
    unfold totV; omega
  intro ts
  induction ts with
  | nil => intro s _; simp
  | cons t r ih =>
    intro s h
    have h1 := h t (by simp)
    have h2 := ih (s + t.1) (fun t ht => h t (by simp [ht]))
    simp only [List.foldl_cons, List.length_cons]
    omega
theorem cOk_coefs {c : Con} (h : cOk c = true) : ∀ t ∈ c.1, 1 ≤ t.1 ∧ t.1 ≤ 1000 := by
  simp only [cOk, Bool.and_eq_true] at h
  exact fun t ht => (okFrom_all h.1 t ht).2
theorem sum_take {c : Con} (h : cOk c = true) {bs : List Bool} {k : Nat} (hk : k ≤ c.1.length) : 0 ≤ sumV (c.1.take k) bs ∧ sumV (c.1.take k) bs ≤ 1000 * k := by
  have := sumV_bounds (ts := c.1.take k) (bs := bs) (fun t ht => cOk_coefs h t (List.mem_of_mem_take ht))
  rw [List.length_take] at this; omega
theorem tot_takeG {ts : List Term} {k : Nat} (h : ∀ t ∈ ts, -1000000 ≤ t.1 ∧ t.1 ≤ 1000000) (hk : k ≤ ts.length) : -1000000 * (k : Int) ≤ totV (ts.take k) ∧ totV (ts.take k) ≤ 1000000 * (k : Int) := by
  suffices ∀ (ts : List Term) (s : Int), (∀ t ∈ ts, -1000000 ≤ t.1 ∧ t.1 ≤ 1000000) → s - 1000000 * ts.length ≤ ts.foldl (fun s t => s + t.1) s ∧ ts.foldl (fun s t => s + t.1) s ≤ s + 1000000 * ts.length by
    have := this (ts.take k) 0 (fun t ht => h t (List.mem_of_mem_take ht))
    rw [List.length_take] at this
    unfold totV; omega
  intro ts
  induction ts with
  | nil => intro s _; simp
  | cons t r ih =>
    intro s h
    have h1 := h t (by simp)
    have h2 := ih (s + t.1) (fun t ht => h t (by simp [ht]))
    simp only [List.foldl_cons, List.length_cons]
    omega

/-! ### The least sum -/
def sbf (a b : Con) : Nat → Int × Bool
  | 0 => (0, false)
  | k + 1 => if holdsV a (assn k) then (if (sbf a b k).2 = false ∨ sumV b.1 (assn k) < (sbf a b k).1 then (sumV b.1 (assn k), true) else sbf a b k) else sbf a b k
def leastV (a b : Con) (k : Nat) : Int := if (sbf a b k).2 then (sbf a b k).1 else -1

/-! ### All literals at once -/
theorem okFrom_gt : ∀ {ts : List Term} {p : Int}, okFrom p ts = true → ∀ t ∈ ts, p < varOf t.2
  | [], _, _, t, ht => by simp at ht
  | x :: r, p, h, t, ht => by
    simp only [okFrom, Bool.and_eq_true, decide_eq_true_eq] at h
    rcases List.mem_cons.1 ht with rfl | ht
    · exact h.2.1
    · have := okFrom_gt h.2.2.2 t ht; omega
def allTrue (ts : List Term) : List Bool := (List.range 12).map (fun (i : Nat) => ts.any (fun t => decide (t.2 = (i : Int) + 1)))
end Go.Ab
namespace Go.Ab
/-! ### The rows of bits while they are made -/
def pa (n k : Nat) : List Bool := (List.range 12).map (fun j => if j < k then n.testBit (11 - j) else false)
def pb (n k : Nat) : List Bool := (List.range 12).map (fun j => if 12 - k ≤ j then n.testBit (11 - j) else false)
end Go.Ab
namespace Go.Ab
end Go.Ab
namespace Go.Ab
def sbR (a b : Con) : Int × Bool := if cOk a && cOk b then sbf a b 4096 else (0, false)
def icR (a b : Con) : Bool := if cOk a && cOk b then (!(sbR a b).2 || decide (b.2 ≤ (sbR a b).1)) else false
end Go.Ab

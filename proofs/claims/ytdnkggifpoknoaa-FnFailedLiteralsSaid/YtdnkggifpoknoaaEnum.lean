/- All values of twelve variables, told in plain lists. -/
import Derived.Test.YtdnkggifpoknoaaCons
set_option linter.unusedSimpArgs false
set_option linter.unusedVariables false
set_option linter.unnecessarySimpa false
namespace Go.Ab
def assn (n : Nat) : List Bool := (List.range 12).map (fun i => n.testBit (11 - i))
theorem assn_length {n : Nat} : (assn n).length = 12 := by simp [assn]
theorem assn_at {n i : Nat} (h : i < 12) : (assn n).getD i default = n.testBit (11 - i) := by
  rw [assn, List.getD_eq_getElem?_getD, List.getElem?_map, List.getElem?_range h]; rfl
def enc : List Bool → Nat
  | [] => 0
  | b :: r => 2 ^ r.length * (if b then 1 else 0) + enc r
theorem enc_lt : ∀ {l : List Bool}, enc l < 2 ^ l.length
  | [] => by simp [enc]
  | b :: r => by
    have ih := enc_lt (l := r)
    simp only [enc, List.length_cons, Nat.pow_succ]
    split <;> omega
theorem enc_bit : ∀ {l : List Bool} {i : Nat}, i < l.length → (enc l).testBit (l.length - 1 - i) = l.getD i default
  | [], i, h => by simp at h
  | b :: r, 0, h => by
    simp only [enc, List.length_cons, Nat.add_sub_cancel, Nat.sub_zero]
    rw [Nat.testBit_two_pow_mul_add _ enc_lt, if_neg (by omega), Nat.sub_self]
    cases b <;> rfl
  | b :: r, i + 1, h => by
    simp only [List.length_cons] at h
    simp only [enc, List.length_cons]
    rw [Nat.testBit_two_pow_mul_add _ enc_lt, if_pos (by omega), show r.length + 1 - 1 - (i + 1) = r.length - 1 - i by omega, enc_bit (by omega)]
    rfl
theorem assn_enc {l : List Bool} (h : l.length = 12) : enc l < 4096 ∧ assn (enc l) = l := by
  have h1 := enc_lt (l := l)
  rw [h] at h1
  refine ⟨h1, ?_⟩
  apply List.ext_getElem?
  intro i
  by_cases hi : i < 12
  · have h2 := assn_at (n := enc l) hi
    have h3 := enc_bit (l := l) (i := i) (by omega)
    rw [h] at h3
    rw [show 12 - 1 - i = 11 - i by omega] at h3
    rw [h3] at h2
    rw [List.getD_eq_getElem?_getD, List.getD_eq_getElem?_getD, List.getElem?_eq_getElem (by rw [assn_length]; exact hi), List.getElem?_eq_getElem (by omega)] at h2
    rw [List.getElem?_eq_getElem (by rw [assn_length]; exact hi), List.getElem?_eq_getElem (by omega)]
    simpa using h2
  · rw [List.getElem?_eq_none (by rw [assn_length]; omega), List.getElem?_eq_none (by omega)]

def litV (bs : List Bool) (l : Int) : Bool := bs.getD (varOf l - 1).toNat default == decide (0 < l)
def term (bs : List Bool) (t : Term) : Int := if litV bs t.2 then t.1 else 0
def sumV (ts : List Term) (bs : List Bool) : Int := ts.foldl (fun s t => s + term bs t) 0
theorem sumV_next {ts : List Term} {bs : List Bool} {k : Nat} (h : k < ts.length) : sumV (ts.take (k + 1)) bs = sumV (ts.take k) bs + term bs (ts.getD k default) := by
  unfold sumV
  rw [take_succD (d := default) h, List.foldl_append]; rfl
def holdsV (c : Con) (bs : List Bool) : Bool := decide (c.2 ≤ sumV c.1 bs)
def totV (ts : List Term) : Int := ts.foldl (fun s t => s + t.1) 0
theorem totV_next {ts : List Term} {k : Nat} (h : k < ts.length) : totV (ts.take (k + 1)) = totV (ts.take k) + (ts.getD k default).1 := by
  unfold totV
  rw [take_succD (d := default) h, List.foldl_append]; rfl
theorem sumV_bounds {ts : List Term} {bs : List Bool} (h : ∀ t ∈ ts, 1 ≤ t.1 ∧ t.1 ≤ 1000) : 0 ≤ sumV ts bs ∧ sumV ts bs ≤ 1000 * ts.length := by
  suffices ∀ (ts : List Term) (s : Int), (∀ t ∈ ts, 1 ≤ t.1 ∧ t.1 ≤ 1000) → s ≤ ts.foldl (fun s t => s + term bs t) s ∧ ts.foldl (fun s t => s + term bs t) s ≤ s + 1000 * ts.length by
    have := this ts 0 h
    unfold sumV; omega
  intro ts
  induction ts with
  | nil => intro s _; simp
  | cons t r ih =>
    intro s h
    have h1 := h t (by simp)
    have h2 := ih (s + term bs t) (fun t ht => h t (by simp [ht]))
    have h3 : 0 ≤ term bs t ∧ term bs t ≤ 1000 := by unfold term; split <;> omega
    simp only [List.foldl_cons, List.length_cons]
    omega
theorem totV_bounds {ts : List Term} (h : ∀ t ∈ ts, 1 ≤ t.1 ∧ t.1 ≤ 1000) : 0 ≤ totV ts ∧ totV ts ≤ 1000 * ts.length := by
  suffices ∀ (ts : List Term) (s : Int), (∀ t ∈ ts, 1 ≤ t.1 ∧ t.1 ≤ 1000) → s ≤ ts.foldl (fun s t => s + t.1) s ∧ ts.foldl (fun s t => s + t.1) s ≤ s + 1000 * ts.length by
    have := this ts 0 h
    unfold totV; omega
  intro ts
  induction ts with
  | nil => intro s _; simp
  | cons t r ih =>
    intro s h
    have h1 := h t (by simp)
    have h2 := ih (s + t.1) (fun t ht => h t (by simp [ht]))
    simp only [List.foldl_cons, List.length_cons]
    omega
theorem cOk_coefs {c : Con} (h : cOk c = true) : ∀ t ∈ c.1, 1 ≤ t.1 ∧ t.1 ≤ 1000 := by
  simp only [cOk, Bool.and_eq_true] at h
  exact fun t ht => (okFrom_all h.1 t ht).2
theorem sum_take {c : Con} (h : cOk c = true) {bs : List Bool} {k : Nat} (hk : k ≤ c.1.length) : 0 ≤ sumV (c.1.take k) bs ∧ sumV (c.1.take k) bs ≤ 1000 * k := by
  have := sumV_bounds (ts := c.1.take k) (bs := bs) (fun t ht => cOk_coefs h t (List.mem_of_mem_take ht))
  rw [List.length_take] at this; omega
theorem tot_take {c : Con} (h : cOk c = true) {k : Nat} (hk : k ≤ c.1.length) : 0 ≤ totV (c.1.take k) ∧ totV (c.1.take k) ≤ 1000 * k := by
  have := totV_bounds (ts := c.1.take k) (fun t ht => cOk_coefs h t (List.mem_of_mem_take ht))
  rw [List.length_take] at this; omega

theorem tot_takeG {ts : List Term} {k : Nat} (h : ∀ t ∈ ts, -1000000 ≤ t.1 ∧ t.1 ≤ 1000000) (hk : k ≤ ts.length) : -1000000 * (k : Int) ≤ totV (ts.take k) ∧ totV (ts.take k) ≤ 1000000 * (k : Int) := by
  suffices ∀ (ts : List Term) (s : Int), (∀ t ∈ ts, -1000000 ≤ t.1 ∧ t.1 ≤ 1000000) → s - 1000000 * ts.length ≤ ts.foldl (fun s t => s + t.1) s ∧ ts.foldl (fun s t => s + t.1) s ≤ s + 1000000 * ts.length by
    have := this (ts.take k) 0 (fun t ht => h t (List.mem_of_mem_take ht))
    rw [List.length_take] at this
    unfold totV; omega
  intro ts
  induction ts with
  | nil => intro s _; simp
  | cons t r ih =>
    intro s h
    have h1 := h t (by simp)
    have h2 := ih (s + t.1) (fun t ht => h t (by simp [ht]))
    simp only [List.foldl_cons, List.length_cons]
    omega

/-! ### The least sum -/
def sbf (a b : Con) : Nat → Int × Bool
  | 0 => (0, false)
  | k + 1 => if holdsV a (assn k) then (if (sbf a b k).2 = false ∨ sumV b.1 (assn k) < (sbf a b k).1 then (sumV b.1 (assn k), true) else sbf a b k) else sbf a b k
def leastV (a b : Con) (k : Nat) : Int := if (sbf a b k).2 then (sbf a b k).1 else -1

/-! ### All literals at once -/
def allTrue (ts : List Term) : List Bool := (List.range 12).map (fun (i : Nat) => ts.any (fun t => decide (t.2 = (i : Int) + 1)))
end Go.Ab
namespace Go.Ab
/-! ### The rows of bits while they are made -/
def pa (n k : Nat) : List Bool := (List.range 12).map (fun j => if j < k then n.testBit (11 - j) else false)
def pb (n k : Nat) : List Bool := (List.range 12).map (fun j => if 12 - k ≤ j then n.testBit (11 - j) else false)
theorem map_range_set {α : Type} {f g : Nat → α} {n k : Nat} (h : ∀ j, j < n → g j = if j = k then g k else f j) : ((List.range n).map f).set k (g k) = (List.range n).map g := by
  apply List.ext_getElem?
  intro i
  rw [List.getElem?_set]
  by_cases hi : i < n
  · rw [List.getElem?_map, List.getElem?_map, List.getElem?_range hi]
    have hg := h i hi
    by_cases e : k = i
    · subst e; simp [hi]
    · have e' : ¬ i = k := fun h => e h.symm
      rw [if_neg e'] at hg
      simp [e, hg]
  · have e1 : (List.map g (List.range n))[i]? = none := List.getElem?_eq_none (by simp; omega)
    have e2 : (List.map f (List.range n))[i]? = none := List.getElem?_eq_none (by simp; omega)
    rw [e1, e2]
    split
    · split
      · rename_i h1; simp at h1; omega
      · rfl
    · rfl
theorem pa_next {n k : Nat} {v : Bool} (hk : k < 12) (hv : n.testBit (11 - k) = v) : ((pa n k).map dB).set k (dB v) = (pa n (k + 1)).map dB := by
  rw [← List.map_set]
  congr 1
  have := map_range_set (f := fun j => if j < k then n.testBit (11 - j) else false) (g := fun j => if j < k + 1 then n.testBit (11 - j) else false) (n := 12) (k := k) (fun j hj => by
    by_cases e : j = k
    · subst e; simp
    · simp only [e, if_false]
      by_cases h2 : j < k
      · rw [if_pos h2, if_pos (by omega)]
      · rw [if_neg h2, if_neg (by omega)])
  simp only [show k < k + 1 from Nat.lt_succ_self k, if_true, hv] at this
  exact this
theorem pa_zero {n : Nat} : (pa n 0).map dB = List.replicate 12 [V.p (.bool false)] := rfl
theorem pa_all {n k : Nat} (h : 12 ≤ k) : pa n k = assn n := by
  unfold pa assn
  apply List.map_congr_left
  intro j hj
  rw [if_pos (by have := List.mem_range.1 hj; omega)]
theorem pa_length {n k : Nat} : (pa n k).length = 12 := by simp [pa]
theorem bit_and {n k : Nat} : n.testBit k = decide ((((n / 2 ^ k) % 2 : Nat) : Int) = 1) := by
  rw [Nat.testBit_eq_decide_div_mod_eq]
  apply biff
  simp only [decide_eq_true_eq]; omega
theorem run_shr {P : Program} {xt : TypeId} {a b : Nat} {y : Int} (hy : y = (b : Int)) (hb : b ≤ 64) (w : World) : (Go.binOp .shr xt (.int .i64 (a : Nat)) (.int .i64 y)).run P w = .ok (.int .i64 ((a / 2 ^ b : Nat) : Int)) w := by
  subst hy
  have h1 : ¬ ((b : Int) < 0) := by omega
  have h2 : min b 64 = b := by omega
  have h3 : (a : Int).fdiv (2 ^ b) = ((a / 2 ^ b : Nat) : Int) := by
    rw [Int.fdiv_eq_ediv_of_nonneg _ (Int.le_of_lt (Int.pow_pos (by decide)))]
    simp
  simp [Go.binOp, Op.shift, h1, IntKind.bits, h2, h3]
theorem run_and1 {P : Program} {xt : TypeId} {a : Nat} (ha : a < 4294967296) (w : World) : (Go.binOp .and xt (.int .i64 (a : Nat)) (.int .i64 1)).run P w = .ok (.int .i64 ((a % 2 : Nat) : Int)) w := by
  have h : (BitVec.ofInt 64 (a : Int) &&& BitVec.ofInt 64 1).toNat = a % 2 := by
    rw [BitVec.toNat_and, BitVec.toNat_ofInt, BitVec.toNat_ofInt]
    have e1 : ((a : Int) % ((2 ^ 64 : Nat) : Int)).toNat = a := by omega
    have e2 : ((1 : Int) % ((2 ^ 64 : Nat) : Int)).toNat = 1 := by omega
    rw [e1, e2, Nat.and_one_is_mod]
  have h2 : (BitVec.ofInt 64 (a : Int) &&& BitVec.ofInt 64 1).toNat = a % 2 := h
  have h3 : IntKind.i64.wrap ((a % 2 : Nat) : Int) = ((a % 2 : Nat) : Int) := wrap64_of (by omega) (by omega)
  show (Op.intBits .and .i64 (a : Int) 1).run P w = _
  simp only [Op.intBits]
  show Result.ok (Value.int .i64 (IntKind.i64.wrap ((BitVec.ofInt 64 (a : Int) &&& BitVec.ofInt 64 1).toNat : Int))) w = _
  rw [h2, h3]
end Go.Ab
namespace Go.Ab
end Go.Ab
namespace Go.Ab
def sbR (a b : Con) : Int × Bool := if cOk a && cOk b then sbf a b 4096 else (0, false)
def icR (a b : Con) : Bool := if cOk a && cOk b then (!(sbR a b).2 || decide (b.2 ≤ (sbR a b).1)) else false
end Go.Ab

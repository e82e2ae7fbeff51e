/- Models, told in plain lists. -/
import Derived.Test.YtikknnpdiahnoaaAb19
import Derived.Test.YtikknnpdiahnoaaProb
set_option linter.unusedSimpArgs false
set_option linter.unusedVariables false
namespace Go.Ab
/-- Kind, cells, coefficients, bound, rows. -/
abbrev Rl := Int × List Int × List Int × Int × List (List Int)
abbrev Md := List Int × List Rl
def dL (x : List Int) : List V := [.sl (x.map dI)]
def dR (r : Rl) : List V := [.p (.int .i64 r.1), .sl (r.2.1.map dI), .sl (r.2.2.1.map dI), .p (.int .i64 r.2.2.2.1), .sl (r.2.2.2.2.map dL)]
def dD (x : List Bool) : List V := [.sl (x.map dB)]
/-! ### Validity -/
def vsN (n : Int) (vs : List Int) (k : Nat) : Bool := (List.range k).all (fun i => decide (0 ≤ vs.getD i default ∧ vs.getD i default < n) && !decide (vs.getD i default ∈ vs.take i))
theorem vsN_next {n : Int} {vs : List Int} {k : Nat} (h : vsN n vs k = true) (h1 : 0 ≤ vs.getD k default ∧ vs.getD k default < n) (h2 : vs.getD k default ∉ vs.take k) : vsN n vs (k + 1) = true := by
  unfold vsN at h ⊢
  rw [List.range_succ, List.all_append, h, List.all_cons, List.all_nil, decide_eq_true h1, decide_eq_false h2]; rfl
theorem vsN_bad {n : Int} {vs : List Int} {k m : Nat} (hk : k < m) (h : ¬ (0 ≤ vs.getD k default ∧ vs.getD k default < n) ∨ vs.getD k default ∈ vs.take k) : vsN n vs m = false := by
  rw [Bool.eq_false_iff]
  intro q
  unfold vsN at q
  have := List.all_eq_true.1 q k (List.mem_range.2 hk)
  simp only [Bool.and_eq_true, decide_eq_true_eq, Bool.not_eq_true', decide_eq_false_iff_not] at this
  rcases h with h | h
  · exact h this.1
  · exact this.2 h
def linOk (r : Rl) : Bool := decide (r.2.2.1.length = r.2.1.length) && (decide (-1000 ≤ r.2.2.2.1 ∧ r.2.2.2.1 ≤ 1000) && r.2.2.1.all (fun a => decide (a ≠ 0 ∧ -9 ≤ a ∧ a ≤ 9)))
def rowOk (r : Rl) (x : List Int) : Bool := decide (x.length = r.2.1.length) && x.all (fun a => decide (0 ≤ a ∧ a ≤ 3))
def tabOk (r : Rl) : Bool := decide (r.2.2.2.2.length ≤ 8) && r.2.2.2.2.all (rowOk r)
def rHead (r : Rl) : Prop := r.2.1.length ≠ 0 ∧ (r.1 ≠ 1 → r.2.2.1.length = 0 ∧ r.2.2.2.1 = 0) ∧ (r.1 ≠ 3 → r.2.2.2.2.length = 0)
instance (r : Rl) : Decidable (rHead r) := by unfold rHead; exact inferInstance
def rTail (r : Rl) : Bool := if r.1 = 1 then linOk r else if r.1 = 3 then tabOk r else if r.1 = 4 then decide (r.2.1.length = 2) else decide (r.1 = 2)
def rOk (n : Int) (r : Rl) : Bool := vsN n r.2.1 r.2.1.length && (decide (rHead r) && rTail r)
theorem rOk_v {n : Int} {r : Rl} (h : vsN n r.2.1 r.2.1.length = false) : rOk n r = false := by unfold rOk; rw [h]; rfl
theorem rOk_h {n : Int} {r : Rl} (h : ¬ rHead r) : rOk n r = false := by unfold rOk; rw [decide_eq_false h, Bool.false_and, Bool.and_false]
theorem rOk_t {n : Int} {r : Rl} (h : vsN n r.2.1 r.2.1.length = true) (h2 : rHead r) : rOk n r = rTail r := by unfold rOk; rw [h, decide_eq_true h2, Bool.true_and, Bool.true_and]
theorem rTail_1 {r : Rl} (h : r.1 = 1) : rTail r = linOk r := by unfold rTail; rw [if_pos h]
theorem rTail_3 {r : Rl} (h : r.1 = 3) : rTail r = tabOk r := by unfold rTail; rw [if_neg (by omega), if_pos h]
theorem rTail_4 {r : Rl} (h : r.1 = 4) : rTail r = decide (r.2.1.length = 2) := by unfold rTail; rw [if_neg (by omega), if_neg (by omega), if_pos h]
theorem rTail_0 {r : Rl} (h : r.1 ≠ 1) (h2 : r.1 ≠ 3) (h3 : r.1 ≠ 4) : rTail r = decide (r.1 = 2) := by unfold rTail; rw [if_neg h, if_neg h2, if_neg h3]
def szSum (xs : List Int) : Int := xs.foldl (fun a s => a + (s + 1)) 0
theorem szSum_next {xs : List Int} {k : Nat} (h : k < xs.length) : szSum (xs.take (k + 1)) = szSum (xs.take k) + (xs.getD k default + 1) := by
  unfold szSum
  rw [take_succD (d := default) h, List.foldl_append]; rfl
theorem szSum_rng {xs : List Int} : ∀ {k : Nat}, k ≤ xs.length → (xs.take k).all (fun s => decide (0 ≤ s ∧ s ≤ 3)) = true → (k : Int) ≤ szSum (xs.take k) ∧ szSum (xs.take k) ≤ 4 * k
  | 0, _, _ => by simp [szSum]
  | k + 1, h, ha => by
    rw [take_succD (d := default) (by omega), List.all_append, Bool.and_eq_true] at ha
    have ih := szSum_rng (k := k) (by omega) ha.1
    have h2 := ha.2
    simp only [List.all_cons, List.all_nil, Bool.and_true, decide_eq_true_eq] at h2
    rw [szSum_next (by omega)]; omega
def szsOk (xs : List Int) : Bool := decide (1 ≤ xs.length ∧ xs.length ≤ 5) && (xs.all (fun s => decide (0 ≤ s ∧ s ≤ 3)) && decide (szSum xs ≤ 12))
def mOk (m : Md) : Bool := szsOk m.1 && (decide (m.2.length ≤ 8) && m.2.all (rOk m.1.length))
theorem mOk_s {m : Md} (h : szsOk m.1 = false) : mOk m = false := by unfold mOk; rw [h]; rfl
theorem mOk_l {m : Md} (h : ¬ m.2.length ≤ 8) : mOk m = false := by unfold mOk; rw [decide_eq_false h, Bool.false_and, Bool.and_false]
theorem mOk_r {m : Md} (h : m.2.all (rOk m.1.length) = false) : mOk m = false := by unfold mOk; rw [h, Bool.and_false, Bool.and_false]
theorem mOk_of {m : Md} (h : szsOk m.1 = true) (h2 : m.2.length ≤ 8) : mOk m = m.2.all (rOk m.1.length) := by unfold mOk; rw [h, decide_eq_true h2, Bool.true_and, Bool.true_and]
theorem szs_of {xs : List Int} (h : 1 ≤ xs.length ∧ xs.length ≤ 5) (h2 : xs.all (fun s => decide (0 ≤ s ∧ s ≤ 3)) = true) (h3 : szSum xs ≤ 12) : szsOk xs = true := by unfold szsOk; rw [decide_eq_true h, h2, decide_eq_true h3]; rfl
theorem szs_no {xs : List Int} (h : ¬ (1 ≤ xs.length ∧ xs.length ≤ 5) ∨ xs.all (fun s => decide (0 ≤ s ∧ s ≤ 3)) = false ∨ ¬ szSum xs ≤ 12) : szsOk xs = false := by
  unfold szsOk
  rcases h with h | h | h
  · rw [decide_eq_false h]; rfl
  · rw [h]; simp
  · rw [decide_eq_false h, Bool.and_false, Bool.and_false]
theorem mOk_sz {m : Md} (h : mOk m = true) : (1 ≤ m.1.length ∧ m.1.length ≤ 5) ∧ ∀ k, k < m.1.length → 0 ≤ m.1.getD k default ∧ m.1.getD k default ≤ 3 := by
  unfold mOk szsOk at h
  simp only [Bool.and_eq_true, decide_eq_true_eq] at h
  refine ⟨h.1.1, fun k hk => ?_⟩
  have := all_at (d := default) h.1.2.1 hk
  simpa using this
/-! ### Full domains -/
def fdL (b : Bool) (xs : List Int) : List (List Bool) := xs.map (fun s => List.replicate (s + 1).toNat b)
def fullD (m : Md) : List (List Bool) := if mOk m then fdL true m.1 else []
theorem fullD_ok {m : Md} (h : mOk m = true) : fullD m = fdL true m.1 := by unfold fullD; rw [if_pos h]
theorem fullD_bad {m : Md} (h : mOk m = false) : fullD m = [] := by unfold fullD; rw [if_neg (by rw [h]; decide)]
theorem fdL_next {b : Bool} {xs : List Int} {k : Nat} (h : k < xs.length) : fdL b (xs.take (k + 1)) = fdL b (xs.take k) ++ [List.replicate (xs.getD k default + 1).toNat b] := by
  unfold fdL
  rw [take_succD (d := default) h, List.map_append]; rfl
theorem fdL_len {b : Bool} {xs : List Int} : (fdL b xs).length = xs.length := by simp [fdL]
end Go.Ab

/- Counting the values that satisfy a constraint; the next bound that is a sum. -/
import Derived.Test.YtliampibpeokmaaTabs
set_option linter.unusedSimpArgs false
set_option linter.unusedVariables false
set_option linter.unnecessarySimpa false
namespace Go.Ab
/-- How many of the first k values satisfy c. -/
def cntH (c : Con) (k : Nat) : Nat := (List.range k).countP (fun n => holdsV c (assn n))
theorem cntH_succ {c : Con} {k : Nat} : cntH c (k + 1) = cntH c k + (if holdsV c (assn k) = true then 1 else 0) := by
  unfold cntH
  rw [List.range_succ, List.countP_append, List.countP_singleton]
theorem cntH_le {c : Con} : ∀ {k : Nat}, cntH c k ≤ k
  | 0 => Nat.le_refl _
  | k + 1 => by rw [cntH_succ]; have := cntH_le (c := c) (k := k); split <;> omega
/-- The sum of a table's entries from 'b' below 'm'. -/
def upto (f : Nat → Nat) (b : Nat) : Nat → Nat
  | 0 => 0
  | m + 1 => upto f b m + (if b ≤ m then f m else 0)
theorem upto_lt {f : Nat → Nat} {b : Nat} : ∀ {m : Nat}, m ≤ b → upto f b m = 0
  | 0, _ => rfl
  | m + 1, h => by rw [upto, upto_lt (by omega), if_neg (by omega)]
theorem upto_zero {b : Nat} {f : Nat → Nat} (h : ∀ s, f s = 0) : ∀ m, upto f b m = 0
  | 0 => rfl
  | m + 1 => by rw [upto, upto_zero h m, h]; split <;> rfl
theorem upto_add {b : Nat} {f g h : Nat → Nat} (e : ∀ s, h s = f s + g s) : ∀ m, upto h b m = upto f b m + upto g b m
  | 0 => rfl
  | m + 1 => by rw [upto, upto, upto, upto_add e m, e]; split <;> omega
theorem upto_one {b t : Nat} : ∀ m, upto (fun s => if (s : Nat) = t then 1 else 0) b m = if b ≤ t ∧ t < m then 1 else 0
  | 0 => by simp [upto]
  | m + 1 => by
    rw [upto, upto_one m]
    by_cases h : m = t
    · subst h
      simp only [if_true, Nat.lt_irrefl, and_false, if_false, Nat.zero_add]
      by_cases hb : b ≤ m
      · rw [if_pos hb, if_pos ⟨hb, by omega⟩]
      · rw [if_neg hb, if_neg (by omega)]
    · rw [if_neg h]
      have e : (if b ≤ m then (0 : Nat) else 0) = 0 := by split <;> rfl
      rw [e, Nat.add_zero]
      by_cases h2 : b ≤ t ∧ t < m
      · rw [if_pos h2, if_pos (by omega)]
      · rw [if_neg h2, if_neg (by omega)]
theorem upto_cnt {c : Con} (h : cOk c = true) : ∀ k, upto (fun s => cnt c.1 k s) c.2.toNat (totN c.1 + 1) = cntH c k
  | 0 => by
    rw [upto_zero (fun s => cnt_zero)]; rfl
  | k + 1 => by
    have h1 := sumV_bounds (bs := assn k) (cOk_coefs h)
    have h2 := sum_le_tot (bs := assn k) (cOk_coefs h)
    have h3 := cOk_bound h
    have hN : ((totN c.1 : Nat) : Int) = totV c.1 := Int.toNat_of_nonneg (totV_bounds (cOk_coefs h)).1
    rw [upto_add (f := fun s => cnt c.1 k s) (g := fun s => if (s : Nat) = (sumV c.1 (assn k)).toNat then 1 else 0) (fun s => by
      rw [cnt_succ]
      congr 1
      by_cases e : s = (sumV c.1 (assn k)).toNat
      · rw [if_pos e, if_pos (by omega)]
      · rw [if_neg e, if_neg (by omega)]), upto_cnt h k, upto_one, cntH_succ]
    congr 1
    unfold holdsV
    by_cases e : c.2 ≤ sumV c.1 (assn k)
    · rw [if_pos (by omega), if_pos (by simpa using e)]
    · rw [if_neg (by omega), if_neg (by simpa using e)]
theorem upto_next {f : Nat → Nat} {b m : Nat} (h : b ≤ m) : upto f b (m + 1) = upto f b m + f m := by rw [upto, if_pos h]
def ccV (c : Con) : Int := if cOk c then ((cntH c 4096 : Nat) : Int) else 0
end Go.Ab
namespace Go.Ab
theorem upto_le {f : Nat → Nat} {b B : Nat} (h : ∀ s, f s ≤ B) : ∀ m, upto f b m ≤ B * m
  | 0 => Nat.zero_le _
  | m + 1 => by
    rw [upto, Nat.mul_add, Nat.mul_one]
    have h1 := upto_le (b := b) h m
    have h2 := h m
    split <;> omega
theorem cc_done {c : Con} (h : cOk c = true) {k : Nat} (h1 : totN c.1 + 1 ≤ k) (h2 : k ≤ max c.2.toNat (totN c.1 + 1)) : ((upto (fun s => cnt c.1 4096 s) c.2.toNat k : Nat) : Int) = ccV c := by
  unfold ccV
  rw [if_pos h, ← upto_cnt h 4096]
  by_cases e : c.2.toNat ≤ totN c.1 + 1
  · rw [show k = totN c.1 + 1 by omega]
  · rw [upto_lt (by omega), upto_lt (by omega)]
end Go.Ab
namespace Go.Ab
/-- The bound raised while its entry is zero. -/
def raise (f : Nat → Nat) (N : Nat) : Nat → Nat → Nat
  | 0, b => b
  | k + 1, b => if b < N ∧ f b = 0 then raise f N k (b + 1) else b
theorem raise_stop {f : Nat → Nat} {N b : Nat} (h : ¬ (b < N ∧ f b = 0)) : ∀ k, raise f N k b = b
  | 0 => rfl
  | k + 1 => by rw [raise, if_neg h]
theorem raise_step {f : Nat → Nat} {N b k : Nat} (hk : N - b ≤ k) (h : b < N ∧ f b = 0) : raise f N k b = raise f N k (b + 1) := by
  induction k generalizing b with
  | zero => omega
  | succ k ih =>
    rw [raise, if_pos h]
    by_cases h2 : b + 1 < N ∧ f (b + 1) = 0
    · rw [ih (by omega) h2, raise, if_pos h2]
    · rw [raise_stop h2, raise_stop h2]
def tbB (c : Con) : Nat := raise (fun s => cnt c.1 4096 s) (totN c.1 + 1) (totN c.1 + 1) c.2.toNat
def tbC (c : Con) : Con := if cOk c then (c.1, ((tbB c : Nat) : Int)) else ([], 0)
theorem tbC_ok {c : Con} (h : cOk c = true) : tbC c = (c.1, ((tbB c : Nat) : Int)) := by unfold tbC; rw [if_pos h]
theorem tbC_bad {c : Con} (h : cOk c = false) : tbC c = ([], 0) := by unfold tbC; rw [if_neg (by rw [h]; decide)]
end Go.Ab
namespace Go.Ab
theorem all_lf_dT : ∀ ts : List Term, (ts.map dT).flatten.all lf = true
  | [] => rfl
  | t :: r => by
    rw [List.map_cons, List.flatten_cons, List.all_append, all_lf_dT r]; rfl
end Go.Ab
namespace Go.Ab
theorem tbC_len {c : Con} : (tbC c).1.length ≤ c.1.length := by
  unfold tbC; split
  · exact Nat.le_refl _
  · exact Nat.zero_le _
end Go.Ab

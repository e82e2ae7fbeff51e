/- How many values have each sum: by enumeration, by a table. -/
import Derived.Test.YtliampibpeokmaaEnum
set_option linter.unusedSimpArgs false
set_option linter.unusedVariables false
set_option linter.unnecessarySimpa false
namespace Go.Ab
/-- How many of the first 'k' values have this sum. -/
def cnt (ts : List Term) (k : Nat) (s : Int) : Nat := (List.range k).countP (fun n => decide (sumV ts (assn n) = s))
theorem cnt_zero {ts : List Term} {s : Int} : cnt ts 0 s = 0 := rfl
theorem cnt_succ {ts : List Term} {k : Nat} {s : Int} : cnt ts (k + 1) s = cnt ts k s + (if s = sumV ts (assn k) then 1 else 0) := by
  unfold cnt
  rw [List.range_succ, List.countP_append, List.countP_singleton]
  congr 1
  by_cases h : s = sumV ts (assn k)
  · subst h; simp
  · rw [if_neg h, if_neg (by simpa using fun e => h e.symm)]

/-- The value number with one bit turned. -/
theorem assn_flip {n j i : Nat} (hi : i < 12) (hj : j < 12) : (assn (n ^^^ 2 ^ j)).getD i default = ((assn n).getD i default ^^ decide (i = 11 - j)) := by
  rw [assn_at hi, assn_at hi, Nat.testBit_xor, Nat.testBit_two_pow]
  congr 1
  apply biff
  simp only [decide_eq_true_eq]; omega
theorem flip_lt {n j : Nat} (hn : n < 4096) (hj : j < 12) : n ^^^ 2 ^ j < 4096 := by
  have h1 : 2 ^ j < 2 ^ 12 := Nat.pow_lt_pow_right (by decide) hj
  exact Nat.xor_lt_two_pow (n := 12) hn h1
theorem flip_flip {n j : Nat} : n ^^^ 2 ^ j ^^^ 2 ^ j = n := by rw [Nat.xor_assoc, Nat.xor_self, Nat.xor_zero]
theorem flip_perm {j : Nat} (hj : j < 12) : ((List.range 4096).map (fun n => n ^^^ 2 ^ j)).Perm (List.range 4096) := by
  refine (List.perm_ext_iff_of_nodup ?_ List.nodup_range).2 fun n => ?_
  · refine List.Pairwise.map _ ?_ List.nodup_range
    intro a b hab e
    apply hab
    have := congrArg (fun x => x ^^^ 2 ^ j) e
    simpa only [flip_flip] using this
  · simp only [List.mem_map, List.mem_range]
    constructor
    · rintro ⟨m, hm, rfl⟩; exact flip_lt hm hj
    · intro hn; exact ⟨n ^^^ 2 ^ j, flip_lt hn hj, flip_flip⟩
theorem count_flip {j : Nat} (hj : j < 12) (p : Nat → Bool) : (List.range 4096).countP p = (List.range 4096).countP (fun n => p (n ^^^ 2 ^ j)) := by
  rw [← (flip_perm hj).countP_eq, List.countP_map]; rfl
theorem litV_flip {n j : Nat} {l : Int} (hl : litOk l = true) (hj : j < 12) : litV (assn (n ^^^ 2 ^ j)) l = (litV (assn n) l ^^ decide (varOf l = 12 - (j : Int))) := by
  have h1 := litOk_iff.1 hl
  have hlt : (varOf l - 1).toNat < 12 := by unfold varOf; omega
  unfold litV
  rw [assn_flip hlt hj]
  have e : decide ((varOf l - 1).toNat = 11 - j) = decide (varOf l = 12 - (j : Int)) := biff (by simp only [decide_eq_true_eq]; unfold varOf; omega)
  rw [e]
  cases (assn n).getD (varOf l - 1).toNat default <;> cases decide (0 < l) <;> cases decide (varOf l = 12 - (j : Int)) <;> rfl
theorem sumV_flip {n j : Nat} {ts : List Term} (hj : j < 12) (h : ∀ t ∈ ts, litOk t.2 = true ∧ varOf t.2 ≠ 12 - (j : Int)) : sumV ts (assn (n ^^^ 2 ^ j)) = sumV ts (assn n) := by
  suffices ∀ (ts : List Term) (s : Int), (∀ t ∈ ts, litOk t.2 = true ∧ varOf t.2 ≠ 12 - (j : Int)) → ts.foldl (fun s t => s + term (assn (n ^^^ 2 ^ j)) t) s = ts.foldl (fun s t => s + term (assn n) t) s from this ts 0 h
  intro ts
  induction ts with
  | nil => intro s _; rfl
  | cons t r ih =>
    intro s h
    obtain ⟨h1, h2⟩ := h t (by simp)
    have e : term (assn (n ^^^ 2 ^ j)) t = term (assn n) t := by
      unfold term; rw [litV_flip h1 hj, decide_eq_false h2, Bool.xor_false]
    simp only [List.foldl_cons, e]
    exact ih _ fun t ht => h t (by simp [ht])
end Go.Ab
namespace Go.Ab
theorem countP_split {α : Type} (l : List α) (p q : α → Bool) : l.countP p = l.countP (fun x => p x && q x) + l.countP (fun x => p x && !q x) := by
  induction l with
  | nil => rfl
  | cons x l ih =>
    simp only [List.countP_cons, ih]
    cases p x <;> cases q x <;> simp <;> omega
theorem add_eq {a b c d : Nat} (h1 : a = c) (h2 : b = d) : a + b = c + d := by rw [h1, h2]
theorem half_aux {x a b : Nat} (h1 : a = b) (h2 : x = a + b) : x = 2 * a ∧ x = 2 * b := by omega
theorem countP_same {α : Type} {l : List α} {p q : α → Bool} (h : ∀ x ∈ l, p x = q x) : l.countP p = l.countP q := by
  induction l with
  | nil => rfl
  | cons x l ih =>
    simp only [List.countP_cons, ih (fun y hy => h y (by simp [hy])), h x (by simp)]
def tabF (ts : List Term) : Int → Nat := ts.foldl (fun f t => fun s => f s + f (s - t.1)) (fun s => if s = 0 then 1 else 0)
theorem tabF_next {ts : List Term} {k : Nat} (h : k < ts.length) (s : Int) : tabF (ts.take (k + 1)) s = tabF (ts.take k) s + tabF (ts.take k) (s - (ts.getD k default).1) := by
  unfold tabF
  rw [take_succD (d := default) h, List.foldl_append]; rfl
theorem okFrom_take_ne {ts : List Term} {p : Int} (h : okFrom p ts = true) {k : Nat} (hk : k < ts.length) : ∀ t ∈ ts.take k, varOf t.2 ≠ varOf (ts.getD k default).2 := by
  intro t ht e
  induction ts generalizing p k with
  | nil => simp at hk
  | cons x r ih =>
    simp only [okFrom, Bool.and_eq_true, decide_eq_true_eq] at h
    cases k with
    | zero => simp at ht
    | succ k =>
      simp only [List.length_cons] at hk
      simp only [List.take_succ_cons, List.mem_cons] at ht
      have hg : (x :: r).getD (k + 1) default = r.getD k default := rfl
      rw [hg] at e
      rcases ht with rfl | ht
      · have := okFrom_gt h.2.2.2 (r.getD k default) (getD_mem (by omega)); omega
      · exact ih h.2.2.2 (by omega) ht e
theorem cnt_step {ts : List Term} {p : Int} (h : okFrom p ts = true) {k : Nat} (hk : k < ts.length) (s : Int) : 2 * cnt (ts.take (k + 1)) 4096 s = cnt (ts.take k) 4096 s + cnt (ts.take k) 4096 (s - (ts.getD k default).1) := by
  have hall := okFrom_all h
  obtain ⟨hl, ha1, ha2⟩ := hall _ (getD_mem (d := default) hk)
  have hlo := litOk_iff.1 hl
  have hv : 1 ≤ varOf (ts.getD k default).2 ∧ varOf (ts.getD k default).2 ≤ 12 := by unfold varOf; omega
  generalize ht : ts.getD k default = t at *
  generalize hj : (12 - varOf t.2).toNat = j
  have hj12 : j < 12 := by omega
  have hjv : varOf t.2 = 12 - (j : Int) := by omega
  have hne : ∀ u ∈ ts.take k, litOk u.2 = true ∧ varOf u.2 ≠ 12 - (j : Int) := fun u hu => ⟨(hall u (List.mem_of_mem_take hu)).1, by rw [← hjv, ← ht]; exact okFrom_take_ne h hk u hu⟩
  have half : ∀ s : Int, cnt (ts.take k) 4096 s = 2 * (List.range 4096).countP (fun n => decide (sumV (ts.take k) (assn n) = s) && litV (assn n) t.2) ∧ cnt (ts.take k) 4096 s = 2 * (List.range 4096).countP (fun n => decide (sumV (ts.take k) (assn n) = s) && !litV (assn n) t.2) := by
    intro s
    have e1 : (List.range 4096).countP (fun n => decide (sumV (ts.take k) (assn n) = s) && litV (assn n) t.2) = (List.range 4096).countP (fun n => decide (sumV (ts.take k) (assn n) = s) && !litV (assn n) t.2) := by
      rw [count_flip hj12]
      apply countP_same
      intro n _
      rw [sumV_flip hj12 hne, litV_flip hl hj12, decide_eq_true hjv, Bool.xor_true]
    have e2 : cnt (ts.take k) 4096 s = (List.range 4096).countP (fun n => decide (sumV (ts.take k) (assn n) = s) && litV (assn n) t.2) + (List.range 4096).countP (fun n => decide (sumV (ts.take k) (assn n) = s) && !litV (assn n) t.2) := by
      unfold cnt
      have := countP_split (List.range 4096) (fun n => decide (sumV (ts.take k) (assn n) = s)) (fun n => litV (assn n) t.2)
      exact this
    exact half_aux e1 e2
  have e3 : cnt (ts.take (k + 1)) 4096 s = (List.range 4096).countP (fun n => decide (sumV (ts.take k) (assn n) = s - t.1) && litV (assn n) t.2) + (List.range 4096).countP (fun n => decide (sumV (ts.take k) (assn n) = s) && !litV (assn n) t.2) := by
    unfold cnt
    refine (countP_split _ _ (fun n => litV (assn n) t.2)).trans (add_eq ?_ ?_)
    · apply countP_same
      intro n _
      rw [sumV_next hk, ht]
      cases hb : litV (assn n) t.2
      · simp
      · simp only [Bool.and_true, term, hb, if_true]
        apply biff; simp only [decide_eq_true_eq]; omega
    · apply countP_same
      intro n _
      rw [sumV_next hk, ht]
      cases hb : litV (assn n) t.2
      · simp [term, hb]
      · simp
  have h1 := (half s).2
  have h2 := (half (s - t.1)).1
  omega
theorem cnt_tab {ts : List Term} {p : Int} (h : okFrom p ts = true) : ∀ {k : Nat}, k ≤ ts.length → ∀ s : Int, cnt (ts.take k) 4096 s * 2 ^ k = 4096 * tabF (ts.take k) s
  | 0, _, s => by
    have e : ∀ n, sumV (ts.take 0) (assn n) = 0 := fun n => rfl
    have e2 : tabF (ts.take 0) s = if s = 0 then 1 else 0 := rfl
    rw [e2]
    unfold cnt
    simp only [e]
    by_cases hs : s = 0
    · subst hs
      rw [if_pos rfl, List.countP_eq_length.2 (by intro a _; simp), List.length_range]
    · rw [if_neg hs, List.countP_eq_zero.2 (by intro a _; simpa using fun e => hs e.symm)]
  | k + 1, hk, s => by
    have h1 := cnt_step h (k := k) (by omega) s
    have h2 := cnt_tab h (k := k) (by omega) s
    have h3 := cnt_tab h (k := k) (by omega) (s - (ts.getD k default).1)
    rw [tabF_next (by omega), Nat.mul_add, ← h2, ← h3, ← Nat.add_mul, ← h1, Nat.pow_succ, Nat.mul_comm (2 ^ k) 2, ← Nat.mul_assoc, Nat.mul_comm _ 2]
theorem tab_cnt {c : Con} (h : cOk c = true) (s : Int) : tabF c.1 s * 2 ^ (12 - c.1.length) = cnt c.1 4096 s := by
  have hl := cOk_len h
  have h' := h
  simp only [cOk, Bool.and_eq_true] at h'
  have h1 := cnt_tab h'.1 (Nat.le_refl _) s
  rw [List.take_of_length_le (Nat.le_refl _)] at h1
  have h2 : 4096 = 2 ^ (12 - c.1.length) * 2 ^ c.1.length := by rw [← Nat.pow_add, show 12 - c.1.length + c.1.length = 12 by omega]
  have h4 : 4096 * tabF c.1 s = 2 ^ (12 - c.1.length) * tabF c.1 s * 2 ^ c.1.length := by
    rw [Nat.mul_assoc, Nat.mul_comm (tabF c.1 s), ← Nat.mul_assoc, ← h2]
  have h3 := Nat.eq_of_mul_eq_mul_right (Nat.two_pow_pos _) (h1.trans h4)
  rw [h3, Nat.mul_comm]
end Go.Ab
namespace Go.Ab
/-! ### The rows of the tables -/
def rowI (N : Nat) (f : Nat → Nat) : List Int := (List.range N).map (fun s => ((f s : Nat) : Int))
theorem rowI_length {N : Nat} {f : Nat → Nat} : (rowI N f).length = N := by simp [rowI]
theorem rowI_at {N i : Nat} {f : Nat → Nat} (h : i < N) : (rowI N f).getD i default = ((f i : Nat) : Int) := by simp [rowI, h]
theorem rowI_set {N i : Nat} {f g : Nat → Nat} {v : Int} (hv : v = ((g i : Nat) : Int)) (h : ∀ s, s < N → g s = if s = i then g i else f s) : ((rowI N f).map dI).set i (dI v) = (rowI N g).map dI := by
  unfold rowI
  rw [← List.map_set, hv]
  congr 1
  exact map_range_set (f := fun s => ((f s : Nat) : Int)) (g := fun s => ((g s : Nat) : Int)) (fun s hs => by
    have := h s hs
    by_cases e : s = i
    · subst e; simp
    · rw [if_neg e] at this ⊢; rw [this])
theorem rowI_congr {N : Nat} {f g : Nat → Nat} (h : ∀ s, s < N → f s = g s) : rowI N f = rowI N g := by
  unfold rowI
  apply List.map_congr_left
  intro s hs
  rw [h s (List.mem_range.1 hs)]
theorem rowI_zero {N : Nat} {f : Nat → Nat} (h : ∀ s, s < N → f s = 0) : List.replicate N [V.p (.int .i64 0)] = (rowI N f).map dI := by
  rw [rowI_congr (g := fun _ => 0) h]
  unfold rowI
  rw [List.map_map]
  apply List.ext_getElem?
  intro i
  by_cases hi : i < N
  · rw [List.getElem?_replicate, if_pos hi, List.getElem?_map, List.getElem?_range hi]; rfl
  · rw [List.getElem?_replicate, if_neg hi, List.getElem?_map, List.getElem?_eq_none (by simp; omega)]; rfl
def totN (ts : List Term) : Nat := (totV ts).toNat
theorem cnt_le {ts : List Term} : ∀ {k : Nat} {s : Int}, cnt ts k s ≤ k
  | 0, s => by simp [cnt_zero]
  | k + 1, s => by
    have := cnt_le (ts := ts) (k := k) (s := s)
    rw [cnt_succ]; split <;> omega
def cntRow (ts : List Term) (k : Nat) : List Int := rowI (totN ts + 1) (fun s => cnt ts k s)
theorem cntRow_next {ts : List Term} {k : Nat} {v : Int} (hs : 0 ≤ sumV ts (assn k)) (hv : v = ((cnt ts k (sumV ts (assn k)) : Nat) : Int) + 1) : ((cntRow ts k).map dI).set (sumV ts (assn k)).toNat (dI v) = (cntRow ts (k + 1)).map dI := by
  have e : (((sumV ts (assn k)).toNat : Nat) : Int) = sumV ts (assn k) := Int.toNat_of_nonneg hs
  refine rowI_set ?_ ?_
  · rw [cnt_succ, e, if_pos rfl, hv]; simp
  · intro s _
    rw [cnt_succ]
    by_cases h : s = (sumV ts (assn k)).toNat
    · subst h; rw [if_pos rfl, cnt_succ]
    · rw [if_neg h, if_neg (by omega)]; rfl
end Go.Ab
namespace Go.Ab
theorem tabF_le {ts : List Term} : ∀ {k : Nat}, k ≤ ts.length → ∀ s : Int, tabF (ts.take k) s ≤ 2 ^ k
  | 0, _, s => by
    have e2 : tabF (ts.take 0) s = if s = 0 then 1 else 0 := rfl
    rw [e2]; split <;> decide
  | k + 1, hk, s => by
    have h1 := tabF_le (ts := ts) (k := k) (by omega) s
    have h2 := tabF_le (ts := ts) (k := k) (by omega) (s - (ts.getD k default).1)
    rw [tabF_next (by omega), Nat.pow_succ]; omega
theorem tabF_out {ts : List Term} (h : ∀ t ∈ ts, 1 ≤ t.1 ∧ t.1 ≤ 1000) : ∀ {k : Nat}, k ≤ ts.length → ∀ s : Int, s < 0 ∨ totV (ts.take k) < s → tabF (ts.take k) s = 0
  | 0, _, s, hs => by
    have e2 : tabF (ts.take 0) s = if s = 0 then 1 else 0 := rfl
    have e3 : totV (ts.take 0) = 0 := rfl
    rw [e2, if_neg (by omega)]
  | k + 1, hk, s, hs => by
    have ha := h _ (getD_mem (d := default) (show k < ts.length by omega))
    have e3 := totV_next (ts := ts) (k := k) (by omega)
    rw [tabF_next (by omega), tabF_out h (by omega) s (by omega), tabF_out h (by omega) _ (by omega)]
def nx (F : Nat → Nat) (a i j s : Nat) : Nat := (if s < i then F s else 0) + (if a ≤ s ∧ s - a < j then F (s - a) else 0)
theorem nx_zero {F : Nat → Nat} {a s : Nat} : nx F a 0 0 s = 0 := by simp [nx]
theorem nx_set1 {F : Nat → Nat} {a j s : Nat} : nx F a (j + 1) j s = if s = j then nx F a (j + 1) j j else nx F a j j s := by
  by_cases e : s = j
  · subst e; rw [if_pos rfl]
  · rw [if_neg e]; unfold nx
    congr 1
    by_cases h : s < j
    · rw [if_pos h, if_pos (by omega)]
    · rw [if_neg h, if_neg (by omega)]
theorem nx_val1 {F : Nat → Nat} {a j : Nat} : nx F a (j + 1) j j = nx F a j j j + F j := by
  unfold nx
  rw [if_pos (by omega), if_neg (Nat.lt_irrefl j)]; omega
theorem nx_set2 {F : Nat → Nat} {a j s : Nat} : nx F a (j + 1) (j + 1) s = if s = j + a then nx F a (j + 1) (j + 1) (j + a) else nx F a (j + 1) j s := by
  by_cases e : s = j + a
  · subst e; rw [if_pos rfl]
  · rw [if_neg e]; unfold nx
    congr 1
    by_cases h : a ≤ s ∧ s - a < j
    · rw [if_pos h, if_pos (by omega)]
    · rw [if_neg h, if_neg (by omega)]
theorem nx_val2 {F : Nat → Nat} {a j : Nat} : nx F a (j + 1) (j + 1) (j + a) = nx F a (j + 1) j (j + a) + F j := by
  unfold nx
  rw [if_pos (show a ≤ j + a ∧ j + a - a < j + 1 by omega), if_neg (show ¬ (a ≤ j + a ∧ j + a - a < j) by omega), show j + a - a = j by omega]; omega
theorem nx_le {F : Nat → Nat} {a i j s B : Nat} (h : ∀ s, F s ≤ B) : nx F a i j s ≤ 2 * B := by
  unfold nx
  have h1 := h s
  have h2 := h (s - a)
  split <;> split <;> omega
def tabS (ts : List Term) (k : Nat) (s : Nat) : Nat := tabF (ts.take k) s
def rowT (ts : List Term) (k : Nat) : List Int := rowI (totN (ts.take k) + 1) (tabS ts k)
theorem totN_next {c : Con} (h : cOk c = true) {k : Nat} (hk : k < c.1.length) : totN (c.1.take (k + 1)) = totN (c.1.take k) + (c.1.getD k default).1.toNat := by
  have h1 := tot_take h (k := k) (by omega)
  have h2 := cOk_terms h hk
  unfold totN
  rw [totV_next hk]; omega
theorem nx_done {c : Con} (h : cOk c = true) {k : Nat} (hk : k < c.1.length) : rowI (totN (c.1.take k) + 1 + (c.1.getD k default).1.toNat) (nx (tabS c.1 k) (c.1.getD k default).1.toNat (totN (c.1.take k) + 1) (totN (c.1.take k) + 1)) = rowT c.1 (k + 1) := by
  have h1 := tot_take h (k := k) (by omega)
  have h2 := cOk_terms h hk
  have h3 := tabF_out (cOk_coefs h) (k := k) (by omega)
  have hN : ((totN (c.1.take k) : Nat) : Int) = totV (c.1.take k) := Int.toNat_of_nonneg h1.1
  unfold rowT
  rw [totN_next h hk, show totN (c.1.take k) + (c.1.getD k default).1.toNat + 1 = totN (c.1.take k) + 1 + (c.1.getD k default).1.toNat by omega]
  apply rowI_congr
  intro s hs
  unfold tabS
  rw [tabF_next hk]
  unfold nx
  congr 1
  · by_cases e : s < totN (c.1.take k) + 1
    · rw [if_pos e]
    · rw [if_neg e, h3 _ (by omega)]
  · by_cases e : (c.1.getD k default).1.toNat ≤ s
    · rw [if_pos (by omega)]
      show tabF _ _ = tabF _ _
      congr 1; omega
    · rw [if_neg (by omega), h3 _ (by omega)]
end Go.Ab
namespace Go.Ab
theorem run_shl1 {P : Program} {xt : TypeId} {b : Nat} {y : Int} (hy : y = (b : Int)) (hb : b ≤ 12) (w : World) : (Go.binOp .shl xt (.int .i64 1) (.int .i64 y)).run P w = .ok (.int .i64 ((2 ^ b : Nat) : Int)) w := by
  subst hy
  have h1 : ¬ ((b : Int) < 0) := by omega
  have h2 : min b 64 = b := by omega
  have h4 : (2 : Nat) ^ b ≤ 4096 := Nat.le_trans (Nat.pow_le_pow_right (by decide) hb) (by decide)
  have h5 : ∀ m : Nat, m ≤ 4096 → IntKind.i64.wrap (m : Int) = (m : Int) := fun m hm => wrap64_of (by omega) (by omega)
  have h3 : IntKind.i64.wrap (1 * 2 ^ b) = ((2 ^ b : Nat) : Int) := by
    rw [Int.one_mul]
    have e : (2 : Int) ^ b = ((2 ^ b : Nat) : Int) := by simp
    rw [e]; exact h5 _ h4
  simp only [Go.binOp, Op.shift, if_neg h1, IntKind.bits, Int.toNat_natCast, h2, h3, Sem.run_pure]
end Go.Ab
namespace Go.Ab
theorem tab_last {c : Con} (hl : c.1.length ≤ 12) {i : Nat} (hi : i < totN c.1 + 1) :
    (rowI (totN c.1 + 1) (fun s => tabF c.1 s * 2 ^ (12 - c.1.length))).getD i default = (rowT c.1 c.1.length).getD i default * ((2 ^ (12 - c.1.length) : Nat) : Int) ∧
    -9223372036854775808 ≤ (rowT c.1 c.1.length).getD i default * ((2 ^ (12 - c.1.length) : Nat) : Int) ∧ (rowT c.1 c.1.length).getD i default * ((2 ^ (12 - c.1.length) : Nat) : Int) ≤ 9223372036854775807 := by
  have e0 : totN (c.1.take c.1.length) = totN c.1 := by rw [List.take_length]
  have e1 : (rowT c.1 c.1.length).getD i default = ((tabF c.1 (i : Int) : Nat) : Int) := by
    unfold rowT
    rw [rowI_at (by omega)]
    unfold tabS
    rw [List.take_length]
  have h1 := tabF_le (Nat.le_refl c.1.length) (i : Int)
  rw [List.take_length] at h1
  have h2 : (2 : Nat) ^ c.1.length ≤ 4096 := Nat.le_trans (Nat.pow_le_pow_right (by decide) hl) (by decide)
  have h3 : (2 : Nat) ^ (12 - c.1.length) ≤ 4096 := Nat.le_trans (Nat.pow_le_pow_right (by decide) (show 12 - c.1.length ≤ 12 by omega)) (by decide)
  have h4 : tabF c.1 (i : Int) * 2 ^ (12 - c.1.length) ≤ 4096 * 4096 := Nat.mul_le_mul (by omega) h3
  rw [e1, rowI_at hi, ← Int.natCast_mul]
  generalize tabF c.1 (i : Int) * 2 ^ (12 - c.1.length) = m at *
  exact ⟨rfl, by omega, by omega⟩
end Go.Ab
namespace Go.Ab
def sumTab (c : Con) : List Int := if cOk c then cntRow c.1 4096 else []
theorem sumTab_bad {c : Con} (h : cOk c = false) : sumTab c = [] := by unfold sumTab; rw [if_neg (by rw [h]; decide)]
theorem sumTab_ok {c : Con} (h : cOk c = true) : sumTab c = cntRow c.1 4096 := by unfold sumTab; rw [if_pos h]
theorem table_eq {c : Con} (h : cOk c = true) : rowI (totN c.1 + 1) (fun s => tabF c.1 s * 2 ^ (12 - c.1.length)) = cntRow c.1 4096 := rowI_congr (fun s _ => tab_cnt h s)
theorem totN_le {c : Con} (h : cOk c = true) : totN c.1 ≤ 12000 := by
  have h1 := totV_bounds (cOk_coefs h)
  have h2 := cOk_len h
  unfold totN; omega
theorem sumTab_len {c : Con} : (sumTab c).length ≤ 12001 := by
  unfold sumTab
  split
  · rename_i h
    have := totN_le h
    unfold cntRow
    rw [rowI_length]; omega
  · simp
end Go.Ab

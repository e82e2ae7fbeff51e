/- What the laws on sums and bounds say, told plainly. -/
import Derived.Test.YtliampibpeokmaaProb
set_option linter.unusedSimpArgs false
set_option linter.unusedVariables false
namespace Go.Ab
/-! ### Multiples -/
theorem term_mul {k : Int} {t : Term} {bs : List Bool} : term bs (chT (mulK k) t) = term bs t * k := by
  unfold term chT mulK
  dsimp only
  split
  · rfl
  · rw [Int.zero_mul]
theorem sumV_mul {k : Int} {bs : List Bool} : ∀ {ts : List Term}, sumV (ts.map (chT (mulK k))) bs = sumV ts bs * k
  | [] => by simp [sumV]
  | t :: r => by rw [List.map_cons, sumV_cons, sumV_cons, sumV_mul, term_mul, Int.add_mul]
theorem totV_mul {k : Int} : ∀ {ts : List Term}, totV (ts.map (chT (mulK k))) = totV ts * k
  | [] => by simp [totV]
  | t :: r => by
    rw [List.map_cons, totV_cons, totV_cons, totV_mul, Int.add_mul]; rfl
theorem cnt_mul {k : Int} {ts : List Term} {n : Nat} {s : Int} (hk : 1 ≤ k) : cnt (ts.map (chT (mulK k))) n (s * k) = cnt ts n s := by
  unfold cnt
  congr 1
  funext m
  rw [sumV_mul]
  exact decide_eq_decide.2 ⟨fun h => Int.eq_of_mul_eq_mul_right (by omega) h, fun h => by rw [h]⟩
theorem cnt_mul_no {k : Int} {ts : List Term} {n : Nat} {s : Int} (h : s % k ≠ 0) : cnt (ts.map (chT (mulK k))) n s = 0 := by
  unfold cnt
  rw [List.countP_eq_zero]
  intro m _
  rw [sumV_mul, decide_eq_true_eq]
  intro e
  exact h (by rw [← e]; exact Int.mul_emod_left _ _)
theorem sumMul {c : Con} {k : Int} (hk : 1 ≤ k) (h : chB (mulK k) c k = true) : cOk c = true ∧ chR (mulK k) c k = chC (mulK k) c ∧ cOk (chC (mulK k) c) = true := by
  unfold chB at h
  simp only [Bool.and_eq_true] at h
  obtain ⟨h1, h2⟩ := h
  refine ⟨?_, ?_, h2⟩
  · unfold kOk at h1; simp only [Bool.and_eq_true] at h1; exact h1.1
  · unfold chR; rw [if_pos h1, vC_ok h2]
theorem totN_int {c : Con} (h : cOk c = true) : ((totN c.1 : Nat) : Int) = totV c.1 := Int.toNat_of_nonneg (totV_bounds (cOk_coefs h)).1
theorem sumTab_at {c : Con} (h : cOk c = true) {i : Nat} (hi : i < totN c.1 + 1) : (sumTab c).getD i default = ((cnt c.1 4096 i : Nat) : Int) := by
  rw [sumTab_ok h]; exact rowI_at hi
theorem sumTab_length {c : Con} (h : cOk c = true) : (sumTab c).length = totN c.1 + 1 := by rw [sumTab_ok h]; exact rowI_length
theorem mul_len {c : Con} {k : Int} (hk : 1 ≤ k) (h : chB (mulK k) c k = true) : ((sumTab (chR (mulK k) c k)).length : Int) = k * (((sumTab c).length : Int) - 1) + 1 := by
  obtain ⟨h1, h2, h3⟩ := sumMul hk h
  rw [h2, sumTab_length h3, sumTab_length h1]
  have e1 := totN_int h1
  have e2 := totN_int h3
  have e3 : totV (chC (mulK k) c).1 = totV c.1 * k := totV_mul
  rw [Int.natCast_add, Int.natCast_add, e1, e2, e3, Int.mul_comm]
  show k * totV c.1 + 1 = k * (totV c.1 + 1 - 1) + 1
  rw [Int.add_sub_cancel]
theorem mul_lt {k : Int} {i : Nat} {N : Nat} (hk : 1 ≤ k) (h : (i : Int) < k * (N : Int) + 1) : ((i : Int) / k).toNat < N + 1 ∧ 0 ≤ (i : Int) / k := by
  have h0 : 0 ≤ (i : Int) / k := Int.ediv_nonneg (by omega) (by omega)
  have h1 : (i : Int) / k < (N : Int) + 1 := by
    apply Int.ediv_lt_of_lt_mul (by omega)
    rw [Int.add_mul, Int.one_mul, Int.mul_comm (N : Int) k]; omega
  omega
theorem mul_hit {c : Con} {k : Int} (hk : 1 ≤ k) (h : chB (mulK k) c k = true) {i : Nat} (hi : i < (sumTab (chR (mulK k) c k)).length) (hm : (i : Int) % k = 0) : ((i : Int) / k).toNat < (sumTab c).length ∧ (sumTab (chR (mulK k) c k)).getD i default = (sumTab c).getD ((i : Int) / k).toNat default := by
  obtain ⟨h1, h2, h3⟩ := sumMul hk h
  have hl := mul_len hk h
  rw [sumTab_length h1] at hl
  have hlt : (i : Int) < k * ((totN c.1 : Nat) : Int) + 1 := by
    have : (i : Int) < ((sumTab (chR (mulK k) c k)).length : Int) := by omega
    rw [hl] at this
    rwa [show (((totN c.1 + 1 : Nat) : Int) - 1) = ((totN c.1 : Nat) : Int) by omega] at this
  obtain ⟨h4, h5⟩ := mul_lt hk hlt
  refine ⟨by rw [sumTab_length h1]; exact h4, ?_⟩
  rw [sumTab_at h1 h4]
  rw [h2] at hi ⊢
  rw [sumTab_at h3 (by rw [sumTab_length h3] at hi; exact hi)]
  have e : ((((i : Int) / k).toNat : Nat) : Int) * k = (i : Int) := by
    rw [Int.toNat_of_nonneg h5]
    have := Int.emod_add_mul_ediv (i : Int) k
    rw [hm, Int.zero_add, Int.mul_comm] at this; exact this
  have := cnt_mul (ts := c.1) (n := 4096) (s := ((((i : Int) / k).toNat : Nat) : Int)) hk
  rw [e] at this
  show ((cnt (c.1.map (chT (mulK k))) 4096 (i : Int) : Nat) : Int) = _
  rw [this]
theorem mul_miss {c : Con} {k : Int} (hk : 1 ≤ k) (h : chB (mulK k) c k = true) {i : Nat} (hi : i < (sumTab (chR (mulK k) c k)).length) (hm : (i : Int) % k ≠ 0) : (sumTab (chR (mulK k) c k)).getD i default = 0 := by
  obtain ⟨h1, h2, h3⟩ := sumMul hk h
  rw [h2] at hi ⊢
  rw [sumTab_at h3 (by rw [sumTab_length h3] at hi; exact hi)]
  show ((cnt (c.1.map (chT (mulK k))) 4096 (i : Int) : Nat) : Int) = 0
  rw [cnt_mul_no hm]; rfl
/-! ### The least sum -/
theorem sbf_min {a b : Con} : ∀ {k : Nat}, (∀ n, n < k → holdsV a (assn n) = true → (sbf a b k).2 = true ∧ (sbf a b k).1 ≤ sumV b.1 (assn n)) ∧ ((sbf a b k).2 = true → ∃ n, n < k ∧ holdsV a (assn n) = true ∧ sumV b.1 (assn n) = (sbf a b k).1)
  | 0 => ⟨fun n h => absurd h (by omega), fun h => by cases h⟩
  | k + 1 => by
    obtain ⟨h1, h2⟩ := sbf_min (a := a) (b := b) (k := k)
    cases hh : holdsV a (assn k)
    · rw [sbf_skip hh]
      refine ⟨fun n hn hv => ?_, fun h => ?_⟩
      · by_cases e : n = k
        · subst e; rw [hh] at hv; cases hv
        · exact h1 n (by omega) hv
      · obtain ⟨n, h3, h4⟩ := h2 h; exact ⟨n, by omega, h4⟩
    · by_cases e : (sbf a b k).2 = false ∨ sumV b.1 (assn k) < (sbf a b k).1
      · rw [sbf_new hh e]
        refine ⟨fun n hn hv => ⟨rfl, ?_⟩, fun _ => ⟨k, by omega, hh, rfl⟩⟩
        by_cases e2 : n = k
        · subst e2; exact Int.le_refl _
        · obtain ⟨h3, h4⟩ := h1 n (by omega) hv
          rcases e with e | e
          · rw [e] at h3; cases h3
          · dsimp only; omega
      · rw [sbf_old hh e]
        have ef : (sbf a b k).2 = true := by
          cases q : (sbf a b k).2
          · exact absurd (.inl q) e
          · rfl
        refine ⟨fun n hn hv => ⟨ef, ?_⟩, fun h => ?_⟩
        · by_cases e2 : n = k
          · subst e2
            have : ¬ sumV b.1 (assn n) < (sbf a b n).1 := fun q => e (.inr q)
            omega
          · exact (h1 n (by omega) hv).2
        · obtain ⟨n, h3, h4⟩ := h2 h; exact ⟨n, by omega, h4⟩
theorem icR_iff {a b : Con} (ha : cOk a = true) (hb : cOk b = true) : icR a b = true ↔ ∀ n, n < 4096 → holdsV a (assn n) = true → holdsV b (assn n) = true := by
  obtain ⟨h1, h2⟩ := sbf_min (a := a) (b := b) (k := 4096)
  have e := sbR_ok ha hb
  unfold icR
  rw [ha, hb, ← e, Bool.and_self, if_pos rfl, Bool.or_eq_true, Bool.not_eq_true', decide_eq_true_eq]
  refine ⟨fun h n hn hv => ?_, fun h => ?_⟩
  · obtain ⟨h3, h4⟩ := h1 n hn hv
    rcases h with h | h
    · rw [h3] at h; cases h
    · exact decide_eq_true (by omega)
  · cases q : (sbf a b 4096).2
    · exact .inl rfl
    · obtain ⟨n, h3, h4, h5⟩ := h2 q
      have := of_decide_eq_true (h n h3 h4)
      exact .inr (by omega)
theorem raise_spec {f : Nat → Nat} {N : Nat} : ∀ {k b : Nat}, N - b ≤ k → b ≤ raise f N k b ∧ (∀ s, b ≤ s → s < raise f N k b → f s = 0) ∧ ¬ (raise f N k b < N ∧ f (raise f N k b) = 0) ∧ raise f N k b ≤ max b N
  | 0, b, h => ⟨Nat.le_refl _, (fun s h1 h2 => absurd h2 (by unfold raise; omega)), (fun q => by have h1 : b < N := q.1; omega), Nat.le_max_left ..⟩
  | k + 1, b, h => by
    by_cases e : b < N ∧ f b = 0
    · rw [raise, if_pos e]
      obtain ⟨h1, h2, h3, h4⟩ := raise_spec (f := f) (N := N) (k := k) (b := b + 1) (by omega)
      refine ⟨by omega, fun s h5 h6 => ?_, h3, by omega⟩
      by_cases e2 : s = b
      · subst e2; exact e.2
      · exact h2 s (by omega) h6
    · rw [raise, if_neg e]
      exact ⟨Nat.le_refl _, (fun s h1 h2 => by omega), e, Nat.le_max_left ..⟩
theorem cnt_pos {ts : List Term} {n k : Nat} (h : n < k) : cnt ts k (sumV ts (assn n)) ≠ 0 := by
  unfold cnt
  intro e
  have := List.countP_eq_zero.1 e n (List.mem_range.2 h)
  simp at this
theorem cnt_some {ts : List Term} {k : Nat} {s : Int} (h : cnt ts k s ≠ 0) : ∃ n, n < k ∧ sumV ts (assn n) = s := by
  unfold cnt at h
  have : ∃ n ∈ List.range k, decide (sumV ts (assn n) = s) = true := List.countP_pos_iff.1 (by omega)
  obtain ⟨n, h1, h2⟩ := this
  exact ⟨n, List.mem_range.1 h1, of_decide_eq_true h2⟩
theorem tbB_spec {c : Con} (h : cOk c = true) : c.2.toNat ≤ tbB c ∧ (∀ s : Nat, c.2.toNat ≤ s → s < tbB c → cnt c.1 4096 s = 0) ∧ ¬ (tbB c < totN c.1 + 1 ∧ cnt c.1 4096 (tbB c) = 0) ∧ tbB c ≤ 20000 := by
  obtain ⟨h1, h2, h3, h4⟩ := raise_spec (f := fun s => cnt c.1 4096 s) (N := totN c.1 + 1) (k := totN c.1 + 1) (b := c.2.toNat) (by omega)
  have h5 := cOk_bound h
  have h6 := totN_le h
  refine ⟨h1, h2, h3, ?_⟩
  have h7 : tbB c ≤ max c.2.toNat (totN c.1 + 1) := h4
  omega
theorem tb_ok {c : Con} (h : cOk c = true) : cOk (tbC c) = true := by
  rw [tbC_ok h]
  have h4 : okFrom 0 c.1 = true := by unfold cOk at h; simp at h; exact h.1
  have := tbB_spec h
  unfold cOk
  rw [Bool.and_eq_true]
  exact ⟨h4, decide_eq_true (by dsimp only; omega)⟩
theorem tb_holds {c : Con} (h : cOk c = true) {n : Nat} (hn : n < 4096) : holdsV (tbC c) (assn n) = holdsV c (assn n) := by
  obtain ⟨h1, h2, h3, h4⟩ := tbB_spec h
  have h5 := cOk_bound h
  have h6 := sumV_bounds (bs := assn n) (cOk_coefs h)
  rw [tbC_ok h]
  unfold holdsV
  dsimp only
  apply decide_eq_decide.2
  refine ⟨fun q => by omega, fun q => ?_⟩
  by_cases e : ((tbB c : Nat) : Int) ≤ sumV c.1 (assn n)
  · exact e
  · have := h2 (sumV c.1 (assn n)).toNat (by omega) (by omega)
    rw [Int.toNat_of_nonneg h6.1] at this
    exact absurd this (cnt_pos hn)
theorem tbB_def (c : Con) : tbB c = raise (fun s => cnt c.1 4096 s) (totN c.1 + 1) (totN c.1 + 1) c.2.toNat := rfl
theorem tb_idem {c : Con} (h : cOk c = true) : tbC (tbC c) = tbC c := by
  obtain ⟨h1, h2, h3, h4⟩ := tbB_spec h
  have h5 := tb_ok h
  rw [tbC_ok h5, tbC_ok h]
  have e : tbB (c.1, ((tbB c : Nat) : Int)) = tbB c := by
    generalize hq : tbB c = q at h3
    rw [tbB_def]
    dsimp only
    rw [Int.toNat_natCast]
    exact raise_stop (f := fun s => cnt c.1 4096 s) h3 _
  rw [e]
theorem tb_self {c : Con} (h : cOk c = true) (hf : (sbf c c 4096).2 = true) : (sbf c c 4096).1 = ((tbB c : Nat) : Int) := by
  obtain ⟨h1, h2, h3, h4⟩ := tbB_spec h
  obtain ⟨k1, k2⟩ := sbf_min (a := c) (b := c) (k := 4096)
  obtain ⟨n, m1, m2, m3⟩ := k2 hf
  have m4 := (tb_holds h m1).trans m2
  rw [tbC_ok h] at m4
  have m5 := of_decide_eq_true m4
  dsimp only at m5
  have h5 := sum_le_tot (bs := assn n) (cOk_coefs h)
  have h6 := totN_int h
  have h7 : cnt c.1 4096 (tbB c) ≠ 0 := fun q => h3 ⟨by omega, q⟩
  obtain ⟨m, p1, p2⟩ := cnt_some h7
  have h8 := cOk_bound h
  have p3 := (k1 m p1 (decide_eq_true (by omega))).2
  omega
theorem tb_imp {c : Con} (h : cOk c = true) : icR c (tbC c) = true ∧ icR (tbC c) c = true :=
  ⟨(icR_iff h (tb_ok h)).2 fun n hn hv => (tb_holds h hn).trans hv, (icR_iff (tb_ok h) h).2 fun n hn hv => (tb_holds h hn).symm.trans hv⟩
/-! ### Bounds are strongest -/
theorem sb_strong {a b : Con} (ha : cOk a = true) (hb : cOk b = true) (hf : (sbf a b 4096).2 = true) : icR a (b.1, (sbf a b 4096).1) = true ∧ icR a (b.1, (sbf a b 4096).1 + 1) = false := by
  obtain ⟨k1, k2⟩ := sbf_min (a := a) (b := b) (k := 4096)
  obtain ⟨n, m1, m2, m3⟩ := k2 hf
  have h1 := sbf_bounds (a := a) hb (k := 4096)
  have h4 : okFrom 0 b.1 = true := by unfold cOk at hb; simp at hb; exact hb.1
  have o1 : cOk (b.1, (sbf a b 4096).1) = true := by unfold cOk; rw [Bool.and_eq_true]; exact ⟨h4, decide_eq_true (by dsimp only; omega)⟩
  have o2 : cOk (b.1, (sbf a b 4096).1 + 1) = true := by unfold cOk; rw [Bool.and_eq_true]; exact ⟨h4, decide_eq_true (by dsimp only; omega)⟩
  refine ⟨(icR_iff ha o1).2 fun n hn hv => decide_eq_true (k1 n hn hv).2, ?_⟩
  rw [Bool.eq_false_iff]
  intro q
  have := of_decide_eq_true ((icR_iff ha o2).1 q n m1 m2)
  dsimp only at this
  omega
end Go.Ab
namespace Go.Ab
theorem sbR_valid {a b : Con} (h : (sbR a b).2 = true) : cOk a = true ∧ cOk b = true ∧ sbf a b 4096 = sbR a b := by
  cases ha : cOk a
  · rw [← sbR_bad (.inl ha)] at h; cases h
  · cases hb : cOk b
    · rw [← sbR_bad (.inr hb)] at h; cases h
    · exact ⟨rfl, rfl, sbR_ok ha hb⟩
theorem sbR_strong {a b : Con} (h : (sbR a b).2 = true) : icR a (b.1, (sbR a b).1) = true ∧ icR a (b.1, (sbR a b).1 + 1) = false := by
  obtain ⟨h1, h2, h3⟩ := sbR_valid h
  have := sb_strong h1 h2 (by rw [h3]; exact h)
  rwa [h3] at this
theorem sbR_self {c : Con} (h : (sbR c c).2 = true) : (sbR c c).1 = (tbC c).2 := by
  obtain ⟨h1, h2, h3⟩ := sbR_valid h
  rw [← h3, tbC_ok h1]
  exact tb_self h1 (by rw [h3]; exact h)
theorem sbR_rng {a b : Con} : 0 ≤ (sbR a b).1 ∧ (sbR a b).1 ≤ 12000 := by
  cases h : (sbR a b).2
  · have : sbR a b = (0, false) := by
      unfold sbR at h ⊢
      split at h
      · rename_i q; rw [if_pos q]; exact sbf_none h
      · rename_i q; rw [if_neg q]
    rw [this]; decide
  · obtain ⟨h1, h2, h3⟩ := sbR_valid h
    rw [← h3]; exact sbf_bounds h2
end Go.Ab

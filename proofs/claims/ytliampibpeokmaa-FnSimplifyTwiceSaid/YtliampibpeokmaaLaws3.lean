/- The common divisor; the table's symmetry. -/
import Derived.Test.YtliampibpeokmaaLaws2
set_option linter.unusedSimpArgs false
set_option linter.unusedVariables false
namespace Go.Ab
/-! ### The common divisor -/
def gcdG (g : Nat) (ts : List Term) : Nat := ts.foldl (fun g t => Nat.gcd t.1.toNat g) g
theorem gcdG_dvd : ∀ {ts : List Term} {g : Nat}, gcdG g ts ∣ g ∧ ∀ t ∈ ts, gcdG g ts ∣ t.1.toNat
  | [], g => ⟨Nat.dvd_refl _, fun t ht => by cases ht⟩
  | t :: r, g => by
    obtain ⟨h1, h2⟩ := gcdG_dvd (ts := r) (g := Nat.gcd t.1.toNat g)
    refine ⟨Nat.dvd_trans h1 (Nat.gcd_dvd_right ..), fun u hu => ?_⟩
    rcases List.mem_cons.1 hu with rfl | hu
    · exact Nat.dvd_trans h1 (Nat.gcd_dvd_left ..)
    · exact h2 u hu
theorem divK_dvd {n a : Nat} (hn : 0 < n) (h : n ∣ a) : divK n a = ((a / n : Nat) : Int) := by
  obtain ⟨q, rfl⟩ := h
  unfold divK
  rw [Nat.mul_div_cancel_left _ hn]
  have e : (((n * q : Nat) : Int) + (n : Int) - 1) = ((n : Int) - 1) + (q : Int) * (n : Int) := by rw [Int.natCast_mul, Int.mul_comm]; omega
  rw [e, Int.add_mul_ediv_right _ _ (by omega), Int.ediv_eq_zero_of_lt (by omega) (by omega), Int.zero_add]
theorem gcdG_div {n : Nat} (hn : 0 < n) : ∀ {ts : List Term} {g : Nat}, (∀ t ∈ ts, 0 ≤ t.1 ∧ n ∣ t.1.toNat) → gcdG (g * n) ts = gcdG g (ts.map (chT (divK n))) * n
  | [], g, _ => rfl
  | t :: r, g, h => by
    obtain ⟨h1, h2⟩ := h t (by simp)
    have e : (divK n t.1).toNat = t.1.toNat / n := by
      have := divK_dvd hn h2
      rw [Int.toNat_of_nonneg h1] at this
      rw [this, Int.toNat_natCast]
    show gcdG (Nat.gcd t.1.toNat (g * n)) r = gcdG (Nat.gcd (divK n t.1).toNat g) (r.map (chT (divK n))) * n
    rw [e, ← gcdG_div hn (fun u hu => h u (by simp [hu]))]
    congr 1
    obtain ⟨q, hq⟩ := h2
    rw [hq, Nat.mul_div_cancel_left _ hn, Nat.mul_comm n q, Nat.gcd_mul_right]
theorem divK_le {n : Nat} (hn : 0 < n) {b s : Int} : divK n b ≤ s ↔ b ≤ s * n := by
  unfold divK
  have h := Int.ediv_lt_iff_lt_mul (a := b + (n : Int) - 1) (b := s + 1) (c := (n : Int)) (by omega)
  rw [Int.add_mul, Int.one_mul] at h
  omega
theorem sumV_div {n : Nat} (hn : 0 < n) {bs : List Bool} : ∀ {ts : List Term}, (∀ t ∈ ts, 0 ≤ t.1 ∧ n ∣ t.1.toNat) → sumV ts bs = sumV (ts.map (chT (divK n))) bs * n
  | [], _ => by simp [sumV]
  | t :: r, h => by
    obtain ⟨h1, q, hq⟩ := h t (by simp)
    rw [List.map_cons, sumV_cons, sumV_cons, sumV_div hn (fun u hu => h u (by simp [hu])), Int.add_mul]
    congr 1
    have e : divK n t.1 = (q : Int) := by
      have := divK_dvd hn (show n ∣ t.1.toNat from ⟨q, hq⟩)
      rw [Int.toNat_of_nonneg h1] at this
      rw [this, hq, Nat.mul_div_cancel_left _ hn]
    have e2 : t.1 = (q : Int) * n := by
      rw [← Int.toNat_of_nonneg h1, hq, Int.natCast_mul, Int.mul_comm]
    unfold term chT
    dsimp only
    split
    · rw [e]; exact e2
    · rw [Int.zero_mul]
theorem cd_facts {c : Con} (h : 1 ≤ cdiv c) : cOk c = true ∧ 1 ≤ cdiv c ∧ cdiv c ≤ 1000 ∧ cdiv c = ((gcdL c.1 : Nat) : Int) ∧ (∀ t ∈ c.1, 0 ≤ t.1 ∧ gcdL c.1 ∣ t.1.toNat) := by
  have hc : cOk c = true := by
    cases q : cOk c
    · unfold cdiv at h; rw [q] at h; simp at h
    · rfl
  have e : cdiv c = ((gcdL c.1 : Nat) : Int) := by unfold cdiv; rw [if_pos hc]
  have hd := (gcdG_dvd (ts := c.1) (g := 0)).2
  have hall : ∀ t ∈ c.1, 0 ≤ t.1 ∧ gcdL c.1 ∣ t.1.toNat := fun t ht => ⟨by have := cOk_coefs hc t ht; omega, hd t ht⟩
  refine ⟨hc, h, ?_, e, hall⟩
  cases q : c.1 with
  | nil => rw [e, q] at h; simp [gcdL] at h
  | cons t r =>
    have h1 := hall t (by rw [q]; simp)
    have h2 := cOk_coefs hc t (by rw [q]; simp)
    have h3 := Nat.le_of_dvd (by omega) h1.2
    rw [e]; omega
def cdC (c : Con) : Con := chC (divK (cdiv c)) c
theorem cd_ok {c : Con} (h : 1 ≤ cdiv c) : chB (divK (cdiv c)) c (cdiv c) = true ∧ chR (divK (cdiv c)) c (cdiv c) = cdC c ∧ cOk (cdC c) = true := by
  obtain ⟨h1, h2, h3, h4, h5⟩ := cd_facts h
  have h6 := div_ok h1 h2
  have h7 := kOk_of h1 ⟨h2, h3⟩
  unfold chB chR
  rw [h7, h6, if_pos rfl, vC_ok h6]
  exact ⟨rfl, rfl, h6⟩
theorem cd_holds {c : Con} (h : 1 ≤ cdiv c) (bs : List Bool) : holdsV (cdC c) bs = holdsV c bs := by
  obtain ⟨h1, h2, h3, h4, h5⟩ := cd_facts h
  have hn : 0 < gcdL c.1 := by omega
  unfold holdsV cdC chC
  dsimp only
  rw [h4]
  apply decide_eq_decide.2
  rw [divK_le hn, ← sumV_div hn h5]
theorem cd_cc {c : Con} (h : 1 ≤ cdiv c) : ccV (cdC c) = ccV c := by
  obtain ⟨h1, _⟩ := cd_facts h
  unfold ccV
  rw [if_pos h1, if_pos (cd_ok h).2.2]
  have : cntH (cdC c) 4096 = cntH c 4096 := by unfold cntH; congr 1; funext n; exact cd_holds h _
  rw [this]
theorem cd_ic {c : Con} (h : 1 ≤ cdiv c) : icR (cdC c) c = true :=
  (icR_iff (cd_ok h).2.2 (cd_facts h).1).2 fun n _ hv => (cd_holds h _).symm.trans hv
theorem cd_one {c : Con} (h : 1 ≤ cdiv c) : cdiv (cdC c) = 1 := by
  obtain ⟨h1, h2, h3, h4, h5⟩ := cd_facts h
  have hn : 0 < gcdL c.1 := by omega
  have e := gcdG_div hn (g := 0) h5
  rw [Nat.zero_mul] at e
  have e2 : gcdL c.1 = gcdL (cdC c).1 * gcdL c.1 := by
    have : gcdL (cdC c).1 = gcdG 0 (c.1.map (chT (divK (gcdL c.1)))) := by unfold cdC chC; rw [h4]; rfl
    rw [this]; exact e
  have e3 : gcdL (cdC c).1 = 1 := by
    have : 1 * gcdL c.1 = gcdL (cdC c).1 * gcdL c.1 := by omega
    exact (Nat.eq_of_mul_eq_mul_right hn this).symm
  unfold cdiv
  rw [if_pos (cd_ok h).2.2, e3]; rfl
/-! ### The table -/
theorem assn_compl {n i : Nat} (hi : i < 12) : (assn (n ^^^ 4095)).getD i default = !(assn n).getD i default := by
  rw [assn_at hi, assn_at hi, Nat.testBit_xor]
  have : Nat.testBit 4095 (11 - i) = true := by
    have h : ∀ j, j < 12 → Nat.testBit 4095 j = true := by decide
    exact h _ (by omega)
  rw [this, Bool.xor_true]
theorem term_compl {n : Nat} {t : Term} (h : litOk t.2 = true) : term (assn (n ^^^ 4095)) t = t.1 - term (assn n) t := by
  have h0 := litOk_iff.1 h
  have h1 : (varOf t.2 - 1).toNat < 12 := by unfold varOf; omega
  unfold term litV
  rw [assn_compl h1]
  cases (assn n).getD (varOf t.2 - 1).toNat default <;> cases decide (0 < t.2) <;> simp
theorem sum_compl {n : Nat} : ∀ {ts : List Term}, (∀ t ∈ ts, litOk t.2 = true) → sumV ts (assn (n ^^^ 4095)) = totV ts - sumV ts (assn n)
  | [], _ => by simp [sumV, totV]
  | t :: r, h => by
    rw [sumV_cons, sumV_cons, totV_cons, sum_compl (fun t ht => h t (by simp [ht])), term_compl (h t (by simp))]; omega
theorem compl_perm : ((List.range 4096).map (fun n => n ^^^ 4095)).Perm (List.range 4096) := by
  have hf : ∀ n : Nat, n ^^^ 4095 ^^^ 4095 = n := fun n => by rw [Nat.xor_assoc, Nat.xor_self, Nat.xor_zero]
  refine (List.perm_ext_iff_of_nodup ?_ List.nodup_range).2 fun n => ?_
  · refine List.Pairwise.map _ ?_ List.nodup_range
    intro a b hab e
    apply hab
    have := congrArg (fun x => x ^^^ 4095) e
    simpa only [hf] using this
  · simp only [List.mem_map, List.mem_range]
    have hlt : ∀ m : Nat, m < 4096 → m ^^^ 4095 < 4096 := fun m hm => Nat.xor_lt_two_pow (n := 12) hm (by decide)
    constructor
    · rintro ⟨m, hm, rfl⟩; exact hlt m hm
    · intro hn; exact ⟨n ^^^ 4095, hlt n hn, hf n⟩
theorem cnt_sym {c : Con} (h : cOk c = true) (s : Int) : cnt c.1 4096 (totV c.1 - s) = cnt c.1 4096 s := by
  have h4 : okFrom 0 c.1 = true := by unfold cOk at h; simp at h; exact h.1
  unfold cnt
  rw [← compl_perm.countP_eq, List.countP_map]
  congr 1
  funext n
  show decide (sumV c.1 (assn (n ^^^ 4095)) = totV c.1 - s) = decide (sumV c.1 (assn n) = s)
  rw [sum_compl (fun t ht => (okFrom_all h4 t ht).1)]
  exact decide_eq_decide.2 (by omega)
theorem tab_sym {c : Con} (h : cOk c = true) {k : Nat} (hk : k < totN c.1 + 1) : (sumTab c).getD k default = (sumTab c).getD (totN c.1 - k) default := by
  rw [sumTab_at h hk, sumTab_at h (by omega)]
  have := cnt_sym h (k : Int)
  have e : totV c.1 - (k : Int) = ((totN c.1 - k : Nat) : Int) := by have := totN_int h; omega
  rw [← this, e]
theorem tab_sum {c : Con} (h : cOk c = true) : upto (fun s => cnt c.1 4096 s) 0 (totN c.1 + 1) = 4096 := by
  have h4 : okFrom 0 c.1 = true := by unfold cOk at h; simp at h; exact h.1
  have h1 : cOk (c.1, 0) = true := by unfold cOk; rw [Bool.and_eq_true]; exact ⟨h4, rfl⟩
  have := upto_cnt h1 4096
  have e : cntH (c.1, 0) 4096 = 4096 := by
    have : ∀ k, cntH (c.1, 0) k = k := by
      intro k
      induction k with
      | zero => rfl
      | succ k ih =>
        rw [cntH_succ, ih, if_pos]
        exact decide_eq_true (sumV_bounds (bs := assn k) (cOk_coefs h)).1
    exact this 4096
  rw [e] at this
  exact this
theorem upto_next0 {f : Nat → Nat} {m : Nat} : upto f 0 (m + 1) = upto f 0 m + f m := upto_next (Nat.zero_le _)
end Go.Ab

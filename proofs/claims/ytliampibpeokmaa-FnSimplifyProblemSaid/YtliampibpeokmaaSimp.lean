/- Problems made simpler. -/
import Derived.Test.YtliampibpeokmaaClau2
set_option linter.unusedSimpArgs false
set_option linter.unusedVariables false
namespace Go.Ab
/-- A constraint saturated. -/
def stT (b : Int) (t : Term) : Term := (min t.1 b, t.2)
def stC (c : Con) : Con := if 0 < c.2 then (c.1.map (stT c.2), c.2) else ([], c.2)
theorem stC_pos {c : Con} (h : 0 < c.2) : stC c = (c.1.map (stT c.2), c.2) := by unfold stC; rw [if_pos h]
theorem okFrom_st {b : Int} (hb : 1 ≤ b) : ∀ {ts : List Term} {p : Int}, okFrom p ts = true → okFrom p (ts.map (stT b)) = true
  | [], _, _ => rfl
  | t :: r, p, h => by
    simp only [okFrom, Bool.and_eq_true, decide_eq_true_eq] at h
    show okFrom p (stT b t :: r.map (stT b)) = true
    rw [okFrom_good (t := stT b t) h.1 h.2.1 (by show 1 ≤ min t.1 b; omega) (by show min t.1 b ≤ 1000; omega)]
    exact okFrom_st hb h.2.2.2
theorem st_ok {c : Con} (h : cOk c = true) : cOk (stC c) = true := by
  have hb := cOk_bound h
  unfold stC
  split
  · exact cOk_mk (okFrom_st (by omega) (cOk_ok h)) hb.1 hb.2
  · exact cOk_mk rfl hb.1 hb.2
theorem sumF_map {f : Term → Int} {g : Term → Term} : ∀ {ts : List Term}, sumF f (ts.map g) = sumF (fun t => f (g t)) ts
  | [] => rfl
  | t :: r => by simp only [List.map_cons, sumF]; rw [sumF_map]
theorem sumF_nn {f : Term → Int} : ∀ {ts : List Term}, (∀ t ∈ ts, 0 ≤ f t) → 0 ≤ sumF f ts
  | [], _ => Int.le_refl _
  | t :: r, h => by
    have h1 := h t (by simp)
    have h2 := sumF_nn (ts := r) (fun t ht => h t (by simp [ht]))
    simp only [sumF]; omega
theorem sumF_mem {f : Term → Int} {t0 : Term} : ∀ {ts : List Term}, (∀ t ∈ ts, 0 ≤ f t) → t0 ∈ ts → f t0 ≤ sumF f ts
  | [], _, h => by simp at h
  | t :: r, h, hm => by
    have h1 := h t (by simp)
    have h2 := sumF_nn (ts := r) (fun t ht => h t (by simp [ht]))
    simp only [sumF]
    rcases List.mem_cons.1 hm with rfl | hm
    · omega
    · have := sumF_mem (ts := r) (fun t ht => h t (by simp [ht])) hm; omega
theorem st_holds {c : Con} (hc : cOk c = true) (h : 0 < c.2) (bs : List Bool) : holdsV (stC c) bs = holdsV c bs := by
  have hlt : ∀ t ∈ c.1, litOk t.2 = true ∧ 1 ≤ t.1 ∧ t.1 ≤ 1000 := okFrom_all (cOk_ok hc)
  rw [stC_pos h]
  unfold holdsV
  dsimp only
  rw [sumV_F, sumV_F, sumF_map]
  have hle : sumF (fun t => if litV bs (stT c.2 t).2 then (stT c.2 t).1 else 0) c.1 ≤ sumF (fun t => if litV bs t.2 then t.1 else 0) c.1 :=
    sumF_le fun t ht => by
      show (if litV bs t.2 then min t.1 c.2 else 0) ≤ _
      split <;> omega
  have hnn : ∀ t ∈ c.1, 0 ≤ (if litV bs (stT c.2 t).2 then (stT c.2 t).1 else 0) := fun t ht => by
    have := hlt t ht
    show 0 ≤ (if litV bs t.2 then min t.1 c.2 else 0)
    split <;> omega
  rw [decide_eq_decide]
  constructor
  · intro h1; omega
  · intro h1
    by_cases hbig : ∃ t ∈ c.1, litV bs t.2 = true ∧ c.2 ≤ t.1
    · obtain ⟨t, ht, h2, h3⟩ := hbig
      have h4 := sumF_mem hnn ht
      have h5 : (if litV bs (stT c.2 t).2 then (stT c.2 t).1 else 0) = c.2 := by
        show (if litV bs t.2 then min t.1 c.2 else 0) = c.2
        rw [if_pos h2]; omega
      omega
    · have he : sumF (fun t => if litV bs (stT c.2 t).2 then (stT c.2 t).1 else 0) c.1 = sumF (fun t => if litV bs t.2 then t.1 else 0) c.1 :=
        sumF_eq fun t ht => by
          show (if litV bs t.2 then min t.1 c.2 else 0) = _
          by_cases h2 : litV bs t.2 = true
          · rw [if_pos h2, if_pos h2]
            have : ¬ c.2 ≤ t.1 := fun h3 => hbig ⟨t, ht, h2, h3⟩
            omega
          · rw [if_neg h2, if_neg h2]
      omega
/-! ### Steps -/
def flt (l : List Con) : List Con := l.filter (fun c => decide (0 < c.2))
def stL (l : List Con) : List Con := (flt l).map stC
def stepL (l : List Con) : List Con := uncL (stL l)
def wt (c : Con) : Nat := 1 + (sumF (fun t => t.1) c.1).toNat
def mu (l : List Con) : Nat := (l.map wt).sum
theorem mu_sub : ∀ {a b : List Con}, List.Sublist a b → mu a ≤ mu b ∧ (mu a = mu b → a = b)
  | _, _, .slnil => ⟨Nat.le_refl _, fun _ => rfl⟩
  | _, _, .cons x h => by
    have := mu_sub h
    have hx : 1 ≤ wt x := by unfold wt; omega
    simp only [mu, List.map_cons, List.sum_cons] at this ⊢
    exact ⟨by omega, fun e => by omega⟩
  | _, _, .cons_cons x h => by
    have := mu_sub h
    simp only [mu, List.map_cons, List.sum_cons] at this ⊢
    exact ⟨by omega, fun e => by rw [this.2 (by omega)]⟩
theorem unc_sub {l : List Con} : ∀ {k : Nat}, k ≤ l.length → List.Sublist (uncN l k) (l.take k)
  | 0, _ => by unfold uncN keepN; simp
  | k + 1, h => by
    have ih := unc_sub (l := l) (k := k) (by omega)
    rw [take_succD (d := default) (by omega)]
    cases e : (goneN l l.length).getD k default
    · rw [unc_yes e]; exact ih.append (List.Sublist.refl _)
    · rw [unc_no e]; exact ih.trans (List.sublist_append_left _ _)
theorem unc_subl {l : List Con} : List.Sublist (uncL l) l := by
  have := unc_sub (l := l) (k := l.length) (Nat.le_refl _)
  rwa [List.take_length] at this
theorem wt_st {c : Con} (hc : cOk c = true) (h : 0 < c.2) : wt (stC c) ≤ wt c ∧ (wt (stC c) = wt c → stC c = c) := by
  have hlt : ∀ t ∈ c.1, litOk t.2 = true ∧ 1 ≤ t.1 ∧ t.1 ≤ 1000 := okFrom_all (cOk_ok hc)
  rw [stC_pos h]
  have e : sumF (fun t => t.1) (c.1.map (stT c.2)) = sumF (fun t => min t.1 c.2) c.1 := sumF_map
  have hle : sumF (fun t => min t.1 c.2) c.1 ≤ sumF (fun t => t.1) c.1 := sumF_le fun t ht => by show min t.1 c.2 ≤ t.1; omega
  have h0 : 0 ≤ sumF (fun t => min t.1 c.2) c.1 := sumF_nn fun t ht => by have := hlt t ht; show 0 ≤ min t.1 c.2; omega
  unfold wt
  dsimp only
  rw [e]
  refine ⟨by omega, fun q => ?_⟩
  have hall : ∀ t ∈ c.1, t.1 ≤ c.2 := by
    intro t ht
    rcases Int.lt_or_le c.2 t.1 with h3 | h3
    · exfalso
      have := sumF_lt (f := fun t => min t.1 c.2) (g := fun t => t.1) (d := 1) (fun t ht => by show min t.1 c.2 ≤ t.1; omega) ht (by show min t.1 c.2 + 1 ≤ t.1; omega)
      omega
    · exact h3
  refine Prod.ext ?_ rfl
  show c.1.map (stT c.2) = c.1
  have : ∀ {ts : List Term}, (∀ t ∈ ts, t.1 ≤ c.2) → ts.map (stT c.2) = ts := by
    intro ts
    induction ts with
    | nil => intro _; rfl
    | cons t r ih =>
      intro h
      have h1 := h t (by simp)
      rw [List.map_cons, ih (fun t ht => h t (by simp [ht]))]
      congr 1
      exact Prod.ext (by show min t.1 c.2 = t.1; omega) rfl
  exact this hall
theorem mu_map : ∀ {l : List Con}, (∀ c ∈ l, cOk c = true ∧ 0 < c.2) → mu (l.map stC) ≤ mu l ∧ (mu (l.map stC) = mu l → l.map stC = l)
  | [], _ => ⟨Nat.le_refl _, fun _ => rfl⟩
  | c :: r, h => by
    have h1 := wt_st (h c (by simp)).1 (h c (by simp)).2
    have h2 := mu_map (l := r) (fun c hc => h c (by simp [hc]))
    simp only [mu, List.map_cons, List.sum_cons] at h2 ⊢
    exact ⟨by omega, fun e => by rw [h1.2 (by omega), h2.2 (by omega)]⟩
theorem flt_mem {l : List Con} (h : l.all cOk = true) : ∀ c ∈ flt l, cOk c = true ∧ 0 < c.2 := fun c hc => by
  unfold flt at hc
  rw [List.mem_filter, decide_eq_true_eq] at hc
  exact ⟨List.all_eq_true.1 h c hc.1, hc.2⟩
theorem step_mu {l : List Con} (h : l.all cOk = true) : mu (stepL l) ≤ mu l ∧ (mu (stepL l) = mu l → stepL l = l) := by
  have h1 := mu_sub (a := flt l) (b := l) List.filter_sublist
  have h2 := mu_map (flt_mem h)
  have h3 := mu_sub (unc_subl (l := stL l))
  unfold stepL
  unfold stL at *
  refine ⟨by omega, fun e => ?_⟩
  have e1 := h1.2 (by omega)
  have e2 := h2.2 (by omega)
  have e3 := h3.2 (by omega)
  rw [e3, e2, e1]
theorem stL_all {l : List Con} (h : l.all cOk = true) : (stL l).all cOk = true := by
  rw [List.all_eq_true]
  intro c hc
  obtain ⟨d, hd, rfl⟩ := List.mem_map.1 hc
  exact st_ok (flt_mem h d hd).1
theorem stL_len {l : List Con} : (stL l).length ≤ l.length := by
  unfold stL flt
  rw [List.length_map]; exact List.length_filter_le ..
theorem pOk_of {l : List Con} (h : l.all cOk = true) (h2 : l.length ≤ 400) : pOk l = true := by
  unfold pOk; rw [h, decide_eq_true h2]; rfl
theorem stL_ok {l : List Con} (h : pOk l = true) : pOk (stL l) = true :=
  pOk_of (stL_all (pOk_all h)) (Nat.le_trans stL_len (pOk_len h))
theorem step_ok {l : List Con} (h : pOk l = true) : pOk (stepL l) = true := unc_ok (stL_ok h)
theorem step_len {l : List Con} : (stepL l).length ≤ l.length := Nat.le_trans uncN_len stL_len
def simpL (l : List Con) : List Con := if stepL l = l then l else if h : mu (stepL l) < mu l then simpL (stepL l) else l
termination_by mu l
theorem simp_end {l : List Con} (h : stepL l = l) : simpL l = l := by rw [simpL, if_pos h]
theorem simp_next {l : List Con} (hl : l.all cOk = true) (h : stepL l ≠ l) : simpL l = simpL (stepL l) := by
  have := step_mu hl
  conv => lhs; rw [simpL]
  rw [if_neg h, dif_pos (by rcases Nat.lt_or_ge (mu (stepL l)) (mu l) with q | q; (· exact q); (· exact absurd (this.2 (by omega)) h))]
theorem step_lt {l : List Con} (hl : l.all cOk = true) (h : stepL l ≠ l) : mu (stepL l) < mu l := by
  have := step_mu hl
  rcases Nat.lt_or_ge (mu (stepL l)) (mu l) with q | q
  · exact q
  · exact absurd (this.2 (by omega)) h
theorem simp_ind {P : List Con → Prop} (hs : ∀ l, pOk l = true → P l → P (stepL l)) : ∀ {n : Nat} {l : List Con}, mu l ≤ n → pOk l = true → P l → P (simpL l) ∧ pOk (simpL l) = true ∧ stepL (simpL l) = simpL l := by
  intro n
  induction n with
  | zero =>
    intro l hn hp h
    by_cases e : stepL l = l
    · rw [simp_end e]; exact ⟨h, hp, e⟩
    · have := step_lt (pOk_all hp) e; omega
  | succ n ih =>
    intro l hn hp h
    by_cases e : stepL l = l
    · rw [simp_end e]; exact ⟨h, hp, e⟩
    · have := step_lt (pOk_all hp) e
      rw [simp_next (pOk_all hp) e]
      exact ih (by omega) (step_ok hp) (hs l hp h)
theorem flt_sat {l : List Con} (h : l.all cOk = true) (bs : List Bool) : satV (flt l) bs = satV l bs := by
  unfold satV flt
  induction l with
  | nil => rfl
  | cons c r ih =>
    simp only [List.all_cons, Bool.and_eq_true] at h
    rw [List.filter_cons]
    split
    · rw [List.all_cons, List.all_cons, ih h.2]
    · rename_i hb
      rw [decide_eq_true_eq] at hb
      have : holdsV c bs = true := by
        unfold holdsV
        rw [decide_eq_true_eq, sumV_F]
        have := sumF_nn (f := fun t => if litV bs t.2 then t.1 else 0) (ts := c.1) (fun t ht => by have := (okFrom_all (cOk_ok h.1) t ht).2; show 0 ≤ (if litV bs t.2 then t.1 else 0); split <;> omega)
        omega
      rw [List.all_cons, this, Bool.true_and, ih h.2]
theorem stL_sat {l : List Con} (h : l.all cOk = true) (bs : List Bool) : satV (stL l) bs = satV l bs := by
  rw [← flt_sat h]
  unfold stL satV
  rw [List.all_map]
  have hm := flt_mem h
  rw [Bool.eq_iff_iff, List.all_eq_true, List.all_eq_true]
  constructor
  · intro q c hc; have := q c hc; rwa [Function.comp, st_holds (hm c hc).1 (hm c hc).2] at this
  · intro q c hc; rw [Function.comp, st_holds (hm c hc).1 (hm c hc).2]; exact q c hc
theorem step_sat {l : List Con} (h : pOk l = true) (bs : List Bool) : satV (stepL l) bs = satV l bs := by
  unfold stepL
  rw [unc_sat, stL_sat (pOk_all h)]
theorem simp_sat {l : List Con} (h : pOk l = true) (bs : List Bool) : satV (simpL l) bs = satV l bs :=
  (simp_ind (P := fun x => satV x bs = satV l bs) (fun x hx e => (step_sat hx bs).trans e) (Nat.le_refl _) h rfl).1
theorem simp_ok {l : List Con} (h : pOk l = true) : pOk (simpL l) = true := (simp_ind (P := fun _ => True) (fun _ _ _ => trivial) (Nat.le_refl _) h trivial).2.1
theorem simp_len {l : List Con} (h : pOk l = true) : (simpL l).length ≤ l.length :=
  (simp_ind (P := fun x => x.length ≤ l.length) (fun x _ e => Nat.le_trans step_len e) (Nat.le_refl _) h (Nat.le_refl _)).1
/-! ### Constraints that imply nothing -/
def quiet (c : Con) : Prop := 0 ≤ slV c zeroP ∧ impC c zeroP = []
def quietL (l : List Con) : Prop := ∀ c ∈ l, 0 < c.2 → quiet c
def sOk (l : List Con) : Bool := pOk l && decide ((prop l zeroP).2 < 0)
def sP (l : List Con) : List Int := if sOk l then (prop l zeroP).1 else []
def sL (l : List Con) : List Con := if sOk l then simpL (l.map (fixC (prop l zeroP).1)) else []
theorem sOk_parts {l : List Con} (h : sOk l = true) : pOk l = true ∧ prop l zeroP = ((prop l zeroP).1, -1) := by
  unfold sOk at h
  simp only [Bool.and_eq_true, decide_eq_true_eq] at h
  have := prop_rng (l := l) (n := zer zeroP) (p := zeroP) (Nat.le_refl _)
  exact ⟨h.1, Prod.ext rfl (by dsimp only; omega)⟩
theorem sOk_of {l : List Con} (h : pOk l = true) (h2 : (prop l zeroP).2 < 0) : sOk l = true := by unfold sOk; rw [h, decide_eq_true h2]; rfl
theorem sOk_no {l : List Con} (h : pOk l = false ∨ ¬ (prop l zeroP).2 < 0) : sOk l = false := by
  unfold sOk
  rcases h with h | h
  · rw [h]; rfl
  · rw [decide_eq_false h, Bool.and_false]
theorem sP_ok {l : List Con} (h : sOk l = true) : sP l = (prop l zeroP).1 := by unfold sP; rw [if_pos h]
theorem sL_ok {l : List Con} (h : sOk l = true) : sL l = simpL (l.map (fixC (prop l zeroP).1)) := by unfold sL; rw [if_pos h]
theorem sP_bad {l : List Con} (h : sOk l = false) : sP l = [] := by unfold sP; rw [if_neg (by rw [h]; decide)]
theorem sL_bad {l : List Con} (h : sOk l = false) : sL l = [] := by unfold sL; rw [if_neg (by rw [h]; decide)]
theorem s_fixed_ok {l : List Con} (h : pOk l = true) {p : List Int} : pOk (l.map (fixC p)) = true := pOk_map h (fun _ h => fix_ok h)
theorem sL_pOk {l : List Con} : pOk (sL l) = true := by
  cases h : sOk l
  · rw [sL_bad h]; rfl
  · rw [sL_ok h]; exact simp_ok (s_fixed_ok (sOk_parts h).1)
theorem sL_len {l : List Con} : (sL l).length ≤ l.length := by
  cases h : sOk l
  · rw [sL_bad h]; simp
  · rw [sL_ok h]
    have := simp_len (s_fixed_ok (sOk_parts h).1 (p := (prop l zeroP).1))
    rwa [List.length_map] at this
def exB (p : List Int) (bs : List Bool) : Bool := paOk p && (decide (bs.length = 12) && (List.range 12).all (fun i => decide (p.getD i default = 0) || decide (bs.getD i default = decide (0 < p.getD i default))))
theorem ex_ov {p : List Int} {bs : List Bool} (hb : bs.length = 12) (hp : paOk p = true) (h : exB p bs = true) : ovV p bs = bs := by
  unfold exB at h
  simp only [Bool.and_eq_true, List.all_eq_true, List.mem_range, Bool.or_eq_true, decide_eq_true_eq] at h
  refine ext12 ov_len hb fun i hi => ?_
  rw [ov_at hi]
  have hr := paOk_at hp i
  rcases h.2.2 i hi with h0 | h0
  · rw [if_neg (by omega), if_neg (by omega)]
  · by_cases e1 : p.getD i default = 1
    · rw [if_pos e1, h0, e1]; rfl
    · by_cases e2 : p.getD i default = -1
      · rw [if_neg e1, if_pos e2, h0, e2]; rfl
      · rw [if_neg e1, if_neg e2]
theorem ag_ex {p : List Int} {bs : List Bool} (hb : bs.length = 12) (hp : paOk p = true) (h : agB p bs) : exB p bs = true := by
  unfold exB
  rw [hp, decide_eq_true hb, Bool.true_and, Bool.true_and, List.all_eq_true]
  intro i hi
  rw [List.mem_range] at hi
  have hr := paOk_at hp i
  rw [Bool.or_eq_true, decide_eq_true_eq, decide_eq_true_eq]
  by_cases h0 : p.getD i default = 0
  · exact .inl h0
  · right
    have hm : litOk ((i : Int) + 1) = true := by rw [litOk_iff]; omega
    have hst : stV p ((i : Int) + 1) = p.getD i default := by
      unfold stV; rw [if_neg (by omega), show ((i : Int) + 1 - 1).toNat = i by omega]
    have hlv : litV bs ((i : Int) + 1) = bs.getD i default := by
      unfold litV
      rw [show (varOf ((i : Int) + 1) - 1).toNat = i by unfold varOf; omega, decide_eq_true (by omega)]
      cases bs.getD i default <;> rfl
    by_cases e1 : p.getD i default = 1
    · have := h _ hm (by rw [hst]; exact e1)
      rw [hlv] at this; rw [this, e1]; rfl
    · have := ag_no h hm (by rw [hst]; omega)
      rw [hlv] at this
      rw [this, decide_eq_false (by omega)]
theorem s_sat {l : List Con} (h : sOk l = true) {bs : List Bool} (hb : bs.length = 12) : saV l bs = (exB (sP l) bs && saV (sL l) bs) := by
  obtain ⟨hp, he⟩ := sOk_parts h
  have hall := pOk_all hp
  have hq : paOk (prop l zeroP).1 = true := prop_ok zero_ok
  unfold saV
  rw [hp, sL_pOk, decide_eq_true hb, Bool.true_and, Bool.true_and, Bool.true_and, sP_ok h, sL_ok h, simp_sat (s_fixed_ok hp), fix_sat hq hall]
  cases hx : exB (prop l zeroP).1 bs
  · rw [Bool.false_and]
    rw [Bool.eq_false_iff]
    intro hs
    have h1 := prop_ag hall hs (Nat.le_refl _) zero_ok (fun m _ h => by rw [stV_zeroP] at h; cases h)
    rw [ag_ex hb hq h1.2] at hx; cases hx
  · rw [ex_ov hb hq hx, Bool.true_and]
/-! ### Failed literals -/
end Go.Ab
namespace Go.Ab
theorem stL_y {l : List Con} {k : Nat} (h : k < l.length) (hb : 0 < (l.getD k default).2) : stL (l.take (k + 1)) = stL (l.take k) ++ [stC (l.getD k default)] := by
  unfold stL flt
  rw [take_succD (d := default) h, List.filter_append, List.filter_cons_of_pos (by rw [decide_eq_true_eq]; exact hb), List.map_append]; rfl
theorem stL_n {l : List Con} {k : Nat} (h : k < l.length) (hb : ¬ 0 < (l.getD k default).2) : stL (l.take (k + 1)) = stL (l.take k) := by
  unfold stL flt
  rw [take_succD (d := default) h, List.filter_append, List.filter_cons_of_neg (by rw [decide_eq_true_eq]; exact hb)]; simp
theorem st_next {b x : Int} {ts : List Term} {k : Nat} (h : k < ts.length) (hx : x = min (ts.getD k default).1 b) : ((ts.take k).map (stT b)).map dT ++ [[.p (.int .i64 x), .p (.int .i64 (ts.getD k default).2)]] = ((ts.take (k + 1)).map (stT b)).map dT := by
  subst hx
  rw [take_succD (d := default) h, List.map_append, List.map_append]; rfl
theorem stL_takelen {l : List Con} {k : Nat} : (stL (l.take k)).length ≤ k := by
  have := stL_len (l := l.take k)
  rw [List.length_take] at this; omega
theorem fp_prop {l : List Con} (h : pOk l = true) : fpOk l (prop l zeroP).1 = true ∧ fpL l (prop l zeroP).1 = l.map (fixC (prop l zeroP).1) := by
  have h1 : fpOk l (prop l zeroP).1 = true := by unfold fpOk; rw [h, prop_ok zero_ok]; rfl
  exact ⟨h1, fpL_ok h1⟩
end Go.Ab
namespace Go.Ab
def exN (p : List Int) (bs : List Bool) (k : Nat) : Bool := (List.range k).all (fun i => decide (p.getD i default = 0) || decide (bs.getD i default = decide (0 < p.getD i default)))
theorem exN_next {p : List Int} {bs : List Bool} {k : Nat} (h : exN p bs k = true) (h2 : p.getD k default = 0 ∨ bs.getD k default = decide (0 < p.getD k default)) : exN p bs (k + 1) = true := by
  unfold exN at h ⊢
  rw [List.range_succ, List.all_append, h, List.all_cons, List.all_nil, Bool.and_true, Bool.true_and, Bool.or_eq_true, decide_eq_true_eq, decide_eq_true_eq]
  exact h2
theorem ex_no {p : List Int} {bs : List Bool} {k : Nat} (hk : k < 12) (h1 : p.getD k default ≠ 0) (h2 : bs.getD k default ≠ decide (0 < p.getD k default)) : exB p bs = false := by
  rw [Bool.eq_false_iff]
  intro h
  unfold exB at h
  simp only [Bool.and_eq_true, List.all_eq_true, List.mem_range, Bool.or_eq_true, decide_eq_true_eq] at h
  rcases h.2.2 k hk with q | q
  · exact h1 q
  · exact h2 q
end Go.Ab
namespace Go.Ab
theorem st_end {c : Con} {k : Nat} (h : c.1.length ≤ k) (h2 : 0 < c.2 ∨ k = 0) : (c.1.take k).map (stT c.2) = (stC c).1 := by
  rw [List.take_of_length_le h]
  by_cases hb : 0 < c.2
  · rw [stC_pos hb]
  · have h0 : c.1 = [] := List.length_eq_zero_iff.1 (by omega)
    unfold stC
    rw [if_neg hb, h0]; rfl
theorem st_end0 {c : Con} {k : Nat} (h : ¬ 0 < c.2) (h2 : k = 0) : (c.1.take k).map (stT c.2) = (stC c).1 := by
  subst h2
  unfold stC
  rw [if_neg h]; rfl
end Go.Ab
namespace Go.Ab
theorem ne2_no {x y : Term} (h : decide ((x.1, x.2) ≠ (y.1, y.2)) = false) : x = y := by
  have := of_decide_eq_false h
  exact Classical.not_not.1 this
theorem ne_sw {α : Type} {x y : α} (h : ¬ x = y ∨ ¬ y = x) : x ≠ y := h.elim (fun h => h) (fun h e => h e.symm)
end Go.Ab

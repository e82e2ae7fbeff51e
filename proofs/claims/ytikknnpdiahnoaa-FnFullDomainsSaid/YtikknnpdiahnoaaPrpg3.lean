/- Propagation, told plainly. -/
import Derived.Test.YtikknnpdiahnoaaClau
set_option linter.unusedSimpArgs false
set_option linter.unusedVariables false
namespace Go.Ab
def slF (p : List Int) (ts : List Term) (b : Int) : Int := ts.foldl (fun s t => if 0 ≤ stV p t.2 then s + t.1 else s) b
def slV (c : Con) (p : List Int) : Int := slF p c.1 (-c.2)
def impF (p : List Int) (s : Int) (ts : List Term) : List Int := (ts.filter (fun t => decide (stV p t.2 = 0 ∧ s < t.1))).map (·.2)
def impC (c : Con) (p : List Int) : List Int := impF p (slV c p) c.1
theorem impC_mem {c : Con} {p : List Int} {m : Int} (h : m ∈ impC c p) : ∃ t ∈ c.1, t.2 = m ∧ stV p m = 0 ∧ slV c p < t.1 := by
  unfold impC impF at h
  obtain ⟨t, ht, rfl⟩ := List.mem_map.1 h
  rw [List.mem_filter, decide_eq_true_eq] at ht
  exact ⟨t, ht.1, rfl, ht.2⟩
theorem impC_lit {c : Con} (hc : cOk c = true) {p : List Int} {m : Int} (h : m ∈ impC c p) : litOk m = true := by
  obtain ⟨t, ht, rfl, _⟩ := impC_mem h
  exact (okFrom_all (cOk_ok hc) t ht).1
def asg (p : List Int) (m : Int) : List Int := p.set (varOf m - 1).toNat (if m < 0 then -1 else 1)
def asgL (p : List Int) (ms : List Int) : List Int := ms.foldl asg p
theorem asg_len {p : List Int} {m : Int} : (asg p m).length = p.length := by simp [asg]
theorem asg_at {p : List Int} {m : Int} {i : Nat} (hi : i < p.length) : (asg p m).getD i default = if i = (varOf m - 1).toNat then (if m < 0 then -1 else 1) else p.getD i default := by
  unfold asg
  simp only [List.getD_eq_getElem?_getD, List.getElem?_set]
  by_cases e : (varOf m - 1).toNat = i
  · subst e; rw [if_pos rfl, if_pos hi, if_pos rfl]; rfl
  · rw [if_neg e, if_neg (fun h => e h.symm)]
theorem stV_asg {p : List Int} (hp : p.length = 12) {m l : Int} (hm : litOk m = true) (hl : litOk l = true) : stV (asg p m) l = if l = m then 1 else if l = -m then -1 else stV p l := by
  have h1 := litOk_iff.1 hm
  have h2 := litOk_iff.1 hl
  have hv : varOf m = max m (-m) := rfl
  unfold stV
  by_cases hl0 : l < 0
  · rw [if_pos hl0, if_pos hl0, asg_at (by omega)]
    by_cases e : (-l - 1).toNat = (varOf m - 1).toNat
    · rw [if_pos e]
      by_cases hm0 : m < 0
      · rw [if_pos hm0, if_pos (by omega)]; omega
      · rw [if_neg hm0, if_neg (by omega), if_pos (by omega)]
    · rw [if_neg e, if_neg (by omega), if_neg (by omega)]
  · rw [if_neg hl0, if_neg hl0, asg_at (by omega)]
    by_cases e : (l - 1).toNat = (varOf m - 1).toNat
    · rw [if_pos e]
      by_cases hm0 : m < 0
      · rw [if_pos hm0, if_neg (by omega), if_pos (by omega)]
      · rw [if_neg hm0, if_pos (by omega)]
    · rw [if_neg e, if_neg (by omega), if_neg (by omega)]
/-- How many variables have no value. -/
def zer (p : List Int) : Nat := p.countP (fun a => decide (a = 0))
def rnd : List Con → Int → List Int → List Int × Int
  | [], _, p => (p, -1)
  | c :: r, i, p => if slV c p < 0 then (p, i) else rnd r (i + 1) (asgL p (impC c p))
def prop (l : List Con) (p : List Int) : List Int × Int :=
  if 0 ≤ (rnd l 0 p).2 then rnd l 0 p else if h : zer (rnd l 0 p).1 < zer p then prop l (rnd l 0 p).1 else rnd l 0 p
termination_by zer p
end Go.Ab

/- What propagation means: fixed points, order, soundness. -/
set_option linter.unusedSimpArgs false
set_option linter.unusedVariables false
namespace Go.Ab
def sumF (f : Term → Int) : List Term → Int
  | [] => 0
  | t :: r => f t + sumF f r
theorem sumF_le {f g : Term → Int} : ∀ {ts : List Term}, (∀ t ∈ ts, f t ≤ g t) → sumF f ts ≤ sumF g ts
  | [], _ => Int.le_refl _
  | t :: r, h => by
    have h1 := h t (by simp)
    have h2 := sumF_le (ts := r) (fun t ht => h t (by simp [ht]))
    simp only [sumF]; omega
theorem sumF_lt {f g : Term → Int} {t0 : Term} {d : Int} : ∀ {ts : List Term}, (∀ t ∈ ts, f t ≤ g t) → t0 ∈ ts → f t0 + d ≤ g t0 → sumF f ts + d ≤ sumF g ts
  | [], _, h, _ => by simp at h
  | t :: r, h, hm, h0 => by
    have h1 := h t (by simp)
    simp only [sumF]
    rcases List.mem_cons.1 hm with rfl | hm
    · have h2 := sumF_le (ts := r) (fun t ht => h t (by simp [ht])); omega
    · have h2 := sumF_lt (ts := r) (fun t ht => h t (by simp [ht])) hm h0; omega
theorem slF_F {p : List Int} : ∀ {ts : List Term} {b : Int}, slF p ts b = b + sumF (fun t => if 0 ≤ stV p t.2 then t.1 else 0) ts
  | [], b => by simp [slF, sumF]
  | t :: r, b => by
    have e : slF p (t :: r) b = slF p r (if 0 ≤ stV p t.2 then b + t.1 else b) := rfl
    rw [e, slF_F]
    simp only [sumF]
    split <;> omega
theorem slV_F {c : Con} {p : List Int} : slV c p = sumF (fun t => if 0 ≤ stV p t.2 then t.1 else 0) c.1 - c.2 := by
  unfold slV; rw [slF_F]; omega
theorem stV_neg {p : List Int} {m : Int} (h : m ≠ 0) : stV p (-m) = -stV p m := by
  unfold stV
  by_cases h0 : m < 0
  · rw [if_pos h0, if_neg (by omega)]; simp
  · rw [if_neg h0, if_pos (by omega)]; simp
def leP (p q : List Int) : Prop := ∀ m, litOk m = true → stV p m ≠ 0 → stV q m = stV p m
def fixP (l : List Con) (q : List Int) : Prop := ∀ c ∈ l, 0 ≤ slV c q ∧ impC c q = []
/-- Below a fixed point nothing is violated, and propagation stays below. -/
theorem below {c : Con} (hc : cOk c = true) {p q : List Int} (hp : paOk p = true) (hq : paOk q = true) (h : leP p q) (h1 : 0 ≤ slV c q) (h2 : impC c q = []) : 0 ≤ slV c p ∧ leP (asgL p (impC c p)) q := by
  have hlt : ∀ t ∈ c.1, litOk t.2 = true ∧ 1 ≤ t.1 ∧ t.1 ≤ 1000 := okFrom_all (cOk_ok hc)
  have hle : ∀ t ∈ c.1, (if 0 ≤ stV q t.2 then t.1 else 0) ≤ (if 0 ≤ stV p t.2 then t.1 else 0) := fun t ht => by
    have h3 := hlt t ht
    by_cases h4 : 0 ≤ stV p t.2
    · rw [if_pos h4]; split <;> omega
    · rw [if_neg h4, if_neg (by rw [h t.2 h3.1 (by omega)]; exact h4)]; exact Int.le_refl _
  have hs : slV c q ≤ slV c p := by rw [slV_F, slV_F]; have := sumF_le hle; omega
  refine ⟨by omega, ?_⟩
  have key : ∀ m ∈ impC c p, stV q m = 1 := by
    intro m hm
    obtain ⟨t, ht, rfl, h3, h4⟩ := impC_mem hm
    have h5 := hlt t ht
    have hr := stV_rng hq t.2
    by_cases e0 : stV q t.2 = 0
    · exfalso
      have : t.2 ∈ impC c q := List.mem_map.2 ⟨t, List.mem_filter.2 ⟨ht, by rw [decide_eq_true_eq]; exact ⟨e0, by omega⟩⟩, rfl⟩
      rw [h2] at this; simp at this
    · by_cases e1 : stV q t.2 = -1
      · exfalso
        have := sumF_lt (d := t.1) hle ht (by rw [if_neg (by omega), if_pos (by omega)]; omega)
        rw [slV_F] at h1 h4; omega
      · omega
  have hmono : ∀ {ms : List Int} {p : List Int}, p.length = 12 → leP p q → (∀ m ∈ ms, litOk m = true ∧ stV q m = 1) → leP (asgL p ms) q := by
    intro ms
    induction ms with
    | nil => intro p _ h _; exact h
    | cons m r ih =>
      intro p hp h hm
      have hm0 := hm m (by simp)
      refine ih (p := asg p m) (by rw [asg_len]; exact hp) (fun l hl h0 => ?_) (fun m hm' => hm m (by simp [hm']))
      rw [stV_asg hp hm0.1 hl] at h0 ⊢
      by_cases e1 : l = m
      · subst e1; rw [if_pos rfl]; exact hm0.2
      · rw [if_neg e1] at h0 ⊢
        by_cases e2 : l = -m
        · subst e2; rw [if_pos rfl, stV_neg (litOk_iff.1 hm0.1).1, hm0.2]
        · rw [if_neg e2] at h0 ⊢; exact h l hl h0
  exact hmono (paOk_len hp) h (fun m hm => ⟨impC_lit hc hm, key m hm⟩)
def agB (p : List Int) (bs : List Bool) : Prop := ∀ m, litOk m = true → stV p m = 1 → litV bs m = true
def zeroP : List Int := List.replicate 12 0
def rupV (l : List Con) (c : Con) : Bool := decide (0 ≤ (prop (l ++ [negC c]) zeroP).2)
end Go.Ab

/- Rows in which literals are made true. -/
set_option linter.unusedSimpArgs false
set_option linter.unusedVariables false
namespace Go.Ab
end Go.Ab
namespace Go.Ab
def failS (l : List Con) (ms : List Int) : List Int := ms.filter (fun m => decide (0 ≤ (prop l (justV m)).2))
def failN (l : List Con) : Nat → List Int
  | 0 => []
  | k + 1 => failN l k ++ failS l [(k : Int) + 1, -((k : Int) + 1)]
def failL (l : List Con) : List Int := if pOk l then failN l 12 else []
end Go.Ab

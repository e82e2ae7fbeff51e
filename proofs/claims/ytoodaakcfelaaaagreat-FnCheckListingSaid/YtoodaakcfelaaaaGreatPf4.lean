/- A listing that is checked. -/
import Derived.Test.YtoodaakcfelaaaaGreatCub
set_option autoImplicit false
set_option linter.unusedSimpArgs false
namespace Go.Ab
theorem lcOk_parts {l : List Con} {vs : List Int} {f : List (List Bool)} (h : lcOk l vs f = true) : pOk l = true ∧ l.length ≤ 336 ∧ varsFrom 0 vs = true ∧ f.length ≤ 64 := by
  unfold lcOk at h; simp only [Bool.and_eq_true, decide_eq_true_eq] at h; exact ⟨h.1.1.1, h.1.1.2, h.1.2, h.2⟩
theorem lc_bad {l : List Con} {vs : List Int} {f : List (List Bool)} {ss : List Stp} (h : lcOk l vs f = false) : lcV l vs f ss = false := by unfold lcV; rw [if_neg (by rw [h]; decide)]
def lcI (l : List Con) (vs : List Int) (f : List (List Bool)) (k : Nat) (L : List Con) : Prop := (k ≤ f.length ∧ varsFrom 0 vs = true) ∧ lcN vs l f = lcN vs L (f.drop k) ∧ L.all cOk = true ∧ L.length ≤ 336 + k
theorem lcI_0 {l : List Con} {vs : List Int} {f : List (List Bool)} (h : lcOk l vs f = true) : lcI l vs f 0 l := by
  obtain ⟨h1, h2, h3, _⟩ := lcOk_parts h
  exact ⟨⟨Nat.zero_le _, h3⟩, rfl, pOk_all h1, h2⟩
section
variable {l L : List Con} {vs : List Int} {f : List (List Bool)} {ss : List Stp} {k : Nat}
theorem lcI_next (h : lcI l vs f k L) (hk : k < f.length) (hb : (f.getD k default).length = 12 ∧ satV L (f.getD k default) = true) : lcI l vs f (k + 1) (L ++ [lsX vs (f.getD k default)]) := by
  obtain ⟨⟨h1, h0⟩, h2, h3, h4⟩ := h
  refine ⟨⟨hk, h0⟩, ?_, by rw [List.all_append, h3]; simp [lsX_ok h0], by rw [List.length_append]; simp; omega⟩
  rw [h2, drop_getD (d := default) hk, lcN, if_pos hb]
theorem lc_stop (ho : lcOk l vs f = true) (h : lcI l vs f k L) (hk : k < f.length) (hb : ¬ ((f.getD k default).length = 12 ∧ satV L (f.getD k default) = true)) : lcV l vs f ss = false := by
  unfold lcV
  rw [if_pos ho, h.2.1, drop_getD (d := default) hk, lcN, if_neg hb]
theorem lc_end (ho : lcOk l vs f = true) (h : lcI l vs f k L) (hk : f.length ≤ k) : lcV l vs f ss = crV L ss := by
  unfold lcV
  rw [if_pos ho, h.2.1, List.drop_of_length_le hk]; rfl
end
instance stpDec : DecidableEq Stp := fun a b => inferInstanceAs (Decidable ((a : Int × Int × Int × Con) = b))
theorem lcN_chn {vs : List Int} {S : List Con} : ∀ {f : List (List Bool)} {L M : List Con}, lcN vs L f = some M → crV M (S.map rupS) = true → chn vs L f
  | [], L, M, h, hc => by
    have : L = M := by simpa [lcN] using h
    subst this
    exact fun bs _ => cr_sound hc bs
  | b :: f, L, M, h, hc => by
    rw [lcN] at h
    by_cases hb : b.length = 12 ∧ satV L b = true
    · rw [if_pos hb] at h; exact ⟨hb.1, hb.2, lcN_chn h hc⟩
    · rw [if_neg hb] at h; cases h
theorem lc_chn {l : List Con} {vs : List Int} {f : List (List Bool)} {S : List Con} (h : lcV l vs f (S.map rupS) = true) : lcOk l vs f = true ∧ chn vs l f := by
  have ho : lcOk l vs f = true := by
    cases hq : lcOk l vs f
    · rw [lc_bad hq] at h; cases h
    · rfl
  refine ⟨ho, ?_⟩
  unfold lcV at h
  rw [if_pos ho] at h
  cases hq : lcN vs l f with
  | none => rw [hq] at h; cases h
  | some M => rw [hq] at h; exact lcN_chn hq h
theorem lsN_len {vs : List Int} {fu : Int} : ∀ {n : Nat} {L : List Con} {f : List (List Bool)}, f.length ≤ 64 → (lsN vs fu n L f).2.1.length ≤ 64
  | 0, _, _, _ => by simp [lsN]
  | n + 1, L, f, h => by
    rw [lsN]
    split
    · exact h
    · split
      · simp
      · rename_i h2; exact lsN_len (by rw [List.length_append]; simp; omega)
theorem lc_count {l : List Con} {vs : List Int} {f : List (List Bool)} {S : List Con} (h : lcV l vs f (S.map rupS) = true) : ((f.length : Nat) : Int) = cpV l vs := by
  obtain ⟨h1, h2⟩ := lc_chn h
  obtain ⟨p1, _, p3, _⟩ := lcOk_parts h1
  rw [cpV_ok p1 p3, chn_keys (fun v hv => (varsFrom_all p3 v hv).1) h2]
end Go.Ab
namespace Go.Ab
theorem sv_steps {l : List Con} {fu : Int} : (svS l fu).all cOk = true := by
  by_cases h : svC l fu = 2
  · exact chnR_all (sv_chn h).2.1
  · unfold svS; rw [if_neg h]; rfl
theorem lsN_steps {vs : List Int} {fu : Int} : ∀ {n : Nat} {L : List Con} {f : List (List Bool)}, (lsN vs fu n L f).2.2.all cOk = true
  | 0, _, _ => rfl
  | n + 1, L, f => by
    rw [lsN]
    split
    · exact sv_steps
    · split
      · rfl
      · exact lsN_steps
theorem ls_steps {l : List Con} {vs : List Int} {fu : Int} : ∀ c ∈ (lsV l vs fu).2.2, c.1.length ≤ 12 := by
  intro c hc
  have : (lsV l vs fu).2.2.all cOk = true := by
    unfold lsV
    split
    · exact lsN_steps
    · rfl
  exact cOk_len (List.all_eq_true.1 this c hc)
def sameN (vs : List Int) (f : List (List Bool)) (bs : List Bool) (i : Nat) : Nat := (f.take i).countP (fun b => !diffV vs b bs)
theorem same_y {vs : List Int} {f : List (List Bool)} {bs : List Bool} {i : Nat} (h : i < f.length) (hd : diffV vs (f.getD i default) bs = false) : sameN vs f bs (i + 1) = sameN vs f bs i + 1 := by
  unfold sameN; rw [take_succD (d := default) h, List.countP_append, List.countP_singleton, hd]; rfl
theorem same_n {vs : List Int} {f : List (List Bool)} {bs : List Bool} {i : Nat} (h : i < f.length) (hd : diffV vs (f.getD i default) bs = true) : sameN vs f bs (i + 1) = sameN vs f bs i := by
  unfold sameN; rw [take_succD (d := default) h, List.countP_append, List.countP_singleton, hd]; rfl
theorem same_le {vs : List Int} {f : List (List Bool)} {bs : List Bool} {i : Nat} : sameN vs f bs i ≤ i := by
  unfold sameN
  exact Nat.le_trans List.countP_le_length (by rw [List.length_take]; omega)
theorem chn_one {vs : List Int} (hv : ∀ v ∈ vs, 1 ≤ v) {bs : List Bool} (hb : bs.length = 12) : ∀ {g : List (List Bool)} {L : List Con}, chn vs L g → satV L bs = true → g.countP (fun b => !diffV vs b bs) = 1
  | [], _, h, hs => by rw [h bs hb] at hs; cases hs
  | a :: g, L, h, hs => by
    have ha := chn_apart hv h
    rw [List.pairwise_cons] at ha
    rw [List.countP_cons]
    cases hd : diffV vs a bs
    · have : g.countP (fun b => !diffV vs b bs) = 0 := by
        rw [List.countP_eq_zero]
        intro b hbg hq
        have h2 : diffV vs b bs = false := by simpa using hq
        have h3 := ha.1 b hbg
        rw [diffV_false] at hd h2
        have : diffV vs a b = false := diffV_false.2 fun v hv => (hd v hv).trans (h2 v hv).symm
        rw [this] at h3; cases h3
      rw [this]; rfl
    · have := chn_one hv hb h.2.2 (by rw [satV_app, hs, satV_one, lsX_holds hv, hd]; rfl)
      rw [this]; rfl
theorem lc_same {l : List Con} {vs : List Int} {f : List (List Bool)} {S : List Con} (h : lcV l vs f (S.map rupS) = true) {bs : List Bool} (hb : bs.length = 12) (hs : saV l bs = true) : sameN vs f bs f.length = 1 := by
  obtain ⟨h1, h2⟩ := lc_chn h
  have hs2 : satV l bs = true := by unfold saV at hs; simp only [Bool.and_eq_true] at hs; exact hs.2
  unfold sameN
  rw [List.take_length]
  exact chn_one (fun v hv => (varsFrom_all (lcOk_parts h1).2.2.1 v hv).1) hb h2 hs2
theorem lc_lens {l : List Con} {vs : List Int} {f : List (List Bool)} {S : List Con} (h : lcV l vs f (S.map rupS) = true) {i : Nat} (hi : i < f.length) : (f.getD i default).length = 12 := (chn_sat (lc_chn h).2 _ (getD_mem hi)).1
end Go.Ab
namespace Go.Ab
theorem tup4Eq {a b c d c' d' : V} (h1 : c = c') (h2 : d = d') : V.tup [a, b, c, d] = .tup [a, b, c', d'] := by rw [h1, h2]
end Go.Ab
namespace Go.Ab
theorem ls_found {l : List Con} {vs : List Int} {fu : Int} : (lsV l vs fu).2.1.length ≤ 64 := by
  unfold lsV
  split
  · exact lsN_len (by simp)
  · simp
end Go.Ab

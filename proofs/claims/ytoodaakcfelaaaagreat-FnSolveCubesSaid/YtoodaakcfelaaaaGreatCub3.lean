/- Facts for the walks of merged proofs. -/
import Derived.Test.YtoodaakcfelaaaaGreatCub2
set_option autoImplicit false
set_option linter.unusedSimpArgs false
set_option linter.unusedSimpArgs false
set_option linter.unusedVariables false
namespace Go.Ab
def dPr (S : List Con) : List V := [.sl ((S.map rupS).map dStp)]
theorem qjr {K : Con} : (litsC K).length = K.1.length := List.length_map ..
theorem litsC_next {K : Con} {k : Nat} (h : k < K.1.length) : (litsC K).take (k + 1) = (litsC K).take k ++ [(K.1.getD k default).2] := by
  unfold litsC
  rw [qjj (d := default) (by rw [List.length_map]; exact h), show (K.1.map (·.2)).getD k default = (K.1.getD k default).2 from mapD_at h]
theorem und_ok {c : List Int} {K : Con} (h : under c K) : cOk K = true := by obtain ⟨D, rfl, _, h2⟩ := h; exact cle_ok h2
theorem und_b {c : List Int} {K : Con} (h : under c K) : K.2 = 1 := by obtain ⟨D, rfl, _, _⟩ := h; rfl
theorem und_apt {c : List Int} {K : Con} (h : under c K) : apt (negL c ++ litsC K) := by
  obtain ⟨D, rfl, h1, _⟩ := h
  rw [lits_cle, show negL c ++ negL D = negL (c ++ D) by unfold negL; rw [List.map_append]]
  exact apt_neg h1
theorem und_one {c : List Int} {K : Con} (h : under c K) {k : Nat} (hk : k < K.1.length) : (K.1.getD k default).1 = 1 := by
  obtain ⟨D, rfl, _, _⟩ := h
  have hk' : k < (negL D).length := by unfold cle at hk; simpa using hk
  show (((negL D).map oneL).getD k default).1 = 1
  rw [mapD_at hk']; rfl
theorem vars_take {vs : List Int} (h : varsFrom 0 vs = true) {k : Nat} : varsFrom 0 (vs.take k) = true := by
  have : ∀ {vs : List Int} {p : Int} {k : Nat}, varsFrom p vs = true → varsFrom p (vs.take k) = true := by
    intro vs
    induction vs with
    | nil => intro p k h; simpa using h
    | cons v r ih =>
      intro p k h
      match k with
      | 0 => rfl
      | k + 1 =>
        by_cases hg : p < v ∧ 1 ≤ v ∧ v ≤ 12
        · rw [qxb hg.1 hg.2.1 hg.2.2] at h
          rw [List.take_succ_cons, qxb hg.1 hg.2.1 hg.2.2]
          exact ih h
        · rw [varsFrom_bad hg] at h; cases h
  exact this h
theorem cub_ck {vs : List Int} (hv : varsFrom 0 vs = true) (h4 : vs.length ≤ 4) {k : Nat} (hk : k < (cubV vs).length) : asc ((cubV vs).getD k default) ∧ ((cubV vs).getD k default).length ≤ 4 := by
  have := cub_asc hv (Nat.le_refl _) ((cubV vs).getD k default) (by rw [List.take_length]; exact qju hk)
  exact ⟨this.1, by rw [this.2.1]; exact h4⟩
theorem mrgN_len {vs : List Int} {Ps : List (List Con)} (hu : ∀ k, k < (cubV vs).length → (Ps.getD k default).length ≤ 1000 ∧ ∀ K ∈ Ps.getD k default, under ((cubV vs).getD k default) K) : ∀ {k : Nat}, k ≤ (cubV vs).length → (mrgN (cubV vs) Ps k).length ≤ 1000 * k
  | 0, _ => by simp [mrgN]
  | k + 1, h => by
    have ih := mrgN_len hu (k := k) (by omega)
    have := (hu k (by omega)).1
    rw [mrgN, List.length_append, mrg1, List.length_map]; omega
theorem mrg1_next {c : List Int} {S : List Con} {j : Nat} (h : j < S.length) : mrg1 c (S.take (j + 1)) = mrg1 c (S.take j) ++ [lifC c (S.getD j default)] := by
  unfold mrg1; rw [qjj (d := default) h, List.map_append]; rfl
theorem cle_next {o : List (List Int)} {j : Nat} (h : j < o.length) : (o.take (j + 1)).map cle = (o.take j).map cle ++ [cle (o.getD j default)] := by
  rw [qjj (d := default) h, List.map_append]; rfl
theorem st_snoc {A : List Con} {K : Con} : ((A ++ [K]).map rupS).map dStp = (A.map rupS).map dStp ++ [dStp (rupS K)] := by simp
end Go.Ab
namespace Go.Ab
theorem joi_bnd {vs : List Int} {X A : List Con} {q : Nat} (hq : q + 1 ≤ vs.length) (h : X ++ joiN vs vs.length = A ++ joiN vs (q + 1)) (hX : X.length ≤ 16000) (h4 : vs.length ≤ 4) : (A ++ (cubV (vs.take q)).map cle).length ≤ 16016 := by
  have h1 := congrArg List.length h
  rw [joiN, List.length_append, List.length_append, List.length_append] at h1
  have h2 := joi_len (vs := vs) (Nat.le_refl _)
  have h3 := Nat.pow_le_pow_right (n := 2) (by decide) h4
  rw [List.length_append]
  omega
end Go.Ab
namespace Go.Ab
theorem rup_at {S : List Con} {j : Nat} (h : j < S.length) : ((S.map rupS).map dStp)[j]? = some (dStp (rupS (S.getD j default))) := by
  rw [List.getElem?_map, List.getElem?_map, List.getD_eq_getElem?_getD, List.getElem?_eq_getElem h]; rfl
end Go.Ab
namespace Go.Ab
theorem srt_comm {a b : List Int} (h : apt (a ++ b)) : srtS (b ++ a) = srtS (a ++ b) :=
  sorted_unique (srtS_perm.trans (List.perm_append_comm.trans srtS_perm.symm)) (srtS_sorted (apt_perm List.perm_append_comm h).2) (srtS_sorted h.2)
theorem und_apt2 {c : List Int} {K : Con} (h : under c K) : apt (litsC K ++ negL c) := apt_perm List.perm_append_comm (und_apt h)
theorem lif_form {c : List Int} {K : Con} (h : under c K) : ((srtS (litsC K ++ negL c)).map oneL, (1 : Int)) = lifC c K := by
  unfold lifC; rw [srt_comm (und_apt h)]
theorem und_nil {c : List Int} (h : asc c) : under c (([], 1) : Con) := ⟨[], rfl, by rw [List.append_nil]; exact asc_apt h, rfl⟩
theorem lif_nil {c : List Int} (h : asc c) : lifC c (([], 1) : Con) = cle c := by
  have : lifC c (cle []) = cle c := by rw [lif_cle, List.append_nil, srtS_asc h]
  exact this
theorem mrgA_ge {vs : List Int} {Ps : List (List Con)} {k j : Nat} (hk : k < (cubV vs).length) (h : 1000 < (mrgN (cubV vs) Ps k ++ mrg1 ((cubV vs).getD k default) ((Ps.getD k default).take j)).length) : ¬ (mrgA vs Ps).length ≤ 1000 := by
  have hmono : ∀ {m : Nat}, k + 1 ≤ m → (mrgN (cubV vs) Ps (k + 1)).length ≤ (mrgN (cubV vs) Ps m).length := by
    intro m
    induction m with
    | zero => intro h; omega
    | succ m ih =>
      intro h
      by_cases e : k + 1 = m + 1
      · rw [e]; exact Nat.le_refl _
      · have := ih (by omega)
        rw [mrgN.eq_2 (k := m), List.length_append]; omega
  have h1 := hmono (m := (cubV vs).length) hk
  rw [mrgN, List.length_append, mrg1, List.length_map] at h1
  rw [List.length_append, mrg1, List.length_map, List.length_take] at h
  unfold mrgA
  rw [List.length_append]
  omega
end Go.Ab
namespace Go.Ab
theorem prf_next {l : List Con} {vs : List Int} {fu : Int} {k : Nat} (h : k < (cubV vs).length) : (prfV l vs fu).take (k + 1) = (prfV l vs fu).take k ++ [svS (cuL l ((cubV vs).getD k default)) fu] := by
  rw [qjj (d := default) (by unfold prfV; rw [List.length_map]; exact h), prf_at h]
theorem cub_lenk {vs : List Int} (hv : varsFrom 0 vs = true) {k : Nat} (hk : k < (cubV vs).length) : ((cubV vs).getD k default).length = vs.length := by
  have := cub_asc hv (Nat.le_refl _) ((cubV vs).getD k default) (by rw [List.take_length]; exact qju hk)
  exact this.2.1
theorem prf_und {l : List Con} {vs : List Int} {fu : Int} (hv : varsFrom 0 vs = true) (h : allU l vs fu) {k : Nat} (hk : k < (cubV vs).length) : ((prfV l vs fu).getD k default).length ≤ 1000 ∧ ∀ K ∈ (prfV l vs fu).getD k default, under ((cubV vs).getD k default) K := by
  have hm := qju (d := default) hk
  rw [prf_at hk]
  exact ⟨(sv_chn (h _ hm)).2.2.2, svS_under (cub_asc' hv _ hm) (h _ hm)⟩
end Go.Ab
namespace Go.Ab
theorem dPr_dSt {S : List Con} : dPr S = [.sl (S.map dSt)] := by unfold dPr; rw [dSt_rups]
end Go.Ab
namespace Go.Ab
theorem sp_le {vs : List Int} (h : (varsFrom 0 vs && decide (vs.length ≤ 4)) = true) : vs.length ≤ 4 := by
  rw [Bool.and_eq_true, decide_eq_true_eq] at h; exact h.2
end Go.Ab
namespace Go.Ab
theorem okP_closed {l : List Con} {a b : Int} (h : okP l 14 12) : okP ((([(1, a)], 1) : Con) :: (l ++ [([(1, b)], 1)])) 16 12 := by
  refine ⟨by have := h.1; simp; omega, fun c hc => ?_⟩
  rcases List.mem_cons.1 hc with e | e
  · subst e; exact Nat.le_of_ble_eq_true rfl
  · rcases List.mem_append.1 e with q | q
    · exact h.2 c q
    · have : c = ([(1, b)], 1) := by simpa using q
      subst this; exact Nat.le_of_ble_eq_true rfl
end Go.Ab

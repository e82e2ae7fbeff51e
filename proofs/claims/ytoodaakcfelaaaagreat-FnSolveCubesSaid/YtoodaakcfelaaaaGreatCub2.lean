/- What is learned under a cube; the merged proof. -/
import Derived.Test.YtoodaakcfelaaaaGreatPf3
set_option autoImplicit false
set_option linter.unusedSimpArgs false
set_option linter.unusedVariables false
namespace Go.Ab
theorem apt_snoc {a : List Int} {v : Int} (h : apt a) (hv : litOk v = true) (hn : ∀ x ∈ a, varOf x ≠ varOf v) : apt (a ++ [v]) := by
  refine ⟨fun x hx => ?_, List.pairwise_append.2 ⟨h.2, List.pairwise_singleton _ _, fun x hx y hy => ?_⟩⟩
  · rcases List.mem_append.1 hx with q | q
    · exact h.1 x q
    · have : x = v := by simpa using q
      rw [this]; exact hv
  · have : y = v := by simpa using hy
    rw [this]; exact hn x hx
theorem stV_free {q : List Int} {x : Int} {n : Nat} (h0 : q.getD n default = 0) (hx : litOk x = true) (hv : varOf x = (n : Int) + 1) : stV q x = 0 := by
  have hl := litOk_iff.1 hx
  unfold stV
  unfold varOf at hv
  split
  · rw [show (-x - 1).toNat = n by omega, h0]; rfl
  · rw [show (x - 1).toNat = n by omega, h0]
theorem visit_under {l : List Con} {c : List Int} (hu : ∀ x ∈ c, litOk x = true ∧ uniC x ∈ l) : ∀ {n : Nat} {st : List Con} {fu : Int} {D : List Int}, (l ++ st).all cOk = true → st.length ≤ 1000 → 0 ≤ fu → inv l st D → apt (c ++ D) → ∀ K ∈ (visit l n st fu D).1, K ∈ st ∨ under c K
  | 0, st, fu, D, _, _, _, _, _, K, hK => .inl (by simpa [visit] using hK)
  | n + 1, st, fu, D, hl, hs, hf, hi, ha, K, hK => by
    have hD : ∀ K ∈ [cle D], under c K := fun K hK => by
      have : K = cle D := by simpa using hK
      exact ⟨D, this, ha, hi.1⟩
    by_cases h : fu = 0 ∨ 1000 ≤ st.length
    · rw [vs_much h] at hK; exact .inl hK
    by_cases h1 : 0 ≤ (prD l st D).2
    · rw [vs_bad h h1] at hK
      rcases List.mem_append.1 hK with q | q
      · exact .inl q
      · exact .inr (hD K q)
    by_cases h2 : freeV (prD l st D).1 = 0
    · rw [vs_sat h h1 h2] at hK; exact .inl hK
    have hf1 : 0 ≤ fu - 1 := by omega
    obtain ⟨hr, i1, i2⟩ := inv_next hi hl h1 h2
    obtain ⟨hb1, hb2⟩ := inv_free hi hl h1 h2
    have hfix := prD_fix hl h1
    have hq := prD_ok (l := l) (st := st) (D := D)
    have hfr := (freeV_some h2).2.1
    have hvar : varOf (freeV (prD l st D).1 : Int) = freeV (prD l st D).1 := by unfold varOf; omega
    have hlit : litOk (freeV (prD l st D).1 : Int) = true := litOk_iff.2 (by omega)
    have hne : ∀ x ∈ c ++ D, varOf x ≠ varOf (freeV (prD l st D).1 : Int) := fun x hx e => by
      rcases List.mem_append.1 hx with q | q
      · obtain ⟨hx1, hx2⟩ := hu x q
        have h3 := (uni_fix hx1 hq).1 (hfix _ (List.mem_append_left _ hx2))
        have h4 := stV_free (n := freeV (prD l st D).1 - 1) hfr hx1 (by rw [e, hvar]; omega)
        omega
      · have := hb2 x q
        rw [hvar] at e; omega
    have ha1 : apt (c ++ (D ++ [(freeV (prD l st D).1 : Int)])) := by rw [← List.append_assoc]; exact apt_snoc ha hlit hne
    have ha2 : apt (c ++ (D ++ [-(freeV (prD l st D).1 : Int)])) := by rw [← List.append_assoc]; exact apt_snoc ha (litOk_opp hlit) (fun x hx => by rw [varOf_neg]; exact hne x hx)
    have g1 := visit_good (l := l) (n := n) (st := st) (fu := fu - 1) (D := D ++ [(freeV (prD l st D).1 : Int)]) hl hs hf1 i1
    have u1 := visit_under hu (n := n) (st := st) (fu := fu - 1) (D := D ++ [(freeV (prD l st D).1 : Int)]) hl hs hf1 i1 ha1
    by_cases h3 : (vis1 l n st fu D).2.2.1 ≠ 2
    · rw [vs_one h h1 h2 h3] at hK; exact u1 K hK
    have hsub : ∀ c ∈ st, c ∈ (vis1 l n st fu D).1 := fun c hc => by obtain ⟨x, hx⟩ := g1.pre; rw [show (vis1 l n st fu D).1 = st ++ x from hx]; simp [hc]
    have u2 := visit_under hu (n := n) (st := (vis1 l n st fu D).1) (fu := (vis1 l n st fu D).2.1) (D := D ++ [-(freeV (prD l st D).1 : Int)]) g1.ok g1.len g1.fuel.1 (inv_more i2 hsub) ha2
    have key : ∀ K ∈ (vis2 l n st fu D).1, K ∈ st ∨ under c K := fun K hK => by
      rcases u2 K hK with q | q
      · exact u1 K q
      · exact .inr q
    by_cases h4 : (vis2 l n st fu D).2.2.1 ≠ 2
    · rw [vs_two h h1 h2 h3 h4] at hK; exact key K hK
    by_cases h5 : 1000 ≤ (vis2 l n st fu D).1.length
    · rw [vs_full h h1 h2 h3 h4 h5] at hK; exact key K hK
    · rw [vs_fail h h1 h2 h3 h4 h5] at hK
      rcases List.mem_append.1 hK with q | q
      · exact key K q
      · exact .inr (hD K q)
theorem svS_under {l : List Con} {c : List Int} {fu : Int} (hc : asc c) (h : svC (cuL l c) fu = 2) : ∀ K ∈ svS (cuL l c) fu, under c K := by
  have ho : svOk (cuL l c) fu = true := by
    cases hq : svOk (cuL l c) fu
    · have := (sv_bad hq).1; omega
    · rfl
  have e : svS (cuL l c) fu = (svR (cuL l c) fu).1 := by unfold svS; rw [if_pos h]
  obtain ⟨p1, p2, _⟩ := svOk_parts ho
  intro K hK
  rw [e] at hK
  rcases visit_under (l := cuL l c) (c := c) (fun x hx => ⟨asc_lit hc x hx, by unfold cuL; exact List.mem_append_right _ (List.mem_map.2 ⟨x, hx, rfl⟩)⟩) (by rw [List.append_nil]; exact pOk_all p1) (by simp) p2 inv_nil (by rw [List.append_nil]; exact asc_apt hc) K hK with q | q
  · cases q
  · exact q
def mrg1 (c : List Int) (S : List Con) : List Con := S.map (lifC c)
def mrgN (cs : List (List Int)) (Ps : List (List Con)) : Nat → List Con
  | 0 => []
  | k + 1 => mrgN cs Ps k ++ mrg1 (cs.getD k default) (Ps.getD k default)
def joiN (vs : List Int) : Nat → List Con
  | 0 => []
  | n + 1 => (cubV (vs.take n)).map cle ++ joiN vs n
def mrgA (vs : List Int) (Ps : List (List Con)) : List Con := mrgN (cubV vs) Ps (cubV vs).length ++ joiN vs vs.length
theorem joi_len {vs : List Int} : ∀ {n : Nat}, n ≤ vs.length → (joiN vs n).length + 1 = 2 ^ n
  | 0, _ => rfl
  | n + 1, h => by
    have ih := joi_len (vs := vs) (n := n) (by omega)
    rw [joiN, List.length_append, List.length_map, cub_take_len (by omega), Nat.pow_succ]; omega
theorem chn_lift {l T : List Con} {c : List Int} {fu : Int} (hc : asc c) (hl : (l ++ T).all cOk = true) (h : svC (cuL l c) fu = 2) : chnR (l ++ T) (mrg1 c (svS (cuL l c) fu)) := by
  have hun := svS_under hc h
  obtain ⟨_, hch, _, _⟩ := sv_chn h
  have ho : svOk (cuL l c) fu = true := by
    cases hq : svOk (cuL l c) fu
    · have := (sv_bad hq).1; omega
    · rfl
  have g := sv_good ho
  have e : svS (cuL l c) fu = (svR (cuL l c) fu).1 := by unfold svS; rw [if_pos h]
  have hall : (mrg1 c (svS (cuL l c) fu)).all cOk = true := List.all_eq_true.2 fun K hK => by
    obtain ⟨K', hK', rfl⟩ := List.mem_map.1 hK
    exact lif_ok (hun K' hK')
  have hk := chnR_of (L := l ++ T) hall (fun k hk => by
    have hk' : k < (svS (cuL l c) fu).length := by simpa [mrg1] using hk
    have hm : (mrg1 c (svS (cuL l c) fu)).getD k default = lifC c ((svS (cuL l c) fu).getD k default) := by
      unfold mrg1; exact mapD_at hk'
    obtain ⟨D, hD, hD1, hD2⟩ := hun _ (qju (d := default) hk')
    rw [hm, hD]
    have hr := g.rup k (by simp) (by rw [← e]; exact hk')
    rw [← e, hD] at hr
    have htk : (mrg1 c (svS (cuL l c) fu)).take k = ((svS (cuL l c) fu).take k).map (lifC c) := by unfold mrg1; rw [List.map_take]
    rw [htk, List.append_assoc]
    refine rup_lift (T := T ++ ((svS (cuL l c) fu).take k).map (lifC c)) (S := (svS (cuL l c) fu).take k) ?_ (asc_lit hc) hD1 hD2 (fun K hK => ⟨hun K (List.mem_of_mem_take hK), List.mem_append_right _ (List.mem_map.2 ⟨K, hK, rfl⟩)⟩) hr
    rw [← List.append_assoc, List.all_append, hl, Bool.true_and, List.all_eq_true]
    intro K hK
    obtain ⟨K', hK', rfl⟩ := List.mem_map.1 hK
    exact lif_ok (hun K' (List.mem_of_mem_take hK'))) _ (Nat.le_refl _)
  rwa [List.take_length] at hk
def allU (l : List Con) (vs : List Int) (fu : Int) : Prop := ∀ c ∈ cubV vs, svC (cuL l c) fu = 2
def prfV (l : List Con) (vs : List Int) (fu : Int) : List (List Con) := (cubV vs).map fun c => svS (cuL l c) fu
theorem prf_at {l : List Con} {vs : List Int} {fu : Int} {k : Nat} (h : k < (cubV vs).length) : (prfV l vs fu).getD k default = svS (cuL l ((cubV vs).getD k default)) fu := by unfold prfV; exact mapD_at h
theorem cub_asc' {vs : List Int} (hv : varsFrom 0 vs = true) : ∀ c ∈ cubV vs, asc c := fun c hc => by
  have := cub_asc hv (Nat.le_refl _) c (by rw [List.take_length]; exact hc)
  exact this.1
theorem mrg_chn {l : List Con} {vs : List Int} {fu : Int} (hl : l.all cOk = true) (hv : varsFrom 0 vs = true) (h : allU l vs fu) : ∀ {k : Nat}, k ≤ (cubV vs).length → chnR l (mrgN (cubV vs) (prfV l vs fu) k) ∧ ∀ i, i < k → cle ((cubV vs).getD i default) ∈ mrgN (cubV vs) (prfV l vs fu) k
  | 0, _ => ⟨trivial, fun i h => by omega⟩
  | k + 1, hk => by
    obtain ⟨h1, h2⟩ := mrg_chn hl hv h (k := k) (by omega)
    have hm := qju (d := default) (l := cubV vs) (k := k) (by omega)
    have hc := cub_asc' hv _ hm
    have hall : (l ++ mrgN (cubV vs) (prfV l vs fu) k).all cOk = true := by rw [List.all_append, hl, chnR_all h1]; rfl
    refine ⟨?_, fun i hi => ?_⟩
    · rw [mrgN, chnR_app, prf_at (by omega)]
      exact ⟨h1, chn_lift hc hall (h _ hm)⟩
    · rw [mrgN, prf_at (by omega)]
      by_cases e : i < k
      · exact List.mem_append_left _ (h2 i e)
      · obtain rfl : i = k := by omega
        refine List.mem_append_right _ (List.mem_map.2 ⟨cle [], (sv_chn (h _ hm)).2.2.1, ?_⟩)
        rw [lif_cle, List.append_nil, srtS_asc hc]
theorem joi_chn {vs : List Int} (hv : varsFrom 0 vs = true) : ∀ {n : Nat} {L : List Con}, n ≤ vs.length → L.all cOk = true → (∀ c ∈ cubV (vs.take n), cle c ∈ L) → chnR L (joiN vs n) ∧ (cle [] ∈ L ∨ cle [] ∈ joiN vs n)
  | 0, L, _, _, h => ⟨trivial, .inl (h [] (by simp [cubV]))⟩
  | n + 1, L, hn, hl, h => by
    have hr := varsFrom_all hv (vs.getD n default) (qju (by omega))
    have hvo : varOf (vs.getD n default) = vs.getD n default := by unfold varOf; omega
    have hlit : litOk (vs.getD n default) = true := litOk_iff.2 (by omega)
    have hcs : ∀ c ∈ cubV (vs.take n), asc (c ++ [vs.getD n default]) ∧ cle (c ++ [vs.getD n default]) ∈ L ∧ cle (c ++ [-(vs.getD n default)]) ∈ L := fun c hc => by
      have h2 := cub_next (vs := vs) (k := n) (by omega)
      have m1 : c ++ [vs.getD n default] ∈ cubV (vs.take (n + 1)) := by rw [h2]; exact cub1_mem.2 ⟨c, hc, .inl rfl⟩
      have m2 : c ++ [-(vs.getD n default)] ∈ cubV (vs.take (n + 1)) := by rw [h2]; exact cub1_mem.2 ⟨c, hc, .inr rfl⟩
      exact ⟨(cub_asc hv hn _ m1).1, h _ m1, h _ m2⟩
    have hall : ((cubV (vs.take n)).map cle).all cOk = true := List.all_eq_true.2 fun K hK => by
      obtain ⟨c, hc, rfl⟩ := List.mem_map.1 hK
      exact cle_ok (asc_last (hcs c hc).1).1
    have h3 := chnR_of (L := L) hall (fun k hk => by
      have hk' : k < (cubV (vs.take n)).length := by simpa using hk
      rw [show ((cubV (vs.take n)).map cle).getD k default = cle ((cubV (vs.take n)).getD k default) from mapD_at hk']
      obtain ⟨c1, c2, c3⟩ := hcs _ (qju (d := default) hk')
      refine rup_both c1 ?_ (List.mem_append_left _ c2) (List.mem_append_left _ c3)
      rw [List.all_append, hl, Bool.true_and]
      exact List.all_eq_true.2 fun K hK => List.all_eq_true.1 hall K (List.mem_of_mem_take hK)) _ (Nat.le_refl _)
    rw [List.take_length] at h3
    have h4 := joi_chn hv (n := n) (L := L ++ (cubV (vs.take n)).map cle) (by omega) (by rw [List.all_append, hl, hall]; rfl) (fun c hc => List.mem_append_right _ (List.mem_map.2 ⟨c, hc, rfl⟩))
    refine ⟨by rw [joiN, chnR_app]; exact ⟨h3, h4.1⟩, ?_⟩
    rw [joiN]
    rcases h4.2 with q | q
    · rcases List.mem_append.1 q with q | q
      · exact .inl q
      · exact .inr (List.mem_append_left _ q)
    · exact .inr (List.mem_append_right _ q)
def scOk (l : List Con) (vs : List Int) (fu : Int) : Bool := (varsFrom 0 vs && decide (vs.length ≤ 4)) && (pOk l && (decide (0 ≤ fu ∧ fu ≤ 2000) && decide (l.length + vs.length ≤ 400)))
def scN (l : List Con) (fu : Int) : List (List Int) → Option (Int × List Bool)
  | [] => none
  | c :: r => if svC (cuL l c) fu = 2 then scN l fu r else some (svC (cuL l c) fu, svV (cuL l c) fu)
def scA (l : List Con) (vs : List Int) (fu : Int) : List Con := mrgA vs (prfV l vs fu)
def scR (l : List Con) (vs : List Int) (fu : Int) : Int × List Bool × List Con :=
  if scOk l vs fu then (match scN l fu (cubV vs) with | some x => (x.1, x.2, []) | none => if (scA l vs fu).length ≤ 1000 then (2, [], scA l vs fu) else (0, [], [])) else (3, [], [])
section
variable {l : List Con} {vs : List Int} {fu : Int}
theorem qzy (h : scOk l vs fu = true) : (varsFrom 0 vs = true ∧ vs.length ≤ 4) ∧ pOk l = true ∧ (0 ≤ fu ∧ fu ≤ 2000) ∧ l.length + vs.length ≤ 400 := by
  unfold scOk at h; simp only [Bool.and_eq_true, decide_eq_true_eq] at h; exact h
theorem sc_bad (h : scOk l vs fu = false) : scR l vs fu = (3, [], []) := by unfold scR; rw [if_neg (by rw [h]; decide)]
theorem scN_all : ∀ {cs : List (List Int)}, scN l fu cs = none → ∀ c ∈ cs, svC (cuL l c) fu = 2
  | [], _, c, hc => by cases hc
  | d :: cs, h, c, hc => by
    rw [scN] at h
    by_cases hd : svC (cuL l d) fu = 2
    · rw [if_pos hd] at h
      rcases List.mem_cons.1 hc with e | e
      · subst e; exact hd
      · exact scN_all h c e
    · rw [if_neg hd] at h; cases h
theorem scN_some : ∀ {cs : List (List Int)} {x : Int × List Bool}, scN l fu cs = some x → ∃ c ∈ cs, x = (svC (cuL l c) fu, svV (cuL l c) fu) ∧ svC (cuL l c) fu ≠ 2
  | [], _, h => by cases h
  | d :: cs, x, h => by
    rw [scN] at h
    by_cases hd : svC (cuL l d) fu = 2
    · rw [if_pos hd] at h
      obtain ⟨c, c1, c2⟩ := scN_some h
      exact ⟨c, by simp [c1], c2⟩
    · rw [if_neg hd] at h
      exact ⟨d, by simp, by injection h with h; exact h.symm, hd⟩
def scI (l : List Con) (vs : List Int) (fu : Int) (k : Nat) : Prop := k ≤ (cubV vs).length ∧ scN l fu (cubV vs) = scN l fu ((cubV vs).drop k)
theorem scI_0 : scI l vs fu 0 := ⟨Nat.zero_le _, rfl⟩
theorem scI_next {k : Nat} (h : scI l vs fu k) (hk : k < (cubV vs).length) (h2 : svC (cuL l ((cubV vs).getD k default)) fu = 2) : scI l vs fu (k + 1) := ⟨hk, by rw [h.2, qjz (d := default) hk, scN, if_pos h2]⟩
theorem sc_hit {k : Nat} (ho : scOk l vs fu = true) (h : scI l vs fu k) (hk : k < (cubV vs).length) (h2 : svC (cuL l ((cubV vs).getD k default)) fu ≠ 2) : scR l vs fu = (svC (cuL l ((cubV vs).getD k default)) fu, svV (cuL l ((cubV vs).getD k default)) fu, []) := by
  have : scN l fu (cubV vs) = some (svC (cuL l ((cubV vs).getD k default)) fu, svV (cuL l ((cubV vs).getD k default)) fu) := by rw [h.2, qjz (d := default) hk, scN, if_neg h2]
  unfold scR
  rw [if_pos ho, this]
theorem sc_none {k : Nat} (h : scI l vs fu k) (hk : (cubV vs).length ≤ k) : scN l fu (cubV vs) = none := by rw [h.2, List.drop_of_length_le hk]; rfl
theorem sc_end (ho : scOk l vs fu = true) (h : scN l fu (cubV vs) = none) : scR l vs fu = if (scA l vs fu).length ≤ 1000 then (2, [], scA l vs fu) else (0, [], []) := by
  unfold scR
  rw [if_pos ho, h]
theorem uni_holds {x : Int} {bs : List Bool} (h : litV bs x = true) : holdsV (uniC x) bs = true := by
  unfold holdsV uniC
  refine decide_eq_true ?_
  have : sumV [(1, x)] bs = 1 := by rw [sumV_F]; simp [sumF, h]
  rw [this]; exact Int.le_refl 1
theorem sc_uns (h : (scR l vs fu).1 = 2) : csV l = 0 ∧ crV l ((scR l vs fu).2.2.map rupS) = true := by
  have ho : scOk l vs fu = true := by
    cases hq : scOk l vs fu
    · rw [sc_bad hq] at h; cases h
    · rfl
  obtain ⟨⟨hv, _⟩, hp, _⟩ := qzy ho
  have hl := pOk_all hp
  have hn : scN l fu (cubV vs) = none := by
    cases hq : scN l fu (cubV vs) with
    | none => rfl
    | some x =>
      obtain ⟨c, _, e, h2⟩ := scN_some hq
      unfold scR at h
      rw [if_pos ho, hq, e] at h
      exact absurd h h2
  have hall : allU l vs fu := scN_all hn
  rw [sc_end ho hn] at h ⊢
  by_cases hlen : (scA l vs fu).length ≤ 1000
  · rw [if_pos hlen] at h ⊢
    refine ⟨?_, ?_⟩
    · unfold csV
      rw [if_pos hp]
      have : ¬ 0 < cntS l 4096 := fun q => by
        obtain ⟨n, _, h3⟩ := cntS_pos.1 q
        obtain ⟨c, hc, h4⟩ := cub_some hv (assn n) (Nat.le_refl vs.length)
        rw [List.take_length] at hc
        have h5 := sv_uns (hall c hc) (bs := assn n)
        have h6 : satV (cuL l c) (assn n) = true := by
          unfold cuL
          rw [satV_app, h3, Bool.true_and]
          refine satV_of fun K hK => ?_
          obtain ⟨x, hx, rfl⟩ := List.mem_map.1 hK
          exact uni_holds (h4 x hx)
        rw [h6] at h5; cases h5
      omega
    · obtain ⟨m1, m2⟩ := mrg_chn hl hv hall (Nat.le_refl _)
      have hall2 : (l ++ mrgN (cubV vs) (prfV l vs fu) (cubV vs).length).all cOk = true := by rw [List.all_append, hl, chnR_all m1]; rfl
      obtain ⟨j1, j2⟩ := joi_chn hv (n := vs.length) (L := l ++ mrgN (cubV vs) (prfV l vs fu) (cubV vs).length) (Nat.le_refl _) hall2 (fun c hc => by
        rw [List.take_length] at hc
        obtain ⟨i, hi, rfl⟩ := List.mem_iff_getElem.1 hc
        have := m2 i hi
        rw [List.getD_eq_getElem?_getD, List.getElem?_eq_getElem hi] at this
        exact List.mem_append_right _ this)
      refine (cr_rups hp hlen).2 ⟨?_, List.any_eq_true.2 ⟨cle [], ?_, cle_fal⟩⟩
      · unfold scA mrgA; rw [chnR_app]; exact ⟨m1, j1⟩
      · unfold scA mrgA
        rw [← List.append_assoc]
        rcases j2 with q | q
        · exact List.mem_append_left _ q
        · exact List.mem_append_right _ q
  · rw [if_neg hlen] at h; cases h
theorem sc_sat (h : (scR l vs fu).1 = 1) : saV l (scR l vs fu).2.1 = true := by
  have ho : scOk l vs fu = true := by
    cases hq : scOk l vs fu
    · rw [sc_bad hq] at h; cases h
    · rfl
  obtain ⟨_, hp, _⟩ := qzy ho
  cases hq : scN l fu (cubV vs) with
  | none =>
    rw [sc_end ho hq] at h
    split at h <;> cases h
  | some x =>
    obtain ⟨c, _, e, h2⟩ := scN_some hq
    have e2 : scR l vs fu = (x.1, x.2, []) := by unfold scR; rw [if_pos ho, hq]
    rw [e2] at h ⊢
    subst e
    have := sv_sat h
    have hs : satV l (svV (cuL l c) fu) = true := by
      have h3 := this.2
      unfold cuL at h3
      rw [satV_app, Bool.and_eq_true] at h3
      exact h3.1
    unfold saV
    rw [hp, decide_eq_true this.1]
    exact hs
theorem sv_non {l : List Con} {fu : Int} (h : svC l fu ≠ 1) : svV l fu = [] := by
  cases hq : svOk l fu
  · exact (sv_bad hq).2.1
  · have g := (sv_good hq).non
    rw [(sv_ok hq).2]
    rw [(sv_ok hq).1] at h
    exact g h
theorem sc_non (h1 : (scR l vs fu).1 ≠ 1) (h2 : (scR l vs fu).1 ≠ 2) : (scR l vs fu).2.1 = [] ∧ (scR l vs fu).2.2 = [] := by
  cases hb : scOk l vs fu
  · rw [sc_bad hb]; exact ⟨rfl, rfl⟩
  · cases hq : scN l fu (cubV vs) with
    | none =>
      rw [sc_end hb hq] at h2 ⊢
      split
      · rename_i h3; rw [if_pos h3] at h2; exact absurd rfl h2
      · exact ⟨rfl, rfl⟩
    | some x =>
      obtain ⟨c, _, e, _⟩ := scN_some hq
      have e2 : scR l vs fu = (x.1, x.2, []) := by unfold scR; rw [if_pos hb, hq]
      rw [e2] at h1 ⊢
      subst e
      exact ⟨sv_non h1, rfl⟩
end
end Go.Ab

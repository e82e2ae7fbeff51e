/- Walks. -/
import Derived.Test.YtoodaakcfelaaaaGreatBase2
import Derived.Test.YtoodaakcfelaaaaGreatCub3
import Derived.Test.YtoodaakcfelaaaaGreatWscub3
import Derived.Test.YtoodaakcfelaaaaGreatWssolve
import Derived.Test.YtoodaakcfelaaaaGreatWsrun8
import Derived.Test.YtoodaakcfelaaaaGreatWscp
import Derived.Test.YtoodaakcfelaaaaGreatWssrch
import Derived.Test.YtoodaakcfelaaaaGreatWsprob
namespace Go.Ab
open Go.Proofs
set_option maxRecDepth 100000
set_option maxHeartbeats 8000000
set_option linter.unusedSimpArgs false
set_option linter.unusedVariables false
theorem f_scImpl (l : List Con) (vs : List Int) (fu : Int) : Fn Tryz.prog 31 [.sl (l.map dC), .sl (vs.map dI), .p (.int .i64 (fu))] [] (fun rr ii nn => rr = .tup [.p (.int .i64 (scR l vs fu).1), .sl ((scR l vs fu).2.1.map dB), .sl (((scR l vs fu).2.2.map rupS).map dStp)] ∧ ii = [] ∧ nn = []) := by
 refine qjl Tryz.func31 rfl (nb rfl) fun w X g => ?_
 show AWp _ _ _ ⟨[(0, .sl (l.map dC)), (1, .sl (vs.map dI)), (2, .p (.int .i64 (fu)))], []⟩
 have HS := f_splitImpl vs
 refine rs (oa rfl (oa rfl (oa rfl (on (rs (om rfl ?_))))))
 refine qq0 (qqn (v := .tup [.sl _, .p _]) (hp1 := []) [] false [] ent81 HS ⟨.inl ⟨rfl, rfl⟩, trivial⟩ trivial rfl rfl (fun h => by cases h) rfl (fun _ h => by cases h) (.inl rfl) rfl rfl) ?_
 refine om rfl (qqa (qqt rfl rfl) (qqa (qqt rfl rfl) (oa rfl (oa rfl (on (qqf (rs (om rfl (qqa (qzk rfl) (om rfl (qqz 27 rfl (fun h1 => ?_) (fun h1 => ?_))))))))))))
 ·
  have h1r := h1
  try simp only [nq, nr, nl] at h1
  refine qqa (qqb rfl rfl h1r) (qqa (qqb rfl rfl h1r) (qqa (qqb rfl rfl h1r) (qqa (qqr rfl h1r (evo rfl)) (om rfl (qqa (qqb rfl rfl rfl) (qqa (qqb rfl rfl rfl) (qqa (qqb rfl rfl rfl) (qqa (qqr rfl rfl (evo rfl)) (om rfl ?_)))))))))
  try have hvl0 : vs.length ≤ 4 := sp_le (by assumption)
  refine qqa (qqb rfl rfl rfl) (qqa (qqb rfl rfl rfl) (qqa (qqb rfl rfl rfl) (qqa (qqb rfl rfl rfl) (qqa (qqb rfl rfl rfl) (qqa (qqb rfl rfl rfl) (qqa (qqr rfl rfl (evo rfl)) (on (a_tt rfl ?_))))))))
  refine rs (oa rfl (oa rfl (oa rfl (on (a_nil 7 rfl ?_)))))
  refine a_nil 8 rfl ?_
  refine qqx ?_
  have hb : scOk l vs fu = false := by
                                          cases hq : scOk l vs fu
                                          · rfl
                                          · exfalso
                                            obtain ⟨⟨q1, q2⟩, q3, q4, q5⟩ := qzy hq
                                            first | omega | (simp_all; done) | (simp_all; omega)
  exact ⟨[.p _, .sl _, .sl _], .tup [.p _, .sl _, .sl _], [], [], [], ⟨rfl, rfl, rfl, trivial⟩, rfl, rfl, trivial, rfl, rfl, ⟨by rw [sc_bad hb]; try rfl, rfl, rfl⟩⟩
 have h1r := h1
 try simp only [nq, nr, nl] at h1
 refine qqa (qqd rfl rfl h1r (qqj (evo rfl))) ?_
 refine qq0 (qqd rfl rfl h1r (qqn (v := .p _) (hp1 := []) [] false [] ent69 (f_pvImpl l) ⟨.inl ⟨rfl, rfl⟩, trivial⟩ trivial rfl rfl (fun h => by cases h) rfl (fun _ h => by cases h) (.inl rfl) rfl rfl)) ?_
 refine qqa (qqd rfl rfl h1r (qzk rfl)) (qqa (qqy rfl h1r (evo rfl)) (om rfl (qqz 32 rfl (fun h2 => ?_) (fun h2 => ?_))))
 ·
  have h2r := h2
  try simp only [nq, nr, nl] at h2
  refine qqa (qqb rfl rfl h2r) (qqa (qqb rfl rfl h2r) (qqa (qqb rfl rfl h2r) (qqa (qqr rfl h2r (evo rfl)) (om rfl ?_))))
  try have hvl0 : vs.length ≤ 4 := sp_le (by assumption)
  refine qqa (qqb rfl rfl rfl) (qqa (qqb rfl rfl rfl) (qqa (qqb rfl rfl rfl) (qqa (qqb rfl rfl rfl) (qqa (qqb rfl rfl rfl) (qqa (qqb rfl rfl rfl) (qqa (qqr rfl rfl (evo rfl)) (on (a_tt rfl ?_))))))))
  refine rs (oa rfl (oa rfl (oa rfl (on (a_nil 7 rfl ?_)))))
  refine a_nil 8 rfl ?_
  refine qqx ?_
  have hb : scOk l vs fu = false := by
                                          cases hq : scOk l vs fu
                                          · rfl
                                          · exfalso
                                            obtain ⟨⟨q1, q2⟩, q3, q4, q5⟩ := qzy hq
                                            first | omega | (simp_all; done) | (simp_all; omega)
  exact ⟨[.p _, .sl _, .sl _], .tup [.p _, .sl _, .sl _], [], [], [], ⟨rfl, rfl, rfl, trivial⟩, rfl, rfl, trivial, rfl, rfl, ⟨by rw [sc_bad hb]; try rfl, rfl, rfl⟩⟩
 have h2r := h2
 try simp only [nq, nr, nl] at h2
 refine qqa (qqd rfl rfl h2r (qqj (evo rfl))) ?_
 refine qq0 (qqd rfl rfl h2r (qqn (v := .p _) (hp1 := []) [] false [] ent73 (f_isFuel fu) ⟨.inl ⟨rfl, rfl⟩, trivial⟩ trivial rfl rfl (fun h => by cases h) rfl (fun _ h => by cases h) (.inl rfl) rfl rfl)) ?_
 refine qqa (qqd rfl rfl h2r (qzk rfl)) (qqa (qqy rfl h2r (evo rfl)) (om rfl ?_))
 try have hvl0 : vs.length ≤ 4 := sp_le (by assumption)
 refine qqz 37 rfl (fun h3 => ?_) (fun h3 => ?_)
 ·
  have h3r := h3
  try simp only [nq, nr, nl] at h3
  try have hvl0 : vs.length ≤ 4 := sp_le (by assumption)
  refine qqa (qqb rfl rfl h3r) (qqa (qqb rfl rfl h3r) (qqa (qqb rfl rfl h3r) (qqa (qqb rfl rfl h3r) (qqa (qqb rfl rfl h3r) (qqa (qqb rfl rfl h3r) (qqa (qqr rfl h3r (evo rfl)) (on (a_tt rfl ?_))))))))
  refine rs (oa rfl (oa rfl (oa rfl (on (a_nil 7 rfl ?_)))))
  refine a_nil 8 rfl ?_
  refine qqx ?_
  have hb : scOk l vs fu = false := by
                                          cases hq : scOk l vs fu
                                          · rfl
                                          · exfalso
                                            obtain ⟨⟨q1, q2⟩, q3, q4, q5⟩ := qzy hq
                                            first | omega | (simp_all; done) | (simp_all; omega)
  exact ⟨[.p _, .sl _, .sl _], .tup [.p _, .sl _, .sl _], [], [], [], ⟨rfl, rfl, rfl, trivial⟩, rfl, rfl, trivial, rfl, rfl, ⟨by rw [sc_bad hb]; try rfl, rfl, rfl⟩⟩
 have h3r := h3
 try simp only [nq, nr, nl] at h3
 try have hvl0 : vs.length ≤ 4 := sp_le (by assumption)
 refine qqa (qqd rfl rfl h3r (qqj (evo rfl))) (qqa (qqd rfl rfl h3r (qqw Tryz.underlying30 rfl)) (qqa (qqd rfl rfl h3r (qqj (evo rfl))) (qqa (qqd rfl rfl h3r (qqw Tryz.underlying23 rfl)) (qqa (qqd rfl rfl h3r (qzw rfl rfl zz zz)) (qqa (qqd rfl rfl h3r (j_gt rfl rfl)) (qqa (qqy rfl h3r (evo rfl)) (on (ac rfl (fun h4 => ?_) fun h4 => ?_))))))))
 ·
  have h4r := h4
  try simp only [nq, nr, nl] at h4
  refine rs (oa rfl (oa rfl (oa rfl (on (a_nil 7 rfl ?_)))))
  refine a_nil 8 rfl ?_
  refine qqx ?_
  have hb : scOk l vs fu = false := by
                                          cases hq : scOk l vs fu
                                          · rfl
                                          · exfalso
                                            obtain ⟨⟨q1, q2⟩, q3, q4, q5⟩ := qzy hq
                                            first | omega | (simp_all; done) | (simp_all; omega)
  exact ⟨[.p _, .sl _, .sl _], .tup [.p _, .sl _, .sl _], [], [], [], ⟨rfl, rfl, rfl, trivial⟩, rfl, rfl, trivial, rfl, rfl, ⟨by rw [sc_bad hb]; try rfl, rfl, rfl⟩⟩
 have h4r := h4
 try simp only [nq, nr, nl] at h4
 refine qqo (qqf ?_)
 have hok : scOk l vs fu = true := by unfold scOk; first | (simp_all; done) | (simp_all; omega)
 have hpt := qzy hok
 have hln := pOk_len hpt.2.1
 have hcl := cub_len hpt.1.2
 rw [if_pos (by rw [hpt.1.1, decide_eq_true hpt.1.2]; rfl)]
 refine ar (oa rfl (on (qj5 11 11 34 1 rfl fun v11 => ?_)))
 refine qqf (rs (om rfl (qqa (qqw Tryz.underlying107 rfl) (om rfl (on (qqk (qq4 (ι := Nat × Nat) (fun x => scI l vs fu x.1) (fun x r => (47, .p (.int .i64 ((x.1 : Nat)))) :: (11, .own 11 x.2) :: r) (fun x r => (11, some (x.2, .row 34 1 (((prfV l vs fu).take x.1).map dPr))) :: r) (fun x => (cubV vs).length - x.1) (fun _ _ => rfl) (fun _ _ => rfl) (0, v11) (by first | exact scI_0 | (dsimp only; exact scI_0)) ⟨⟨rfl, rfl⟩, ⟨rfl, rfl, trivial⟩, ⟨rfl, trivial⟩, ⟨rfl, rfl⟩, ⟨rfl, rfl⟩⟩ ?_)))))))
 rintro ⟨k, v⟩ hk; dsimp only at hk ⊢; have hk1 := hk.1
 refine rs (qqa (qzt rfl rfl) (on (qqf (ac rfl (fun h5 => ?_) fun h5 => ?_))))
 ·
  have h5r := h5
  try simp only [nq, nr, nl] at h5
  refine qqo (qqf (qqk (rs (qqa (qq9 (n := k) slt107 rfl rfl zz (qqq zz) rfl) (qqa (qq8 leaf23 rfl (qqq zz) rfl) (oa rfl (on (qqf ?_))))))))
  have hck := cub_ck hpt.1.1 hpt.1.2 (k := k) zz
  have hcl4 := hck.2
  refine ar (om rfl (om rfl ?_))
  refine qq0 (qqn (v := .tup [.sl _, .p _]) (hp1 := []) [] false [] ent82 (f_cubeProb l ((cubV vs).getD k default) hpt.2.1 hck.1 hck.2 (by have := cub_lenk hpt.1.1 (k := k) zz; omega)) ⟨.inl ⟨rfl, rfl⟩, .inl ⟨rfl, rfl⟩, trivial⟩ trivial rfl rfl (fun h => by cases h) rfl (fun _ h => by cases h) (.inl rfl) rfl rfl) ?_
  refine om rfl (qqa (qqt rfl rfl) (qqa (qqt rfl rfl) (oa rfl (oa rfl (on (rs (om rfl (om rfl ?_))))))))
  refine qq0 (qqn (v := .tup [.p _, .sl _, .sl _]) (hp1 := []) [] false [] ent74 (f_solveImpl (cuL l ((cubV vs).getD k default)) fu) ⟨.inl ⟨rfl, rfl⟩, .inl ⟨rfl, rfl⟩, trivial⟩ trivial rfl rfl (fun h => by cases h) rfl (fun _ h => by cases h) (.inl rfl) rfl rfl) ?_
  refine om rfl (qqa (qqt rfl rfl) (qqa (qqt rfl rfl) (qqa (qqt rfl rfl) (oa rfl (oa rfl (oa rfl (on (qqf (rs (om rfl (qqa (j_ne rfl rfl) (on (ac rfl (fun h6 => ?_) fun h6 => ?_)))))))))))))
  ·
   have h6r := h6
   try simp only [nq, nr, nl] at h6
   refine rs (om rfl (om rfl (oa rfl (oa rfl (oa rfl (on (a_nil 8 rfl ?_)))))))
   refine qqx ?_
   have hh := sc_hit hok hk zz (by assumption)
   exact ⟨[.p _, .sl _, .sl _], .tup [.p _, .sl _, .sl _], [], [], [], ⟨rfl, rfl, rfl, trivial⟩, rfl, rfl, trivial, rfl, rfl, ⟨by rw [hh]; try rfl, rfl, rfl⟩⟩
  have h6r := h6
  try simp only [nq, nr, nl] at h6
  refine qqo (ar (om rfl (om rfl (qqv (fun ver => qqh (parts := [(0, .tmp 69)]) (es := [[_]]) slt110 elt34 rfl rfl (by decide) (by decide) rfl rfl (by simp) rfl) fun v70x1 => ?_))))
  refine qqv (fun ver => qqs slt110 elt34 rfl rfl rfl rfl rfl rfl (by rw [qqu]; first | omega | (simp only [nr, nl]; omega)) zz) fun v11x2 => ?_
  refine oa rfl (on (ar (qqa (qjh rfl rfl zz zz) (om rfl (on ?_)))))
  exact ⟨(k + 1, v11x2), (by first | exact (scI_next hk zz (by assumption)) | (dsimp only; exact (scI_next hk zz (by assumption)))), ⟨⟨rfl, rfl⟩, ⟨rfl, rfl, trivial⟩, ⟨qj0 (by dsimp only; rw [prf_next zz, List.map_append, List.map_cons, List.map_nil, dPr_dSt]; rfl), trivial⟩, ⟨rfl, rfl⟩, ⟨rfl, rfl⟩⟩, (by first | exact zz | (dsimp only; exact zz))⟩
 have h5r := h5
 try simp only [nq, nr, nl] at h5
 refine qjf (qqf ?_)
 obtain rfl : k = (cubV vs).length := zz
 have hki := hk
 have hke : (cubV vs).length ≤ (cubV vs).length := Nat.le_refl _
 have hse := sc_end hok (sc_none hki hke)
 rw [List.take_of_length_le (show (prfV l vs fu).length ≤ (cubV vs).length by unfold prfV; rw [List.length_map]; exact Nat.le_refl _)]
 refine qjs 11 (noA _ _ _ _ _) rfl rfl ?_
 refine ar (om rfl (om rfl ?_))
 refine qq0 (qqn (v := .tup [.sl _, .p _]) (hp1 := []) [] false [] ent83 (f_mergeImpl vs (prfV l vs fu) hpt.1.1 hpt.1.2 (by unfold prfV; rw [List.length_map]) (fun k hk => prf_und hpt.1.1 (scN_all (sc_none hki hke)) hk)) ⟨.inl ⟨rfl, rfl⟩, .inl ⟨rfl, rfl⟩, trivial⟩ trivial rfl rfl (fun h => by cases h) rfl (fun _ h => by cases h) (.inl rfl) rfl rfl) ?_
 refine om rfl (qqa (qqt rfl rfl) (qqa (qqt rfl rfl) (oa rfl (oa rfl (on (qqf (rs (om rfl (qqa (qzk rfl) (on (ac rfl (fun h7 => ?_) fun h7 => ?_)))))))))))
 ·
  have h7r := h7
  try simp only [nq, nr, nl] at h7
  refine rs (oa rfl (oa rfl (oa rfl (on (a_nil 7 rfl ?_)))))
  refine a_nil 8 rfl ?_
  refine qqx ?_
  exact ⟨[.p _, .sl _, .sl _], .tup [.p _, .sl _, .sl _], [], [], [], ⟨rfl, rfl, rfl, trivial⟩, rfl, rfl, trivial, rfl, rfl, ⟨by rw [hse, if_neg (by unfold scA; simp_all)]; rfl, rfl, rfl⟩⟩
 have h7r := h7
 try simp only [nq, nr, nl] at h7
 refine qqo (rs (om rfl (oa rfl (oa rfl (oa rfl (on (a_nil 7 rfl ?_)))))))
 refine qqx ?_
 exact ⟨[.p _, .sl _, .sl _], .tup [.p _, .sl _, .sl _], [], [], [], ⟨rfl, rfl, rfl, trivial⟩, rfl, rfl, trivial, rfl, rfl, ⟨by have hg : (scA l vs fu).length ≤ 1000 := (by unfold scA; simp_all); have hg2 : (mrgA vs (prfV l vs fu)).length ≤ 1000 := hg; rw [hse, if_pos hg, if_pos hg2]; rfl, rfl, rfl⟩⟩
theorem f_scSpec (l : List Con) (vs : List Int) (fu : Int) : Fn Tryz.prog 32 [.sl (l.map dC), .sl (vs.map dI), .p (.int .i64 (fu))] [] (fun rr ii nn => rr = .tup [.p (.int .i64 (scR l vs fu).1), .sl ((scR l vs fu).2.1.map dB), .sl (((scR l vs fu).2.2.map rupS).map dStp)] ∧ ii = [] ∧ nn = []) := by
 refine qjl Tryz.func32 rfl (nb rfl) fun w X g => ?_
 show AWp _ _ _ ⟨[(0, .sl (l.map dC)), (1, .sl (vs.map dI)), (2, .p (.int .i64 (fu)))], []⟩
 refine rs (oa rfl (oa rfl (oa rfl (on (qqf (rs (om rfl ?_)))))))
 refine qq0 (qqn (v := .p _) (hp1 := []) [] false [] ent48 (f_pvSpec l) ⟨.inl ⟨rfl, rfl⟩, trivial⟩ trivial rfl rfl (fun h => by cases h) rfl (fun _ h => by cases h) (.inl rfl) rfl rfl) ?_
 refine qqa (qzk rfl) (om rfl (qqz 20 rfl (fun h1 => ?_) (fun h1 => ?_)))
 ·
  have h1r := h1
  try simp only [nq, nr, nl] at h1
  refine qqa (qqb rfl rfl h1r) (qqa (qqb rfl rfl h1r) (qqa (qqb rfl rfl h1r) (qqa (qqr rfl h1r (evo rfl)) (om rfl (qqa (qqb rfl rfl rfl) (qqa (qqb rfl rfl rfl) (qqa (qqr rfl rfl (evo rfl)) (om rfl (qqa (qqb rfl rfl rfl) (qqa (qqb rfl rfl rfl) (qqa (qqr rfl rfl (evo rfl)) (om rfl ?_))))))))))))
  try have hln0 := pOk_len (show pOk l = true by assumption)
  try have hvl0 : vs.length ≤ 4 := sp_le (by assumption)
  refine qqa (qqb rfl rfl rfl) (qqa (qqb rfl rfl rfl) (qqa (qqb rfl rfl rfl) (qqa (qqb rfl rfl rfl) (qqa (qqb rfl rfl rfl) (qqa (qqb rfl rfl rfl) (qqa (qqr rfl rfl (evo rfl)) (on (a_tt rfl ?_))))))))
  refine rs (qqv (fun ver => qzh qzm elt4 rfl rfl (by decide)) fun v41x1 => ?_)
  refine qqv (fun ver => qzh qxa qzs rfl rfl (by decide)) fun v42x2 => ?_
  refine oa rfl (oa rfl (oa rfl (on (qjs 7 (noA _ _ _ _ _) rfl rfl ?_))))
  refine qjs 8 (noA _ _ _ _ _) rfl rfl ?_
  refine qqx ?_
  have hb : scOk l vs fu = false := by
                                          cases hq : scOk l vs fu
                                          · rfl
                                          · exfalso
                                            obtain ⟨⟨q1, q2⟩, q3, q4, q5⟩ := qzy hq
                                            first | omega | (simp_all; done) | (simp_all; omega)
  exact ⟨[.p _, .sl _, .sl _], .tup [.p _, .sl _, .sl _], [], [], [], ⟨rfl, rfl, rfl, trivial⟩, rfl, rfl, trivial, rfl, rfl, ⟨by rw [sc_bad hb]; try rfl, rfl, rfl⟩⟩
 have h1r := h1
 try simp only [nq, nr, nl] at h1
 refine qqa (qqd rfl rfl h1r (qqj (evo rfl))) ?_
 refine qq0 (qqd rfl rfl h1r (qqn (v := .p _) (hp1 := []) [] false [] ent84 (f_l12Vars vs) ⟨.inl ⟨rfl, rfl⟩, trivial⟩ trivial rfl rfl (fun h => by cases h) rfl (fun _ h => by cases h) (.inl rfl) rfl rfl)) ?_
 refine qqa (qqd rfl rfl h1r (qzk rfl)) (qqa (qqy rfl h1r (evo rfl)) (om rfl (qqz 25 rfl (fun h2 => ?_) (fun h2 => ?_))))
 ·
  have h2r := h2
  try simp only [nq, nr, nl] at h2
  refine qqa (qqb rfl rfl h2r) (qqa (qqb rfl rfl h2r) (qqa (qqr rfl h2r (evo rfl)) (om rfl (qqa (qqb rfl rfl rfl) (qqa (qqb rfl rfl rfl) (qqa (qqr rfl rfl (evo rfl)) (om rfl ?_)))))))
  try have hln0 := pOk_len (show pOk l = true by assumption)
  try have hvl0 : vs.length ≤ 4 := sp_le (by assumption)
  refine qqa (qqb rfl rfl rfl) (qqa (qqb rfl rfl rfl) (qqa (qqb rfl rfl rfl) (qqa (qqb rfl rfl rfl) (qqa (qqb rfl rfl rfl) (qqa (qqb rfl rfl rfl) (qqa (qqr rfl rfl (evo rfl)) (on (a_tt rfl ?_))))))))
  refine rs (qqv (fun ver => qzh qzm elt4 rfl rfl (by decide)) fun v41x3 => ?_)
  refine qqv (fun ver => qzh qxa qzs rfl rfl (by decide)) fun v42x4 => ?_
  refine oa rfl (oa rfl (oa rfl (on (qjs 7 (noA _ _ _ _ _) rfl rfl ?_))))
  refine qjs 8 (noA _ _ _ _ _) rfl rfl ?_
  refine qqx ?_
  have hb : scOk l vs fu = false := by
                                          cases hq : scOk l vs fu
                                          · rfl
                                          · exfalso
                                            obtain ⟨⟨q1, q2⟩, q3, q4, q5⟩ := qzy hq
                                            first | omega | (simp_all; done) | (simp_all; omega)
  exact ⟨[.p _, .sl _, .sl _], .tup [.p _, .sl _, .sl _], [], [], [], ⟨rfl, rfl, rfl, trivial⟩, rfl, rfl, trivial, rfl, rfl, ⟨by rw [sc_bad hb]; try rfl, rfl, rfl⟩⟩
 have h2r := h2
 try simp only [nq, nr, nl] at h2
 refine qqa (qqd rfl rfl h2r (qqj (evo rfl))) (qqa (qqd rfl rfl h2r (qzt rfl rfl)) (qqa (qqy rfl h2r (evo rfl)) (om rfl (qqz 29 rfl (fun h3 => ?_) (fun h3 => ?_)))))
 ·
  have h3r := h3
  try simp only [nq, nr, nl] at h3
  refine qqa (qqb rfl rfl h3r) (qqa (qqb rfl rfl h3r) (qqa (qqr rfl h3r (evo rfl)) (om rfl ?_)))
  try have hln0 := pOk_len (show pOk l = true by assumption)
  try have hvl0 : vs.length ≤ 4 := sp_le (by assumption)
  refine qqa (qqb rfl rfl rfl) (qqa (qqb rfl rfl rfl) (qqa (qqb rfl rfl rfl) (qqa (qqb rfl rfl rfl) (qqa (qqb rfl rfl rfl) (qqa (qqb rfl rfl rfl) (qqa (qqr rfl rfl (evo rfl)) (on (a_tt rfl ?_))))))))
  refine rs (qqv (fun ver => qzh qzm elt4 rfl rfl (by decide)) fun v41x5 => ?_)
  refine qqv (fun ver => qzh qxa qzs rfl rfl (by decide)) fun v42x6 => ?_
  refine oa rfl (oa rfl (oa rfl (on (qjs 7 (noA _ _ _ _ _) rfl rfl ?_))))
  refine qjs 8 (noA _ _ _ _ _) rfl rfl ?_
  refine qqx ?_
  have hb : scOk l vs fu = false := by
                                          cases hq : scOk l vs fu
                                          · rfl
                                          · exfalso
                                            obtain ⟨⟨q1, q2⟩, q3, q4, q5⟩ := qzy hq
                                            first | omega | (simp_all; done) | (simp_all; omega)
  exact ⟨[.p _, .sl _, .sl _], .tup [.p _, .sl _, .sl _], [], [], [], ⟨rfl, rfl, rfl, trivial⟩, rfl, rfl, trivial, rfl, rfl, ⟨by rw [sc_bad hb]; try rfl, rfl, rfl⟩⟩
 have h3r := h3
 try simp only [nq, nr, nl] at h3
 refine qqa (qqd rfl rfl h3r (qqj (evo rfl))) (qqa (qqd rfl rfl h3r (j_gt rfl rfl)) (qqa (qqy rfl h3r (evo rfl)) (om rfl ?_)))
 try have hln0 := pOk_len (show pOk l = true by assumption)
 try have hvl0 : vs.length ≤ 4 := sp_le (by assumption)
 refine qqz 33 rfl (fun h4 => ?_) (fun h4 => ?_)
 ·
  have h4r := h4
  try simp only [nq, nr, nl] at h4
  try have hln0 := pOk_len (show pOk l = true by assumption)
  try have hvl0 : vs.length ≤ 4 := sp_le (by assumption)
  refine qqa (qqb rfl rfl h4r) (qqa (qqb rfl rfl h4r) (qqa (qqb rfl rfl h4r) (qqa (qqb rfl rfl h4r) (qqa (qqb rfl rfl h4r) (qqa (qqb rfl rfl h4r) (qqa (qqr rfl h4r (evo rfl)) (on (a_tt rfl ?_))))))))
  refine rs (qqv (fun ver => qzh qzm elt4 rfl rfl (by decide)) fun v41x7 => ?_)
  refine qqv (fun ver => qzh qxa qzs rfl rfl (by decide)) fun v42x8 => ?_
  refine oa rfl (oa rfl (oa rfl (on (qjs 7 (noA _ _ _ _ _) rfl rfl ?_))))
  refine qjs 8 (noA _ _ _ _ _) rfl rfl ?_
  refine qqx ?_
  have hb : scOk l vs fu = false := by
                                          cases hq : scOk l vs fu
                                          · rfl
                                          · exfalso
                                            obtain ⟨⟨q1, q2⟩, q3, q4, q5⟩ := qzy hq
                                            first | omega | (simp_all; done) | (simp_all; omega)
  exact ⟨[.p _, .sl _, .sl _], .tup [.p _, .sl _, .sl _], [], [], [], ⟨rfl, rfl, rfl, trivial⟩, rfl, rfl, trivial, rfl, rfl, ⟨by rw [sc_bad hb]; try rfl, rfl, rfl⟩⟩
 have h4r := h4
 try simp only [nq, nr, nl] at h4
 try have hln0 := pOk_len (show pOk l = true by assumption)
 try have hvl0 : vs.length ≤ 4 := sp_le (by assumption)
 refine qqa (qqd rfl rfl h4r (qqj (evo rfl))) (qqa (qqd rfl rfl h4r (qqw Tryz.underlying30 rfl)) (qqa (qqd rfl rfl h4r (qqj (evo rfl))) (qqa (qqd rfl rfl h4r (qqw Tryz.underlying23 rfl)) (qqa (qqd rfl rfl h4r (qjh rfl rfl zz zz)) (qqa (qqd rfl rfl h4r (j_gt rfl rfl)) (qqa (qqy rfl h4r (evo rfl)) (on (ac rfl (fun h5 => ?_) fun h5 => ?_))))))))
 ·
  have h5r := h5
  try simp only [nq, nr, nl] at h5
  refine rs (qqv (fun ver => qzh qzm elt4 rfl rfl (by decide)) fun v41x9 => ?_)
  refine qqv (fun ver => qzh qxa qzs rfl rfl (by decide)) fun v42x10 => ?_
  refine oa rfl (oa rfl (oa rfl (on (qjs 7 (noA _ _ _ _ _) rfl rfl ?_))))
  refine qjs 8 (noA _ _ _ _ _) rfl rfl ?_
  refine qqx ?_
  have hb : scOk l vs fu = false := by
                                          cases hq : scOk l vs fu
                                          · rfl
                                          · exfalso
                                            obtain ⟨⟨q1, q2⟩, q3, q4, q5⟩ := qzy hq
                                            first | omega | (simp_all; done) | (simp_all; omega)
  exact ⟨[.p _, .sl _, .sl _], .tup [.p _, .sl _, .sl _], [], [], [], ⟨rfl, rfl, rfl, trivial⟩, rfl, rfl, trivial, rfl, rfl, ⟨by rw [sc_bad hb]; try rfl, rfl, rfl⟩⟩
 have h5r := h5
 try simp only [nq, nr, nl] at h5
 refine qqo (qqf ?_)
 have hok : scOk l vs fu = true := by unfold scOk; first | (simp_all; done) | (simp_all; omega)
 have hpt := qzy hok
 have hln := pOk_len hpt.2.1
 have hcl := cub_len hpt.1.2
 refine ar (om rfl ?_)
 refine qq0 (qqn (v := .sl _) (hp1 := []) [] false [] ent85 (f_cubSpec vs hpt.1.1 hpt.1.2) ⟨.inl ⟨rfl, rfl⟩, trivial⟩ trivial rfl rfl (fun h => by cases h) rfl (fun _ h => by cases h) (.inl rfl) rfl rfl) ?_
 refine oa rfl (on (rs (qqv (fun ver => qzh slt110 elt34 rfl rfl (by decide)) fun v45x11 => ?_)))
 refine oa rfl (on (qqf (rs (oa rfl (on (qqk (qq4 (ι := Nat × Nat) (fun x => scI l vs fu x.1) (fun x r => (11, .p (.int .i64 ((x.1 : Nat)))) :: (10, .own 45 x.2) :: r) (fun x r => (45, some (x.2, .row 34 1 (((prfV l vs fu).take x.1).map dPr))) :: r) (fun x => (cubV vs).length - x.1) (fun _ _ => rfl) (fun _ _ => rfl) (0, v45x11) (by first | exact scI_0 | (dsimp only; exact scI_0)) ⟨⟨rfl, rfl⟩, ⟨rfl, rfl, trivial⟩, ⟨rfl, trivial⟩, ⟨rfl, rfl⟩, ⟨rfl, rfl⟩⟩ ?_)))))))
 rintro ⟨k, v⟩ hk; dsimp only at hk ⊢; have hk1 := hk.1
 refine qqf (rs (om rfl (om rfl (qqa (qqw Tryz.underlying107 rfl) (qqa (qzt rfl rfl) (on (ac rfl (fun h6 => ?_) fun h6 => ?_)))))))
 ·
  have h6r := h6
  try simp only [nq, nr, nl] at h6
  refine qqo (qqf (qqk (qqf ?_)))
  have hck := cub_ck hpt.1.1 hpt.1.2 (k := k) zz
  have hcl4 := hck.2
  refine ar (om rfl (om rfl (om rfl (qqa (qq9 (n := k) slt107 rfl rfl zz (qqq zz) rfl) (qqa (qq8 leaf23 rfl (qqq zz) rfl) ?_)))))
  refine qq0 (qqn (v := .sl _) (hp1 := []) [] false [] ent86 (f_l12Under l ((cubV vs).getD k default) hpt.2.1 hck.1 hck.2) ⟨.inl ⟨rfl, rfl⟩, .inl ⟨rfl, rfl⟩, trivial⟩ trivial rfl rfl (fun h => by cases h) rfl (fun _ h => by cases h) (.inl rfl) rfl rfl) ?_
  refine om rfl ?_
  refine qq0 (qqn (v := .tup [.p _, .sl _, .sl _]) (hp1 := []) [] false [] ent75 (f_solveSpec (cuL l ((cubV vs).getD k default)) fu) ⟨.inl ⟨rfl, rfl⟩, .inl ⟨rfl, rfl⟩, trivial⟩ trivial rfl rfl (fun h => by cases h) rfl (fun _ h => by cases h) (.inl rfl) rfl rfl) ?_
  refine om rfl (qqa (qqt rfl rfl) (qqa (qqt rfl rfl) (qqa (qqt rfl rfl) (oa rfl (oa rfl (oa rfl (on (qqf (rs (om rfl (qqa (j_ne rfl rfl) (on (ac rfl (fun h7 => ?_) fun h7 => ?_)))))))))))))
  ·
   have h7r := h7
   try simp only [nq, nr, nl] at h7
   refine rs (om rfl (om rfl (qqv (fun ver => qzh qxa qzs rfl rfl (by decide)) fun v68x12 => ?_)))
   refine oa rfl (oa rfl (oa rfl (on (qjs 8 (noA _ _ _ _ _) rfl rfl ?_))))
   refine qqx ?_
   have hh := sc_hit hok hk zz (by assumption)
   exact ⟨[.p _, .sl _, .sl _], .tup [.p _, .sl _, .sl _], [], [], [], ⟨rfl, rfl, rfl, trivial⟩, rfl, rfl, trivial, rfl, rfl, ⟨by rw [hh]; try rfl, rfl, rfl⟩⟩
  have h7r := h7
  try simp only [nq, nr, nl] at h7
  refine qqo (ar (om rfl (om rfl (qqv (fun ver => qqh (parts := [(0, .tmp 70)]) (es := [[_]]) slt110 elt34 rfl rfl (by decide) (by decide) rfl rfl (by simp) rfl) fun v71x13 => ?_))))
  refine qqv (fun ver => qqs slt110 elt34 rfl rfl rfl rfl rfl rfl (by rw [qqu]; first | omega | (simp only [nr, nl]; omega)) zz) fun v45x14 => ?_
  refine oa rfl (on (ar (om rfl (qqa (qjh rfl rfl zz zz) (oa rfl (on ?_))))))
  exact ⟨(k + 1, v45x14), (by first | exact (scI_next hk zz (by assumption)) | (dsimp only; exact (scI_next hk zz (by assumption)))), ⟨⟨rfl, rfl⟩, ⟨rfl, rfl, trivial⟩, ⟨qj0 (by dsimp only; rw [prf_next zz, List.map_append, List.map_cons, List.map_nil, dPr_dSt]; rfl), trivial⟩, ⟨rfl, rfl⟩, ⟨rfl, rfl⟩⟩, (by first | exact zz | (dsimp only; exact zz))⟩
 have h6r := h6
 try simp only [nq, nr, nl] at h6
 refine qjf (qqf ?_)
 obtain rfl : k = (cubV vs).length := zz
 have hki := hk
 have hke : (cubV vs).length ≤ (cubV vs).length := Nat.le_refl _
 have hse := sc_end hok (sc_none hki hke)
 rw [List.take_of_length_le (show (prfV l vs fu).length ≤ (cubV vs).length by unfold prfV; rw [List.length_map]; exact Nat.le_refl _)]
 refine qjs 10 (noA _ _ _ _ _) rfl rfl ?_
 refine ar (om rfl (om rfl ?_))
 refine qq0 (qqn (v := .tup [.sl _, .p _]) (hp1 := []) [] false [] ent87 (f_mergeSpec vs (prfV l vs fu) hpt.1.1 hpt.1.2 (by unfold prfV; rw [List.length_map]) (fun k hk => prf_und hpt.1.1 (scN_all (sc_none hki hke)) hk)) ⟨.inl ⟨rfl, rfl⟩, .inl ⟨rfl, rfl⟩, trivial⟩ trivial rfl rfl (fun h => by cases h) rfl (fun _ h => by cases h) (.inl rfl) rfl rfl) ?_
 refine om rfl (qqa (qqt rfl rfl) (qqa (qqt rfl rfl) (oa rfl (oa rfl (on (qqf (rs (om rfl (qqa (qzk rfl) (on (ac rfl (fun h8 => ?_) fun h8 => ?_)))))))))))
 ·
  have h8r := h8
  try simp only [nq, nr, nl] at h8
  refine rs (qqv (fun ver => qzh qzm elt4 rfl rfl (by decide)) fun v81x15 => ?_)
  refine qqv (fun ver => qzh qxa qzs rfl rfl (by decide)) fun v82x16 => ?_
  refine oa rfl (oa rfl (oa rfl (on (qjs 7 (noA _ _ _ _ _) rfl rfl ?_))))
  refine qjs 8 (noA _ _ _ _ _) rfl rfl ?_
  refine qqx ?_
  exact ⟨[.p _, .sl _, .sl _], .tup [.p _, .sl _, .sl _], [], [], [], ⟨rfl, rfl, rfl, trivial⟩, rfl, rfl, trivial, rfl, rfl, ⟨by rw [hse, if_neg (by unfold scA; simp_all)]; rfl, rfl, rfl⟩⟩
 have h8r := h8
 try simp only [nq, nr, nl] at h8
 refine qqo (rs (qqv (fun ver => qzh qzm elt4 rfl rfl (by decide)) fun v83x17 => ?_))
 refine om rfl (oa rfl (oa rfl (oa rfl (on (qjs 7 (noA _ _ _ _ _) rfl rfl ?_)))))
 refine qqx ?_
 exact ⟨[.p _, .sl _, .sl _], .tup [.p _, .sl _, .sl _], [], [], [], ⟨rfl, rfl, rfl, trivial⟩, rfl, rfl, trivial, rfl, rfl, ⟨by have hg : (scA l vs fu).length ≤ 1000 := (by unfold scA; simp_all); have hg2 : (mrgA vs (prfV l vs fu)).length ≤ 1000 := hg; rw [hse, if_pos hg, if_pos hg2]; rfl, rfl, rfl⟩⟩
end Go.Ab

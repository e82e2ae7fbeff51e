/- Walks. -/
import Derived.Test.YtoodaakcfelaaaaGreatBase2
import Derived.Test.YtoodaakcfelaaaaGreatCub3
import Derived.Test.YtoodaakcfelaaaaGreatWscub
import Derived.Test.YtoodaakcfelaaaaGreatWssrch
namespace Go.Ab
open Go.Proofs
set_option maxRecDepth 100000
set_option maxHeartbeats 8000000
set_option linter.unusedSimpArgs false
set_option linter.unusedVariables false
theorem zay1 {p : Prop} (h : p := by first | omega | (simp only [nr, nl, qjc, qjr]; omega)) : p := h
theorem f_liftImpl (c : List Int) (K : Con) (h : under c K) (hc : asc c) (hc4 : c.length ≤ 4) : Fn Tryz.prog 141 [.agg [.p (.int .i64 7), .p (.int .i64 0), .p (.int .i64 0), .sl (K.1.map dT), .p (.int .i64 K.2)], .sl (c.map dI)] [] (fun rr ii nn => rr = .tup [.agg [.p (.int .i64 7), .p (.int .i64 0), .p (.int .i64 0), .sl ((lifC c K).1.map dT), .p (.int .i64 (lifC c K).2)], .p (.bool true)] ∧ ii = [] ∧ nn = []) := by
 refine qjl Tryz.func141 rfl (nb rfl) fun w X g => ?_
 show AWp _ _ _ ⟨[(0, .agg [.p (.int .i64 7), .p (.int .i64 0), .p (.int .i64 0), .sl (K.1.map dT), .p (.int .i64 K.2)]), (1, .sl (c.map dI))], []⟩
 have hk := und_ok h
 have hk2 := und_b h
 have hap := und_apt h
 have hal := apt_len hap
 rw [List.length_append, qjc, qjr] at hal
 refine rs (qqv (fun ver => qzg rfl) fun v2x1 => ?_)
 refine qqv (fun ver => qjd qzs rfl) fun v4x2 => ?_
 refine oa rfl (on (qqf (rs (qqa (qqi fld89f0 rfl rfl) (qqa (qqc qq6 rfl rfl rfl) (qqa (j_ne rfl rfl) (om rfl (qqz 14 rfl (fun h1 => ?_) (fun h1 => ?_)))))))))
 ·
  have h1r := h1
  try simp only [nq, nr, nl, qjc, qjr] at h1
  exact absurd h1r (by decide)
 have h1r := h1
 try simp only [nq, nr, nl, qjc, qjr] at h1
 refine qqa (qqd rfl rfl h1r (qqi fld89f1 rfl rfl)) (qqa (qqd rfl rfl h1r (qqc qq6 rfl rfl rfl)) (qqa (qqd rfl rfl h1r (j_ne rfl rfl)) (qqa (qqy rfl h1r (evo rfl)) (om rfl (qqz 19 rfl (fun h2 => ?_) (fun h2 => ?_))))))
 ·
  have h2r := h2
  try simp only [nq, nr, nl, qjc, qjr] at h2
  exact absurd h2r (by decide)
 have h2r := h2
 try simp only [nq, nr, nl, qjc, qjr] at h2
 refine qqa (qqd rfl rfl h2r (qqi fld89f2 rfl rfl)) (qqa (qqd rfl rfl h2r (qqc qq6 rfl rfl rfl)) (qqa (qqd rfl rfl h2r (j_ne rfl rfl)) (qqa (qqy rfl h2r (evo rfl)) (om rfl (qqz 24 rfl (fun h3 => ?_) (fun h3 => ?_))))))
 ·
  have h3r := h3
  try simp only [nq, nr, nl, qjc, qjr] at h3
  exact absurd h3r (by decide)
 have h3r := h3
 try simp only [nq, nr, nl, qjc, qjr] at h3
 refine qqa (qqd rfl rfl h3r (qqi qz9 rfl rfl)) (qqa (qqd rfl rfl h3r (qqg (ys := [.sl _, .p _]) qq7 rfl rfl rfl (nb rfl))) ?_)
 refine qq0 (qqd rfl rfl h3r (qqn (v := .p _) (hp1 := []) [] false [] ent115 (f_cvImpl K) ⟨.inl ⟨rfl, rfl⟩, trivial⟩ trivial rfl rfl (fun h => by cases h) rfl (fun _ h => by cases h) (.inl rfl) rfl rfl)) ?_
 refine qqa (qqd rfl rfl h3r (qzk rfl)) (qqa (qqy rfl h3r (evo rfl)) (om rfl (qqz 30 rfl (fun h4 => ?_) (fun h4 => ?_))))
 ·
  have h4r := h4
  try simp only [nq, nr, nl, qjc, qjr] at h4
  exact absurd h4r (by rw [hk]; decide)
 have h4r := h4
 try simp only [nq, nr, nl, qjc, qjr] at h4
 refine qqa (qqd rfl rfl h4r (qqi qz9 rfl rfl)) (qqa (qqd rfl rfl h4r (qqi qzi rfl rfl)) (qqa (qqd rfl rfl h4r (qqc qq6 rfl rfl rfl)) (qqa (qqd rfl rfl h4r (j_ne rfl rfl)) (qqa (qqy rfl h4r (evo rfl)) (om rfl (qqz 36 rfl (fun h5 => ?_) (fun h5 => ?_)))))))
 ·
  have h5r := h5
  try simp only [nq, nr, nl, qjc, qjr] at h5
  exact absurd h5r (by rw [hk2]; decide)
 have h5r := h5
 try simp only [nq, nr, nl, qjc, qjr] at h5
 refine qqa (qqd rfl rfl h5r (qqj (evo rfl))) ?_
 refine qq0 (qqd rfl rfl h5r (qqn (v := .p _) (hp1 := []) [] false [] ent139 (f_isCube c hc hc4) ⟨.inl ⟨rfl, rfl⟩, trivial⟩ trivial rfl rfl (fun h => by cases h) rfl (fun _ h => by cases h) (.inl rfl) rfl rfl)) ?_
 refine qqa (qqd rfl rfl h5r (qzk rfl)) (qqa (qqy rfl h5r (evo rfl)) (on (ac rfl (fun h6 => ?_) fun h6 => ?_)))
 ·
  have h6r := h6
  try simp only [nq, nr, nl, qjc, qjr] at h6
  exact absurd h6r (by decide)
 have h6r := h6
 try simp only [nq, nr, nl, qjc, qjr] at h6
 refine qqo (rs (om rfl ?_))
 refine qz0 (fun ver => qza (v := .own 43 ver) (hp1 := [(43, some (ver, .row 3 1 _))]) [] false [] ent142 (f_negsImpl c (by omega) (asc_lit hc)) ⟨.inl ⟨rfl, rfl⟩, trivial⟩ trivial rfl rfl rfl (fun h => by cases h) rfl (List.all_eq_true.1 rfl) (.inl rfl) rfl rfl) fun v43x3 => ?_
 refine oa rfl (on (qqf (rs (qqa (qqi qz9 rfl rfl) (qqa (qqi qjn rfl rfl) (qqa (qqc qjv rfl rfl rfl) (qqa (qqw Tryz.underlying67 rfl) (om rfl (on (qqk (qq4 (ι := Nat × Nat) (fun x => x.1 ≤ K.1.length) (fun x r => (48, .p (.int .i64 ((x.1 : Nat)))) :: (6, .own 43 x.2) :: r) (fun x r => (43, some (x.2, .row 3 1 ((negL c ++ (litsC K).take x.1).map dI))) :: r) (fun x => K.1.length - x.1) (fun _ _ => rfl) (fun _ _ => rfl) (0, v43x3) (by first | exact (Nat.zero_le _) | (dsimp only; exact (Nat.zero_le _))) ⟨⟨rfl, rfl⟩, ⟨rfl, rfl, trivial⟩, ⟨qj0 (by rw [List.take_zero, List.append_nil]), trivial⟩, ⟨rfl, rfl⟩, ⟨rfl, rfl⟩⟩ ?_)))))))))))
 rintro ⟨k, v⟩ hk; dsimp only at hk ⊢
 refine rs (qqa (qzt rfl rfl) (on (qqf (ac rfl (fun h7 => ?_) fun h7 => ?_))))
 ·
  have h7r := h7
  try simp only [nq, nr, nl, qjc, qjr] at h7
  refine qqo (qqf (qqk (rs (qqa (qq9 (n := k) qzc rfl rfl zay1 (qqq zay1) rfl) (qqa (qjw (ys := [.p _, .p _]) qz7 rfl (qqq zay1) rfl (Nat.le_refl _)) (qqv (fun ver => qjd qjx rfl) fun v8x4 => ?_))))))
  refine qjg (qqe qz7 rfl rfl rfl rfl rfl rfl) ?_
  refine on (qqf (qqf ?_))
  have hone := und_one h (k := k) zay1
  refine ar (qqa (qqi qzp rfl rfl) (qqa (qqc qq6 rfl rfl rfl) (qqa (j_ne rfl rfl) (on (ac rfl (fun h8 => ?_) fun h8 => ?_)))))
  ·
   have h8r := h8
   try simp only [nq, nr, nl, qjc, qjr] at h8
   exact absurd h8r (by rw [hone]; decide)
  have h8r := h8
  try simp only [nq, nr, nl, qjc, qjr] at h8
  refine qqo (ar (om rfl (qqa (qqi qzl rfl rfl) (qqa (qqc qq6 rfl rfl rfl) (qqv (fun ver => qqh (parts := [(0, .tmp 58)]) (es := [[_]]) qjb elt3 rfl rfl (by decide) (by decide) rfl rfl (by simp) rfl) fun v59x5 => ?_)))))
  refine qqv (fun ver => qqs qjb elt3 rfl rfl rfl rfl rfl rfl (by rw [qqu]; first | omega | (simp only [nr, nl, qjc, qjr]; omega)) zay1) fun v43x6 => ?_
  refine oa rfl (on (ar (qqa (qjh rfl rfl zay1 zay1) (om rfl (on ?_)))))
  exact ⟨(k + 1, v43x6), (by first | exact zay1 | (dsimp only; exact zay1)), ⟨⟨rfl, rfl⟩, ⟨rfl, rfl, trivial⟩, ⟨qj0 (by dsimp only; rw [litsC_next zay1, ← List.append_assoc]; simp only [List.map_append]; rfl), trivial⟩, ⟨rfl, rfl⟩, ⟨rfl, rfl⟩⟩, (by first | exact zay1 | (dsimp only; exact zay1))⟩
 have h7r := h7
 try simp only [nq, nr, nl, qjc, qjr] at h7
 refine qjf (qqf (a_row 43 (es' := (negL c ++ litsC K).map dI) rfl (by rw [List.take_of_length_le (by rw [qjr]; omega)]) ?_))
 refine qjs 6 (noA _ _ _ _ _) rfl rfl ?_
 refine ar (om rfl ?_)
 refine qq0 (qqn (v := .tup [.agg [.sl _, .p _], .p _]) (hp1 := []) [] false [] ent42 (f_clauseImplP (negL c ++ litsC K) hap) ⟨.inl ⟨rfl, rfl⟩, trivial⟩ trivial rfl rfl (fun h => by cases h) rfl (fun _ h => by cases h) (.inl rfl) rfl rfl) ?_
 refine om rfl (qqa (qqt rfl rfl) (qqa (qqt rfl rfl) (qqv (fun ver => qjd qjm rfl) fun v9x7 => ?_)))
 refine qjg (qqe qq7 rfl rfl rfl rfl rfl rfl) ?_
 refine oa rfl (on (qqf (rs (om rfl (qqa (qzk rfl) (on (ac rfl (fun h9 => ?_) fun h9 => ?_)))))))
 ·
  have h9r := h9
  try simp only [nq, nr, nl, qjc, qjr] at h9
  exact absurd h9r (by decide)
 have h9r := h9
 try simp only [nq, nr, nl, qjc, qjr] at h9
 refine qqo (rs (qqa (qqg (ys := [.sl _, .p _]) qq7 rfl rfl rfl (nb rfl)) (qqa (qjp (parts := [(0, .const (.int .i64 7)), (3, .tmp 70)]) str89 qzs rfl rfl) ?_)))
 refine qjg (qqe agg89 rfl rfl rfl rfl rfl rfl) ?_
 refine oa rfl (on (qqx ?_))
 exact ⟨[.agg [.p _, .p _, .p _, .sl _, .p _], .p _], .tup [.agg [.p _, .p _, .p _, .sl _, .p _], .p _], [], [], [], ⟨⟨_, _, _, _, rfl, rfl, agg89, rfl⟩, rfl, trivial⟩, rfl, rfl, trivial, rfl, rfl, ⟨rfl, rfl, rfl⟩⟩
theorem f_mergeImpl (vs : List Int) (Ps : List (List Con)) (hv : varsFrom 0 vs = true) (hvl : vs.length ≤ 4) (hpl : Ps.length = (cubV vs).length) (hu : ∀ k, k < (cubV vs).length → (Ps.getD k default).length ≤ 1000 ∧ ∀ K ∈ (Ps.getD k default), under ((cubV vs).getD k default) K) : Fn Tryz.prog 83 [.sl (vs.map dI), .sl (Ps.map dPr)] [] (fun rr ii nn => rr = .tup [.sl (((if (mrgA vs Ps).length ≤ 1000 then (mrgA vs Ps) else []).map rupS).map dStp), .p (.bool (decide ((mrgA vs Ps).length ≤ 1000)))] ∧ ii = [] ∧ nn = []) := by
 refine qjl Tryz.func83 rfl (nb rfl) fun w X g => ?_
 show AWp _ _ _ ⟨[(0, .sl (vs.map dI)), (1, .sl (Ps.map dPr))], []⟩
 have hok : (varsFrom 0 vs && decide (vs.length ≤ 4)) = true := by rw [hv, decide_eq_true hvl]; rfl
 have hcl := cub_len hvl
 have HS := f_splitImpl vs
 rw [hok] at HS
 refine rs (oa rfl (oa rfl (on (rs (om rfl ?_)))))
 refine qq0 (qqn (v := .tup [.sl _, .p _]) (hp1 := []) [] false [] ent81 HS ⟨.inl ⟨rfl, rfl⟩, trivial⟩ trivial rfl rfl (fun h => by cases h) rfl (fun _ h => by cases h) (.inl rfl) rfl rfl) ?_
 refine om rfl (qqa (qqt rfl rfl) (qqa (qqt rfl rfl) (oa rfl (oa rfl (on (qqf (rs (om rfl (qqa (qzk rfl) (om rfl (qqz 27 rfl (fun h1 => ?_) (fun h1 => ?_))))))))))))
 ·
  have h1r := h1
  try simp only [nq, nr, nl] at h1
  exact absurd h1r (by decide)
 have h1r := h1
 try simp only [nq, nr, nl] at h1
 refine qqa (qqd rfl rfl h1r (qqj (evo rfl))) (qqa (qqd rfl rfl h1r (qqw Tryz.underlying110 rfl)) (qqa (qqd rfl rfl h1r (qqj (evo rfl))) (qqa (qqd rfl rfl h1r (qqw Tryz.underlying107 rfl)) (qqa (qqd rfl rfl h1r (j_ne rfl rfl)) (qqa (qqy rfl h1r (evo rfl)) (on (ac rfl (fun h2 => ?_) fun h2 => ?_)))))))
 ·
  have h2r := h2
  try simp only [nq, nr, nl] at h2
  exact absurd h2r (by first | (simp; omega) | (simp_all; done))
 have h2r := h2
 try simp only [nq, nr, nl] at h2
 refine qqo (rs (oa rfl (on (qj5 8 8 89 5 rfl fun v8 => ?_))))
 refine qqf (rs (om rfl (qqa (qqw Tryz.underlying107 rfl) (om rfl (on (qqk (qq4 (ι := Nat × Nat) (fun x => x.1 ≤ (cubV vs).length) (fun x r => (36, .p (.int .i64 ((x.1 : Nat)))) :: (8, .own 8 x.2) :: r) (fun x r => (8, some (x.2, .row 89 5 (((mrgN (cubV vs) Ps x.1).map rupS).map dStp))) :: r) (fun x => (cubV vs).length - x.1) (fun _ _ => rfl) (fun _ _ => rfl) (0, v8) (by first | exact (Nat.zero_le _) | (dsimp only; exact (Nat.zero_le _))) ⟨⟨rfl, rfl⟩, ⟨rfl, rfl, trivial⟩, ⟨rfl, trivial⟩, ⟨rfl, rfl⟩, ⟨rfl, rfl⟩⟩ ?_)))))))
 rintro ⟨k, v⟩ hk; dsimp only at hk ⊢
 refine rs (qqa (qzt rfl rfl) (on (qqf (ac rfl (fun h3 => ?_) fun h3 => ?_))))
 ·
  have h3r := h3
  try simp only [nq, nr, nl] at h3
  refine qqo (qqf (qqk (rs (om rfl (qqa (qq9 (n := k) slt107 rfl rfl zz (qqq zz) rfl) (qqa (qq8 leaf23 rfl (qqq zz) rfl) (oa rfl (oa rfl (on (qqf (qqf ?_)))))))))))
  have huk := (hu k zz).1
  refine ar (om rfl (om rfl (qqa (qq9 (n := k) slt110 rfl rfl zz (qqq zz) rfl) (qqa (qq8 leaf34 rfl (qqq zz) rfl) (qqa (qqw Tryz.underlying34 rfl) (qqa (j_gt rfl rfl) (on (ac rfl (fun h4 => ?_) fun h4 => ?_))))))))
  ·
   have h4r := h4
   try simp only [nq, nr, nl] at h4
   exact absurd (of_decide_eq_true h4r) zz
  have h4r := h4
  try simp only [nq, nr, nl] at h4
  refine qqo (rs (om rfl (om rfl (qqa (qq9 (n := k) slt110 rfl rfl zz (qqq zz) rfl) (qqa (qq8 leaf34 rfl (qqq zz) rfl) (qqa (qqw Tryz.underlying34 rfl) (om rfl (on (qqk (qq4 (ι := Nat × Nat) (fun x => x.1 ≤ (Ps.getD k default).length) (fun x r => (52, .p (.int .i64 ((x.1 : Nat)))) :: (8, .own 8 x.2) :: r) (fun x r => (8, some (x.2, .row 89 5 (((mrgN (cubV vs) Ps k ++ mrg1 ((cubV vs).getD k default) ((Ps.getD k default).take x.1)).map rupS).map dStp))) :: r) (fun x => (Ps.getD k default).length - x.1) (fun _ _ => rfl) (fun _ _ => rfl) (0, v) (by first | exact (Nat.zero_le _) | (dsimp only; exact (Nat.zero_le _))) ⟨⟨rfl, rfl⟩, ⟨rfl, rfl, trivial⟩, ⟨qj0 (by simp [mrg1]), trivial⟩, ⟨rfl, rfl⟩, ⟨rfl, rfl⟩⟩ ?_))))))))))
  rintro ⟨j, w⟩ hj; dsimp only at hj ⊢
  refine rs (qqa (qzt rfl rfl) (on (qqf (ac rfl (fun h5 => ?_) fun h5 => ?_))))
  ·
   have h5r := h5
   try simp only [nq, nr, nl] at h5
   refine qqo (qqf (qqk (qqf ?_)))
   have hck := cub_ck hv hvl (k := k) zz
   have hml := mrgN_len hu (k := k) zz
   have hm1 : (mrg1 ((cubV vs).getD k default) ((Ps.getD k default).take j)).length ≤ j := by unfold mrg1; rw [List.length_map, List.length_take]; omega
   refine ar (qqa (qq9 (n := j) qxa rfl rfl zz (rup_at zz) rfl) (qqa (qjw (ys := [.p _, .p _, .p _, .sl _, .p _]) agg89 rfl (rup_at zz) rfl (Nat.le_refl _)) (qqv (fun ver => qjd qzs rfl) fun v12x1 => ?_)))
   refine qjg (qqe agg89 rfl rfl rfl rfl rfl rfl) ?_
   refine on (rs (qqa (qqg (ys := [.p _, .p _, .p _, .sl _, .p _]) agg89 rfl rfl rfl (nb rfl)) (om rfl ?_)))
   refine qq0 (qqn (v := .tup [.agg [.p _, .p _, .p _, .sl _, .p _], .p _]) (hp1 := []) [] false [] ent141 (f_liftImpl ((cubV vs).getD k default) ((Ps.getD k default).getD j default) ((hu k zz).2 _ (qju zz)) hck.1 hck.2) ⟨.inl ⟨rfl, rfl⟩, .inl ⟨rfl, rfl⟩, trivial⟩ trivial rfl rfl (fun h => by cases h) rfl (fun _ h => by cases h) (.inl rfl) rfl rfl) ?_
   refine om rfl (qqa (qqt rfl rfl) (qqa (qqt rfl rfl) (qqv (fun ver => qjd qzs rfl) fun v13x2 => ?_)))
   refine qjg (qqe agg89 rfl rfl rfl rfl rfl rfl) ?_
   refine oa rfl (on (rs (om rfl (on (ac rfl (fun h6 => ?_) fun h6 => ?_)))))
   ·
    have h6r := h6
    try simp only [nq, nr, nl] at h6
    refine ar (om rfl (qqa (qqg (ys := [.p _, .p _, .p _, .sl _, .p _]) agg89 rfl rfl rfl (nb rfl)) (qqv (fun ver => qqh (parts := [(0, .tmp 64)]) (es := [[_, _, _, _, _]]) qxa qzs rfl rfl (by decide) (by decide) rfl rfl (by simp) rfl) fun v65x3 => ?_)))
    refine qqv (fun ver => qqs qxa qzs rfl rfl rfl rfl rfl rfl (by rw [qqu]; first | omega | (simp only [nr, nl]; omega)) zz) fun v8x4 => ?_
    refine oa rfl (on (ar (qqa (qjh rfl rfl zz zz) (om rfl (on ?_)))))
    exact ⟨(j + 1, v8x4), (by first | exact zz | (dsimp only; exact zz)), ⟨⟨rfl, rfl⟩, ⟨rfl, rfl, trivial⟩, ⟨qj0 (by dsimp only; rw [mrg1_next zz, ← List.append_assoc, st_snoc]; rfl), trivial⟩, ⟨rfl, rfl⟩, ⟨rfl, rfl⟩⟩, (by first | exact zz | (dsimp only; exact zz))⟩
   have h6r := h6
   try simp only [nq, nr, nl] at h6
   exact absurd h6r (by decide)
  have h5r := h5
  try simp only [nq, nr, nl] at h5
  refine qjf (ar (qqa (qjh rfl rfl zz zz) (om rfl (on ?_))))
  exact ⟨(k + 1, w), (by first | exact zz | (dsimp only; exact zz)), ⟨⟨rfl, rfl⟩, ⟨rfl, rfl, trivial⟩, ⟨qj0 (by dsimp only; rw [show j = (Ps.getD k default).length by first | omega | (simp only [nr, nl]; omega), List.take_length]; rfl), trivial⟩, ⟨rfl, rfl⟩, ⟨rfl, rfl⟩⟩, (by first | exact zz | (dsimp only; exact zz))⟩
 have h3r := h3
 try simp only [nq, nr, nl] at h3
 refine qjf (qqf (qqf ?_))
 obtain rfl : k = (cubV vs).length := zz
 refine ar (om rfl (qqa (qqw Tryz.underlying23 rfl) (qqa (qzw rfl rfl zz zz) (oa rfl (on (qqk ?_))))))
 refine qq4 (ι := Nat × List Con × Nat) (fun x => x.1 ≤ vs.length ∧ mrgN (cubV vs) Ps (cubV vs).length ++ joiN vs vs.length = x.2.1 ++ joiN vs x.1 ∧ x.2.1.length ≤ 16016) (fun x r => (15, .p (.int .i64 ((x.1 : Nat) - 1))) :: (8, .own 8 x.2.2) :: r) (fun x r => (8, some (x.2.2, .row 89 5 (((x.2.1).map rupS).map dStp))) :: r) (fun x => x.1) (fun _ _ => rfl) (fun _ _ => rfl) (vs.length, mrgN (cubV vs) Ps (cubV vs).length, v) (by first | exact ⟨Nat.le_refl _, rfl, by have h9 := mrgN_len hu (Nat.le_refl _); omega⟩ | (dsimp only; exact ⟨Nat.le_refl _, rfl, by have h9 := mrgN_len hu (Nat.le_refl _); omega⟩)) ⟨⟨rfl, rfl⟩, ⟨rfl, rfl, trivial⟩, ⟨rfl, trivial⟩, ⟨rfl, rfl⟩, ⟨rfl, rfl⟩⟩ ?_
 rintro ⟨m, A, w⟩ hm; dsimp only at hm ⊢
 refine qqf (rs (om rfl (qqa (j_ge rfl rfl) (on (ac rfl (fun h7 => ?_) fun h7 => ?_)))))
 ·
  have h7r := h7
  try simp only [nq, nr, nl] at h7
  refine qqo (qqf (qqk (qqf ?_)))
  obtain ⟨q, rfl⟩ : ∃ q, m = q + 1 := ⟨m - 1, by omega⟩
  have hcl2 := cub_take_len (vs := vs) (k := q) (by omega)
  have hp2 := Nat.pow_le_pow_right (n := 2) (by decide) (show q ≤ 4 by omega)
  have HC := f_cubImpl (vs.take q) (vars_take hv) (by rw [List.length_take]; omega)
  rw [List.map_take] at HC
  refine ar (om rfl (om rfl ?_))
  refine qqa (j_cut qjb rfl (fun y hy => by obtain ⟨t, _, rfl⟩ := List.mem_map.1 hy; rfl) Bd.none (Bd.some rfl (show (((q + 1 : Nat) : Int) - 1) = ((q : Nat) : Int) by omega)) zz zz) ?_
  refine qq0 (qqn (v := .sl _) (hp1 := []) [] false [] ent138 HC ⟨.inl ⟨rfl, rfl⟩, trivial⟩ trivial rfl rfl (fun h => by cases h) rfl (fun _ h => by cases h) (.inl rfl) rfl rfl) ?_
  refine qqa (qqw Tryz.underlying107 rfl) (om rfl (on (qqk (qq4 (ι := Nat × Nat) (fun x => x.1 ≤ (cubV (vs.take q)).length) (fun x r => (81, .p (.int .i64 ((x.1 : Nat)))) :: (8, .own 8 x.2) :: r) (fun x r => (8, some (x.2, .row 89 5 (((A ++ ((cubV (vs.take q)).take x.1).map cle).map rupS).map dStp))) :: r) (fun x => (cubV (vs.take q)).length - x.1) (fun _ _ => rfl) (fun _ _ => rfl) (0, w) (by first | exact (Nat.zero_le _) | (dsimp only; exact (Nat.zero_le _))) ⟨⟨rfl, rfl⟩, ⟨rfl, rfl, trivial⟩, ⟨qj0 (by rw [List.take_zero, List.map_nil, List.append_nil]), trivial⟩, ⟨rfl, rfl⟩, ⟨rfl, rfl⟩⟩ ?_))))
  rintro ⟨j, w⟩ hj; dsimp only at hj ⊢
  refine rs (qqa (qzt rfl rfl) (on (qqf (ac rfl (fun h8 => ?_) fun h8 => ?_))))
  ·
   have h8r := h8
   try simp only [nq, nr, nl] at h8
   refine qqo (qqf (qqk (rs (qqa (qq9 (n := j) slt107 rfl rfl zz (qqq zz) rfl) (qqa (qq8 leaf23 rfl (qqq zz) rfl) (oa rfl (on (qqf ?_))))))))
   have hca := cub_asc hv (k := q) (by omega) _ (qju (d := default) (show j < (cubV (vs.take q)).length from zz))
   refine ar (om rfl ?_)
   refine qz0 (fun ver => qza (v := .own 87 ver) (hp1 := [(87, some (ver, .row 3 1 _))]) [] false [] ent142 (f_negsImpl ((cubV (vs.take q)).getD j default) (by omega) (asc_lit hca.1)) ⟨.inl ⟨rfl, rfl⟩, trivial⟩ trivial rfl rfl rfl (fun h => by cases h) rfl (List.all_eq_true.1 rfl) (.inl rfl) rfl rfl) fun v87x5 => ?_
   refine op_freezeK 87 trivial rfl rfl rfl ?_
   refine qq0 (qqn (v := .tup [.agg [.sl _, .p _], .p _]) (hp1 := []) [] false [] ent42 (f_clauseImpl (negL ((cubV (vs.take q)).getD j default)) (asc_negL hca.1)) ⟨.inl ⟨rfl, rfl⟩, trivial⟩ trivial rfl rfl (fun h => by cases h) rfl (fun _ h => by cases h) (.inl rfl) rfl rfl) ?_
   refine om rfl (qqa (qqt rfl rfl) (qqa (qqt rfl rfl) (qqv (fun ver => qjd qjm rfl) fun v18x6 => ?_)))
   refine qjg (qqe qq7 rfl rfl rfl rfl rfl rfl) ?_
   refine oa rfl (on (ar (om rfl (qqa (qqg (ys := [.sl _, .p _]) qq7 rfl rfl rfl (nb rfl)) (qqa (qjp (parts := [(0, .const (.int .i64 7)), (3, .tmp 92)]) str89 qzs rfl rfl) ?_)))))
   refine qqv (fun ver => qqh (parts := [(0, .tmp 93)]) (es := [[_, _, _, _, _]]) qxa qzs rfl rfl (by decide) (by decide) rfl rfl (by simp) rfl) fun v94x7 => ?_
   refine qqv (fun ver => qqs qxa qzs rfl rfl rfl rfl rfl rfl (by rw [qqu]; first | omega | (simp only [nr, nl]; omega)) zz) fun v8x8 => ?_
   refine oa rfl (on (ar (qqa (qjh rfl rfl zz zz) (om rfl (on ?_)))))
   exact ⟨(j + 1, v8x8), (by first | exact zz | (dsimp only; exact zz)), ⟨⟨rfl, rfl⟩, ⟨rfl, rfl, trivial⟩, ⟨qj0 (by dsimp only; rw [cle_next zz, ← List.append_assoc, st_snoc]; rfl), trivial⟩, ⟨rfl, rfl⟩, ⟨rfl, rfl⟩⟩, (by first | exact zz | (dsimp only; exact zz))⟩
  have h8r := h8
  try simp only [nq, nr, nl] at h8
  refine qjf (ar (om rfl (qqa (qzw rfl rfl zz zz) (oa rfl (on ?_)))))
  exact ⟨(q, A ++ (cubV (vs.take q)).map cle, w), (by first | exact ⟨by omega, by rw [hm.2.1, joiN, List.append_assoc], joi_bnd hm.1 hm.2.1 (by have h9 := mrgN_len hu (Nat.le_refl _); omega) (by omega)⟩ | (dsimp only; exact ⟨by omega, by rw [hm.2.1, joiN, List.append_assoc], joi_bnd hm.1 hm.2.1 (by have h9 := mrgN_len hu (Nat.le_refl _); omega) (by omega)⟩)), ⟨⟨rfl, rfl⟩, ⟨qz1 (by dsimp only; omega), rfl, trivial⟩, ⟨qj0 (by dsimp only; rw [show j = (cubV (vs.take q)).length by first | omega | (simp only [nr, nl]; omega), List.take_length]), trivial⟩, ⟨rfl, rfl⟩, ⟨rfl, rfl⟩⟩, (by first | exact (by omega) | (dsimp only; exact (by omega)))⟩
 have h7r := h7
 try simp only [nq, nr, nl] at h7
 refine qjf (qqf (qqf ?_))
 obtain rfl : m = 0 := by omega
 have hA : (mrgA vs Ps) = A := by unfold mrgA; rw [hm.2.1]; simp [joiN]
 refine ar (om rfl (qqa (qja Tryz.underlying34 rfl rfl) (qqa (j_gt rfl rfl) (on (ac rfl (fun h9 => ?_) fun h9 => ?_)))))
 ·
  have h9r := h9
  try simp only [nq, nr, nl] at h9
  refine rs (oa rfl (oa rfl (on (a_nil 4 rfl ?_))))
  refine qqx ?_
  exact ⟨[.sl _, .p _], .tup [.sl _, .p _], [], [], [], ⟨rfl, rfl, trivial⟩, rfl, rfl, trivial, rfl, rfl, ⟨by rw [if_neg (by rw [hA]; first | omega | (simp only [nr, nl]; omega)), decide_eq_false (by rw [hA]; first | omega | (simp only [nr, nl]; omega))]; rfl, rfl, rfl⟩⟩
 have h9r := h9
 try simp only [nq, nr, nl] at h9
 refine qqo (rs (om rfl (oa rfl (oa rfl (on (qjs 4 (noA _ _ _ _ _) rfl rfl ?_))))))
 refine qqx ?_
 exact ⟨[.sl _, .p _], .tup [.sl _, .p _], [], [], [], ⟨rfl, rfl, trivial⟩, rfl, rfl, trivial, rfl, rfl, ⟨by rw [if_pos (by rw [hA]; first | omega | (simp only [nr, nl]; omega)), decide_eq_true (by rw [hA]; first | omega | (simp only [nr, nl]; omega)), hA], rfl, rfl⟩⟩
end Go.Ab

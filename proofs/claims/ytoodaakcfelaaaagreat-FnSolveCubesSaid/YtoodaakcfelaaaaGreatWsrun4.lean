/- Walks. -/
import Derived.Test.YtoodaakcfelaaaaGreatBase
import Derived.Test.YtoodaakcfelaaaaGreatPf3
import Derived.Test.YtoodaakcfelaaaaGreatWsrun2
import Derived.Test.YtoodaakcfelaaaaGreatWsrun3
namespace Go.Ab
open Go.Proofs
set_option maxRecDepth 100000
set_option maxHeartbeats 8000000
set_option linter.unusedSimpArgs false
set_option linter.unusedVariables false
theorem f_step (D : Db) (s : Stp) (hD : D.1.all cOk = true) (hl2 : D.2.length = D.1.length) (hll : D.1.length ≤ 1500) : Fn Tryz.prog 192 [.ptr 0 0 0, .agg [.p (.int .i64 s.1), .p (.int .i64 s.2.1), .p (.int .i64 s.2.2.1), .sl (s.2.2.2.1.map dT), .p (.int .i64 s.2.2.2.2)]] [.box 170 [.own 1 0, .own 2 0], .row 69 2 ((D.1).map dC), .row 4 1 ((D.2).map dB)] (fun rr ii nn => rr = .p (.bool (stpO D s)) ∧ ii = [.box 170 [.own 3 0, .own 4 0], .gone, .gone] ∧ nn = [.row 69 2 (((stpF D s).1).map dC), .row 4 1 (((stpF D s).2).map dB)]) := by
 refine qjl Tryz.func192 rfl (nb rfl) fun w X g => ?_
 show AWp _ _ _ ⟨[(0, .ptr 0 0 0), (1, .agg [.p (.int .i64 s.1), .p (.int .i64 s.2.1), .p (.int .i64 s.2.2.1), .sl (s.2.2.2.1.map dT), .p (.int .i64 s.2.2.2.2)])], [(0, some (0, .box 170 [.own 1 0, .own 2 0])), (1, some (0, .row 69 2 ((D.1).map dC))), (2, some (0, .row 4 1 ((D.2).map dB)))]⟩
 refine a_mvB (i := 1) 0 0 1001 (by decide) (by decide) rfl rfl rfl rfl fun v1001x1 => ?_
 try dsimp only [List.set]
 refine a_mvB (i := 2) 0 1 1002 (by decide) (by decide) rfl rfl rfl rfl fun v1002x2 => ?_
 try dsimp only [List.set]
 refine rs (qqv (fun ver => qzg rfl) fun v3x3 => ?_)
 refine oa rfl (on (rs (qqa (qqi fld89f0 rfl rfl) (qqa (qqc qq6 rfl rfl rfl) ?_))))
 refine qq0 (qqn (v := .tup [.p _, .p _]) (hp1 := []) [] false [] ent232 (f_refers s.1) ⟨.inl ⟨rfl, rfl⟩, trivial⟩ trivial rfl rfl (fun h => by cases h) rfl (fun _ h => by cases h) (.inl rfl) rfl rfl) ?_
 refine om rfl (qqa (qqt rfl rfl) (qqa (qqt rfl rfl) (oa rfl (oa rfl (on (qqf (rs (qqa (qqg (ys := [.p _, .p _, .p _, .sl _, .p _]) agg89 rfl rfl rfl (nb rfl)) ?_))))))))
 refine qq0 (qqn (v := .p _) (hp1 := []) [] false [] ent233 (f_shaped s) ⟨.inl ⟨rfl, rfl⟩, trivial⟩ trivial rfl rfl (fun h => by cases h) rfl (fun _ h => by cases h) (.inl rfl) rfl rfl) ?_
 refine qqa (qzk rfl) (om rfl (qqz 18 rfl (fun h1 => ?_) (fun h1 => ?_)))
 ·
  have h1r := h1
  try simp only [nq, nr, nl] at h1
  refine qqa (qqb rfl rfl h1r) (qqa (qqb rfl rfl h1r) (qqa (qqb rfl rfl h1r) (qqa (qqp rfl rfl) (qqa (qqp rfl rfl) (qqa (qqp rfl rfl) (qqa (qqp rfl rfl) (qqa (qqp rfl rfl) (qqa (qqb rfl rfl h1r) (qqa (qqr rfl h1r (evo rfl)) (om rfl (qqa (qqb rfl rfl rfl) (qqa (qqb rfl rfl rfl) (qqa (qqb rfl rfl rfl) ?_)))))))))))))
  refine qqa (qqp rfl rfl) (qqa (qqp rfl rfl) (qqa (qqp rfl rfl) (qqa (qqp rfl rfl) (qqa (qqp rfl rfl) (qqa (qqb rfl rfl rfl) (qqa (qqr rfl rfl (evo rfl)) (on (a_tt rfl ?_))))))))
  refine rs (oa rfl (on (qqx ?_)))
  exact ⟨[.p _], .p _, [.box 170 [.own 3 0, .own 4 0], .gone, .gone], [.row 69 2 _, .row 4 1 _], [(1001, v1001x1), (1002, v1002x2)], ⟨rfl, trivial⟩, rfl, rfl, ⟨⟨rfl, rfl⟩, ⟨rfl, rfl⟩, ⟨rfl, rfl⟩, ⟨rfl, rfl⟩, ⟨rfl, rfl⟩, trivial⟩, rfl, rfl, ⟨by rw [(stpF_n (by unfold refO; simp_all)).1], rfl, by rw [(stpF_n (by unfold refO; simp_all)).2]⟩⟩
 have h1r := h1
 try simp only [nq, nr, nl] at h1
 refine qqa (qqd rfl rfl h1r (qqj (evo rfl))) (qqa (qqd rfl rfl h1r (j_gt rfl rfl)) (qqa (qqd rfl rfl h1r (qqj (evo rfl))) (qqz 21 rfl (fun h2 => ?_) (fun h2 => ?_))))
 ·
  have h2r := h2
  try simp only [nq, nr, nl] at h2
  refine qqa (qqd rfl rfl h2r (qqj (evo rfl))) (qqa (qqd rfl rfl h2r (qqi fld89f1 rfl rfl)) (qqa (qqd rfl rfl h2r (qqc qq6 rfl rfl rfl)) ?_))
  refine qq0 (qqd rfl rfl h2r (qqn (v := .p _) (hp1 := [(0, some (0, .box 170 [.own 1001 v1001x1, .own 1002 v1002x2])), (1001, some (v1001x1, .row 69 2 _)), (1002, some (v1002x2, .row 4 1 _))]) [(0, 0), (1001, v1001x1), (1002, v1002x2)] false [0, 1001, 1002] ent234 (f_has D s.2.1 hl2 (by omega)) ⟨.inl ⟨rfl, rfl⟩, .inl ⟨rfl, rfl⟩, trivial⟩ ⟨⟨rfl, rfl⟩, ⟨rfl, rfl⟩, ⟨rfl, rfl⟩, trivial⟩ rfl rfl (fun h => by cases h) rfl (List.all_eq_true.1 rfl) (.inl rfl) rfl rfl)) ?_
  refine qqa (qqd rfl rfl h2r (qzk rfl)) (qqa (qqd rfl rfl h1r (qqr rfl h2r (evo rfl))) (qqa (qqy rfl h1r (evo rfl)) (om rfl (qqz 29 rfl (fun h3 => ?_) (fun h3 => ?_)))))
  ·
   have h3r := h3
   try simp only [nq, nr, nl] at h3
   refine qqa (qqb rfl rfl h3r) (qqa (qqb rfl rfl h3r) (qqa (qqb rfl rfl h3r) (qqa (qqp rfl rfl) (qqa (qqp rfl rfl) (qqa (qqp rfl rfl) (qqa (qqp rfl rfl) (qqa (qqp rfl rfl) (qqa (qqb rfl rfl h3r) (qqa (qqr rfl h3r (evo rfl)) (on (a_tt rfl ?_)))))))))))
   refine rs (oa rfl (on (qqx ?_)))
   exact ⟨[.p _], .p _, [.box 170 [.own 3 0, .own 4 0], .gone, .gone], [.row 69 2 _, .row 4 1 _], [(1001, v1001x1), (1002, v1002x2)], ⟨rfl, trivial⟩, rfl, rfl, ⟨⟨rfl, rfl⟩, ⟨rfl, rfl⟩, ⟨rfl, rfl⟩, ⟨rfl, rfl⟩, ⟨rfl, rfl⟩, trivial⟩, rfl, rfl, ⟨by rw [(stpF_n (by unfold refO; simp_all)).1], rfl, by rw [(stpF_n (by unfold refO; simp_all)).2]⟩⟩
  have h3r := h3
  try simp only [nq, nr, nl] at h3
  refine qqa (qqd rfl rfl h3r (qqj (evo rfl))) (qqa (qqd rfl rfl h3r (j_gt rfl rfl)) (qqa (qqd rfl rfl h3r (qqj (evo rfl))) (qqz 32 rfl (fun h4 => ?_) (fun h4 => ?_))))
  ·
   have h4r := h4
   try simp only [nq, nr, nl] at h4
   refine qqa (qqd rfl rfl h4r (qqj (evo rfl))) (qqa (qqd rfl rfl h4r (qqi fld89f2 rfl rfl)) (qqa (qqd rfl rfl h4r (qqc qq6 rfl rfl rfl)) ?_))
   refine qq0 (qqd rfl rfl h4r (qqn (v := .p _) (hp1 := [(0, some (0, .box 170 [.own 1001 v1001x1, .own 1002 v1002x2])), (1001, some (v1001x1, .row 69 2 _)), (1002, some (v1002x2, .row 4 1 _))]) [(0, 0), (1001, v1001x1), (1002, v1002x2)] false [0, 1001, 1002] ent234 (f_has D s.2.2.1 hl2 (by omega)) ⟨.inl ⟨rfl, rfl⟩, .inl ⟨rfl, rfl⟩, trivial⟩ ⟨⟨rfl, rfl⟩, ⟨rfl, rfl⟩, ⟨rfl, rfl⟩, trivial⟩ rfl rfl (fun h => by cases h) rfl (List.all_eq_true.1 rfl) (.inl rfl) rfl rfl)) ?_
   refine qqa (qqd rfl rfl h4r (qzk rfl)) (qqa (qqd rfl rfl h3r (qqr rfl h4r (evo rfl))) (qqa (qqy rfl h3r (evo rfl)) (on (ac rfl (fun h5 => ?_) fun h5 => ?_))))
   ·
    have h5r := h5
    try simp only [nq, nr, nl] at h5
    refine rs (oa rfl (on (qqx ?_)))
    exact ⟨[.p _], .p _, [.box 170 [.own 3 0, .own 4 0], .gone, .gone], [.row 69 2 _, .row 4 1 _], [(1001, v1001x1), (1002, v1002x2)], ⟨rfl, trivial⟩, rfl, rfl, ⟨⟨rfl, rfl⟩, ⟨rfl, rfl⟩, ⟨rfl, rfl⟩, ⟨rfl, rfl⟩, ⟨rfl, rfl⟩, trivial⟩, rfl, rfl, ⟨by rw [(stpF_n (by unfold refO; simp_all)).1], rfl, by rw [(stpF_n (by unfold refO; simp_all)).2]⟩⟩
   have h5r := h5
   try simp only [nq, nr, nl] at h5
   refine qqo (qqf ?_)
   have hsh : shpV s = true := (by simp_all)
   have href : refO D s = true := (by unfold refO; simp_all)
   refine ar (qqv (fun ver => qjd qjm rfl) fun v7x4 => ?_)
   refine on (rs (oa rfl (on (qqf (rs (qqa (qqi fld89f0 rfl rfl) (qqa (qqc qq6 rfl rfl rfl) (on (qqk (rs (qqa (qz5 rfl rfl) (oa rfl (on (ac rfl (fun h6 => ?_) fun h6 => ?_))))))))))))))
   ·
    have h6r := h6
    try simp only [nq, nr, nl] at h6
    exact absurd (of_decide_eq_true h6r) (by intro hx; have hy := h2r; have hz := h4r; rw [hx] at hy hz; revert hy hz; decide)
   have h6r := h6
   try simp only [nq, nr, nl] at h6
   refine rs (qqa (qz5 rfl rfl) (oa rfl (on (ac rfl (fun h7 => ?_) fun h7 => ?_))))
   ·
    have h7r := h7
    try simp only [nq, nr, nl] at h7
    have hrk : refK s.1 = (2, false) := by rw [show s.1 = 1 by assumption]; rfl
    have hA : livV D s.2.1 = true := by first | assumption | (exfalso; simp_all)
    have hAr := liv_rng hA
    have hAc := invD_at hD hA
    have hB : livV D s.2.2.1 = true := by first | assumption | (exfalso; simp_all)
    have hBr := liv_rng hB
    have hBc := invD_at hD hB
    refine qj3 qzr (by kernel_rfl) (by kernel_rfl) fun vf => ?_
    refine qql (qqj (evo rfl)) (qql (qq1 rfl rfl) (qql (qqi qze rfl rfl) (qql (qqc qzn rfl rfl rfl) (qql (qqi fld89f1 rfl rfl) (qql (qqc qq6 rfl rfl rfl) (qql (qq2 (n := s.2.1.toNat) qj7 rfl rfl rfl zz zz) (qql (qz6 (ys := [.sl _, .p _]) qq7 rfl rfl (qqq zz) rfl (Nat.le_refl _)) (qql (qqj (evo rfl)) (qql (qq1 rfl rfl) (qql (qqi qze rfl rfl) (qql (qqc qzn rfl rfl rfl) (qql (qqi fld89f2 rfl rfl) (qql (qqc qq6 rfl rfl rfl) ?_)))))))))))))
    refine qql (qq2 (n := s.2.2.1.toNat) qj7 rfl rfl rfl zz zz) (qql (qz6 (ys := [.sl _, .p _]) qq7 rfl rfl (qqq zz) rfl (Nat.le_refl _)) ?_)
    refine d_v0' (qqn (v := .tup [.agg [.sl _, .p _], .p _]) (hp1 := []) [] false [] ent235 (f_addImpl (atI D s.2.1) (atI D s.2.2.1) hAc hBc) ⟨.inl ⟨rfl, rfl⟩, .inl ⟨rfl, rfl⟩, trivial⟩ trivial rfl rfl (fun h => by cases h) rfl (fun _ h => by cases h) (.inl rfl) rfl rfl) ?_
    refine qql (qqj (evo rfl)) (qql (qqt rfl rfl) (qql (qqt rfl rfl) (d_s' (qqe qq7 rfl rfl rfl rfl rfl rfl) ?_)))
    refine qql (qj6 (evo rfl)) (qzf (by kernel_rfl) (by kernel_rfl) ?_)
    refine qqf (qj3 qzr (by kernel_rfl) (by kernel_rfl) fun vf => ?_)
    refine qql (qqj (evo rfl)) (qql (qqj (evo rfl)) (qql (qqj (evo rfl)) (qql (qq1 rfl rfl) (qql (qqi qze rfl rfl) (qql (qqc qzn rfl rfl rfl) (qql (qqg (ys := [.sl _, .p _]) qq7 rfl rfl rfl (nb rfl)) (d_n' (fun ver => qqh (parts := [(0, .tmp 163)]) (es := [[_, _]]) qj7 qjm rfl rfl (by decide) (by decide) rfl rfl (by simp) rfl) ?_)))))))
    refine d_n' (fun ver => qqs qj7 qjm rfl rfl rfl rfl rfl rfl (by rw [qqu]; first | omega | (simp only [nr, nl]; omega)) zz) ?_
    refine qql (qqj (evo rfl)) (qql (qq1 rfl rfl) (qql (qqi qzu rfl rfl) (qql (qqc leaf44 rfl rfl rfl) (d_n' (fun ver => qqh (parts := [(0, .const (.bool false))]) (es := [[_]]) qzm elt4 rfl rfl (by decide) (by decide) rfl rfl (by simp) rfl) ?_))))
    refine d_n' (fun ver => qqs qzm elt4 rfl rfl rfl rfl rfl rfl (by rw [qqu]; first | omega | (simp only [nr, nl]; omega)) zz) ?_
    refine qql (qq1 rfl rfl) (qql (qqi qze rfl rfl) (d_s' (qq5 qzn rfl rfl (nb rfl) (evo rfl) rfl) ?_))
    refine qql (qq1 rfl rfl) (qql (qqi qzu rfl rfl) (d_s' (qq5 leaf44 rfl rfl (nb rfl) (evo rfl) rfl) ?_))
    refine qzf (by kernel_rfl) (by kernel_rfl) ?_
    refine rs (om rfl (oa rfl (on (qqx ?_))))
    exact ⟨[.p _], .p _, [.box 170 [.own 3 0, .own 4 0], .gone, .gone], [.row 69 2 _, .row 4 1 _], [(1001, (vf 1001)), (1002, (vf 1002))], ⟨rfl, trivial⟩, rfl, rfl, ⟨⟨rfl, rfl⟩, ⟨rfl, rfl⟩, ⟨rfl, rfl⟩, ⟨rfl, rfl⟩, ⟨rfl, rfl⟩, trivial⟩, rfl, rfl, ⟨qje (by rw [(stpO_a hsh href (by assumption)).1]; (first | rw [(drv_1 (by assumption)).2] | rw [(drv_2 (by assumption)).2] | rw [(drv_3 (by assumption)).2, ← chR_div.2] | rw [(drv_4 (by assumption) hAc).2] | rw [(drv_5 (by assumption)).2] | rw [(drv_6 (by assumption)).2] | rw [(drv_7 (by assumption)).2]); first | done | (simp_all; done)), rfl, by rw [(stpO_a hsh href (by assumption)).2, List.map_append, List.map_append]; (first | rw [(drv_1 (by assumption)).1] | rw [(drv_2 (by assumption)).1] | rw [(drv_3 (by assumption)).1, ← chR_div.1] | rw [(drv_4 (by assumption) hAc).1] | rw [(drv_5 (by assumption)).1] | rw [(drv_6 (by assumption)).1] | rw [(drv_7 (by assumption)).1]); rfl⟩⟩
   have h7r := h7
   try simp only [nq, nr, nl] at h7
   refine rs (qqa (qz5 rfl rfl) (oa rfl (on (ac rfl (fun h8 => ?_) fun h8 => ?_))))
   ·
    have h8r := h8
    try simp only [nq, nr, nl] at h8
    exact absurd (of_decide_eq_true h8r) (by intro hx; have hy := h2r; have hz := h4r; rw [hx] at hy hz; revert hy hz; decide)
   have h8r := h8
   try simp only [nq, nr, nl] at h8
   refine rs (qqa (qz5 rfl rfl) (oa rfl (on (ac rfl (fun h9 => ?_) fun h9 => ?_))))
   ·
    have h9r := h9
    try simp only [nq, nr, nl] at h9
    exact absurd (of_decide_eq_true h9r) (by intro hx; have hy := h2r; have hz := h4r; rw [hx] at hy hz; revert hy hz; decide)
   have h9r := h9
   try simp only [nq, nr, nl] at h9
   refine rs (qqa (qz5 rfl rfl) (oa rfl (on (ac rfl (fun h10 => ?_) fun h10 => ?_))))
   ·
    have h10r := h10
    try simp only [nq, nr, nl] at h10
    exact absurd (of_decide_eq_true h10r) (by intro hx; have hy := h2r; have hz := h4r; rw [hx] at hy hz; revert hy hz; decide)
   have h10r := h10
   try simp only [nq, nr, nl] at h10
   refine rs (qqa (qz5 rfl rfl) (oa rfl (on (ac rfl (fun h11 => ?_) fun h11 => ?_))))
   ·
    have h11r := h11
    try simp only [nq, nr, nl] at h11
    exact absurd (of_decide_eq_true h11r) (by intro hx; have hy := h2r; have hz := h4r; rw [hx] at hy hz; revert hy hz; decide)
   have h11r := h11
   try simp only [nq, nr, nl] at h11
   refine rs (qqa (qz5 rfl rfl) (oa rfl (on (ac rfl (fun h12 => ?_) fun h12 => ?_))))
   ·
    have h12r := h12
    try simp only [nq, nr, nl] at h12
    exact absurd (of_decide_eq_true h12r) (by intro hx; have hy := h2r; have hz := h4r; rw [hx] at hy hz; revert hy hz; decide)
   have h12r := h12
   try simp only [nq, nr, nl] at h12
   refine rs (qqa (qz5 rfl rfl) (oa rfl (on (ac rfl (fun h13 => ?_) fun h13 => ?_))))
   ·
    have h13r := h13
    try simp only [nq, nr, nl] at h13
    exact absurd (of_decide_eq_true h13r) (by intro hx; have hy := h2r; have hz := h4r; rw [hx] at hy hz; revert hy hz; decide)
   have h13r := h13
   try simp only [nq, nr, nl] at h13
   exact absurd (shp_cases hsh) (by intro hx; have h9 := of_decide_eq_false h13r; omega)
  have h4r := h4
  try simp only [nq, nr, nl] at h4
  refine qqa (qqb rfl rfl h4r) (qqa (qqb rfl rfl h4r) (qqa (qqb rfl rfl h4r) (qqa (qqb rfl rfl h4r) (qqa (qqb rfl rfl h4r) (qqa (qqd rfl rfl h3r (qqy rfl h4r (evo rfl))) (qqa (qqy rfl h3r (evo rfl)) (on (a_ff rfl ?_))))))))
  refine qqo (qqf ?_)
  have hsh : shpV s = true := (by simp_all)
  have href : refO D s = true := (by unfold refO; simp_all)
  refine ar (qqv (fun ver => qjd qjm rfl) fun v7x5 => ?_)
  refine on (rs (oa rfl (on (qqf (rs (qqa (qqi fld89f0 rfl rfl) (qqa (qqc qq6 rfl rfl rfl) (on (qqk (rs (qqa (qz5 rfl rfl) (oa rfl (on (ac rfl (fun h14 => ?_) fun h14 => ?_))))))))))))))
  ·
   have h14r := h14
   try simp only [nq, nr, nl] at h14
   refine qqf ?_
   have hrk : refK s.1 = (1, false) := by rw [show s.1 = 8 by assumption]; rfl
   have hA : livV D s.2.1 = true := by first | assumption | (exfalso; simp_all)
   have hAr := liv_rng hA
   have hAc := invD_at hD hA
   refine qj3 qzr (by kernel_rfl) (by kernel_rfl) fun vf => ?_
   refine qql (qqj (evo rfl)) (qql (qq1 rfl rfl) (qql (qqi qzu rfl rfl) (qql (qqc leaf44 rfl rfl rfl) (qql (qqi fld89f1 rfl rfl) (qql (qqc qq6 rfl rfl rfl) (qql (qq2 (n := s.2.1.toNat) qzm rfl rfl rfl zz zz) (d_s' (qzj leaf4 rfl rfl zz (evo rfl) rfl rfl) ?_)))))))
   refine qzf (by kernel_rfl) (by kernel_rfl) ?_
   refine rs (oa rfl (on (qqx ?_)))
   exact ⟨[.p _], .p _, [.box 170 [.own 3 0, .own 4 0], .gone, .gone], [.row 69 2 _, .row 4 1 _], [(1001, v1001x1), (1002, v1002x2)], ⟨rfl, trivial⟩, rfl, rfl, ⟨⟨rfl, rfl⟩, ⟨rfl, rfl⟩, ⟨rfl, rfl⟩, ⟨rfl, rfl⟩, ⟨rfl, rfl⟩, trivial⟩, rfl, rfl, ⟨by rw [(stpO_8 hsh href (by assumption)).1], rfl, by rw [(stpO_8 hsh href (by assumption)).2, List.map_set]; rfl⟩⟩
  have h14r := h14
  try simp only [nq, nr, nl] at h14
  refine rs (qqa (qz5 rfl rfl) (oa rfl (on (ac rfl (fun h15 => ?_) fun h15 => ?_))))
  ·
   have h15r := h15
   try simp only [nq, nr, nl] at h15
   exact absurd (of_decide_eq_true h15r) (by intro hx; have hy := h2r; have hz := h4r; rw [hx] at hy hz; revert hy hz; decide)
  have h15r := h15
  try simp only [nq, nr, nl] at h15
  refine rs (qqa (qz5 rfl rfl) (oa rfl (on (ac rfl (fun h16 => ?_) fun h16 => ?_))))
  ·
   have h16r := h16
   try simp only [nq, nr, nl] at h16
   have hrk : refK s.1 = (1, true) := by rw [show s.1 = 2 by assumption]; rfl
   have hA : livV D s.2.1 = true := by first | assumption | (exfalso; simp_all)
   have hAr := liv_rng hA
   have hAc := invD_at hD hA
   refine qj3 qzr (by kernel_rfl) (by kernel_rfl) fun vf => ?_
   refine qql (qqj (evo rfl)) (qql (qq1 rfl rfl) (qql (qqi qze rfl rfl) (qql (qqc qzn rfl rfl rfl) (qql (qqi fld89f1 rfl rfl) (qql (qqc qq6 rfl rfl rfl) (qql (qq2 (n := s.2.1.toNat) qj7 rfl rfl rfl zz zz) (qql (qz6 (ys := [.sl _, .p _]) qq7 rfl rfl (qqq zz) rfl (Nat.le_refl _)) (qql (qqi fld89f2 rfl rfl) (qql (qqc qq6 rfl rfl rfl) ?_)))))))))
   refine d_v0' (qqn (v := .tup [.agg [.sl _, .p _], .p _]) (hp1 := []) [] false [] ent236 (f_multiply (atI D s.2.1) s.2.2.1) ⟨.inl ⟨rfl, rfl⟩, .inl ⟨rfl, rfl⟩, trivial⟩ trivial rfl rfl (fun h => by cases h) rfl (fun _ h => by cases h) (.inl rfl) rfl rfl) ?_
   refine qql (qqj (evo rfl)) (qql (qqt rfl rfl) (qql (qqt rfl rfl) (d_s' (qqe qq7 rfl rfl rfl rfl rfl rfl) ?_)))
   refine qql (qj6 (evo rfl)) (qzf (by kernel_rfl) (by kernel_rfl) ?_)
   refine qqf (qj3 qzr (by kernel_rfl) (by kernel_rfl) fun vf => ?_)
   refine qql (qqj (evo rfl)) (qql (qqj (evo rfl)) (qql (qqj (evo rfl)) (qql (qq1 rfl rfl) (qql (qqi qze rfl rfl) (qql (qqc qzn rfl rfl rfl) (qql (qqg (ys := [.sl _, .p _]) qq7 rfl rfl rfl (nb rfl)) (d_n' (fun ver => qqh (parts := [(0, .tmp 163)]) (es := [[_, _]]) qj7 qjm rfl rfl (by decide) (by decide) rfl rfl (by simp) rfl) ?_)))))))
   refine d_n' (fun ver => qqs qj7 qjm rfl rfl rfl rfl rfl rfl (by rw [qqu]; first | omega | (simp only [nr, nl]; omega)) zz) ?_
   refine qql (qqj (evo rfl)) (qql (qq1 rfl rfl) (qql (qqi qzu rfl rfl) (qql (qqc leaf44 rfl rfl rfl) (d_n' (fun ver => qqh (parts := [(0, .const (.bool false))]) (es := [[_]]) qzm elt4 rfl rfl (by decide) (by decide) rfl rfl (by simp) rfl) ?_))))
   refine d_n' (fun ver => qqs qzm elt4 rfl rfl rfl rfl rfl rfl (by rw [qqu]; first | omega | (simp only [nr, nl]; omega)) zz) ?_
   refine qql (qq1 rfl rfl) (qql (qqi qze rfl rfl) (d_s' (qq5 qzn rfl rfl (nb rfl) (evo rfl) rfl) ?_))
   refine qql (qq1 rfl rfl) (qql (qqi qzu rfl rfl) (d_s' (qq5 leaf44 rfl rfl (nb rfl) (evo rfl) rfl) ?_))
   refine qzf (by kernel_rfl) (by kernel_rfl) ?_
   refine rs (om rfl (oa rfl (on (qqx ?_))))
   exact ⟨[.p _], .p _, [.box 170 [.own 3 0, .own 4 0], .gone, .gone], [.row 69 2 _, .row 4 1 _], [(1001, (vf 1001)), (1002, (vf 1002))], ⟨rfl, trivial⟩, rfl, rfl, ⟨⟨rfl, rfl⟩, ⟨rfl, rfl⟩, ⟨rfl, rfl⟩, ⟨rfl, rfl⟩, ⟨rfl, rfl⟩, trivial⟩, rfl, rfl, ⟨qje (by rw [(stpO_a hsh href (by assumption)).1]; (first | rw [(drv_1 (by assumption)).2] | rw [(drv_2 (by assumption)).2] | rw [(drv_3 (by assumption)).2, ← chR_div.2] | rw [(drv_4 (by assumption) hAc).2] | rw [(drv_5 (by assumption)).2] | rw [(drv_6 (by assumption)).2] | rw [(drv_7 (by assumption)).2]); first | done | (simp_all; done)), rfl, by rw [(stpO_a hsh href (by assumption)).2, List.map_append, List.map_append]; (first | rw [(drv_1 (by assumption)).1] | rw [(drv_2 (by assumption)).1] | rw [(drv_3 (by assumption)).1, ← chR_div.1] | rw [(drv_4 (by assumption) hAc).1] | rw [(drv_5 (by assumption)).1] | rw [(drv_6 (by assumption)).1] | rw [(drv_7 (by assumption)).1]); rfl⟩⟩
  have h16r := h16
  try simp only [nq, nr, nl] at h16
  refine rs (qqa (qz5 rfl rfl) (oa rfl (on (ac rfl (fun h17 => ?_) fun h17 => ?_))))
  ·
   have h17r := h17
   try simp only [nq, nr, nl] at h17
   have hrk : refK s.1 = (1, true) := by rw [show s.1 = 3 by assumption]; rfl
   have hA : livV D s.2.1 = true := by first | assumption | (exfalso; simp_all)
   have hAr := liv_rng hA
   have hAc := invD_at hD hA
   refine qj3 qzr (by kernel_rfl) (by kernel_rfl) fun vf => ?_
   refine qql (qqj (evo rfl)) (qql (qq1 rfl rfl) (qql (qqi qze rfl rfl) (qql (qqc qzn rfl rfl rfl) (qql (qqi fld89f1 rfl rfl) (qql (qqc qq6 rfl rfl rfl) (qql (qq2 (n := s.2.1.toNat) qj7 rfl rfl rfl zz zz) (qql (qz6 (ys := [.sl _, .p _]) qq7 rfl rfl (qqq zz) rfl (Nat.le_refl _)) (qql (qqi fld89f2 rfl rfl) (qql (qqc qq6 rfl rfl rfl) ?_)))))))))
   refine d_v0' (qqn (v := .tup [.agg [.sl _, .p _], .p _]) (hp1 := []) [] false [] ent237 (f_divide (atI D s.2.1) s.2.2.1) ⟨.inl ⟨rfl, rfl⟩, .inl ⟨rfl, rfl⟩, trivial⟩ trivial rfl rfl (fun h => by cases h) rfl (fun _ h => by cases h) (.inl rfl) rfl rfl) ?_
   refine qql (qqj (evo rfl)) (qql (qqt rfl rfl) (qql (qqt rfl rfl) (d_s' (qqe qq7 rfl rfl rfl rfl rfl rfl) ?_)))
   refine qql (qj6 (evo rfl)) (qzf (by kernel_rfl) (by kernel_rfl) ?_)
   refine qqf (qj3 qzr (by kernel_rfl) (by kernel_rfl) fun vf => ?_)
   refine qql (qqj (evo rfl)) (qql (qqj (evo rfl)) (qql (qqj (evo rfl)) (qql (qq1 rfl rfl) (qql (qqi qze rfl rfl) (qql (qqc qzn rfl rfl rfl) (qql (qqg (ys := [.sl _, .p _]) qq7 rfl rfl rfl (nb rfl)) (d_n' (fun ver => qqh (parts := [(0, .tmp 163)]) (es := [[_, _]]) qj7 qjm rfl rfl (by decide) (by decide) rfl rfl (by simp) rfl) ?_)))))))
   refine d_n' (fun ver => qqs qj7 qjm rfl rfl rfl rfl rfl rfl (by rw [qqu]; first | omega | (simp only [nr, nl]; omega)) zz) ?_
   refine qql (qqj (evo rfl)) (qql (qq1 rfl rfl) (qql (qqi qzu rfl rfl) (qql (qqc leaf44 rfl rfl rfl) (d_n' (fun ver => qqh (parts := [(0, .const (.bool false))]) (es := [[_]]) qzm elt4 rfl rfl (by decide) (by decide) rfl rfl (by simp) rfl) ?_))))
   refine d_n' (fun ver => qqs qzm elt4 rfl rfl rfl rfl rfl rfl (by rw [qqu]; first | omega | (simp only [nr, nl]; omega)) zz) ?_
   refine qql (qq1 rfl rfl) (qql (qqi qze rfl rfl) (d_s' (qq5 qzn rfl rfl (nb rfl) (evo rfl) rfl) ?_))
   refine qql (qq1 rfl rfl) (qql (qqi qzu rfl rfl) (d_s' (qq5 leaf44 rfl rfl (nb rfl) (evo rfl) rfl) ?_))
   refine qzf (by kernel_rfl) (by kernel_rfl) ?_
   refine rs (om rfl (oa rfl (on (qqx ?_))))
   exact ⟨[.p _], .p _, [.box 170 [.own 3 0, .own 4 0], .gone, .gone], [.row 69 2 _, .row 4 1 _], [(1001, (vf 1001)), (1002, (vf 1002))], ⟨rfl, trivial⟩, rfl, rfl, ⟨⟨rfl, rfl⟩, ⟨rfl, rfl⟩, ⟨rfl, rfl⟩, ⟨rfl, rfl⟩, ⟨rfl, rfl⟩, trivial⟩, rfl, rfl, ⟨qje (by rw [(stpO_a hsh href (by assumption)).1]; (first | rw [(drv_1 (by assumption)).2] | rw [(drv_2 (by assumption)).2] | rw [(drv_3 (by assumption)).2, ← chR_div.2] | rw [(drv_4 (by assumption) hAc).2] | rw [(drv_5 (by assumption)).2] | rw [(drv_6 (by assumption)).2] | rw [(drv_7 (by assumption)).2]); first | done | (simp_all; done)), rfl, by rw [(stpO_a hsh href (by assumption)).2, List.map_append, List.map_append]; (first | rw [(drv_1 (by assumption)).1] | rw [(drv_2 (by assumption)).1] | rw [(drv_3 (by assumption)).1, ← chR_div.1] | rw [(drv_4 (by assumption) hAc).1] | rw [(drv_5 (by assumption)).1] | rw [(drv_6 (by assumption)).1] | rw [(drv_7 (by assumption)).1]); rfl⟩⟩
  have h17r := h17
  try simp only [nq, nr, nl] at h17
  refine rs (qqa (qz5 rfl rfl) (oa rfl (on (ac rfl (fun h18 => ?_) fun h18 => ?_))))
  ·
   have h18r := h18
   try simp only [nq, nr, nl] at h18
   have hrk : refK s.1 = (1, false) := by rw [show s.1 = 4 by assumption]; rfl
   have hA : livV D s.2.1 = true := by first | assumption | (exfalso; simp_all)
   have hAr := liv_rng hA
   have hAc := invD_at hD hA
   refine qj3 qzr (by kernel_rfl) (by kernel_rfl) fun vf => ?_
   refine qql (qqj (evo rfl)) (qql (qq1 rfl rfl) (qql (qqi qze rfl rfl) (qql (qqc qzn rfl rfl rfl) (qql (qqi fld89f1 rfl rfl) (qql (qqc qq6 rfl rfl rfl) (qql (qq2 (n := s.2.1.toNat) qj7 rfl rfl rfl zz zz) (qql (qz6 (ys := [.sl _, .p _]) qq7 rfl rfl (qqq zz) rfl (Nat.le_refl _)) ?_)))))))
   refine d_v0' (qqn (v := .tup [.agg [.sl _, .p _], .p _]) (hp1 := []) [] false [] ent238 (f_satImpl (atI D s.2.1) hAc) ⟨.inl ⟨rfl, rfl⟩, trivial⟩ trivial rfl rfl (fun h => by cases h) rfl (fun _ h => by cases h) (.inl rfl) rfl rfl) ?_
   refine qql (qqj (evo rfl)) (qql (qqt rfl rfl) (qql (qqt rfl rfl) (d_s' (qqe qq7 rfl rfl rfl rfl rfl rfl) ?_)))
   refine qql (qj6 (evo rfl)) (qzf (by kernel_rfl) (by kernel_rfl) ?_)
   refine qqf (qj3 qzr (by kernel_rfl) (by kernel_rfl) fun vf => ?_)
   refine qql (qqj (evo rfl)) (qql (qqj (evo rfl)) (qql (qqj (evo rfl)) (qql (qq1 rfl rfl) (qql (qqi qze rfl rfl) (qql (qqc qzn rfl rfl rfl) (qql (qqg (ys := [.sl _, .p _]) qq7 rfl rfl rfl (nb rfl)) (d_n' (fun ver => qqh (parts := [(0, .tmp 163)]) (es := [[_, _]]) qj7 qjm rfl rfl (by decide) (by decide) rfl rfl (by simp) rfl) ?_)))))))
   refine d_n' (fun ver => qqs qj7 qjm rfl rfl rfl rfl rfl rfl (by rw [qqu]; first | omega | (simp only [nr, nl]; omega)) zz) ?_
   refine qql (qqj (evo rfl)) (qql (qq1 rfl rfl) (qql (qqi qzu rfl rfl) (qql (qqc leaf44 rfl rfl rfl) (d_n' (fun ver => qqh (parts := [(0, .const (.bool false))]) (es := [[_]]) qzm elt4 rfl rfl (by decide) (by decide) rfl rfl (by simp) rfl) ?_))))
   refine d_n' (fun ver => qqs qzm elt4 rfl rfl rfl rfl rfl rfl (by rw [qqu]; first | omega | (simp only [nr, nl]; omega)) zz) ?_
   refine qql (qq1 rfl rfl) (qql (qqi qze rfl rfl) (d_s' (qq5 qzn rfl rfl (nb rfl) (evo rfl) rfl) ?_))
   refine qql (qq1 rfl rfl) (qql (qqi qzu rfl rfl) (d_s' (qq5 leaf44 rfl rfl (nb rfl) (evo rfl) rfl) ?_))
   refine qzf (by kernel_rfl) (by kernel_rfl) ?_
   refine rs (om rfl (oa rfl (on (qqx ?_))))
   exact ⟨[.p _], .p _, [.box 170 [.own 3 0, .own 4 0], .gone, .gone], [.row 69 2 _, .row 4 1 _], [(1001, (vf 1001)), (1002, (vf 1002))], ⟨rfl, trivial⟩, rfl, rfl, ⟨⟨rfl, rfl⟩, ⟨rfl, rfl⟩, ⟨rfl, rfl⟩, ⟨rfl, rfl⟩, ⟨rfl, rfl⟩, trivial⟩, rfl, rfl, ⟨qje (by rw [(stpO_a hsh href (by assumption)).1]; (first | rw [(drv_1 (by assumption)).2] | rw [(drv_2 (by assumption)).2] | rw [(drv_3 (by assumption)).2, ← chR_div.2] | rw [(drv_4 (by assumption) hAc).2] | rw [(drv_5 (by assumption)).2] | rw [(drv_6 (by assumption)).2] | rw [(drv_7 (by assumption)).2]); first | done | (simp_all; done)), rfl, by rw [(stpO_a hsh href (by assumption)).2, List.map_append, List.map_append]; (first | rw [(drv_1 (by assumption)).1] | rw [(drv_2 (by assumption)).1] | rw [(drv_3 (by assumption)).1, ← chR_div.1] | rw [(drv_4 (by assumption) hAc).1] | rw [(drv_5 (by assumption)).1] | rw [(drv_6 (by assumption)).1] | rw [(drv_7 (by assumption)).1]); rfl⟩⟩
  have h18r := h18
  try simp only [nq, nr, nl] at h18
  refine rs (qqa (qz5 rfl rfl) (oa rfl (on (ac rfl (fun h19 => ?_) fun h19 => ?_))))
  ·
   have h19r := h19
   try simp only [nq, nr, nl] at h19
   have hrk : refK s.1 = (1, true) := by rw [show s.1 = 5 by assumption]; rfl
   have hA : livV D s.2.1 = true := by first | assumption | (exfalso; simp_all)
   have hAr := liv_rng hA
   have hAc := invD_at hD hA
   refine qj3 qzr (by kernel_rfl) (by kernel_rfl) fun vf => ?_
   refine qql (qqj (evo rfl)) (qql (qq1 rfl rfl) (qql (qqi qze rfl rfl) (qql (qqc qzn rfl rfl rfl) (qql (qqi fld89f1 rfl rfl) (qql (qqc qq6 rfl rfl rfl) (qql (qq2 (n := s.2.1.toNat) qj7 rfl rfl rfl zz zz) (qql (qz6 (ys := [.sl _, .p _]) qq7 rfl rfl (qqq zz) rfl (Nat.le_refl _)) (qql (qqi fld89f2 rfl rfl) (qql (qqc qq6 rfl rfl rfl) ?_)))))))))
   refine d_v0' (qqn (v := .tup [.agg [.sl _, .p _], .p _]) (hp1 := []) [] false [] ent239 (f_weakImpl (atI D s.2.1) s.2.2.1) ⟨.inl ⟨rfl, rfl⟩, .inl ⟨rfl, rfl⟩, trivial⟩ trivial rfl rfl (fun h => by cases h) rfl (fun _ h => by cases h) (.inl rfl) rfl rfl) ?_
   refine qql (qqj (evo rfl)) (qql (qqt rfl rfl) (qql (qqt rfl rfl) (d_s' (qqe qq7 rfl rfl rfl rfl rfl rfl) ?_)))
   refine qql (qj6 (evo rfl)) (qzf (by kernel_rfl) (by kernel_rfl) ?_)
   refine qqf (qj3 qzr (by kernel_rfl) (by kernel_rfl) fun vf => ?_)
   refine qql (qqj (evo rfl)) (qql (qqj (evo rfl)) (qql (qqj (evo rfl)) (qql (qq1 rfl rfl) (qql (qqi qze rfl rfl) (qql (qqc qzn rfl rfl rfl) (qql (qqg (ys := [.sl _, .p _]) qq7 rfl rfl rfl (nb rfl)) (d_n' (fun ver => qqh (parts := [(0, .tmp 163)]) (es := [[_, _]]) qj7 qjm rfl rfl (by decide) (by decide) rfl rfl (by simp) rfl) ?_)))))))
   refine d_n' (fun ver => qqs qj7 qjm rfl rfl rfl rfl rfl rfl (by rw [qqu]; first | omega | (simp only [nr, nl]; omega)) zz) ?_
   refine qql (qqj (evo rfl)) (qql (qq1 rfl rfl) (qql (qqi qzu rfl rfl) (qql (qqc leaf44 rfl rfl rfl) (d_n' (fun ver => qqh (parts := [(0, .const (.bool false))]) (es := [[_]]) qzm elt4 rfl rfl (by decide) (by decide) rfl rfl (by simp) rfl) ?_))))
   refine d_n' (fun ver => qqs qzm elt4 rfl rfl rfl rfl rfl rfl (by rw [qqu]; first | omega | (simp only [nr, nl]; omega)) zz) ?_
   refine qql (qq1 rfl rfl) (qql (qqi qze rfl rfl) (d_s' (qq5 qzn rfl rfl (nb rfl) (evo rfl) rfl) ?_))
   refine qql (qq1 rfl rfl) (qql (qqi qzu rfl rfl) (d_s' (qq5 leaf44 rfl rfl (nb rfl) (evo rfl) rfl) ?_))
   refine qzf (by kernel_rfl) (by kernel_rfl) ?_
   refine rs (om rfl (oa rfl (on (qqx ?_))))
   exact ⟨[.p _], .p _, [.box 170 [.own 3 0, .own 4 0], .gone, .gone], [.row 69 2 _, .row 4 1 _], [(1001, (vf 1001)), (1002, (vf 1002))], ⟨rfl, trivial⟩, rfl, rfl, ⟨⟨rfl, rfl⟩, ⟨rfl, rfl⟩, ⟨rfl, rfl⟩, ⟨rfl, rfl⟩, ⟨rfl, rfl⟩, trivial⟩, rfl, rfl, ⟨qje (by rw [(stpO_a hsh href (by assumption)).1]; (first | rw [(drv_1 (by assumption)).2] | rw [(drv_2 (by assumption)).2] | rw [(drv_3 (by assumption)).2, ← chR_div.2] | rw [(drv_4 (by assumption) hAc).2] | rw [(drv_5 (by assumption)).2] | rw [(drv_6 (by assumption)).2] | rw [(drv_7 (by assumption)).2]); first | done | (simp_all; done)), rfl, by rw [(stpO_a hsh href (by assumption)).2, List.map_append, List.map_append]; (first | rw [(drv_1 (by assumption)).1] | rw [(drv_2 (by assumption)).1] | rw [(drv_3 (by assumption)).1, ← chR_div.1] | rw [(drv_4 (by assumption) hAc).1] | rw [(drv_5 (by assumption)).1] | rw [(drv_6 (by assumption)).1] | rw [(drv_7 (by assumption)).1]); rfl⟩⟩
  have h19r := h19
  try simp only [nq, nr, nl] at h19
  refine rs (qqa (qz5 rfl rfl) (oa rfl (on (ac rfl (fun h20 => ?_) fun h20 => ?_))))
  ·
   have h20r := h20
   try simp only [nq, nr, nl] at h20
   exact absurd (of_decide_eq_true h20r) (by intro hx; have hy := h2r; have hz := h4r; rw [hx] at hy hz; revert hy hz; decide)
  have h20r := h20
  try simp only [nq, nr, nl] at h20
  refine rs (qqa (qz5 rfl rfl) (oa rfl (on (ac rfl (fun h21 => ?_) fun h21 => ?_))))
  ·
   have h21r := h21
   try simp only [nq, nr, nl] at h21
   exact absurd (of_decide_eq_true h21r) (by intro hx; have hy := h2r; have hz := h4r; rw [hx] at hy hz; revert hy hz; decide)
  have h21r := h21
  try simp only [nq, nr, nl] at h21
  exact absurd (shp_cases hsh) (by intro hx; have h9 := of_decide_eq_false h21r; omega)
 have h2r := h2
 try simp only [nq, nr, nl] at h2
 refine qqa (qqb rfl rfl h2r) (qqa (qqb rfl rfl h2r) (qqa (qqb rfl rfl h2r) (qqa (qqb rfl rfl h2r) (qqa (qqb rfl rfl h2r) (qqa (qqd rfl rfl h1r (qqy rfl h2r (evo rfl))) (qqa (qqy rfl h1r (evo rfl)) (om rfl (qqa (qqd rfl rfl rfl (qqj (evo rfl))) (qqa (qqd rfl rfl rfl (j_gt rfl rfl)) (qqa (qqd rfl rfl rfl (qqj (evo rfl))) (qqz 32 rfl (fun h22 => ?_) (fun h22 => ?_))))))))))))
 ·
  have h22r := h22
  try simp only [nq, nr, nl] at h22
  exact absurd (of_decide_eq_true h22r) (by have h9 := of_decide_eq_false h2r; omega)
 have h22r := h22
 try simp only [nq, nr, nl] at h22
 refine qqa (qqb rfl rfl h22r) (qqa (qqb rfl rfl h22r) (qqa (qqb rfl rfl h22r) (qqa (qqb rfl rfl h22r) (qqa (qqb rfl rfl h22r) (qqa (qqd rfl rfl rfl (qqy rfl h22r (evo rfl))) (qqa (qqy rfl rfl (evo rfl)) (on (a_ff rfl ?_))))))))
 refine qqo (qqf ?_)
 have hsh : shpV s = true := (by simp_all)
 have href : refO D s = true := (by unfold refO; simp_all)
 refine ar (qqv (fun ver => qjd qjm rfl) fun v7x6 => ?_)
 refine on (rs (oa rfl (on (qqf (rs (qqa (qqi fld89f0 rfl rfl) (qqa (qqc qq6 rfl rfl rfl) (on (qqk (rs (qqa (qz5 rfl rfl) (oa rfl (on (ac rfl (fun h23 => ?_) fun h23 => ?_))))))))))))))
 ·
  have h23r := h23
  try simp only [nq, nr, nl] at h23
  exact absurd (of_decide_eq_true h23r) (by intro hx; have hy := h2r; have hz := h22r; rw [hx] at hy hz; revert hy hz; decide)
 have h23r := h23
 try simp only [nq, nr, nl] at h23
 refine rs (qqa (qz5 rfl rfl) (oa rfl (on (ac rfl (fun h24 => ?_) fun h24 => ?_))))
 ·
  have h24r := h24
  try simp only [nq, nr, nl] at h24
  exact absurd (of_decide_eq_true h24r) (by intro hx; have hy := h2r; have hz := h22r; rw [hx] at hy hz; revert hy hz; decide)
 have h24r := h24
 try simp only [nq, nr, nl] at h24
 refine rs (qqa (qz5 rfl rfl) (oa rfl (on (ac rfl (fun h25 => ?_) fun h25 => ?_))))
 ·
  have h25r := h25
  try simp only [nq, nr, nl] at h25
  exact absurd (of_decide_eq_true h25r) (by intro hx; have hy := h2r; have hz := h22r; rw [hx] at hy hz; revert hy hz; decide)
 have h25r := h25
 try simp only [nq, nr, nl] at h25
 refine rs (qqa (qz5 rfl rfl) (oa rfl (on (ac rfl (fun h26 => ?_) fun h26 => ?_))))
 ·
  have h26r := h26
  try simp only [nq, nr, nl] at h26
  exact absurd (of_decide_eq_true h26r) (by intro hx; have hy := h2r; have hz := h22r; rw [hx] at hy hz; revert hy hz; decide)
 have h26r := h26
 try simp only [nq, nr, nl] at h26
 refine rs (qqa (qz5 rfl rfl) (oa rfl (on (ac rfl (fun h27 => ?_) fun h27 => ?_))))
 ·
  have h27r := h27
  try simp only [nq, nr, nl] at h27
  exact absurd (of_decide_eq_true h27r) (by intro hx; have hy := h2r; have hz := h22r; rw [hx] at hy hz; revert hy hz; decide)
 have h27r := h27
 try simp only [nq, nr, nl] at h27
 refine rs (qqa (qz5 rfl rfl) (oa rfl (on (ac rfl (fun h28 => ?_) fun h28 => ?_))))
 ·
  have h28r := h28
  try simp only [nq, nr, nl] at h28
  exact absurd (of_decide_eq_true h28r) (by intro hx; have hy := h2r; have hz := h22r; rw [hx] at hy hz; revert hy hz; decide)
 have h28r := h28
 try simp only [nq, nr, nl] at h28
 refine rs (qqa (qz5 rfl rfl) (oa rfl (on (ac rfl (fun h29 => ?_) fun h29 => ?_))))
 ·
  have h29r := h29
  try simp only [nq, nr, nl] at h29
  refine ar (qqa (qqi fld89f1 rfl rfl) (qqa (qqc qq6 rfl rfl rfl) ?_))
  refine qq0 (qqn (v := .tup [.agg [.sl _, .p _], .p _]) (hp1 := []) [] false [] ent240 (f_axImpl s.2.1) ⟨.inl ⟨rfl, rfl⟩, trivial⟩ trivial rfl rfl (fun h => by cases h) rfl (fun _ h => by cases h) (.inl rfl) rfl rfl) ?_
  refine om rfl (qqa (qqt rfl rfl) (qqa (qqt rfl rfl) (qjg (qqe qq7 rfl rfl rfl rfl rfl rfl) ?_)))
  refine oa rfl (on (qqf (qj3 qzr (by kernel_rfl) (by kernel_rfl) fun vf => ?_)))
  refine qql (qqj (evo rfl)) (qql (qqj (evo rfl)) (qql (qqj (evo rfl)) (qql (qq1 rfl rfl) (qql (qqi qze rfl rfl) (qql (qqc qzn rfl rfl rfl) (qql (qqg (ys := [.sl _, .p _]) qq7 rfl rfl rfl (nb rfl)) (d_n' (fun ver => qqh (parts := [(0, .tmp 163)]) (es := [[_, _]]) qj7 qjm rfl rfl (by decide) (by decide) rfl rfl (by simp) rfl) ?_)))))))
  refine d_n' (fun ver => qqs qj7 qjm rfl rfl rfl rfl rfl rfl (by rw [qqu]; first | omega | (simp only [nr, nl]; omega)) zz) ?_
  refine qql (qqj (evo rfl)) (qql (qq1 rfl rfl) (qql (qqi qzu rfl rfl) (qql (qqc leaf44 rfl rfl rfl) (d_n' (fun ver => qqh (parts := [(0, .const (.bool false))]) (es := [[_]]) qzm elt4 rfl rfl (by decide) (by decide) rfl rfl (by simp) rfl) ?_))))
  refine d_n' (fun ver => qqs qzm elt4 rfl rfl rfl rfl rfl rfl (by rw [qqu]; first | omega | (simp only [nr, nl]; omega)) zz) ?_
  refine qql (qq1 rfl rfl) (qql (qqi qze rfl rfl) (d_s' (qq5 qzn rfl rfl (nb rfl) (evo rfl) rfl) ?_))
  refine qql (qq1 rfl rfl) (qql (qqi qzu rfl rfl) (d_s' (qq5 leaf44 rfl rfl (nb rfl) (evo rfl) rfl) ?_))
  refine qzf (by kernel_rfl) (by kernel_rfl) ?_
  refine rs (om rfl (oa rfl (on (qqx ?_))))
  exact ⟨[.p _], .p _, [.box 170 [.own 3 0, .own 4 0], .gone, .gone], [.row 69 2 _, .row 4 1 _], [(1001, (vf 1001)), (1002, (vf 1002))], ⟨rfl, trivial⟩, rfl, rfl, ⟨⟨rfl, rfl⟩, ⟨rfl, rfl⟩, ⟨rfl, rfl⟩, ⟨rfl, rfl⟩, ⟨rfl, rfl⟩, trivial⟩, rfl, rfl, ⟨qje (by rw [(stpO_a hsh href (by assumption)).1]; (first | rw [(drv_1 (by assumption)).2] | rw [(drv_2 (by assumption)).2] | rw [(drv_3 (by assumption)).2, ← chR_div.2] | rw [(drv_4 (by assumption) hAc).2] | rw [(drv_5 (by assumption)).2] | rw [(drv_6 (by assumption)).2] | rw [(drv_7 (by assumption)).2]); first | done | (simp_all; done)), rfl, by rw [(stpO_a hsh href (by assumption)).2, List.map_append, List.map_append]; (first | rw [(drv_1 (by assumption)).1] | rw [(drv_2 (by assumption)).1] | rw [(drv_3 (by assumption)).1, ← chR_div.1] | rw [(drv_4 (by assumption) hAc).1] | rw [(drv_5 (by assumption)).1] | rw [(drv_6 (by assumption)).1] | rw [(drv_7 (by assumption)).1]); rfl⟩⟩
 have h29r := h29
 try simp only [nq, nr, nl] at h29
 refine rs (qqa (qz5 rfl rfl) (oa rfl (on (ac rfl (fun h30 => ?_) fun h30 => ?_))))
 ·
  have h30r := h30
  try simp only [nq, nr, nl] at h30
  refine qj3 qzr (by kernel_rfl) (by kernel_rfl) fun vf => ?_
  refine qql (qqi qz9 rfl rfl) (qql (qqg (ys := [.sl _, .p _]) qq7 rfl rfl rfl (nb rfl)) (qql (qqi qz9 rfl rfl) (qql (qqg (ys := [.sl _, .p _]) qq7 rfl rfl rfl (nb rfl)) ?_)))
  refine d_v0' (qqn (v := .p _) (hp1 := []) [] false [] ent115 (f_cvImpl s.2.2.2) ⟨.inl ⟨rfl, rfl⟩, trivial⟩ trivial rfl rfl (fun h => by cases h) rfl (fun _ h => by cases h) (.inl rfl) rfl rfl) ?_
  refine qql (qqj (evo rfl)) (d_split' 150 rfl (fun h31 => ?_) (fun h31 => ?_))
  ·
   have h31r := h31
   try simp only [nq, nr, nl] at h31
   refine qql (qqd rfl rfl h31r (qqj (evo rfl))) ?_
   refine d_n1' (fun ver => qqd rfl rfl h31r (qza (v := .own 152 ver) (hp1 := [(0, some (0, .box 170 [.own 1001 v1001x1, .own 1002 v1002x2])), (1001, some (v1001x1, .row 69 2 _)), (1002, some (v1002x2, .row 4 1 _)), (152, some (ver, .row 69 2 _))]) [(0, 0), (1001, v1001x1), (1002, v1002x2)] false [0, 1001, 1002] ent242 (f_left D hl2 (by omega)) ⟨.inl ⟨rfl, rfl⟩, trivial⟩ ⟨⟨rfl, rfl⟩, ⟨rfl, rfl⟩, ⟨rfl, rfl⟩, trivial⟩ rfl rfl rfl (fun h => by cases h) rfl (List.all_eq_true.1 rfl) (.inl rfl) rfl rfl)) ?_
   refine qql (qqd rfl rfl h31r (qqi qz9 rfl rfl)) (qql (qqd rfl rfl h31r (qqg (ys := [.sl _, .p _]) qq7 rfl rfl rfl (nb rfl))) ?_)
   refine d_v0' (qqd rfl rfl h31r (qqn (v := .p _) (hp1 := []) [] true [152] ent241 (f_rup (kepV D) s.2.2.2 (kepV_all hD) (by have h9 := kepV_len (D := D); omega) (by assumption)) ⟨.inr ⟨rfl, qzq rfl rfl, rfl⟩, .inl ⟨rfl, rfl⟩, trivial⟩ trivial rfl rfl (fun _ => rfl) rfl (fun _ h => by cases h) (.inr ⟨rfl, by first | exact pl_new1 (fun _ => rfl) | exact pl_newC | (simp [plO, plV, plV.plL]; done)⟩) rfl rfl)) ?_
   refine qql (qqr rfl h31r (evo rfl)) (d_s' (qqe qq7 rfl rfl rfl rfl rfl rfl) ?_)
   refine qql (qj6 (evo rfl)) (qzf (by kernel_rfl) (by kernel_rfl) ?_)
   refine qqf (qj3 qzr (by kernel_rfl) (by kernel_rfl) fun vf24 => ?_)
   refine qql (qqj (evo rfl)) (qql (qqj (evo rfl)) (qql (qqj (evo rfl)) (qql (qq1 rfl rfl) (qql (qqi qze rfl rfl) (qql (qqc qzn rfl rfl rfl) (qql (qqg (ys := [.sl _, .p _]) qq7 rfl rfl rfl (nb rfl)) (d_n' (fun ver => qqh (parts := [(0, .tmp 163)]) (es := [[_, _]]) qj7 qjm rfl rfl (by decide) (by decide) rfl rfl (by simp) rfl) ?_)))))))
   refine d_n' (fun ver => qqs qj7 qjm rfl rfl rfl rfl rfl rfl (by rw [qqu]; first | omega | (simp only [nr, nl]; omega)) zz) ?_
   refine qql (qqj (evo rfl)) (qql (qq1 rfl rfl) (qql (qqi qzu rfl rfl) (qql (qqc leaf44 rfl rfl rfl) (d_n' (fun ver => qqh (parts := [(0, .const (.bool false))]) (es := [[_]]) qzm elt4 rfl rfl (by decide) (by decide) rfl rfl (by simp) rfl) ?_))))
   refine d_n' (fun ver => qqs qzm elt4 rfl rfl rfl rfl rfl rfl (by rw [qqu]; first | omega | (simp only [nr, nl]; omega)) zz) ?_
   refine qql (qq1 rfl rfl) (qql (qqi qze rfl rfl) (d_s' (qq5 qzn rfl rfl (nb rfl) (evo rfl) rfl) ?_))
   refine qql (qq1 rfl rfl) (qql (qqi qzu rfl rfl) (d_s' (qq5 leaf44 rfl rfl (nb rfl) (evo rfl) rfl) ?_))
   refine qzf (by kernel_rfl) (by kernel_rfl) ?_
   refine rs (om rfl (oa rfl (on (qqx ?_))))
   exact ⟨[.p _], .p _, [.box 170 [.own 3 0, .own 4 0], .gone, .gone], [.row 69 2 _, .row 4 1 _], [(1001, (vf24 1001)), (1002, (vf24 1002))], ⟨rfl, trivial⟩, rfl, rfl, ⟨⟨rfl, rfl⟩, ⟨rfl, rfl⟩, ⟨rfl, rfl⟩, ⟨rfl, rfl⟩, ⟨rfl, rfl⟩, trivial⟩, rfl, rfl, ⟨qje (by rw [(stpO_a hsh href (by assumption)).1]; (first | rw [(drv_1 (by assumption)).2] | rw [(drv_2 (by assumption)).2] | rw [(drv_3 (by assumption)).2, ← chR_div.2] | rw [(drv_4 (by assumption) hAc).2] | rw [(drv_5 (by assumption)).2] | rw [(drv_6 (by assumption)).2] | rw [(drv_7 (by assumption)).2]); first | done | (simp_all; done)), rfl, by rw [(stpO_a hsh href (by assumption)).2, List.map_append, List.map_append]; (first | rw [(drv_1 (by assumption)).1] | rw [(drv_2 (by assumption)).1] | rw [(drv_3 (by assumption)).1, ← chR_div.1] | rw [(drv_4 (by assumption) hAc).1] | rw [(drv_5 (by assumption)).1] | rw [(drv_6 (by assumption)).1] | rw [(drv_7 (by assumption)).1]); rfl⟩⟩
  have h31r := h31
  try simp only [nq, nr, nl] at h31
  refine qql (qqb rfl rfl h31r) (qql (qqb rfl rfl h31r) (qql (qqb rfl rfl h31r) (qql (qqb rfl rfl h31r) (qql (qqb rfl rfl h31r) (qql (qqy rfl h31r (evo rfl)) (d_s' (qqe qq7 rfl rfl rfl rfl rfl rfl) ?_))))))
  refine qql (qj6 (evo rfl)) (qzf (by kernel_rfl) (by kernel_rfl) ?_)
  refine qqf (qj3 qzr (by kernel_rfl) (by kernel_rfl) fun vf => ?_)
  refine qql (qqj (evo rfl)) (qql (qqj (evo rfl)) (qql (qqj (evo rfl)) (qql (qq1 rfl rfl) (qql (qqi qze rfl rfl) (qql (qqc qzn rfl rfl rfl) (qql (qqg (ys := [.sl _, .p _]) qq7 rfl rfl rfl (nb rfl)) (d_n' (fun ver => qqh (parts := [(0, .tmp 163)]) (es := [[_, _]]) qj7 qjm rfl rfl (by decide) (by decide) rfl rfl (by simp) rfl) ?_)))))))
  refine d_n' (fun ver => qqs qj7 qjm rfl rfl rfl rfl rfl rfl (by rw [qqu]; first | omega | (simp only [nr, nl]; omega)) zz) ?_
  refine qql (qqj (evo rfl)) (qql (qq1 rfl rfl) (qql (qqi qzu rfl rfl) (qql (qqc leaf44 rfl rfl rfl) (d_n' (fun ver => qqh (parts := [(0, .const (.bool false))]) (es := [[_]]) qzm elt4 rfl rfl (by decide) (by decide) rfl rfl (by simp) rfl) ?_))))
  refine d_n' (fun ver => qqs qzm elt4 rfl rfl rfl rfl rfl rfl (by rw [qqu]; first | omega | (simp only [nr, nl]; omega)) zz) ?_
  refine qql (qq1 rfl rfl) (qql (qqi qze rfl rfl) (d_s' (qq5 qzn rfl rfl (nb rfl) (evo rfl) rfl) ?_))
  refine qql (qq1 rfl rfl) (qql (qqi qzu rfl rfl) (d_s' (qq5 leaf44 rfl rfl (nb rfl) (evo rfl) rfl) ?_))
  refine qzf (by kernel_rfl) (by kernel_rfl) ?_
  refine rs (om rfl (oa rfl (on (qqx ?_))))
  exact ⟨[.p _], .p _, [.box 170 [.own 3 0, .own 4 0], .gone, .gone], [.row 69 2 _, .row 4 1 _], [(1001, (vf 1001)), (1002, (vf 1002))], ⟨rfl, trivial⟩, rfl, rfl, ⟨⟨rfl, rfl⟩, ⟨rfl, rfl⟩, ⟨rfl, rfl⟩, ⟨rfl, rfl⟩, ⟨rfl, rfl⟩, trivial⟩, rfl, rfl, ⟨qje (by rw [(stpO_a hsh href (by assumption)).1]; (first | rw [(drv_1 (by assumption)).2] | rw [(drv_2 (by assumption)).2] | rw [(drv_3 (by assumption)).2, ← chR_div.2] | rw [(drv_4 (by assumption) hAc).2] | rw [(drv_5 (by assumption)).2] | rw [(drv_6 (by assumption)).2] | rw [(drv_7 (by assumption)).2]); first | done | (simp_all; done)), rfl, by rw [(stpO_a hsh href (by assumption)).2, List.map_append, List.map_append]; (first | rw [(drv_1 (by assumption)).1] | rw [(drv_2 (by assumption)).1] | rw [(drv_3 (by assumption)).1, ← chR_div.1] | rw [(drv_4 (by assumption) hAc).1] | rw [(drv_5 (by assumption)).1] | rw [(drv_6 (by assumption)).1] | rw [(drv_7 (by assumption)).1]); rfl⟩⟩
 have h30r := h30
 try simp only [nq, nr, nl] at h30
 exact absurd (shp_cases hsh) (by intro hx; have h9 := of_decide_eq_false h30r; omega)
end Go.Ab

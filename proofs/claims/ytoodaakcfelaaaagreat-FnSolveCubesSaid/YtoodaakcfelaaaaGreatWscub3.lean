/- Walks. -/
import Derived.Test.YtoodaakcfelaaaaGreatBase2
import Derived.Test.YtoodaakcfelaaaaGreatCub3
import Derived.Test.YtoodaakcfelaaaaGreatFlt2
import Derived.Test.YtoodaakcfelaaaaGreatWscub2
import Derived.Test.YtoodaakcfelaaaaGreatPf3
import Derived.Test.YtoodaakcfelaaaaGreatWsrun3
import Derived.Test.YtoodaakcfelaaaaGreatWsrun1
import Derived.Test.YtoodaakcfelaaaaGreatWssolve
import Derived.Test.YtoodaakcfelaaaaGreatWsexcl2
namespace Go.Ab
open Go.Proofs
set_option maxRecDepth 100000
set_option maxHeartbeats 8000000
set_option linter.unusedSimpArgs false
set_option linter.unusedVariables false
theorem zbc1 {p : Prop} (h : p := by first | omega | (simp only [nr, nl, qjc, qjr]; omega)) : p := h
theorem f_l12Vars (vs : List Int) : Fn Tryz.prog 84 [.sl (vs.map dI)] [] (fun rr ii nn => rr = .p (.bool ((varsFrom 0 vs && decide (vs.length ≤ 4)))) ∧ ii = [] ∧ nn = []) := by
 refine qjl Tryz.func84 rfl (nb rfl) fun w X g => ?_
 show AWp _ _ _ ⟨[(0, .sl (vs.map dI))], []⟩
 refine a_len_map 0 rfl fun hlen => ?_
 refine rs (oa rfl (on (qqf (rs (oa rfl (on (qqk (qq4 (ι := Nat) (fun k => k ≤ vs.length ∧ varsFrom 0 vs = varsFrom (prevI vs k) (vs.drop k)) (fun k r => (3, .p (.int .i64 ((k : Nat)))) :: r) (fun k r => r) (fun k => vs.length - k) (fun _ _ => rfl) (fun _ _ => rfl) 0 ⟨Nat.zero_le _, rfl⟩ ⟨⟨rfl, rfl⟩, ⟨rfl, trivial⟩, trivial, ⟨rfl, rfl⟩, ⟨rfl, rfl⟩⟩ ?_))))))))
 intro k hpre
 refine qqf (rs (om rfl (om rfl (qqa (qqw Tryz.underlying23 rfl) (qqa (qzt rfl rfl) (on (ac rfl (fun h1 => ?_) fun h1 => ?_)))))))
 ·
  have h1r := h1
  try simp only [nq, nr] at h1
  refine qqo (qqf (qqk (qqf (qj3 qzr (by kernel_rfl) (by kernel_rfl) fun vf => ?_))))
  refine qql (qqj (evo rfl)) (qql (qqj (evo rfl)) (qql (qq9 qjb rfl rfl rfl (qqq (by omega)) rfl) (qql (qq8 qq6 rfl (qqq (by omega)) rfl) (qql (qzt rfl rfl) (qql (qqj (evo rfl)) (d_split' 15 rfl (fun h2 => ?_) (fun h2 => ?_)))))))
  ·
   have h2r := h2
   try simp only [nq, nr] at h2
   refine qql (qqb rfl rfl h2r) (qql (qqb rfl rfl h2r) (qql (qqb rfl rfl h2r) (qql (qqb rfl rfl h2r) (qql (qqb rfl rfl h2r) (qql (qqr rfl h2r (evo rfl)) (qql (qqj (evo rfl)) (qql (qqb rfl rfl rfl) (qql (qqb rfl rfl rfl) (qql (qqb rfl rfl rfl) (qql (qqp rfl rfl) (qql (qqp rfl rfl) (qql (qqp rfl rfl) (qql (qqp rfl rfl) ?_)))))))))))))
   refine qql (qqp rfl rfl) (qql (qqp rfl rfl) (qql (qqp rfl rfl) (qql (qqp rfl rfl) (qql (qqp rfl rfl) (qql (qqp rfl rfl) (qql (qqb rfl rfl rfl) (qql (qqr rfl rfl (evo rfl)) (qzf (by kernel_rfl) (by kernel_rfl) ?_))))))))
   refine a_tt rfl ?_
   refine rs (oa rfl (on (qqx ?_)))
   exact qjt rfl ⟨qje (by symm; rw [hpre.2, qjz (d := default) (by omega), (varsFrom_bad (by rintro ⟨a1, a2, a3⟩; first | omega | (rw [prevI_pos (by omega)] at a1; omega))), Bool.false_and]), rfl, rfl⟩
  have h2r := h2
  try simp only [nq, nr] at h2
  refine qql (qqd rfl rfl h2r (qqj (evo rfl))) (qql (qqd rfl rfl h2r (qqj (evo rfl))) (qql (qqd rfl rfl h2r (qq9 qjb rfl rfl rfl (qqq (by omega)) rfl)) ?_))
  refine qql (qqd rfl rfl h2r (qq8 qq6 rfl (qqq (by omega)) rfl)) ?_
  refine qql (qqd rfl rfl h2r (j_gt rfl rfl)) (qql (qqy rfl h2r (evo rfl)) (qql (qqj (evo rfl)) (d_split' 22 rfl (fun h3 => ?_) (fun h3 => ?_))))
  ·
   have h3r := h3
   try simp only [nq, nr] at h3
   refine qql (qqb rfl rfl h3r) (qql (qqb rfl rfl h3r) (qql (qqb rfl rfl h3r) (qql (qqp rfl rfl) (qql (qqp rfl rfl) (qql (qqp rfl rfl) (qql (qqp rfl rfl) (qql (qqp rfl rfl) (qql (qqp rfl rfl) (qql (qqp rfl rfl) (qql (qqp rfl rfl) (qql (qqp rfl rfl) (qql (qqp rfl rfl) (qql (qqb rfl rfl h3r) ?_)))))))))))))
   refine qql (qqr rfl h3r (evo rfl)) (qzf (by kernel_rfl) (by kernel_rfl) ?_)
   refine a_tt rfl ?_
   refine rs (oa rfl (on (qqx ?_)))
   exact qjt rfl ⟨qje (by symm; rw [hpre.2, qjz (d := default) (by omega), (varsFrom_bad (by rintro ⟨a1, a2, a3⟩; first | omega | (rw [prevI_pos (by omega)] at a1; omega))), Bool.false_and]), rfl, rfl⟩
  have h3r := h3
  try simp only [nq, nr] at h3
  refine qql (qqd rfl rfl h3r (qqj (evo rfl))) (qql (qqd rfl rfl h3r (j_gt rfl rfl)) (qql (qqd rfl rfl h3r (qqj (evo rfl))) (d_split' 25 rfl (fun h4 => ?_) (fun h4 => ?_))))
  ·
   have h4r := h4
   try simp only [nq, nr] at h4
   refine qql (qqd rfl rfl h4r (qqj (evo rfl))) (qql (qqd rfl rfl h4r (qqj (evo rfl))) (qql (qqd rfl rfl h4r (qzw rfl rfl (by omega) (by omega))) (qql (qqd rfl rfl h4r (qq9 (n := k - 1) qjb rfl rfl (by omega) (qqq (by omega)) rfl)) ?_)))
   refine qql (qqd rfl rfl h4r (qq8 qq6 rfl (qqq (by omega)) rfl)) ?_
   refine qql (qqd rfl rfl h4r (qqj (evo rfl))) (qql (qqd rfl rfl h4r (qqj (evo rfl))) (qql (qqd rfl rfl h4r (qq9 qjb rfl rfl rfl (qqq (by omega)) rfl)) ?_))
   refine qql (qqd rfl rfl h4r (qq8 qq6 rfl (qqq (by omega)) rfl)) ?_
   refine qql (qqd rfl rfl h4r (j_ge rfl rfl)) (qql (qqd rfl rfl h3r (qqr rfl h4r (evo rfl))) (qql (qqy rfl h3r (evo rfl)) (qzf (by kernel_rfl) (by kernel_rfl) ?_)))
   refine ac rfl (fun h5 => ?_) fun h5 => ?_
   ·
    have h5r := h5
    try simp only [nq, nr] at h5
    refine rs (oa rfl (on (qqx ?_)))
    exact qjt rfl ⟨qje (by symm; rw [hpre.2, qjz (d := default) (by omega), (varsFrom_bad (by rintro ⟨a1, a2, a3⟩; first | omega | (rw [prevI_pos (by omega)] at a1; omega))), Bool.false_and]), rfl, rfl⟩
   have h5r := h5
   try simp only [nq, nr] at h5
   refine qqo (ar (om rfl (qqa (qjh rfl rfl (by omega) (by omega)) (oa rfl (on ?_)))))
   exact ⟨k + 1, ⟨by omega, by rw [hpre.2, qjz (d := default) (by omega), qxb (by first | (rw [prevI_pos (by omega)]; omega) | (rw [prevI_zero (by omega)]; omega)) (by omega) (by omega), prevI_succ]⟩, ⟨⟨rfl, rfl⟩, ⟨rfl, trivial⟩, trivial, ⟨rfl, rfl⟩, ⟨rfl, rfl⟩⟩, (by omega)⟩
  have h4r := h4
  try simp only [nq, nr] at h4
  refine qql (qqb rfl rfl h4r) (qql (qqb rfl rfl h4r) (qql (qqb rfl rfl h4r) (qql (qqb rfl rfl h4r) (qql (qqb rfl rfl h4r) (qql (qqb rfl rfl h4r) (qql (qqb rfl rfl h4r) (qql (qqb rfl rfl h4r) (qql (qqb rfl rfl h4r) (qql (qqb rfl rfl h4r) (qql (qqd rfl rfl h3r (qqy rfl h4r (evo rfl))) (qql (qqy rfl h3r (evo rfl)) (qzf (by kernel_rfl) (by kernel_rfl) ?_))))))))))))
  refine a_ff rfl ?_
  refine qqo (ar (om rfl (qqa (qjh rfl rfl (by omega) (by omega)) (oa rfl (on ?_)))))
  exact ⟨k + 1, ⟨by omega, by rw [hpre.2, qjz (d := default) (by omega), qxb (by first | (rw [prevI_pos (by omega)]; omega) | (rw [prevI_zero (by omega)]; omega)) (by omega) (by omega), prevI_succ]⟩, ⟨⟨rfl, rfl⟩, ⟨rfl, trivial⟩, trivial, ⟨rfl, rfl⟩, ⟨rfl, rfl⟩⟩, (by omega)⟩
 have h1r := h1
 try simp only [nq, nr] at h1
 refine qjf (rs (om rfl (qqa (qqw Tryz.underlying23 rfl) (qqa (j_le rfl rfl) (oa rfl (on (qqx ?_)))))))
 exact qjt rfl ⟨qje (by rw [hpre.2, List.drop_of_length_le (by omega)]; simp only [varsFrom, Bool.true_and]; exact decide_eq_decide.2 (by omega)), rfl, rfl⟩
theorem f_cubSpec (vs : List Int) (hv : varsFrom 0 vs = true) (hvl : vs.length ≤ 4) : Fn Tryz.prog 85 [.sl (vs.map dI)] [] (fun rr ii nn => rr = .sl ((cubV vs).map dL) ∧ ii = [] ∧ nn = []) := by
 refine qjl Tryz.func85 rfl (nb rfl) fun w X g => ?_
 show AWp _ _ _ ⟨[(0, .sl (vs.map dI))], []⟩
 refine rs (oa rfl (on (rs (qqv (fun ver => qzh qjb elt3 rfl rfl (by decide)) fun v7x1 => ?_))))
 refine qz0 (fun ver => j_buildSlice_deep (x := .tmp 7) (t := (.mk 23 1 [(0, (.mk 3 1 []))])) slt107 elt23 rfl rfl rfl (by decide) (by decide) rfl rfl rfl (eat_own rfl rfl rfl eat_end) rfl rfl) fun v8x2 => ?_
 refine oa rfl (on (a_freezeG 3 trivial rfl rfl rfl rfl ?_))
 refine qqf (rs (oa rfl (on (qqk (qq4 (ι := Nat) (fun k => k ≤ vs.length) (fun k r => (4, .p (.int .i64 ((k : Nat)))) :: (3, .sl ((cubV (vs.take k)).map dL)) :: r) (fun k r => r) (fun k => vs.length - k) (fun _ _ => rfl) (fun _ _ => rfl) 0 (Nat.zero_le _) ⟨⟨rfl, rfl⟩, ⟨rfl, rfl, trivial⟩, trivial, ⟨rfl, rfl⟩, ⟨rfl, rfl⟩⟩ ?_)))))
 intro k hk
 refine qqf (rs (om rfl (om rfl (qqa (qqw Tryz.underlying23 rfl) (qqa (qzt rfl rfl) (on (ac rfl (fun h1 => ?_) fun h1 => ?_)))))))
 ·
  have h1r := h1
  try simp only [nq, nr, nl] at h1
  refine qqo (qqf (qqk (qqf ?_)))
  have hvk := vars_at hv (k := k) zz
  have hcl := cub_take_len (vs := vs) (k := k) zz
  have hp2 := Nat.pow_le_pow_right (n := 2) (by decide) (show k ≤ 4 from zz)
  refine ar (qqv (fun ver => qzh slt107 elt23 rfl rfl (by decide)) fun v15x3 => ?_)
  refine oa rfl (on (a_todeep 15 0 (.mk 23 1 [(0, (.mk 3 1 []))]) (zs := []) (zs' := []) rfl rfl rfl rfl eat_end rfl ?_))
  refine qqf (rs (oa rfl (on (qqk (qq4 (ι := Nat × Nat) (fun x => x.1 ≤ (cubV (vs.take k)).length) (fun x r => (6, .p (.int .i64 ((x.1 : Nat)))) :: (5, .own 15 x.2) :: (3, .sl ((cubV (vs.take k)).map dL)) :: r) (fun x r => (15, some (x.2, .deep (.mk 23 1 [(0, .mk 3 1 [])]) ((cub1 ((cubV (vs.take k)).take x.1) (vs.getD k default)).map dL) none)) :: r) (fun x => (cubV (vs.take k)).length - x.1) (fun _ _ => rfl) (fun _ _ => rfl) (0, v15x3) (by first | exact (Nat.zero_le _) | (dsimp only; exact (Nat.zero_le _))) ⟨⟨rfl, rfl⟩, ⟨rfl, rfl, rfl, trivial⟩, ⟨rfl, trivial⟩, ⟨rfl, rfl⟩, ⟨rfl, rfl⟩⟩ ?_)))))
  rintro ⟨j, w⟩ hj; dsimp only at hj ⊢
  refine qqf (rs (om rfl (om rfl (qqa (qqw Tryz.underlying107 rfl) (qqa (qzt rfl rfl) (on (ac rfl (fun h2 => ?_) fun h2 => ?_)))))))
  ·
   have h2r := h2
   try simp only [nq, nr, nl] at h2
   refine qqo (qqf (qqk (qqf ?_)))
   have hca := cub_asc hv (k := k) zz _ (qju (d := default) (show j < (cubV (vs.take k)).length from zz))
   have hvk := vars_at hv (k := k) zz
   have hc1 := cub1_len (v := (vs.getD k default)) (o := (cubV (vs.take k)).take j)
   rw [List.length_take] at hc1
   refine qj3 qzr (by kernel_rfl) (by kernel_rfl) fun vf => ?_
   refine qql (qqj (evo rfl)) (d_n' (fun ver => qzh qjb elt3 rfl rfl (by decide)) ?_)
   refine qql (qqj (evo rfl)) (qql (qqj (evo rfl)) (qql (qq9 (n := j) slt107 rfl rfl zz (qqq zz) rfl) (qql (qq8 leaf23 rfl (qqq zz) rfl) (d_n1' (fun ver => j_append_slN (by decide) qjb elt3 rfl rfl rfl rfl (by intro x hx; obtain ⟨t, _, rfl⟩ := List.mem_map.1 hx; rfl) lf_ints (by rw [qqu]; first | omega | (simp only [nr, nl]; omega)) zz) ?_))))
   refine qql (qqj (evo rfl)) (qql (qqj (evo rfl)) (qql (qq9 (n := k) qjb rfl rfl zz (qqq zz) rfl) (qql (qq8 qq6 rfl (qqq zz) rfl) (d_n' (fun ver => qqh (parts := [(0, .tmp 32)]) (es := [[_]]) qjb elt3 rfl rfl (by decide) (by decide) rfl rfl (by simp) rfl) ?_))))
   refine d_n1' (fun ver => j_append_ownN (by decide) qjb elt3 rfl rfl rfl rfl rfl rfl (by rw [qqu]; first | omega | (simp only [nr, nl]; omega)) zz rfl) ?_
   refine d_n1' (fun ver => j_buildSlice_deep (x := .tmp 34) (t := (.mk 23 1 [(0, (.mk 3 1 []))])) slt107 elt23 rfl rfl rfl (by decide) (by decide) rfl rfl rfl (eat_own rfl rfl rfl eat_end) rfl rfl) ?_
   refine d_n1' (fun ver => j_append_deep (by decide) slt107 elt23 rfl rfl rfl rfl rfl rfl rfl rfl (nb rfl) (by rw [qqu]; first | omega | (simp only [nr, nl]; omega)) zz) ?_
   refine qql (qj6 (evo rfl)) (qzf (by kernel_rfl) (by kernel_rfl) ?_)
   refine qj3 qzr (by kernel_rfl) (by kernel_rfl) fun vf10 => ?_
   refine qql (qqj (evo rfl)) (d_n' (fun ver => qzh qjb elt3 rfl rfl (by decide)) ?_)
   refine qql (qqj (evo rfl)) (qql (qqj (evo rfl)) (qql (qq9 (n := j) slt107 rfl rfl zz (qqq zz) rfl) (qql (qq8 leaf23 rfl (qqq zz) rfl) (d_n1' (fun ver => j_append_slN (by decide) qjb elt3 rfl rfl rfl rfl (by intro x hx; obtain ⟨t, _, rfl⟩ := List.mem_map.1 hx; rfl) lf_ints (by rw [qqu]; first | omega | (simp only [nr, nl]; omega)) zz) ?_))))
   refine qql (qqj (evo rfl)) (qql (qqj (evo rfl)) (qql (qq9 (n := k) qjb rfl rfl zz (qqq zz) rfl) (qql (qq8 qq6 rfl (qqq zz) rfl) (qql (j_neg rfl zz zz) (d_n' (fun ver => qqh (parts := [(0, .tmp 48)]) (es := [[_]]) qjb elt3 rfl rfl (by decide) (by decide) rfl rfl (by simp) rfl) ?_)))))
   refine d_n1' (fun ver => j_append_ownN (by decide) qjb elt3 rfl rfl rfl rfl rfl rfl (by rw [qqu]; first | omega | (simp only [nr, nl]; omega)) zz rfl) ?_
   refine d_n1' (fun ver => j_buildSlice_deep (x := .tmp 50) (t := (.mk 23 1 [(0, (.mk 3 1 []))])) slt107 elt23 rfl rfl rfl (by decide) (by decide) rfl rfl rfl (eat_own rfl rfl rfl eat_end) rfl rfl) ?_
   refine d_n1' (fun ver => j_append_deep (by decide) slt107 elt23 rfl rfl rfl rfl rfl rfl rfl rfl (nb rfl) (by rw [qqu]; first | omega | (simp only [nr, nl]; omega)) zz) ?_
   refine qql (qj6 (evo rfl)) (qzf (by kernel_rfl) (by kernel_rfl) ?_)
   refine ar (om rfl (qqa (qjh rfl rfl zz zz) (oa rfl (on ?_))))
   exact ⟨(j + 1, (vf10 15)), (by first | exact zz | (dsimp only; exact zz)), ⟨⟨rfl, rfl⟩, ⟨rfl, rfl, rfl, trivial⟩, ⟨deepEq (by dsimp only; rw [cub1_next zz, List.map_append]; simp only [List.map_cons, List.map_nil, dL, List.map_append, List.append_assoc, List.cons_append, List.nil_append]; rfl), trivial⟩, ⟨rfl, rfl⟩, ⟨rfl, rfl⟩⟩, (by first | exact zz | (dsimp only; exact zz))⟩
  have h2r := h2
  try simp only [nq, nr, nl] at h2
  refine qjf (ar (om rfl (oa rfl (on (a_freezeG 3 trivial rfl rfl rfl rfl ?_)))))
  refine ar (om rfl (qqa (qjh rfl rfl zz zz) (oa rfl (on ?_))))
  exact ⟨k + 1, zz, ⟨⟨rfl, rfl⟩, ⟨rfl, slEq (by rw [show j = (cubV (vs.take k)).length by first | omega | (simp only [nr, nl]; omega), List.take_length, cub_next zz]), trivial⟩, trivial, ⟨rfl, rfl⟩, ⟨rfl, rfl⟩⟩, zz⟩
 have h1r := h1
 try simp only [nq, nr, nl] at h1
 refine qjf (rs (om rfl (oa rfl (on (qqx ?_)))))
 exact fin_sl rfl ⟨by rw [List.take_of_length_le zz], rfl, rfl⟩
theorem f_l12Under (l : List Con) (c : List Int) (hp : pOk l = true) (hc : asc c) (hc4 : c.length ≤ 4) : Fn Tryz.prog 86 [.sl (l.map dC), .sl (c.map dI)] [] (fun rr ii nn => rr = .sl ((cuL l c).map dC) ∧ ii = [] ∧ nn = []) := by
 refine qjl Tryz.func86 rfl (nb rfl) fun w X g => ?_
 show AWp _ _ _ ⟨[(0, .sl (l.map dC)), (1, .sl (c.map dI))], []⟩
 have hln := pOk_len hp
 have hla := pOk_all hp
 refine rs (oa rfl (on (rs (qqv (fun ver => qzh qj7 qjm rfl rfl (by decide)) fun v8x1 => ?_))))
 refine oa rfl (on (qqf (rs (oa rfl (on (qqk (qq4 (ι := Nat × Nat) (fun x => x.1 ≤ l.length) (fun x r => (6, .p (.int .i64 ((x.1 : Nat)))) :: (5, .own 8 x.2) :: r) (fun x r => (8, some (x.2, .row 69 2 ((l.take x.1).map dC))) :: r) (fun x => l.length - x.1) (fun _ _ => rfl) (fun _ _ => rfl) (0, v8x1) (by first | exact (Nat.zero_le _) | (dsimp only; exact (Nat.zero_le _))) ⟨⟨rfl, rfl⟩, ⟨rfl, rfl, trivial⟩, ⟨rfl, trivial⟩, ⟨rfl, rfl⟩, ⟨rfl, rfl⟩⟩ ?_)))))))
 rintro ⟨k, v⟩ hk; dsimp only at hk ⊢
 refine qqf (rs (om rfl (om rfl (qqa (qqw Tryz.underlying30 rfl) (qqa (qzt rfl rfl) (on (ac rfl (fun h1 => ?_) fun h1 => ?_)))))))
 ·
  have h1r := h1
  try simp only [nq, nr, nl] at h1
  refine qqo (qqf (qqk (ar (om rfl (om rfl (om rfl (qqa (qq9 (n := k) qj7 rfl rfl zz (qqq zz) rfl) (qqa (qjw (ys := [.sl _, .p _]) qq7 rfl (qqq zz) rfl (Nat.le_refl _)) ?_))))))))
  refine qq0 (qqn (v := .agg [.sl _, .p _]) (hp1 := []) [] false [] ent136 (f_copyF (l.getD k default) (by have := qz2 (List.all_eq_true.1 hla _ (qju (d := default) (show k < l.length from zz))); omega)) ⟨.inl ⟨rfl, rfl⟩, trivial⟩ trivial rfl rfl (fun h => by cases h) rfl (fun _ h => by cases h) (.inl rfl) rfl rfl) ?_
  refine qqv (fun ver => qqh (parts := [(0, .tmp 20)]) (es := [[_, _]]) qj7 qjm rfl rfl (by decide) (by decide) rfl rfl (by simp) rfl) fun v21x2 => ?_
  refine qqv (fun ver => qqs qj7 qjm rfl rfl rfl rfl rfl rfl (by rw [qqu]; first | omega | (simp only [nr, nl]; omega)) zz) fun v8x3 => ?_
  refine oa rfl (on (ar (om rfl (qqa (qjh rfl rfl zz zz) (oa rfl (on ?_))))))
  exact ⟨(k + 1, v8x3), (by first | exact zz | (dsimp only; exact zz)), ⟨⟨rfl, rfl⟩, ⟨rfl, rfl, trivial⟩, ⟨qj0 (by dsimp only; rw [qjj (d := (default : Con)) zz, List.map_append]; rfl), trivial⟩, ⟨rfl, rfl⟩, ⟨rfl, rfl⟩⟩, (by first | exact zz | (dsimp only; exact zz))⟩
 have h1r := h1
 try simp only [nq, nr, nl] at h1
 refine qjf (qqf (qqf ?_))
 obtain rfl : k = l.length := zz
 rw [List.take_length]
 refine ar (oa rfl (on (qqk (qq4 (ι := Nat × Nat) (fun x => x.1 ≤ c.length) (fun x r => (7, .p (.int .i64 ((x.1 : Nat)))) :: (5, .own 8 x.2) :: r) (fun x r => (8, some (x.2, .row 69 2 ((l ++ (c.take x.1).map uniC).map dC))) :: r) (fun x => c.length - x.1) (fun _ _ => rfl) (fun _ _ => rfl) (0, v) (by first | exact (Nat.zero_le _) | (dsimp only; exact (Nat.zero_le _))) ⟨⟨rfl, rfl⟩, ⟨rfl, rfl, trivial⟩, ⟨qj0 (by rw [List.take_zero, List.map_nil, List.append_nil]), trivial⟩, ⟨rfl, rfl⟩, ⟨rfl, rfl⟩⟩ ?_))))
 rintro ⟨j, w⟩ hj; dsimp only at hj ⊢
 refine qqf (rs (om rfl (om rfl (qqa (qqw Tryz.underlying23 rfl) (qqa (qzt rfl rfl) (on (ac rfl (fun h2 => ?_) fun h2 => ?_)))))))
 ·
  have h2r := h2
  try simp only [nq, nr, nl] at h2
  refine qqo (qqf (qqk (ar (om rfl (om rfl (om rfl (qqa (qq9 (n := j) qjb rfl rfl zz (qqq zz) rfl) (qqa (qq8 qq6 rfl (qqq zz) rfl) (qqa (qjp (parts := [(0, .const (.int .i64 1)), (1, .tmp 33)]) str135 qjx rfl rfl) ?_)))))))))
  refine qqv (fun ver => qqh (parts := [(0, .tmp 34)]) (es := [[_, _]]) qzc qjx rfl rfl (by decide) (by decide) rfl rfl (by simp) rfl) fun v35x4 => ?_
  refine op_freezeK 35 trivial rfl rfl rfl ?_
  refine qqa (qjp (parts := [(0, .tmp 35), (1, .const (.int .i64 1))]) str69 qjm rfl rfl) ?_
  refine qqv (fun ver => qqh (parts := [(0, .tmp 36)]) (es := [[_, _]]) qj7 qjm rfl rfl (by decide) (by decide) rfl rfl (by simp) rfl) fun v37x5 => ?_
  refine qqv (fun ver => qqs qj7 qjm rfl rfl rfl rfl rfl rfl (by rw [qqu]; first | omega | (simp only [nr, nl]; omega)) zz) fun v8x6 => ?_
  refine oa rfl (on (ar (om rfl (qqa (qjh rfl rfl zz zz) (oa rfl (on ?_))))))
  exact ⟨(j + 1, v8x6), (by first | exact zz | (dsimp only; exact zz)), ⟨⟨rfl, rfl⟩, ⟨rfl, rfl, trivial⟩, ⟨qj0 (by dsimp only; rw [qjj (d := (default : Int)) zz, List.map_append (f := uniC), ← List.append_assoc]; simp only [List.map_append]; rfl), trivial⟩, ⟨rfl, rfl⟩, ⟨rfl, rfl⟩⟩, (by first | exact zz | (dsimp only; exact zz))⟩
 have h2r := h2
 try simp only [nq, nr, nl] at h2
 refine qjf (rs (om rfl (oa rfl (on (qjs 4 (noA _ _ _ _ _) rfl rfl ?_)))))
 refine qqx ?_
 exact fin_sl rfl ⟨by unfold cuL; rw [List.take_of_length_le zz], rfl, rfl⟩
theorem f_l12Clause (c : List Int) (K : Con) (h : under c K) : Fn Tryz.prog 190 [.agg [.sl (K.1.map dT), .p (.int .i64 K.2)]] [] (fun rr ii nn => rr = .tup [.own 0 0, .p (.bool true)] ∧ ii = [] ∧ nn = [.row 3 1 ((litsC K).map dI)]) := by
 refine qjl Tryz.func190 rfl (nb rfl) fun w X g => ?_
 show AWp _ _ _ ⟨[(0, .agg [.sl (K.1.map dT), .p (.int .i64 K.2)])], []⟩
 have hko := und_ok h
 have hk2 := und_b h
 have hkl := qz2 hko
 refine rs (qqv (fun ver => qzg rfl) fun v1x1 => ?_)
 refine oa rfl (oa rfl (on (rs (qqv (fun ver => qzh qjb elt3 rfl rfl (by decide)) fun v6x2 => ?_))))
 refine oa rfl (on (qqf (rs (oa rfl (on (qqk (qq4 (ι := Nat × Nat) (fun x => x.1 ≤ K.1.length) (fun x r => (5, .p (.int .i64 ((x.1 : Nat)))) :: (4, .own 6 x.2) :: r) (fun x r => (6, some (x.2, .row 3 1 (((litsC K).take x.1).map dI))) :: r) (fun x => K.1.length - x.1) (fun _ _ => rfl) (fun _ _ => rfl) (0, v6x2) (by first | exact (Nat.zero_le _) | (dsimp only; exact (Nat.zero_le _))) ⟨⟨rfl, rfl⟩, ⟨rfl, rfl, trivial⟩, ⟨rfl, trivial⟩, ⟨rfl, rfl⟩, ⟨rfl, rfl⟩⟩ ?_)))))))
 rintro ⟨k, v⟩ hk; dsimp only at hk ⊢
 refine qqf (rs (om rfl (qqa (qqi qjn rfl rfl) (qqa (qqc qjv rfl rfl rfl) (qqa (qqw Tryz.underlying67 rfl) (qqa (qzt rfl rfl) (on (ac rfl (fun h1 => ?_) fun h1 => ?_))))))))
 ·
  have h1r := h1
  try simp only [nq, nr, nl] at h1
  refine qqo (qqf (qqk (qqf (qqf ?_))))
  have hone := und_one h (k := k) zz
  refine ar (qqa (qqi qjn rfl rfl) (qqa (qqc qjv rfl rfl rfl) (om rfl (qqa (qq9 (n := k) qzc rfl rfl zz (qqq zz) rfl) (qqa (j_fldel qzp rfl) (qqa (qq8 qq6 rfl (qqq zz) rfl) (qqa (j_ne rfl rfl) (on (ac rfl (fun h2 => ?_) fun h2 => ?_)))))))))
  ·
   have h2r := h2
   try simp only [nq, nr, nl] at h2
   exact absurd h2r (by rw [hone]; decide)
  have h2r := h2
  try simp only [nq, nr, nl] at h2
  refine qqo (ar (om rfl (qqa (qqi qjn rfl rfl) (qqa (qqc qjv rfl rfl rfl) (om rfl (qqa (qq9 (n := k) qzc rfl rfl zz (qqq zz) rfl) (qqa (j_fldel qzl rfl) (qqa (qq8 qq6 rfl (qqq zz) rfl) (qqv (fun ver => qqh (parts := [(0, .tmp 28)]) (es := [[_]]) qjb elt3 rfl rfl (by decide) (by decide) rfl rfl (by simp) rfl) fun v29x3 => ?_)))))))))
  refine qqv (fun ver => qqs qjb elt3 rfl rfl rfl rfl rfl rfl (by rw [qqu]; first | omega | (simp only [nr, nl]; omega)) zz) fun v6x4 => ?_
  refine oa rfl (on (ar (om rfl (qqa (qjh rfl rfl zz zz) (oa rfl (on ?_))))))
  exact ⟨(k + 1, v6x4), (by first | exact zz | (dsimp only; exact zz)), ⟨⟨rfl, rfl⟩, ⟨rfl, rfl, trivial⟩, ⟨qj0 (by dsimp only; rw [litsC_next zz, List.map_append]; rfl), trivial⟩, ⟨rfl, rfl⟩, ⟨rfl, rfl⟩⟩, (by first | exact zz | (dsimp only; exact zz))⟩
 have h1r := h1
 try simp only [nq, nr, nl] at h1
 refine qjf (qqf (qj3 qzr (by kernel_rfl) (by kernel_rfl) fun vf => ?_))
 refine qql (qqj (evo rfl)) (qql (qqg (ys := [.sl _, .p _]) qq7 rfl rfl rfl (nb rfl)) ?_)
 refine d_v0' (qqn (v := .p _) (hp1 := []) [] false [] ent118 (f_cvSpec K) ⟨.inl ⟨rfl, rfl⟩, trivial⟩ trivial rfl rfl (fun h => by cases h) rfl (fun _ h => by cases h) (.inl rfl) rfl rfl) ?_
 refine qql (qqj (evo rfl)) (d_split' 34 rfl (fun h3 => ?_) (fun h3 => ?_))
 ·
  have h3r := h3
  try simp only [nq, nr, nl] at h3
  refine qql (qqd rfl rfl h3r (qqi qzi rfl rfl)) (qql (qqd rfl rfl h3r (qqc qq6 rfl rfl rfl)) (qql (qqd rfl rfl h3r (qz5 rfl rfl)) (qql (qqr rfl h3r (evo rfl)) (qql (qj6 (evo rfl)) (qql (qj6 (evo rfl)) (qzf (by kernel_rfl) (by kernel_rfl) ?_))))))
  refine qqx ?_
  exact ⟨[.own 6 v, .p _], .tup [.own 0 0, .p _], [], [.row 3 1 _], [(6, v)], ⟨rfl, rfl, trivial⟩, rfl, rfl, ⟨⟨rfl, rfl⟩, trivial⟩, rfl, rfl, ⟨by rw [hk2]; rfl, rfl, by rw [List.take_of_length_le (by rw [qjr]; first | omega | (simp only [nr, nl]; omega))]⟩⟩
 have h3r := h3
 try simp only [nq, nr, nl] at h3
 exact absurd h3r (by rw [hko]; decide)
theorem f_liftSpec (c : List Int) (K : Con) (h : under c K) (hc : asc c) (hc4 : c.length ≤ 4) : Fn Tryz.prog 143 [.agg [.p (.int .i64 7), .p (.int .i64 0), .p (.int .i64 0), .sl (K.1.map dT), .p (.int .i64 K.2)], .sl (c.map dI)] [] (fun rr ii nn => rr = .tup [.agg [.p (.int .i64 7), .p (.int .i64 0), .p (.int .i64 0), .sl ((lifC c K).1.map dT), .p (.int .i64 (lifC c K).2)], .p (.bool true)] ∧ ii = [] ∧ nn = []) := by
 refine qjl Tryz.func143 rfl (nb rfl) fun w X g => ?_
 show AWp _ _ _ ⟨[(0, .agg [.p (.int .i64 7), .p (.int .i64 0), .p (.int .i64 0), .sl (K.1.map dT), .p (.int .i64 K.2)]), (1, .sl (c.map dI))], []⟩
 have hap := und_apt2 h
 have hal := apt_len hap
 rw [List.length_append, qjc, qjr] at hal
 have hlf := lif_form h
 have hl1 : (lifC c K).1 = (srtS (litsC K ++ negL c)).map oneL := (congrArg Prod.fst hlf).symm
 have hl2 : (lifC c K).2 = 1 := rfl
 refine rs (qqv (fun ver => qzg rfl) fun v2x1 => ?_)
 refine qqv (fun ver => qjd qzs rfl) fun v4x2 => ?_
 refine oa rfl (on (rs (qqa (qqi qz9 rfl rfl) (qqa (qqg (ys := [.sl _, .p _]) qq7 rfl rfl rfl (nb rfl)) ?_))))
 refine qz0 (fun ver => qza (v := .tup [.own 14 ver, .p _]) (hp1 := [(14, some (ver, .row 3 1 _))]) [] false [] ent190 (f_l12Clause c K h) ⟨.inl ⟨rfl, rfl⟩, trivial⟩ trivial rfl rfl rfl (fun h => by cases h) rfl (List.all_eq_true.1 rfl) (.inl rfl) rfl rfl) fun v14x3 => ?_
 refine om rfl (qqa (qqt rfl rfl) (qqa (qqt rfl rfl) (oa rfl (oa rfl (on (qqf (rs (qqa (qqi fld89f0 rfl rfl) (qqa (qqc qq6 rfl rfl rfl) (qqa (j_ne rfl rfl) (om rfl (qqz 20 rfl (fun h1 => ?_) (fun h1 => ?_)))))))))))))
 ·
  have h1r := h1
  try simp only [nq, nr, nl, qjc, qjr] at h1
  exact absurd h1r (by decide)
 have h1r := h1
 try simp only [nq, nr, nl, qjc, qjr] at h1
 refine qqa (qqd rfl rfl h1r (qqi fld89f1 rfl rfl)) (qqa (qqd rfl rfl h1r (qqc qq6 rfl rfl rfl)) (qqa (qqd rfl rfl h1r (j_ne rfl rfl)) (qqa (qqy rfl h1r (evo rfl)) (om rfl (qqz 25 rfl (fun h2 => ?_) (fun h2 => ?_))))))
 ·
  have h2r := h2
  try simp only [nq, nr, nl, qjc, qjr] at h2
  exact absurd h2r (by decide)
 have h2r := h2
 try simp only [nq, nr, nl, qjc, qjr] at h2
 refine qqa (qqd rfl rfl h2r (qqi fld89f2 rfl rfl)) (qqa (qqd rfl rfl h2r (qqc qq6 rfl rfl rfl)) (qqa (qqd rfl rfl h2r (j_ne rfl rfl)) (qqa (qqy rfl h2r (evo rfl)) (om rfl (qqz 30 rfl (fun h3 => ?_) (fun h3 => ?_))))))
 ·
  have h3r := h3
  try simp only [nq, nr, nl, qjc, qjr] at h3
  exact absurd h3r (by decide)
 have h3r := h3
 try simp only [nq, nr, nl, qjc, qjr] at h3
 refine qqa (qqd rfl rfl h3r (qqj (evo rfl))) (qqa (qqd rfl rfl h3r (qzk rfl)) (qqa (qqy rfl h3r (evo rfl)) (on (ac rfl (fun h4 => ?_) fun h4 => ?_))))
 ·
  have h4r := h4
  try simp only [nq, nr, nl, qjc, qjr] at h4
  exact absurd h4r (by decide)
 have h4r := h4
 try simp only [nq, nr, nl, qjc, qjr] at h4
 refine qqo (qqf (rs (oa rfl (on (qqk (qq4 (ι := Nat × Nat) (fun x => x.1 ≤ c.length) (fun x r => (8, .p (.int .i64 ((x.1 : Nat)))) :: (6, .own 14 x.2) :: r) (fun x r => (14, some (x.2, .row 3 1 ((litsC K ++ negL (c.take x.1)).map dI))) :: r) (fun x => c.length - x.1) (fun _ _ => rfl) (fun _ _ => rfl) (0, v14x3) (by first | exact (Nat.zero_le _) | (dsimp only; exact (Nat.zero_le _))) ⟨⟨rfl, rfl⟩, ⟨rfl, rfl, trivial⟩, ⟨qj0 (by rw [List.take_zero]; show _ = (litsC K ++ []).map dI; rw [List.append_nil]), trivial⟩, ⟨rfl, rfl⟩, ⟨rfl, rfl⟩⟩ ?_))))))
 rintro ⟨k, v⟩ hk; dsimp only at hk ⊢
 refine qqf (rs (om rfl (om rfl (qqa (qqw Tryz.underlying23 rfl) (qqa (qzt rfl rfl) (on (ac rfl (fun h5 => ?_) fun h5 => ?_)))))))
 ·
  have h5r := h5
  try simp only [nq, nr, nl, qjc, qjr] at h5
  refine qqo (qqf (qqk ?_))
  have hli := litOk_iff.1 (asc_at hc (k := k) zbc1)
  refine ar (om rfl (om rfl (om rfl (qqa (qq9 (n := k) qjb rfl rfl zbc1 (qqq zbc1) rfl) (qqa (qq8 qq6 rfl (qqq zbc1) rfl) (qqa (j_neg rfl zbc1 zbc1) (qqv (fun ver => qqh (parts := [(0, .tmp 46)]) (es := [[_]]) qjb elt3 rfl rfl (by decide) (by decide) rfl rfl (by simp) rfl) fun v47x4 => ?_)))))))
  refine qqv (fun ver => qqs qjb elt3 rfl rfl rfl rfl rfl rfl (by rw [qqu]; first | omega | (simp only [nr, nl, qjc, qjr]; omega)) zbc1) fun v14x5 => ?_
  refine oa rfl (on (ar (om rfl (qqa (qjh rfl rfl zbc1 zbc1) (oa rfl (on ?_))))))
  exact ⟨(k + 1, v14x5), (by first | exact zbc1 | (dsimp only; exact zbc1)), ⟨⟨rfl, rfl⟩, ⟨rfl, rfl, trivial⟩, ⟨qj0 (by dsimp only; rw [negL_take zbc1, ← List.append_assoc]; simp only [List.map_append]; rfl), trivial⟩, ⟨rfl, rfl⟩, ⟨rfl, rfl⟩⟩, (by first | exact zbc1 | (dsimp only; exact zbc1))⟩
 have h5r := h5
 try simp only [nq, nr, nl, qjc, qjr] at h5
 refine qjf (qqf (a_row 14 (es' := (litsC K ++ negL c).map dI) rfl (by rw [List.take_of_length_le zbc1]) ?_))
 refine qjs 6 (noA _ _ _ _ _) rfl rfl ?_
 refine ar (om rfl ?_)
 refine qq0 (qqn (v := .tup [.agg [.sl _, .p _], .p _]) (hp1 := []) [] false [] ent191 (f_clauseSpecP (litsC K ++ negL c) hap) ⟨.inl ⟨rfl, rfl⟩, trivial⟩ trivial rfl rfl (fun h => by cases h) rfl (fun _ h => by cases h) (.inl rfl) rfl rfl) ?_
 refine om rfl (qqa (qqt rfl rfl) (qqa (qqt rfl rfl) (qqv (fun ver => qjd qjm rfl) fun v9x6 => ?_)))
 refine qjg (qqe qq7 rfl rfl rfl rfl rfl rfl) ?_
 refine oa rfl (on (qqf (rs (om rfl (qqa (qzk rfl) (on (ac rfl (fun h6 => ?_) fun h6 => ?_)))))))
 ·
  have h6r := h6
  try simp only [nq, nr, nl, qjc, qjr] at h6
  exact absurd h6r (by decide)
 have h6r := h6
 try simp only [nq, nr, nl, qjc, qjr] at h6
 refine qqo (rs (qqa (qqg (ys := [.sl _, .p _]) qq7 rfl rfl rfl (nb rfl)) (qqa (qjp (parts := [(0, .const (.int .i64 7)), (3, .tmp 57)]) str89 qzs rfl rfl) ?_)))
 refine qjg (qqe agg89 rfl rfl rfl rfl rfl rfl) ?_
 refine oa rfl (on (qqx ?_))
 exact ⟨[.agg [.p _, .p _, .p _, .sl _, .p _], .p _], .tup [.agg [.p _, .p _, .p _, .sl _, .p _], .p _], [], [], [], ⟨⟨_, _, _, _, rfl, rfl, agg89, rfl⟩, rfl, trivial⟩, rfl, rfl, trivial, rfl, rfl, ⟨by rw [hl1, hl2], rfl, rfl⟩⟩
theorem f_l12Join (vs : List Int) (A0 : List Con) (hv : varsFrom 0 vs = true) (hvl : vs.length ≤ 4) (hA : A0.length ≤ 16000) : Fn Tryz.prog 144 [.own 0 0, .sl (vs.map dI)] [.row 89 5 (((A0).map rupS).map dStp)] (fun rr ii nn => rr = .own 1 0 ∧ ii = [.gone] ∧ nn = [.row 89 5 (((A0 ++ joiN vs vs.length).map rupS).map dStp)]) := by
 refine qjl Tryz.func144 rfl (nb rfl) fun w X g => ?_
 show AWp _ _ _ ⟨[(0, .own 0 0), (1, .sl (vs.map dI))], [(0, some (0, .row 89 5 (((A0).map rupS).map dStp)))]⟩
 refine a_mvS (i := 0) 0 1001 (by decide) rfl rfl rfl fun v1001x1 => ?_
 refine rs (oa rfl (on (qqf (rs (om rfl (qqa (qqw Tryz.underlying23 rfl) (qqa (qzw rfl rfl zz zz) (oa rfl (on (qqk ?_))))))))))
 refine qq4 (ι := Nat × List Con × Nat) (fun x => x.1 ≤ vs.length ∧ A0 ++ joiN vs vs.length = x.2.1 ++ joiN vs x.1 ∧ x.2.1.length ≤ 16016) (fun x r => (5, .p (.int .i64 ((x.1 : Nat) - 1))) :: (0, .own 1001 x.2.2) :: r) (fun x r => (1001, some (x.2.2, .row 89 5 (((x.2.1).map rupS).map dStp))) :: r) (fun x => x.1) (fun _ _ => rfl) (fun _ _ => rfl) (vs.length, A0, v1001x1) (by first | exact ⟨Nat.le_refl _, rfl, by dsimp only; omega⟩ | (dsimp only; exact ⟨Nat.le_refl _, rfl, by dsimp only; omega⟩)) ⟨⟨rfl, rfl⟩, ⟨rfl, rfl, trivial⟩, ⟨rfl, trivial⟩, ⟨rfl, rfl⟩, ⟨rfl, rfl⟩⟩ ?_
 rintro ⟨m, A, w⟩ hm; dsimp only at hm ⊢
 refine qqf (rs (om rfl (qqa (j_ge rfl rfl) (on (ac rfl (fun h1 => ?_) fun h1 => ?_)))))
 ·
  have h1r := h1
  try simp only [nq, nr, nl] at h1
  refine qqo (qqf (qqk (qqf ?_)))
  obtain ⟨q, rfl⟩ : ∃ q, m = q + 1 := ⟨m - 1, by omega⟩
  have hcl2 := cub_take_len (vs := vs) (k := q) (by omega)
  have hp2 := Nat.pow_le_pow_right (n := 2) (by decide) (show q ≤ 4 by omega)
  have HC := f_cubSpec (vs.take q) (vars_take hv) (by rw [List.length_take]; omega)
  rw [List.map_take] at HC
  refine ar (om rfl (om rfl ?_))
  refine qqa (j_cut qjb rfl (fun y hy => by obtain ⟨t, _, rfl⟩ := List.mem_map.1 hy; rfl) Bd.none (Bd.some rfl (show (((q + 1 : Nat) : Int) - 1) = ((q : Nat) : Int) by omega)) zz zz) ?_
  refine qq0 (qqn (v := .sl _) (hp1 := []) [] false [] ent85 HC ⟨.inl ⟨rfl, rfl⟩, trivial⟩ trivial rfl rfl (fun h => by cases h) rfl (fun _ h => by cases h) (.inl rfl) rfl rfl) ?_
  refine oa rfl (on (rs (oa rfl (on (qqk (qq4 (ι := Nat × Nat) (fun x => x.1 ≤ (cubV (vs.take q)).length) (fun x r => (7, .p (.int .i64 ((x.1 : Nat)))) :: (0, .own 1001 x.2) :: r) (fun x r => (1001, some (x.2, .row 89 5 (((A ++ ((cubV (vs.take q)).take x.1).map cle).map rupS).map dStp))) :: r) (fun x => (cubV (vs.take q)).length - x.1) (fun _ _ => rfl) (fun _ _ => rfl) (0, w) (by first | exact (Nat.zero_le _) | (dsimp only; exact (Nat.zero_le _))) ⟨⟨rfl, rfl⟩, ⟨rfl, rfl, trivial⟩, ⟨qj0 (by rw [List.take_zero, List.map_nil, List.append_nil]), trivial⟩, ⟨rfl, rfl⟩, ⟨rfl, rfl⟩⟩ ?_))))))
  rintro ⟨j, w⟩ hj; dsimp only at hj ⊢
  refine qqf (rs (om rfl (om rfl (qqa (qqw Tryz.underlying107 rfl) (qqa (qzt rfl rfl) (on (ac rfl (fun h2 => ?_) fun h2 => ?_)))))))
  ·
   have h2r := h2
   try simp only [nq, nr, nl] at h2
   refine qqo (qqf (qqk (qqf ?_)))
   have hca := cub_asc hv (k := q) (by omega) _ (qju (d := default) (show j < (cubV (vs.take q)).length from zz))
   refine ar (qqa (qjp (parts := [(1, .const (.int .i64 1))]) str69 qjm rfl rfl) ?_)
   refine op_nila 28 0 rfl rfl ?_
   try dsimp only [List.set]
   refine qqa (qjp (parts := [(0, .const (.int .i64 7)), (3, .tmp 28)]) str89 qzs rfl rfl) ?_
   refine om rfl (om rfl (qqa (qq9 (n := j) slt107 rfl rfl zz (qqq zz) rfl) (qqa (qq8 leaf23 rfl (qqq zz) rfl) ?_)))
   refine qq0 (qqn (v := .tup [.agg [.p _, .p _, .p _, .sl _, .p _], .p _]) (hp1 := []) [] false [] ent143 (f_liftSpec ((cubV (vs.take q)).getD j default) ([], 1) (und_nil hca.1) hca.1 (by omega)) ⟨.inl ⟨rfl, rfl⟩, .inl ⟨rfl, rfl⟩, trivial⟩ trivial rfl rfl (fun h => by cases h) rfl (fun _ h => by cases h) (.inl rfl) rfl rfl) ?_
   refine om rfl (qqa (qqt rfl rfl) (qqa (qqt rfl rfl) (qqv (fun ver => qjd qzs rfl) fun v8x2 => ?_)))
   refine qjg (qqe agg89 rfl rfl rfl rfl rfl rfl) ?_
   refine oa rfl (on (ar (om rfl (qqa (qqg (ys := [.p _, .p _, .p _, .sl _, .p _]) agg89 rfl rfl rfl (nb rfl)) (qqv (fun ver => qqh (parts := [(0, .tmp 38)]) (es := [[_, _, _, _, _]]) qxa qzs rfl rfl (by decide) (by decide) rfl rfl (by simp) rfl) fun v39x3 => ?_)))))
   refine qqv (fun ver => qqs qxa qzs rfl rfl rfl rfl rfl rfl (by rw [qqu]; first | omega | (simp only [nr, nl]; omega)) zz) fun v1001x4 => ?_
   refine oa rfl (on (ar (om rfl (qqa (qjh rfl rfl zz zz) (oa rfl (on ?_))))))
   exact ⟨(j + 1, v1001x4), (by first | exact zz | (dsimp only; exact zz)), ⟨⟨rfl, rfl⟩, ⟨rfl, rfl, trivial⟩, ⟨qj0 (by dsimp only; rw [cle_next zz, ← List.append_assoc, st_snoc, ← lif_nil hca.1]; rfl), trivial⟩, ⟨rfl, rfl⟩, ⟨rfl, rfl⟩⟩, (by first | exact zz | (dsimp only; exact zz))⟩
  have h2r := h2
  try simp only [nq, nr, nl] at h2
  refine qjf (ar (om rfl (qqa (qzw rfl rfl zz zz) (oa rfl (on ?_)))))
  exact ⟨(q, A ++ (cubV (vs.take q)).map cle, w), (by first | exact ⟨by omega, by rw [hm.2.1, joiN, List.append_assoc], joi_bnd hm.1 hm.2.1 hA hvl⟩ | (dsimp only; exact ⟨by omega, by rw [hm.2.1, joiN, List.append_assoc], joi_bnd hm.1 hm.2.1 hA hvl⟩)), ⟨⟨rfl, rfl⟩, ⟨qz1 (by dsimp only; omega), rfl, trivial⟩, ⟨qj0 (by dsimp only; rw [show j = (cubV (vs.take q)).length by first | omega | (simp only [nr, nl]; omega), List.take_length]), trivial⟩, ⟨rfl, rfl⟩, ⟨rfl, rfl⟩⟩, (by first | exact (by omega) | (dsimp only; exact (by omega)))⟩
 have h1r := h1
 try simp only [nq, nr, nl] at h1
 refine qjf (qqf ?_)
 obtain rfl : m = 0 := by omega
 refine ar (om rfl (oa rfl (on (qqx ?_))))
 exact ⟨[.own 1001 w], .own 1 0, [.gone], [.row 89 5 _], [(1001, w)], ⟨rfl, trivial⟩, rfl, rfl, ⟨⟨rfl, rfl⟩, ⟨rfl, rfl⟩, trivial⟩, rfl, rfl, ⟨rfl, rfl, by rw [show A0 ++ joiN vs vs.length = A by rw [hm.2.1]; simp [joiN]]⟩⟩
theorem f_mergeSpec (vs : List Int) (Ps : List (List Con)) (hv : varsFrom 0 vs = true) (hvl : vs.length ≤ 4) (hpl : Ps.length = (cubV vs).length) (hu : ∀ k, k < (cubV vs).length → (Ps.getD k default).length ≤ 1000 ∧ ∀ K ∈ (Ps.getD k default), under ((cubV vs).getD k default) K) : Fn Tryz.prog 87 [.sl (vs.map dI), .sl (Ps.map dPr)] [] (fun rr ii nn => rr = .tup [.sl (((if (mrgA vs Ps).length ≤ 1000 then (mrgA vs Ps) else []).map rupS).map dStp), .p (.bool (decide ((mrgA vs Ps).length ≤ 1000)))] ∧ ii = [] ∧ nn = []) := by
 refine qjl Tryz.func87 rfl (nb rfl) fun w X g => ?_
 show AWp _ _ _ ⟨[(0, .sl (vs.map dI)), (1, .sl (Ps.map dPr))], []⟩
 have hok : (varsFrom 0 vs && decide (vs.length ≤ 4)) = true := by rw [hv, decide_eq_true hvl]; rfl
 have hcl := cub_len hvl
 refine rs (oa rfl (oa rfl (on (qqf (rs (om rfl ?_))))))
 refine qq0 (qqn (v := .p _) (hp1 := []) [] false [] ent84 (f_l12Vars vs) ⟨.inl ⟨rfl, rfl⟩, trivial⟩ trivial rfl rfl (fun h => by cases h) rfl (fun _ h => by cases h) (.inl rfl) rfl rfl) ?_
 refine qqa (qzk rfl) (on (ac rfl (fun h1 => ?_) fun h1 => ?_))
 ·
  have h1r := h1
  try simp only [nq, nr, nl] at h1
  exact absurd h1r (by rw [hok]; decide)
 have h1r := h1
 try simp only [nq, nr, nl] at h1
 refine qqo (rs (om rfl ?_))
 refine qq0 (qqn (v := .sl _) (hp1 := []) [] false [] ent85 (f_cubSpec vs hv hvl) ⟨.inl ⟨rfl, rfl⟩, trivial⟩ trivial rfl rfl (fun h => by cases h) rfl (fun _ h => by cases h) (.inl rfl) rfl rfl) ?_
 refine oa rfl (on (rs (qqv (fun ver => qzh qxa qzs rfl rfl (by decide)) fun v18x1 => ?_)))
 refine oa rfl (on (qqf (rs (om rfl (qqa (qqw Tryz.underlying110 rfl) (om rfl (qqa (qqw Tryz.underlying107 rfl) (qqa (j_ne rfl rfl) (on (ac rfl (fun h2 => ?_) fun h2 => ?_))))))))))
 ·
  have h2r := h2
  try simp only [nq, nr, nl] at h2
  exact absurd (of_decide_eq_true h2r) zz
 have h2r := h2
 try simp only [nq, nr, nl] at h2
 refine qqo (qqf (rs (oa rfl (on (qqk (qq4 (ι := Nat × Nat) (fun x => x.1 ≤ (cubV vs).length) (fun x r => (8, .p (.int .i64 ((x.1 : Nat)))) :: (7, .own 18 x.2) :: r) (fun x r => (18, some (x.2, .row 89 5 (((mrgN (cubV vs) Ps x.1).map rupS).map dStp))) :: r) (fun x => (cubV vs).length - x.1) (fun _ _ => rfl) (fun _ _ => rfl) (0, v18x1) (by first | exact (Nat.zero_le _) | (dsimp only; exact (Nat.zero_le _))) ⟨⟨rfl, rfl⟩, ⟨rfl, rfl, trivial⟩, ⟨rfl, trivial⟩, ⟨rfl, rfl⟩, ⟨rfl, rfl⟩⟩ ?_))))))
 rintro ⟨k, v⟩ hk; dsimp only at hk ⊢
 refine qqf (rs (om rfl (om rfl (qqa (qqw Tryz.underlying107 rfl) (qqa (qzt rfl rfl) (on (ac rfl (fun h3 => ?_) fun h3 => ?_)))))))
 ·
  have h3r := h3
  try simp only [nq, nr, nl] at h3
  refine qqo (qqf (qqk (qqf ?_)))
  have huk := (hu k zz).1
  refine ar (oa rfl (on (qqk (qq4 (ι := Nat × Nat) (fun x => x.1 ≤ (Ps.getD k default).length) (fun x r => (9, .p (.int .i64 ((x.1 : Nat)))) :: (7, .own 18 x.2) :: r) (fun x r => (18, some (x.2, .row 89 5 (((mrgN (cubV vs) Ps k ++ mrg1 ((cubV vs).getD k default) ((Ps.getD k default).take x.1)).map rupS).map dStp))) :: r) (fun x => (Ps.getD k default).length - x.1) (fun _ _ => rfl) (fun _ _ => rfl) (0, v) (by first | exact (Nat.zero_le _) | (dsimp only; exact (Nat.zero_le _))) ⟨⟨rfl, rfl⟩, ⟨rfl, rfl, trivial⟩, ⟨qj0 (by simp [mrg1]), trivial⟩, ⟨rfl, rfl⟩, ⟨rfl, rfl⟩⟩ ?_))))
  rintro ⟨j, w⟩ hj; dsimp only at hj ⊢
  refine qqf (rs (om rfl (om rfl (om rfl (qqa (qq9 (n := k) slt110 rfl rfl zz (qqq zz) rfl) (qqa (qq8 leaf34 rfl (qqq zz) rfl) (qqa (qqw Tryz.underlying34 rfl) (qqa (qzt rfl rfl) (on (ac rfl (fun h4 => ?_) fun h4 => ?_))))))))))
  ·
   have h4r := h4
   try simp only [nq, nr, nl] at h4
   refine qqo (qqf (qqk (qqf ?_)))
   have hck := cub_ck hv hvl (k := k) zz
   have hml := mrgN_len hu (k := k) zz
   have hm1 : (mrg1 ((cubV vs).getD k default) ((Ps.getD k default).take j)).length ≤ j := by unfold mrg1; rw [List.length_map, List.length_take]; omega
   refine qj3 qzr (by kernel_rfl) (by kernel_rfl) fun vf => ?_
   refine qql (qqj (evo rfl)) (qql (qqj (evo rfl)) (qql (qq9 (n := k) slt110 rfl rfl zz (qqq zz) rfl) (qql (qq8 leaf34 rfl (qqq zz) rfl) (qql (qqj (evo rfl)) (qql (qq9 (n := j) qxa rfl rfl zz (rup_at zz) rfl) (qql (qjw (ys := [.p _, .p _, .p _, .sl _, .p _]) agg89 rfl (rup_at zz) rfl (Nat.le_refl _)) (qql (qqj (evo rfl)) (qql (qqj (evo rfl)) (qql (qq9 (n := k) slt107 rfl rfl zz (qqq zz) rfl) (qql (qq8 leaf23 rfl (qqq zz) rfl) ?_))))))))))
   refine d_v0' (qqn (v := .tup [.agg [.p _, .p _, .p _, .sl _, .p _], .p _]) (hp1 := []) [] false [] ent143 (f_liftSpec ((cubV vs).getD k default) ((Ps.getD k default).getD j default) ((hu k zz).2 _ (qju zz)) hck.1 hck.2) ⟨.inl ⟨rfl, rfl⟩, .inl ⟨rfl, rfl⟩, trivial⟩ trivial rfl rfl (fun h => by cases h) rfl (fun _ h => by cases h) (.inl rfl) rfl rfl) ?_
   refine qql (qqj (evo rfl)) (qql (qqt rfl rfl) (qql (qqt rfl rfl) (d_n' (fun ver => qjd qzs rfl) ?_)))
   refine d_s' (qqe agg89 rfl rfl rfl rfl rfl rfl) ?_
   refine qql (qj6 (evo rfl)) (qzf (by kernel_rfl) (by kernel_rfl) ?_)
   refine qqf (rs (om rfl (om rfl (qqa (qq9 (n := k) slt110 rfl rfl zz (qqq zz) rfl) (qqa (qq8 leaf34 rfl (qqq zz) rfl) (qqa (qqw Tryz.underlying34 rfl) (qqa (j_gt rfl rfl) (om rfl (qqz 61 rfl (fun h5 => ?_) (fun h5 => ?_))))))))))
   ·
    have h5r := h5
    try simp only [nq, nr, nl] at h5
    exact absurd (of_decide_eq_true h5r) zz
   have h5r := h5
   try simp only [nq, nr, nl] at h5
   refine qqa (qqd rfl rfl h5r (qqj (evo rfl))) (qqa (qqd rfl rfl h5r (qja Tryz.underlying34 rfl rfl)) (qqa (qqd rfl rfl h5r (j_gt rfl rfl)) (qqa (qqy rfl h5r (evo rfl)) (on (ac rfl (fun h6 => ?_) fun h6 => ?_)))))
   ·
    have h6r := h6
    try simp only [nq, nr, nl] at h6
    refine rs (qqv (fun ver => qzh qxa qzs rfl rfl (by decide)) fun v66x2 => ?_)
    refine oa rfl (oa rfl (on (qjs 4 (noA _ _ _ _ _) rfl rfl ?_)))
    refine qqx ?_
    exact ⟨[.sl _, .p _], .tup [.sl _, .p _], [], [], [], ⟨rfl, rfl, trivial⟩, rfl, rfl, trivial, rfl, rfl, ⟨by have hg := mrgA_ge (vs := vs) (Ps := Ps) (k := k) (j := j) zz zz; rw [if_neg hg, decide_eq_false hg]; rfl, rfl, rfl⟩⟩
   have h6r := h6
   try simp only [nq, nr, nl] at h6
   refine qqo (rs (om rfl (on (ac rfl (fun h7 => ?_) fun h7 => ?_))))
   ·
    have h7r := h7
    try simp only [nq, nr, nl] at h7
    refine ar (om rfl (qqa (qqg (ys := [.p _, .p _, .p _, .sl _, .p _]) agg89 rfl rfl rfl (nb rfl)) (qqv (fun ver => qqh (parts := [(0, .tmp 69)]) (es := [[_, _, _, _, _]]) qxa qzs rfl rfl (by decide) (by decide) rfl rfl (by simp) rfl) fun v70x3 => ?_)))
    refine qqv (fun ver => qqs qxa qzs rfl rfl rfl rfl rfl rfl (by rw [qqu]; first | omega | (simp only [nr, nl]; omega)) zz) fun v18x4 => ?_
    refine oa rfl (on (ar (om rfl (qqa (qjh rfl rfl zz zz) (oa rfl (on ?_))))))
    exact ⟨(j + 1, v18x4), (by first | exact zz | (dsimp only; exact zz)), ⟨⟨rfl, rfl⟩, ⟨rfl, rfl, trivial⟩, ⟨qj0 (by dsimp only; rw [mrg1_next zz, ← List.append_assoc, st_snoc]; rfl), trivial⟩, ⟨rfl, rfl⟩, ⟨rfl, rfl⟩⟩, (by first | exact zz | (dsimp only; exact zz))⟩
   have h7r := h7
   try simp only [nq, nr, nl] at h7
   exact absurd h7r (by decide)
  have h4r := h4
  try simp only [nq, nr, nl] at h4
  refine qjf (ar (om rfl (qqa (qjh rfl rfl zz zz) (oa rfl (on ?_)))))
  exact ⟨(k + 1, w), (by first | exact zz | (dsimp only; exact zz)), ⟨⟨rfl, rfl⟩, ⟨rfl, rfl, trivial⟩, ⟨qj0 (by dsimp only; rw [show j = (Ps.getD k default).length by first | omega | (simp only [nr, nl]; omega), List.take_length]; rfl), trivial⟩, ⟨rfl, rfl⟩, ⟨rfl, rfl⟩⟩, (by first | exact zz | (dsimp only; exact zz))⟩
 have h3r := h3
 try simp only [nq, nr, nl] at h3
 refine qjf (qqf ?_)
 obtain rfl : k = (cubV vs).length := zz
 refine ar (om rfl (om rfl ?_))
 refine qz0 (fun ver => qza (v := .own 74 ver) (hp1 := [(18, some (v, .gone)), (74, some (ver, .row 89 5 _))]) [(18, v)] false [18] ent144 (f_l12Join vs (mrgN (cubV vs) Ps (cubV vs).length) hv hvl (by have h9 := mrgN_len hu (Nat.le_refl _); omega)) ⟨.inl ⟨rfl, rfl⟩, .inl ⟨rfl, rfl⟩, trivial⟩ ⟨⟨rfl, rfl⟩, trivial⟩ rfl rfl rfl (fun h => by cases h) rfl (List.all_eq_true.1 rfl) (.inl rfl) rfl rfl) fun v74x5 => ?_
 refine oa rfl (on (qqf (rs (om rfl (qqa (qja Tryz.underlying34 rfl rfl) (qqa (j_gt rfl rfl) (on (ac rfl (fun h8 => ?_) fun h8 => ?_))))))))
 ·
  have h8r := h8
  try simp only [nq, nr, nl] at h8
  refine rs (qqv (fun ver => qzh qxa qzs rfl rfl (by decide)) fun v78x6 => ?_)
  refine oa rfl (oa rfl (on (qjs 4 (noA _ _ _ _ _) rfl rfl ?_)))
  refine qqx ?_
  exact ⟨[.sl _, .p _], .tup [.sl _, .p _], [], [], [], ⟨rfl, rfl, trivial⟩, rfl, rfl, trivial, rfl, rfl, ⟨by have hg : ¬ (mrgA vs Ps).length ≤ 1000 := (by unfold mrgA; first | omega | (simp only [nr, nl]; omega)); rw [if_neg hg, decide_eq_false hg]; rfl, rfl, rfl⟩⟩
 have h8r := h8
 try simp only [nq, nr, nl] at h8
 refine qqo (rs (om rfl (oa rfl (oa rfl (on (qjs 4 (noA _ _ _ _ _) rfl rfl ?_))))))
 refine qqx ?_
 exact ⟨[.sl _, .p _], .tup [.sl _, .p _], [], [], [], ⟨rfl, rfl, trivial⟩, rfl, rfl, trivial, rfl, rfl, ⟨by have hg : (mrgA vs Ps).length ≤ 1000 := (by unfold mrgA; first | omega | (simp only [nr, nl]; omega)); rw [if_pos hg, decide_eq_true hg]; rfl, rfl, rfl⟩⟩
end Go.Ab

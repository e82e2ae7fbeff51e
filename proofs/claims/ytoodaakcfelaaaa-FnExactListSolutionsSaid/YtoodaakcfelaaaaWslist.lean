/- Walks. -/
import Derived.Test.YtoodaakcfelaaaaBase
import Derived.Test.YtoodaakcfelaaaaCub
import Derived.Test.YtoodaakcfelaaaaWssolveo
import Derived.Test.YtoodaakcfelaaaaWsexcl2
namespace Go.Ab
open Go.Proofs
set_option maxRecDepth 100000
set_option maxHeartbeats 8000000
set_option linter.unusedSimpArgs false
set_option linter.unusedVariables false
theorem zaw0 {p : Prop} (h : p := by first | omega | (simp only [nr, nl, qjz]; omega)) : p := h
theorem f_exclSpecF (vs : List Int) (bs : List Bool) (hok : varsFrom 0 vs = true) (hb : bs.length = 12) : Fn Try.prog 26 [.sl (vs.map dI), .sl (bs.map dB)] [] (fun rr ii nn => rr = .agg [.sl ((exTs vs bs).map dT), .p (.int .i64 1)] ∧ ii = [] ∧ nn = []) := by
 refine qjj Try.func26 rfl (nb rfl) fun w X g => ?_
 show AWp _ _ _ ⟨[(0, .sl (vs.map dI)), (1, .sl (bs.map dB))], []⟩
 have hvl := vars_len hok
 refine rs (qqu (fun ver => qjw qzh rfl) fun v4x1 => ?_)
 refine on (rs (qqa (qz3 (parts := [(1, .const (.int .i64 1))]) str56 qzh rfl rfl) ?_))
 refine qqu (fun ver => qjw qzh rfl) fun v5x2 => ?_
 refine qjk (qqk qj5 rfl rfl rfl rfl rfl rfl) ?_
 refine on (a_adopt_box' 0 1005 83 2 (by decide) (id := 5) rfl rfl fun v1005x3 => ?_)
 refine qqd (rs (oa rfl (on (qqh (qqt (ι := Nat × Nat) (fun x => x.1 ≤ vs.length) (fun x r => (6, .p (.int .i64 ((x.1 : Nat)))) :: r) (fun x r => (5, some (v5x2, .box 56 [.own 1005 x.2, .p (.int .i64 1)])) :: (1005, some (x.2, .row 83 2 ((exTs (vs.take x.1) bs).map dT))) :: r) (fun x => vs.length - x.1) (fun _ _ => rfl) (fun _ _ => rfl) (0, v1005x3) (by first | exact (Nat.zero_le _) | (dsimp only; exact (Nat.zero_le _))) ⟨⟨rfl, rfl⟩, ⟨rfl, trivial⟩, ⟨rfl, rfl, trivial⟩, ⟨rfl, rfl⟩, ⟨rfl, rfl⟩⟩ ?_)))))
 rintro ⟨k, v⟩ hpre; dsimp only at hpre ⊢
 refine qqd (rs (om rfl (om rfl (qqa (qqs Try.underlying23 rfl) (qqa (qzk rfl rfl) (on (ac rfl (fun h1 => ?_) fun h1 => ?_)))))))
 ·
  have h1r := h1
  try simp only [nq, nr, nl, qjz] at h1
  have hv := vars_at hok (k := k) (by omega)
  refine qqg (qqd (qqh (rs (om rfl (om rfl (qqa (qq5 qjg rfl rfl rfl (qqj zaw0) rfl) (qqa (qqz qq7 rfl (qqj zaw0) rfl) (qqa (qz3 (parts := [(0, .const (.int .i64 1)), (1, .tmp 18)]) str83 elt83 rfl rfl) ?_))))))))
  refine qqu (fun ver => qjw elt83 rfl) fun v7x4 => ?_
  refine qjk (qqk agg83 rfl rfl rfl rfl rfl rfl) ?_
  refine on (qqd (rs (om rfl (om rfl (om rfl (qqa (qq5 qjg rfl rfl rfl (qqj zaw0) rfl) (qqa (qqz qq7 rfl (qqj zaw0) rfl) (qqa (j_sub rfl rfl zaw0 zaw0) (qqa (qq5 (n := (vs.getD k default - 1).toNat) slt51 rfl rfl zaw0 (qqj zaw0) rfl) (qqa (qqz leaf4 rfl (qqj zaw0) rfl) (on (ac rfl (fun h2 => ?_) fun h2 => ?_))))))))))))
  ·
   have h2r := h2
   try simp only [nq, nr, nl, qjz] at h2
   refine ar (qqa (qqm qzn rfl rfl) (qqa (qqe qq7 rfl rfl rfl) (qqa (j_neg rfl zaw0 zaw0) (qqa (qqm qzn rfl rfl) (qjk (qq8 qq7 rfl rfl (nb rfl) (evo rfl) rfl) ?_)))))
   refine on (ar (qqa (qqm qjp rfl rfl) (qqa (qqe qj7 rfl rfl rfl) (qqa (qqr (ys := [.p _, .p _]) agg83 rfl rfl rfl (nb rfl)) (qqu (fun ver => qqv (parts := [(0, .tmp 34)]) (es := [[_, _]]) qz0 elt83 rfl rfl (by decide) (by decide) rfl rfl (by simp) rfl) fun v35x5 => ?_)))))
   refine qqu (fun ver => qq2 qz0 elt83 rfl rfl rfl rfl rfl rfl (by rw [qqw]; first | omega | (simp only [nr, nl, qjz]; omega)) zaw0) fun v1005x6 => ?_
   refine qqa (qqm qjp rfl rfl) (qjk (qq8 qj7 rfl rfl (nb rfl) (evo rfl) rfl) ?_)
   refine on (ar (om rfl (qqa (qje rfl rfl zaw0 zaw0) (oa rfl (on ?_)))))
   exact ⟨(k + 1, v1005x6), (by first | exact zaw0 | (dsimp only; exact zaw0)), ⟨⟨rfl, rfl⟩, ⟨rfl, trivial⟩, ⟨rfl, qzd (exTs_next (by omega) (exT_t h2r)), trivial⟩, ⟨rfl, rfl⟩, ⟨rfl, rfl⟩⟩, (by first | exact zaw0 | (dsimp only; exact zaw0))⟩
  have h2r := h2
  try simp only [nq, nr, nl, qjz] at h2
  refine qqg (ar (qqa (qqm qjp rfl rfl) (qqa (qqe qj7 rfl rfl rfl) (qqa (qqr (ys := [.p _, .p _]) agg83 rfl rfl rfl (nb rfl)) (qqu (fun ver => qqv (parts := [(0, .tmp 34)]) (es := [[_, _]]) qz0 elt83 rfl rfl (by decide) (by decide) rfl rfl (by simp) rfl) fun v35x7 => ?_)))))
  refine qqu (fun ver => qq2 qz0 elt83 rfl rfl rfl rfl rfl rfl (by rw [qqw]; first | omega | (simp only [nr, nl, qjz]; omega)) zaw0) fun v1005x8 => ?_
  refine qqa (qqm qjp rfl rfl) (qjk (qq8 qj7 rfl rfl (nb rfl) (evo rfl) rfl) ?_)
  refine on (ar (om rfl (qqa (qje rfl rfl zaw0 zaw0) (oa rfl (on ?_)))))
  exact ⟨(k + 1, v1005x8), (by first | exact zaw0 | (dsimp only; exact zaw0)), ⟨⟨rfl, rfl⟩, ⟨rfl, trivial⟩, ⟨rfl, qzd (exTs_next (by omega) (exT_f h2r)), trivial⟩, ⟨rfl, rfl⟩, ⟨rfl, rfl⟩⟩, (by first | exact zaw0 | (dsimp only; exact zaw0))⟩
 have h1r := h1
 try simp only [nq, nr, nl, qjz] at h1
 refine qjf (qqd (a_freezeboxK 0 5 (by decide) trivial rfl rfl rfl rfl ?_))
 try dsimp only [List.set]
 refine ar (qqa (qqr (ys := [.sl _, .p _]) qj5 rfl rfl rfl (nb rfl)) (qjk (qqk qj5 rfl rfl rfl rfl rfl rfl) ?_))
 refine on (qql ?_)
 exact ⟨[.agg [.sl _, .p _]], .agg [.sl _, .p _], [], [], [], ⟨⟨_, _, _, _, rfl, rfl, qj5, rfl⟩, trivial⟩, rfl, rfl, trivial, rfl, rfl, ⟨by rw [List.take_of_length_le (by omega)], rfl, rfl⟩⟩
theorem f_listable (l : List Con) (vs : List Int) : Fn Try.prog 28 [.sl (l.map dC), .sl (vs.map dI)] [] (fun rr ii nn => rr = .p (.bool ((pOk l && decide (l.length ≤ 336) && varsFrom 0 vs))) ∧ ii = [] ∧ nn = []) := by
 refine qjj Try.func28 rfl (nb rfl) fun w X g => ?_
 show AWp _ _ _ ⟨[(0, .sl (l.map dC)), (1, .sl (vs.map dI))], []⟩
 refine qzb 0 rfl fun hlen => ?_
 refine rs (oa rfl (on (rs (om rfl ?_))))
 refine qq4 (qqp (v := .p _) (hp1 := []) [] false [] ent51 (f_pvImpl l) ⟨.inl ⟨rfl, rfl⟩, trivial⟩ trivial rfl rfl (fun h => by cases h) rfl (fun _ h => by cases h) (.inl rfl) rfl rfl) ?_
 refine om rfl (qq9 7 rfl (fun h1 => ?_) (fun h1 => ?_))
 ·
  have h1r := h1
  try simp only [nq, nr] at h1
  refine qqa (qqf rfl rfl h1r (qqn (evo rfl))) (qqa (qqf rfl rfl h1r (qqs Try.underlying29 rfl)) (qqa (qqf rfl rfl h1r (j_le rfl rfl)) (qqa (qq6 rfl h1r (evo rfl)) (om rfl (qq9 12 rfl (fun h2 => ?_) (fun h2 => ?_))))))
  ·
   have h2r := h2
   try simp only [nq, nr] at h2
   refine qqa (qqf rfl rfl h2r (qqn (evo rfl))) ?_
   refine qq4 (qqf rfl rfl h2r (qqp (v := .p _) (hp1 := []) [] false [] ent52 (f_areVars vs) ⟨.inl ⟨rfl, rfl⟩, trivial⟩ trivial rfl rfl (fun h => by cases h) rfl (fun _ h => by cases h) (.inl rfl) rfl rfl)) ?_
   refine qqa (qq6 rfl h2r (evo rfl)) (oa rfl (on (qql ?_)))
   exact qjh rfl ⟨qja (by first | (simp_all; done) | (simp_all; omega)), rfl, rfl⟩
  have h2r := h2
  try simp only [nq, nr] at h2
  refine qqa (qqb rfl rfl h2r) (qqa (qqb rfl rfl h2r) (qqa (qq3 rfl h2r (evo rfl)) (oa rfl (on (qql ?_)))))
  exact qjh rfl ⟨qja (by first | (simp_all; done) | (simp_all; omega)), rfl, rfl⟩
 have h1r := h1
 try simp only [nq, nr] at h1
 refine qqa (qqb rfl rfl h1r) (qqa (qqb rfl rfl h1r) (qqa (qqb rfl rfl h1r) (qqa (qq3 rfl h1r (evo rfl)) (om rfl (qqa (qqb rfl rfl rfl) (qqa (qqb rfl rfl rfl) (qqa (qq3 rfl rfl (evo rfl)) (oa rfl (on (qql ?_))))))))))
 exact qjh rfl ⟨qja (by first | (simp_all; done) | (simp_all; omega)), rfl, rfl⟩
theorem f_listSpec (l : List Con) (vs : List Int) (fu : Int) : Fn Try.prog 6 [.sl (l.map dC), .sl (vs.map dI), .p (.int .i64 (fu))] [] (fun rr ii nn => rr = .tup [.p (.int .i64 (lsV l vs fu).1), .sl ((lsV l vs fu).2.1.map dD), .sl ((lsV l vs fu).2.2.map dSt)] ∧ ii = [] ∧ nn = []) := by
 refine qjj Try.func6 rfl (nb rfl) fun w X g => ?_
 show AWp _ _ _ ⟨[(0, .sl (l.map dC)), (1, .sl (vs.map dI)), (2, .p (.int .i64 (fu)))], []⟩
 refine rs (oa rfl (oa rfl (oa rfl (on (qqd (rs (om rfl ?_)))))))
 refine qq4 (qqp (v := .p _) (hp1 := []) [] false [] ent23 (f_pvSpec l) ⟨.inl ⟨rfl, rfl⟩, trivial⟩ trivial rfl rfl (fun h => by cases h) rfl (fun _ h => by cases h) (.inl rfl) rfl rfl) ?_
 refine qqa (j_not rfl) (om rfl (qq9 17 rfl (fun h1 => ?_) (fun h1 => ?_)))
 ·
  have h1r := h1
  try simp only [nq, nr, nl] at h1
  refine qqa (qqb rfl rfl h1r) (qqa (qqb rfl rfl h1r) (qqa (qqb rfl rfl h1r) (qqa (qq6 rfl h1r (evo rfl)) (om rfl (qqa (qqb rfl rfl rfl) (qqa (qqb rfl rfl rfl) (qqa (qq6 rfl rfl (evo rfl)) (om rfl (qqa (qqb rfl rfl rfl) (qqa (qqb rfl rfl rfl) (qqa (qq6 rfl rfl (evo rfl)) (om rfl (qqa (qqb rfl rfl rfl) ?_)))))))))))))
  refine qqa (qqb rfl rfl rfl) ?_
  try have hln0 := pOk_len (show pOk l = true by assumption)
  refine qqa (qqb rfl rfl rfl) (qqa (qqb rfl rfl rfl) (qqa (qq6 rfl rfl (evo rfl)) (on (a_tt rfl ?_))))
  refine rs (qqu (fun ver => qza slt25 elt51 rfl rfl (by decide)) fun v36x1 => ?_)
  refine qqu (fun ver => qza qzy elt65 rfl rfl (by decide)) fun v37x2 => ?_
  refine oa rfl (oa rfl (oa rfl (on (qzc 7 (noA _ _ _ _ _) rfl rfl ?_))))
  refine qzc 8 (noA _ _ _ _ _) rfl rfl ?_
  refine qql ?_
  have hb : lsOk l vs fu = false := (by unfold lsOk; first | (simp_all; done) | (simp_all; omega))
  exact ⟨[.p _, .sl _, .sl _], .tup [.p _, .sl _, .sl _], [], [], [], ⟨rfl, rfl, rfl, trivial⟩, rfl, rfl, trivial, rfl, rfl, ⟨by rw [ls_bad hb]; try rfl, rfl, rfl⟩⟩
 have h1r := h1
 try simp only [nq, nr, nl] at h1
 refine qqa (qqf rfl rfl h1r (qqn (evo rfl))) ?_
 refine qq4 (qqf rfl rfl h1r (qqp (v := .p _) (hp1 := []) [] false [] ent24 (f_l14Vars vs) ⟨.inl ⟨rfl, rfl⟩, trivial⟩ trivial rfl rfl (fun h => by cases h) rfl (fun _ h => by cases h) (.inl rfl) rfl rfl)) ?_
 refine qqa (qqf rfl rfl h1r (j_not rfl)) (qqa (qq3 rfl h1r (evo rfl)) (om rfl (qq9 22 rfl (fun h2 => ?_) (fun h2 => ?_))))
 ·
  have h2r := h2
  try simp only [nq, nr, nl] at h2
  refine qqa (qqb rfl rfl h2r) (qqa (qqb rfl rfl h2r) (qqa (qq6 rfl h2r (evo rfl)) (om rfl (qqa (qqb rfl rfl rfl) (qqa (qqb rfl rfl rfl) (qqa (qq6 rfl rfl (evo rfl)) (om rfl (qqa (qqb rfl rfl rfl) (qqa (qqb rfl rfl rfl) ?_)))))))))
  try have hln0 := pOk_len (show pOk l = true by assumption)
  refine qqa (qqb rfl rfl rfl) (qqa (qqb rfl rfl rfl) (qqa (qq6 rfl rfl (evo rfl)) (on (a_tt rfl ?_))))
  refine rs (qqu (fun ver => qza slt25 elt51 rfl rfl (by decide)) fun v36x3 => ?_)
  refine qqu (fun ver => qza qzy elt65 rfl rfl (by decide)) fun v37x4 => ?_
  refine oa rfl (oa rfl (oa rfl (on (qzc 7 (noA _ _ _ _ _) rfl rfl ?_))))
  refine qzc 8 (noA _ _ _ _ _) rfl rfl ?_
  refine qql ?_
  have hb : lsOk l vs fu = false := (by unfold lsOk; first | (simp_all; done) | (simp_all; omega))
  exact ⟨[.p _, .sl _, .sl _], .tup [.p _, .sl _, .sl _], [], [], [], ⟨rfl, rfl, rfl, trivial⟩, rfl, rfl, trivial, rfl, rfl, ⟨by rw [ls_bad hb]; try rfl, rfl, rfl⟩⟩
 have h2r := h2
 try simp only [nq, nr, nl] at h2
 refine qqa (qqf rfl rfl h2r (qqn (evo rfl))) (qqa (qqf rfl rfl h2r (qzk rfl rfl)) (qqa (qq3 rfl h2r (evo rfl)) (om rfl (qq9 26 rfl (fun h3 => ?_) (fun h3 => ?_)))))
 ·
  have h3r := h3
  try simp only [nq, nr, nl] at h3
  refine qqa (qqb rfl rfl h3r) (qqa (qqb rfl rfl h3r) (qqa (qq6 rfl h3r (evo rfl)) (om rfl (qqa (qqb rfl rfl rfl) (qqa (qqb rfl rfl rfl) ?_)))))
  try have hln0 := pOk_len (show pOk l = true by assumption)
  refine qqa (qqb rfl rfl rfl) (qqa (qqb rfl rfl rfl) (qqa (qq6 rfl rfl (evo rfl)) (on (a_tt rfl ?_))))
  refine rs (qqu (fun ver => qza slt25 elt51 rfl rfl (by decide)) fun v36x5 => ?_)
  refine qqu (fun ver => qza qzy elt65 rfl rfl (by decide)) fun v37x6 => ?_
  refine oa rfl (oa rfl (oa rfl (on (qzc 7 (noA _ _ _ _ _) rfl rfl ?_))))
  refine qzc 8 (noA _ _ _ _ _) rfl rfl ?_
  refine qql ?_
  have hb : lsOk l vs fu = false := (by unfold lsOk; first | (simp_all; done) | (simp_all; omega))
  exact ⟨[.p _, .sl _, .sl _], .tup [.p _, .sl _, .sl _], [], [], [], ⟨rfl, rfl, rfl, trivial⟩, rfl, rfl, trivial, rfl, rfl, ⟨by rw [ls_bad hb]; try rfl, rfl, rfl⟩⟩
 have h3r := h3
 try simp only [nq, nr, nl] at h3
 refine qqa (qqf rfl rfl h3r (qqn (evo rfl))) (qqa (qqf rfl rfl h3r (j_gt rfl rfl)) (qqa (qq3 rfl h3r (evo rfl)) (om rfl (qq9 30 rfl (fun h4 => ?_) (fun h4 => ?_)))))
 ·
  have h4r := h4
  try simp only [nq, nr, nl] at h4
  refine qqa (qqb rfl rfl h4r) (qqa (qqb rfl rfl h4r) ?_)
  try have hln0 := pOk_len (show pOk l = true by assumption)
  refine qqa (qqb rfl rfl h4r) (qqa (qqb rfl rfl h4r) (qqa (qq6 rfl h4r (evo rfl)) (on (a_tt rfl ?_))))
  refine rs (qqu (fun ver => qza slt25 elt51 rfl rfl (by decide)) fun v36x7 => ?_)
  refine qqu (fun ver => qza qzy elt65 rfl rfl (by decide)) fun v37x8 => ?_
  refine oa rfl (oa rfl (oa rfl (on (qzc 7 (noA _ _ _ _ _) rfl rfl ?_))))
  refine qzc 8 (noA _ _ _ _ _) rfl rfl ?_
  refine qql ?_
  have hb : lsOk l vs fu = false := (by unfold lsOk; first | (simp_all; done) | (simp_all; omega))
  exact ⟨[.p _, .sl _, .sl _], .tup [.p _, .sl _, .sl _], [], [], [], ⟨rfl, rfl, rfl, trivial⟩, rfl, rfl, trivial, rfl, rfl, ⟨by rw [ls_bad hb]; try rfl, rfl, rfl⟩⟩
 have h4r := h4
 try simp only [nq, nr, nl] at h4
 refine qqa (qqf rfl rfl h4r (qqn (evo rfl))) (qqa (qqf rfl rfl h4r (qqs Try.underlying29 rfl)) ?_)
 try have hln0 := pOk_len (show pOk l = true by assumption)
 refine qqa (qqf rfl rfl h4r (qje rfl rfl zz zz)) (qqa (qqf rfl rfl h4r (j_gt rfl rfl)) (qqa (qq3 rfl h4r (evo rfl)) (on (ac rfl (fun h5 => ?_) fun h5 => ?_))))
 ·
  have h5r := h5
  try simp only [nq, nr, nl] at h5
  refine rs (qqu (fun ver => qza slt25 elt51 rfl rfl (by decide)) fun v36x9 => ?_)
  refine qqu (fun ver => qza qzy elt65 rfl rfl (by decide)) fun v37x10 => ?_
  refine oa rfl (oa rfl (oa rfl (on (qzc 7 (noA _ _ _ _ _) rfl rfl ?_))))
  refine qzc 8 (noA _ _ _ _ _) rfl rfl ?_
  refine qql ?_
  have hb : lsOk l vs fu = false := (by unfold lsOk; first | (simp_all; done) | (simp_all; omega))
  exact ⟨[.p _, .sl _, .sl _], .tup [.p _, .sl _, .sl _], [], [], [], ⟨rfl, rfl, rfl, trivial⟩, rfl, rfl, trivial, rfl, rfl, ⟨by rw [ls_bad hb]; try rfl, rfl, rfl⟩⟩
 have h5r := h5
 try simp only [nq, nr, nl] at h5
 refine qqg (qqd ?_)
 have hok : lsOk l vs fu = true := (by unfold lsOk; first | (simp_all; done) | (simp_all; omega))
 have hpt := lsOk_parts hok
 have hls := ls_start hok
 have hln := pOk_len hpt.1
 refine ar (qqu (fun ver => qza slt25 elt51 rfl rfl (by decide)) fun v38x11 => ?_)
 refine oa rfl (on (rs (qqu (fun ver => qza qz9 qzh rfl rfl (by decide)) fun v39x12 => ?_)))
 refine om rfl (qqu (fun ver => j_append_sl qz9 qzh rfl rfl rfl rfl (by intro x hx; obtain ⟨t, _, rfl⟩ := List.mem_map.1 hx; rfl) (all_lf_dC l) (by rw [qqw]; first | omega | (simp only [nr, nl]; omega)) zz) fun v39x13 => ?_)
 refine oa rfl (on (qqh (qqt (ι := Nat × List Con × List (List Bool) × Nat × Nat) (fun x => lsI l vs fu x.1 x.2.1 x.2.2.1) (fun x r => (10, .own 39 x.2.2.2.1) :: (9, .own 38 x.2.2.2.2) :: r) (fun x r => (39, some (x.2.2.2.1, .row 56 2 ((x.2.1).map dC))) :: (38, some (x.2.2.2.2, .row 51 1 ((x.2.2.1).map dD))) :: r) (fun x => x.1) (fun _ _ => rfl) (fun _ _ => rfl) (64, l, [], v39x13, v38x11) (by first | exact hls | (dsimp only; exact hls)) ⟨⟨rfl, rfl⟩, ⟨rfl, rfl, trivial⟩, ⟨rfl, rfl, trivial⟩, ⟨rfl, rfl⟩, ⟨rfl, rfl⟩⟩ ?_)))
 rintro ⟨n, L, f, v1, v2⟩ hi; dsimp only at hi ⊢
 refine qqh (qqd ?_)
 have hsv := ls_sv hok hi
 have hcs := svC_cases hsv
 have hLl := hi.2.2.1
 have hfl := hi.2.1
 refine ar (om rfl (om rfl ?_))
 refine qq4 (qqp (v := .tup [.p _, .sl _, .sl _]) (hp1 := [(39, some (v1, .row 56 2 _))]) [(39, v1)] false [39] ent25 (f_solveSpecO L fu) ⟨.inl ⟨rfl, rfl⟩, .inl ⟨rfl, rfl⟩, trivial⟩ ⟨⟨rfl, rfl⟩, trivial⟩ rfl rfl (fun h => by cases h) rfl (List.all_eq_true.1 rfl) (.inl rfl) rfl rfl) ?_
 refine om rfl (qqa (qqy rfl rfl) (qqa (qqy rfl rfl) (qqa (qqy rfl rfl) (oa rfl (oa rfl (oa rfl (on (qqd (rs (om rfl (qqa (j_eq rfl rfl) (on (ac rfl (fun h6 => ?_) fun h6 => ?_)))))))))))))
 ·
  have h6r := h6
  try simp only [nq, nr, nl] at h6
  refine rs (om rfl (om rfl (oa rfl (oa rfl (oa rfl (on (qzc 7 (noA _ _ _ _ _) rfl rfl ?_)))))))
  refine qql ?_
  have hu := ls_uns hi (by assumption)
  exact ⟨[.p _, .sl _, .sl _], .tup [.p _, .sl _, .sl _], [], [], [], ⟨rfl, rfl, rfl, trivial⟩, rfl, rfl, trivial, rfl, rfl, ⟨by rw [hu]; try rfl, rfl, rfl⟩⟩
 have h6r := h6
 try simp only [nq, nr, nl] at h6
 refine qqg (qqd (rs (om rfl (qqa (j_eq rfl rfl) (om rfl (qq9 55 rfl (fun h7 => ?_) (fun h7 => ?_)))))))
 ·
  have h7r := h7
  try simp only [nq, nr, nl] at h7
  refine qqa (qqb rfl rfl h7r) (qqa (qqb rfl rfl h7r) (qqa (qqb rfl rfl h7r) (qqa (qq6 rfl h7r (evo rfl)) (on (a_tt rfl ?_)))))
  refine rs (qqu (fun ver => qza slt25 elt51 rfl rfl (by decide)) fun v60x14 => ?_)
  refine qqu (fun ver => qza qzy elt65 rfl rfl (by decide)) fun v61x15 => ?_
  refine oa rfl (oa rfl (oa rfl (on (qzc 7 (noA _ _ _ _ _) rfl rfl ?_))))
  refine qzc 8 (noA _ _ _ _ _) rfl rfl ?_
  refine qql ?_
  have hst := ls_stop hi (by omega) (by omega)
  exact ⟨[.p _, .sl _, .sl _], .tup [.p _, .sl _, .sl _], [], [], [], ⟨rfl, rfl, rfl, trivial⟩, rfl, rfl, trivial, rfl, rfl, ⟨by rw [hst]; try rfl, rfl, rfl⟩⟩
 have h7r := h7
 try simp only [nq, nr, nl] at h7
 refine qqa (qqf rfl rfl h7r (qqn (evo rfl))) (qqa (qqf rfl rfl h7r (qjc Try.underlying25 rfl rfl)) (qqa (qqf rfl rfl h7r (j_eq rfl rfl)) (qqa (qq3 rfl h7r (evo rfl)) (on (ac rfl (fun h8 => ?_) fun h8 => ?_)))))
 ·
  have h8r := h8
  try simp only [nq, nr, nl] at h8
  refine rs (qqu (fun ver => qza slt25 elt51 rfl rfl (by decide)) fun v60x16 => ?_)
  refine qqu (fun ver => qza qzy elt65 rfl rfl (by decide)) fun v61x17 => ?_
  refine oa rfl (oa rfl (oa rfl (on (qzc 7 (noA _ _ _ _ _) rfl rfl ?_))))
  refine qzc 8 (noA _ _ _ _ _) rfl rfl ?_
  refine qql ?_
  have hst := ls_stop hi (by omega) (by omega)
  exact ⟨[.p _, .sl _, .sl _], .tup [.p _, .sl _, .sl _], [], [], [], ⟨rfl, rfl, rfl, trivial⟩, rfl, rfl, trivial, rfl, rfl, ⟨by rw [hst]; try rfl, rfl, rfl⟩⟩
 have h8r := h8
 try simp only [nq, nr, nl] at h8
 refine qqg (qqd ?_)
 have hc1 : svC L fu = 1 := by omega
 have hva := ls_val hsv hc1
 have hnx := ls_next hok hi (by omega) (by omega)
 refine ar (om rfl (om rfl (qqu (fun ver => qqv (parts := [(0, .tmp 63)]) (es := [[_]]) slt25 elt51 rfl rfl (by decide) (by decide) rfl rfl (by simp) rfl) fun v64x18 => ?_)))
 refine qqu (fun ver => qq2 slt25 elt51 rfl rfl rfl rfl rfl rfl (by rw [qqw]; first | omega | (simp only [nr, nl]; omega)) zz) fun v38x19 => ?_
 refine oa rfl (on (ar (om rfl (om rfl (om rfl ?_)))))
 refine qq4 (qqp (v := .agg [.sl _, .p _]) (hp1 := []) [] false [] ent26 (f_exclSpecF vs (svV L fu) hpt.2.2.1 hva.1) ⟨.inl ⟨rfl, rfl⟩, .inl ⟨rfl, rfl⟩, trivial⟩ trivial rfl rfl (fun h => by cases h) rfl (fun _ h => by cases h) (.inl rfl) rfl rfl) ?_
 refine qqu (fun ver => qqv (parts := [(0, .tmp 69)]) (es := [[_, _]]) qz9 qzh rfl rfl (by decide) (by decide) rfl rfl (by simp) rfl) fun v70x20 => ?_
 refine qqu (fun ver => qq2 qz9 qzh rfl rfl rfl rfl rfl rfl (by rw [qqw]; first | omega | (simp only [nr, nl]; omega)) zz) fun v39x21 => ?_
 refine oa rfl (on ?_)
 exact ⟨(n - 1, L ++ [lsX vs (svV L fu)], f ++ [svV L fu], v39x21, v38x19), (by first | exact hnx.2 | (dsimp only; exact hnx.2)), ⟨⟨rfl, rfl⟩, ⟨rfl, rfl, trivial⟩, ⟨qzd (by dsimp only; rw [List.map_append]; rfl), qzd (by dsimp only; rw [List.map_append]; rfl), trivial⟩, ⟨rfl, rfl⟩, ⟨rfl, rfl⟩⟩, (by first | exact (by have := hnx.1; dsimp only; omega) | (dsimp only; exact (by have := hnx.1; dsimp only; omega)))⟩
end Go.Ab

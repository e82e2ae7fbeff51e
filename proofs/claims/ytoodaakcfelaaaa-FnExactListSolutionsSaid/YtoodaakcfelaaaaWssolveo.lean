/- Walks. -/
import Derived.Test.YtoodaakcfelaaaaBase
import Derived.Test.YtoodaakcfelaaaaWssolve
namespace Go.Ab
open Go.Proofs
set_option maxRecDepth 100000
set_option maxHeartbeats 8000000
set_option linter.unusedSimpArgs false
set_option linter.unusedVariables false
theorem f_cloneCO (l : List Con) (hts : l.length ≤ 1048576) : Fn Try.prog 30 [.own 0 0] [.row 56 2 ((l).map dC)] (fun rr ii nn => rr = .own 1 0 ∧ ii = [.row 56 2 ((l).map dC)] ∧ nn = [.row 56 2 ((l).map dC)]) := by
 refine qjj Try.func30 rfl (nb rfl) fun w X g => ?_
 show AWp _ _ _ ⟨[(0, .own 0 0)], [(0, some (0, .row 56 2 ((l).map dC)))]⟩
 refine rs (oa rfl (on (qqd (rs (om rfl (op_eqnil_o Try.underlying29 rfl rfl fun b1 hb1 => ?_))))))
 refine on (ac rfl (fun h2 => ?_) fun h2 => ?_)
 ·
  have h2r := h2
  try simp only [nq, nr, nl] at h2
  refine rs (oa rfl (on (qjb 2 2 56 2 rfl fun v2 => ?_)))
  refine qql ?_
  exact ⟨[.own 2 v2], .own 1 0, [.row 56 2 _], [.row 56 2 _], [(2, v2)], ⟨rfl, trivial⟩, rfl, rfl, ⟨⟨rfl, rfl⟩, ⟨rfl, rfl⟩, trivial⟩, rfl, rfl, ⟨rfl, rfl, by rw [hb1 h2]⟩⟩
 have h2r := h2
 try simp only [nq, nr, nl] at h2
 refine qqg (rs (qqu (fun ver => qza qz9 qzh rfl rfl (by decide)) fun v5x1 => ?_))
 refine om rfl (qqu (fun ver => qq2 qz9 qzh rfl rfl rfl rfl rfl (all_lf_dC l) (by rw [qqw]; first | omega | (simp only [nr, nl]; omega)) zz) fun v5x2 => ?_)
 refine oa rfl (on (qql ?_))
 exact ⟨[.own 5 v5x2], .own 1 0, [.row 56 2 _], [.row 56 2 _], [(5, v5x2)], ⟨rfl, trivial⟩, rfl, rfl, ⟨⟨rfl, rfl⟩, ⟨rfl, rfl⟩, trivial⟩, rfl, rfl, ⟨rfl, rfl, rfl⟩⟩
theorem f_solveSpecO (l : List Con) (fu : Int) : Fn Try.prog 25 [.own 0 0, .p (.int .i64 (fu))] [.row 56 2 ((l).map dC)] (fun rr ii nn => rr = .tup [.p (.int .i64 (svC l fu)), .sl ((svV l fu).map dB), .sl ((svS l fu).map dSt)] ∧ ii = [.row 56 2 ((l).map dC)] ∧ nn = []) := by
 refine qjj Try.func25 rfl (nb rfl) fun w X g => ?_
 show AWp _ _ _ ⟨[(0, .own 0 0), (1, .p (.int .i64 (fu)))], [(0, some (0, .row 56 2 ((l).map dC)))]⟩
 refine rs (oa rfl (oa rfl (oa rfl (on (qqd (rs (om rfl ?_)))))))
 refine qq4 (qqp (v := .p _) (hp1 := []) [] true [0] ent23 (f_pvSpec l) ⟨.inr ⟨rfl, qj1 rfl rfl, rfl⟩, trivial⟩ trivial rfl rfl (fun _ => rfl) rfl (fun _ h => by cases h) (.inr ⟨rfl, by first | exact qjy (fun _ => rfl) | exact qj0 | (simp [plO, plV, plV.plL]; done)⟩) rfl rfl) ?_
 refine qqa (j_not rfl) (om rfl (qq9 16 rfl (fun h1 => ?_) (fun h1 => ?_)))
 ·
  have h1r := h1
  try simp only [nq, nr, nl] at h1
  refine qqa (qqb rfl rfl h1r) (qqa (qqb rfl rfl h1r) (qqa (qq6 rfl h1r (evo rfl)) (om rfl (qqa (qqb rfl rfl rfl) (qqa (qqb rfl rfl rfl) (qqa (qq6 rfl rfl (evo rfl)) (on (a_tt rfl ?_))))))))
  refine rs (qqu (fun ver => qza slt51 elt4 rfl rfl (by decide)) fun v24x1 => ?_)
  refine qqu (fun ver => qza qzy elt65 rfl rfl (by decide)) fun v25x2 => ?_
  refine oa rfl (oa rfl (oa rfl (on (qzq 5 ⟨⟨_, _, _, rfl⟩, trivial⟩ rfl rfl rfl ?_))))
  refine qzq 6 ⟨⟨_, _, _, rfl⟩, trivial⟩ rfl rfl rfl ?_
  refine qql ?_
  have hb : svOk l fu = false := by unfold svOk; first | (simp_all; done) | (rw [decide_eq_false (show ¬ (0 ≤ fu ∧ fu ≤ 2000) by omega), Bool.and_false])
  have hs := sv_bad hb
  exact ⟨[.p _, .sl _, .sl _], .tup [.p _, .sl _, .sl _], [.row 56 2 _], [], [], ⟨rfl, rfl, rfl, trivial⟩, rfl, rfl, ⟨⟨rfl, rfl⟩, trivial⟩, rfl, rfl, ⟨by rw [hs.1, hs.2.1, hs.2.2]; rfl, rfl, rfl⟩⟩
 have h1r := h1
 try simp only [nq, nr, nl] at h1
 refine qqa (qqf rfl rfl h1r (qqn (evo rfl))) (qqa (qqf rfl rfl h1r (qzk rfl rfl)) (qqa (qq3 rfl h1r (evo rfl)) (om rfl (qq9 20 rfl (fun h2 => ?_) (fun h2 => ?_)))))
 ·
  have h2r := h2
  try simp only [nq, nr, nl] at h2
  refine qqa (qqb rfl rfl h2r) (qqa (qqb rfl rfl h2r) (qqa (qq6 rfl h2r (evo rfl)) (on (a_tt rfl ?_))))
  refine rs (qqu (fun ver => qza slt51 elt4 rfl rfl (by decide)) fun v24x3 => ?_)
  refine qqu (fun ver => qza qzy elt65 rfl rfl (by decide)) fun v25x4 => ?_
  refine oa rfl (oa rfl (oa rfl (on (qzq 5 ⟨⟨_, _, _, rfl⟩, trivial⟩ rfl rfl rfl ?_))))
  refine qzq 6 ⟨⟨_, _, _, rfl⟩, trivial⟩ rfl rfl rfl ?_
  refine qql ?_
  have hb : svOk l fu = false := by unfold svOk; first | (simp_all; done) | (rw [decide_eq_false (show ¬ (0 ≤ fu ∧ fu ≤ 2000) by omega), Bool.and_false])
  have hs := sv_bad hb
  exact ⟨[.p _, .sl _, .sl _], .tup [.p _, .sl _, .sl _], [.row 56 2 _], [], [], ⟨rfl, rfl, rfl, trivial⟩, rfl, rfl, ⟨⟨rfl, rfl⟩, trivial⟩, rfl, rfl, ⟨by rw [hs.1, hs.2.1, hs.2.2]; rfl, rfl, rfl⟩⟩
 have h2r := h2
 try simp only [nq, nr, nl] at h2
 refine qqa (qqf rfl rfl h2r (qqn (evo rfl))) (qqa (qqf rfl rfl h2r (j_gt rfl rfl)) (qqa (qq3 rfl h2r (evo rfl)) (on (ac rfl (fun h3 => ?_) fun h3 => ?_))))
 ·
  have h3r := h3
  try simp only [nq, nr, nl] at h3
  refine rs (qqu (fun ver => qza slt51 elt4 rfl rfl (by decide)) fun v24x5 => ?_)
  refine qqu (fun ver => qza qzy elt65 rfl rfl (by decide)) fun v25x6 => ?_
  refine oa rfl (oa rfl (oa rfl (on (qzq 5 ⟨⟨_, _, _, rfl⟩, trivial⟩ rfl rfl rfl ?_))))
  refine qzq 6 ⟨⟨_, _, _, rfl⟩, trivial⟩ rfl rfl rfl ?_
  refine qql ?_
  have hb : svOk l fu = false := by unfold svOk; first | (simp_all; done) | (rw [decide_eq_false (show ¬ (0 ≤ fu ∧ fu ≤ 2000) by omega), Bool.and_false])
  have hs := sv_bad hb
  exact ⟨[.p _, .sl _, .sl _], .tup [.p _, .sl _, .sl _], [.row 56 2 _], [], [], ⟨rfl, rfl, rfl, trivial⟩, rfl, rfl, ⟨⟨rfl, rfl⟩, trivial⟩, rfl, rfl, ⟨by rw [hs.1, hs.2.1, hs.2.2]; rfl, rfl, rfl⟩⟩
 have h3r := h3
 try simp only [nq, nr, nl] at h3
 refine qqg (qqd ?_)
 have hok : svOk l fu = true := by unfold svOk; simp_all
 have hpo := (svOk_parts hok).1
 have hfu := (svOk_parts hok).2
 have hln := pOk_len hpo
 have hvh : visH l 13 [] fu [] := ⟨by rw [List.append_nil]; exact pOk_all hpo, by simp, hfu, inv_nil, rfl, by omega⟩
 have hsv := sv_ok hok
 have hgd := sv_good hok
 have hs0 := f_search0 l fu hvh
 rw [List.append_nil] at hs0
 have hgl : (visit l 13 [] fu []).1.length ≤ 1000 := hgd.len
 refine ar (qqu (fun ver => qza qz9 qzh rfl rfl (by decide)) fun v27x7 => ?_)
 refine om rfl (qqu (fun ver => qq2 qz9 qzh rfl rfl rfl rfl rfl (all_lf_dC l) (by rw [qqw]; first | omega | (simp only [nr, nl]; omega)) zz) fun v27x8 => ?_)
 refine om rfl (qqa (qz3 (parts := [(0, .tmp 29), (2, .tmp 30)]) str78 elt78 rfl rfl) (op_call3 (v := fun ver ver2 ver3 => .tup [.agg [.own 32 ver, .own 100032 ver2, .p _], .p _, .own 200032 ver3]) (hp1 := fun ver ver2 ver3 => [(27, some (v27x8, .gone)), (32, some (ver, .row 56 2 _)), (100032, some (ver2, .row 65 5 _)), (200032, some (ver3, .row 4 1 _))]) [(27, v27x8)] false ent48 hs0 ⟨.inl ⟨rfl, rfl⟩, .inl ⟨rfl, rfl⟩, trivial⟩ ⟨⟨rfl, rfl⟩, trivial⟩ rfl rfl rfl rfl (.inl rfl) (fun _ _ _ => rfl) (fun _ _ _ => rfl) ?_))
 rintro  v32x9 v100032x9 v200032x9
 dsimp only [List.cons_append, List.nil_append]
 refine om rfl (qqa (qqy rfl rfl) (qqa (qqy rfl rfl) (qqa (qqy rfl rfl) (qqu (fun ver => qjw elt78 rfl) fun v7x10 => ?_))))
 refine qjk (qqk qj6 rfl rfl rfl rfl rfl rfl) ?_
 refine oa rfl (oa rfl (on (qqd (rs (om rfl (qqa (j_ne rfl rfl) (on (ac rfl (fun h4 => ?_) fun h4 => ?_))))))))
 ·
  have h4r := h4
  try simp only [nq, nr, nl] at h4
  refine rs (om rfl (om rfl (qqu (fun ver => qza qzy elt65 rfl rfl (by decide)) fun v40x11 => ?_)))
  refine oa rfl (oa rfl (oa rfl (on (qzq 5 ⟨⟨_, _, _, rfl⟩, trivial⟩ rfl rfl rfl ?_))))
  refine qzq 6 ⟨⟨_, _, _, rfl⟩, trivial⟩ rfl rfl rfl ?_
  refine qql ?_
  have hc : ¬ (svR l fu).2.2.1 = 2 := (by assumption)
  have hs : svS l fu = [] := by unfold svS; rw [if_neg (by omega)]
  exact ⟨[.p _, .sl _, .sl _], .tup [.p _, .sl _, .sl _], [.row 56 2 _], [], [], ⟨rfl, rfl, rfl, trivial⟩, rfl, rfl, ⟨⟨rfl, rfl⟩, trivial⟩, rfl, rfl, ⟨by rw [hsv.1, hsv.2, hs]; rfl, rfl, rfl⟩⟩
 have h4r := h4
 try simp only [nq, nr, nl] at h4
 refine qqg (rs (qqu (fun ver => qza qzy elt65 rfl rfl (by decide)) fun v41x12 => ?_))
 refine oa rfl (on (qqd (rs (oa rfl (on (qqh (qqt (ι := Nat × Nat) (fun x => x.1 ≤ (visit l 13 [] fu []).1.length) (fun x r => (11, .p (.int .i64 ((x.1 : Nat)))) :: (10, .own 41 x.2) :: r) (fun x r => (41, some (x.2, .row 65 5 (((visit l 13 [] fu []).1.take x.1).map dSt))) :: r) (fun x => (visit l 13 [] fu []).1.length - x.1) (fun _ _ => rfl) (fun _ _ => rfl) (0, v41x12) (by first | exact (Nat.zero_le _) | (dsimp only; exact (Nat.zero_le _))) ⟨⟨rfl, rfl⟩, ⟨rfl, rfl, trivial⟩, ⟨rfl, trivial⟩, ⟨rfl, rfl⟩, ⟨rfl, rfl⟩⟩ ?_)))))))
 rintro ⟨k, v⟩ hk; dsimp only at hk ⊢
 refine qqd (rs (om rfl (qqa (qqm fld78f1 rfl rfl) (qqa (qqe leaf26 rfl rfl rfl) (qqa (qjc Try.underlying26 rfl rfl) (qqa (qzk rfl rfl) (on (ac rfl (fun h5 => ?_) fun h5 => ?_))))))))
 ·
  have h5r := h5
  try simp only [nq, nr, nl] at h5
  refine qqg (qqd (qqh (rs (qqa (qqm fld78f1 rfl rfl) (qqa (qqe leaf26 rfl rfl rfl) (om rfl (qqa (qqx qzy rfl rfl rfl rfl zz) (qqa (j_loada_pel (ys := [.p _, .p _, .p _, .sl _, .p _]) agg65 rfl rfl (qqj zz) rfl (Nat.le_refl _)) (qqu (fun ver => qjw elt65 rfl) fun v12x13 => ?_)))))))))
  refine qjk (qqk agg65 rfl rfl rfl rfl rfl rfl) ?_
  refine on (rs (qqa (qqm fld65f3 rfl rfl) (qqa (qqr (ys := [.sl _, .p _]) qj5 rfl rfl rfl (nb rfl)) ?_)))
  refine qq4 (qqp (v := .agg [.sl _, .p _]) (hp1 := []) [] false [] ent49 (f_copyF ((visit l 13 [] fu []).1.getD k default) (by have h9 := List.all_eq_true.1 hgd.ok _ (List.mem_append_right _ (qzw (d := default) (show k < (visit l 13 [] fu []).1.length by omega))); have h8 : ((visit l 13 [] fu []).1.getD k default).1.length ≤ 12 := cOk_len h9; omega)) ⟨.inl ⟨rfl, rfl⟩, trivial⟩ trivial rfl rfl (fun h => by cases h) rfl (fun _ h => by cases h) (.inl rfl) rfl rfl) ?_
  refine qqa (qqm fld65f3 rfl rfl) (qjk (j_storea_box qj5 rfl rfl rfl (nb rfl) rfl rfl) ?_)
  refine on (ar (om rfl (qqa (qqr (ys := [.p _, .p _, .p _, .sl _, .p _]) agg65 rfl rfl rfl (nb rfl)) (qqu (fun ver => qqv (parts := [(0, .tmp 59)]) (es := [[_, _, _, _, _]]) qzy elt65 rfl rfl (by decide) (by decide) rfl rfl (by simp) rfl) fun v60x14 => ?_))))
  refine qqu (fun ver => qq2 qzy elt65 rfl rfl rfl rfl rfl rfl (by rw [qqw]; first | omega | (simp only [nr, nl]; omega)) zz) fun v41x15 => ?_
  refine oa rfl (on (ar (om rfl (qqa (qje rfl rfl zz zz) (oa rfl (on ?_))))))
  exact ⟨(k + 1, v41x15), (by first | exact zz | (dsimp only; exact zz)), ⟨⟨rfl, rfl⟩, ⟨rfl, rfl, trivial⟩, ⟨qzd (by dsimp only; rw [qjt (d := (default : Con)) (by omega), List.map_append]; rfl), trivial⟩, ⟨rfl, rfl⟩, ⟨rfl, rfl⟩⟩, (by first | exact zz | (dsimp only; exact zz))⟩
 have h5r := h5
 try simp only [nq, nr, nl] at h5
 refine qjf (rs (om rfl (qqu (fun ver => qza slt51 elt4 rfl rfl (by decide)) fun v63x16 => ?_)))
 refine om rfl (oa rfl (oa rfl (oa rfl (on (qzq 5 ⟨⟨_, _, _, rfl⟩, trivial⟩ rfl rfl rfl ?_)))))
 refine qzq 6 ⟨⟨_, _, _, rfl⟩, trivial⟩ rfl rfl rfl ?_
 refine qql ?_
 have hc : (svR l fu).2.2.1 = 2 := (by assumption)
 have hs : svS l fu = (svR l fu).1 := by unfold svS; rw [if_pos (by omega)]
 have hv := hgd.non (by omega)
 exact ⟨[.p _, .sl _, .sl _], .tup [.p _, .sl _, .sl _], [.row 56 2 _], [], [], ⟨rfl, rfl, rfl, trivial⟩, rfl, rfl, ⟨⟨rfl, rfl⟩, trivial⟩, rfl, rfl, ⟨by rw [hsv.1, hsv.2, hs, hv, List.take_of_length_le (by omega)]; rfl, rfl, rfl⟩⟩
end Go.Ab

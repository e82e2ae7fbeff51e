/- Walks. -/
import Derived.Test.YtoodaakcfelaaaaGreatBase
import Derived.Test.YtoodaakcfelaaaaGreatDmod2
import Derived.Test.YtoodaakcfelaaaaGreatWsmod
import Derived.Test.YtoodaakcfelaaaaGreatVals
namespace Go.Ab
open Go.Proofs
set_option maxRecDepth 100000
set_option maxHeartbeats 8000000
set_option linter.unusedSimpArgs false
set_option linter.unusedVariables false
theorem zar1 {p : Prop} (h : p := by first | omega | (simp only [nr, nl, List.length_replicate, qzs, wr_length]; omega)) : p := h
theorem zar2 {p : Prop} (h : p := by first | omega | (simp only [nr, nl, List.length_replicate, qzs]; omega)) : p := h
theorem f_l6Vars (m : Md) (vs : List Int) (hm : m.1.length ≤ 1000) : Fn Tryz.prog 206 [.agg [.sl (m.1.map dI), .sl (m.2.map dR)], .sl (vs.map dI)] [] (fun rr ii nn => rr = .p (.bool (vsN m.1.length vs vs.length && decide (vs.length ≠ 0))) ∧ ii = [] ∧ nn = []) := by
 refine qjm Tryz.func206 rfl (nb rfl) fun w X g => ?_
 show AWp _ _ _ ⟨[(0, .agg [.sl (m.1.map dI), .sl (m.2.map dR)]), (1, .sl (vs.map dI))], []⟩
 refine qj6 1 rfl fun hlv => ?_
 refine rs (qq5 (fun ver => qj3 rfl) fun v2x1 => ?_)
 refine oa rfl (on (qqe (rs (oa rfl (on (qqf (qqr (ι := Nat) (fun k => k ≤ vs.length ∧ vsN m.1.length vs k = true) (fun k r => (5, .p (.int .i64 ((k : Nat)))) :: r) (fun k r => r) (fun k => vs.length - k) (fun _ _ => rfl) (fun _ _ => rfl) 0 ⟨Nat.zero_le _, rfl⟩ ⟨⟨rfl, rfl⟩, ⟨rfl, trivial⟩, trivial, ⟨rfl, rfl⟩, ⟨rfl, rfl⟩⟩ ?_)))))))
 intro k hk
 refine qqe (rs (om rfl (om rfl (qqa (qqg Tryz.underlying23 rfl) (qqa (qzb rfl rfl) (on (ac rfl (fun h1 => ?_) fun h1 => ?_)))))))
 ·
  have h1r := h1
  try simp only [nq, nr] at h1
  refine qqj (qqe (qqf (qqe (qqe (qjz qzj (by kernel_rfl) (by kernel_rfl) fun vf => ?_)))))
  refine qqq (qql (evo rfl)) (qqq (qql (evo rfl)) (qqq (qqy qqz rfl rfl rfl (qqh zr) rfl) (qqq (qqp qq2 rfl (qqh zr) rfl) (qqq (qzb rfl rfl) (qqq (qql (evo rfl)) (d_split' 18 rfl (fun h2 => ?_) (fun h2 => ?_)))))))
  ·
   have h2r := h2
   try simp only [nq, nr] at h2
   refine qqq (qqb rfl rfl h2r) (qqq (qqb rfl rfl h2r) (qqq (qqb rfl rfl h2r) (qqq (qqb rfl rfl h2r) (qqq (qqb rfl rfl h2r) (qqq (qqb rfl rfl h2r) (qqq (qqb rfl rfl h2r) (qqq (qqb rfl rfl h2r) (qqq (qqu rfl h2r (evo rfl)) (qze (by kernel_rfl) (by kernel_rfl) ?_)))))))))
   refine a_tt rfl ?_
   refine rs (oa rfl (on (qqm ?_)))
   exact qq8 rfl ⟨qqv (by rw [vsN_bad (k := k) (by omega) (.inl (by omega))]; rfl), rfl, rfl⟩
  have h2r := h2
  try simp only [nq, nr] at h2
  refine qqq (qqd rfl rfl h2r (qql (evo rfl))) (qqq (qqd rfl rfl h2r (qql (evo rfl))) (qqq (qqd rfl rfl h2r (qqy qqz rfl rfl rfl (qqh zr) rfl)) (qqq (qqd rfl rfl h2r (qqp qq2 rfl (qqh zr) rfl)) (qqq (qqd rfl rfl h2r (qqi qjs rfl rfl)) (qqq (qqd rfl rfl h2r (qqc qq9 rfl rfl rfl)) (qqq (qqd rfl rfl h2r (qqg Tryz.underlying23 rfl)) (qqq (qqd rfl rfl h2r (j_ge rfl rfl)) (qqq (qqt rfl h2r (evo rfl)) (qze (by kernel_rfl) (by kernel_rfl) ?_)))))))))
  refine ac rfl (fun h3 => ?_) fun h3 => ?_
  ·
   have h3r := h3
   try simp only [nq, nr] at h3
   refine rs (oa rfl (on (qqm ?_)))
   exact qq8 rfl ⟨qqv (by rw [vsN_bad (k := k) (by omega) (.inl (by omega))]; rfl), rfl, rfl⟩
  have h3r := h3
  try simp only [nq, nr] at h3
  refine qqj (rs (oa rfl (on (qqf ?_))))
  refine qqr (ι := Nat) (fun j => j ≤ k ∧ (vs.getD k default) ∉ vs.take j) (fun j r => (6, .p (.int .i64 ((j : Nat)))) :: r) (fun j r => r) (fun j => k - j) (fun _ _ => rfl) (fun _ _ => rfl) 0 ⟨Nat.zero_le _, by simp⟩ ⟨⟨rfl, rfl⟩, ⟨rfl, trivial⟩, trivial, ⟨rfl, rfl⟩, ⟨rfl, rfl⟩⟩ ?_
  intro j hj
  refine qqe (rs (om rfl (om rfl (qqa (qzb rfl rfl) (on (ac rfl (fun h4 => ?_) fun h4 => ?_))))))
  ·
   have h4r := h4
   try simp only [nq, nr] at h4
   refine qqj (qqe (qqf (qqe (qjz qzj (by kernel_rfl) (by kernel_rfl) fun vf => ?_))))
   refine qqq (qql (evo rfl)) (qqq (qql (evo rfl)) (qqq (qqy qqz rfl rfl rfl (qqh zr) rfl) (qqq (qqp qq2 rfl (qqh zr) rfl) (qqq (qql (evo rfl)) (qqq (qql (evo rfl)) (qqq (qqy qqz rfl rfl rfl (qqh zr) rfl) (qqq (qqp qq2 rfl (qqh zr) rfl) (qqq (qz4 rfl rfl) (qze (by kernel_rfl) (by kernel_rfl) ?_)))))))))
   refine ac rfl (fun h5 => ?_) fun h5 => ?_
   ·
    have h5r := h5
    try simp only [nq, nr] at h5
    refine rs (oa rfl (on (qqm ?_)))
    exact qq8 rfl ⟨qqv (by rw [vsN_bad (k := k) (by omega) (.inr (by rw [← show vs.getD j default = vs.getD k default by assumption]; exact vs_in (by omega) (by omega)))]; rfl), rfl, rfl⟩
   have h5r := h5
   try simp only [nq, nr] at h5
   refine qqj (ar (om rfl (qqa (qjh rfl rfl zr zr) (oa rfl (on ?_)))))
   exact ⟨j + 1, ⟨by omega, vs_no (k := k) hj.2 (by omega) (by assumption)⟩, ⟨⟨rfl, rfl⟩, ⟨rfl, trivial⟩, trivial, ⟨rfl, rfl⟩, ⟨rfl, rfl⟩⟩, zr⟩
  have h4r := h4
  try simp only [nq, nr] at h4
  refine qja (ar (om rfl (qqa (qjh rfl rfl zr zr) (oa rfl (on ?_)))))
  exact ⟨k + 1, ⟨by omega, vsN_next hk.2 (by omega) (by rw [← show j = k by omega]; rw [← show j = k by omega] at hj; exact hj.2)⟩, ⟨⟨rfl, rfl⟩, ⟨rfl, trivial⟩, trivial, ⟨rfl, rfl⟩, ⟨rfl, rfl⟩⟩, zr⟩
 have h1r := h1
 try simp only [nq, nr] at h1
 refine qja (qqe ?_)
 have hv : vsN m.1.length vs vs.length = true := by rw [show vs.length = k by omega]; exact hk.2
 refine ar (om rfl (qqa (qqg Tryz.underlying23 rfl) (qqa (j_ge rfl rfl) (oa rfl (on (qqm ?_))))))
 exact qq8 rfl ⟨qqv (by rw [hv, Bool.true_and]; exact decide_eq_decide.2 (by omega)), rfl, rfl⟩
theorem f_l6Lin (r : Rl) : Fn Tryz.prog 207 [.agg [.p (.int .i64 r.1), .sl (r.2.1.map dI), .sl (r.2.2.1.map dI), .p (.int .i64 r.2.2.2.1), .sl (r.2.2.2.2.map dL)]] [] (fun rr ii nn => rr = .p (.bool (linOk r)) ∧ ii = [] ∧ nn = []) := by
 refine qjm Tryz.func207 rfl (nb rfl) fun w X g => ?_
 show AWp _ _ _ ⟨[(0, .agg [.p (.int .i64 r.1), .sl (r.2.1.map dI), .sl (r.2.2.1.map dI), .p (.int .i64 r.2.2.2.1), .sl (r.2.2.2.2.map dL)])], []⟩
 refine a_len_rule2 0 rfl fun hlc => ?_
 refine rs (qq5 (fun ver => qj3 rfl) fun v1x1 => ?_)
 refine oa rfl (on (qqe (rs (oa rfl (on (qqf (qqr (ι := Nat) (fun k => k ≤ r.2.2.1.length ∧ (r.2.2.1.take k).all (fun a => decide (a ≠ 0 ∧ -9 ≤ a ∧ a ≤ 9)) = true) (fun k r => (3, .p (.int .i64 ((k : Nat)))) :: r) (fun k r => r) (fun k => r.2.2.1.length - k) (fun _ _ => rfl) (fun _ _ => rfl) 0 ⟨Nat.zero_le _, rfl⟩ ⟨⟨rfl, rfl⟩, ⟨rfl, trivial⟩, trivial, ⟨rfl, rfl⟩, ⟨rfl, rfl⟩⟩ ?_)))))))
 intro k hk
 refine qqe (rs (om rfl (qqa (qqi qzk rfl rfl) (qqa (qqc qq9 rfl rfl rfl) (qqa (qqg Tryz.underlying23 rfl) (qqa (qzb rfl rfl) (on (ac rfl (fun h1 => ?_) fun h1 => ?_))))))))
 ·
  have h1r := h1
  try simp only [nq, nr] at h1
  refine qqj (qqe (qqf (rs (qqa (qqi qzk rfl rfl) (qqa (qqc qq9 rfl rfl rfl) (om rfl (qqa (qqy qqz rfl rfl rfl (qqh zr) rfl) (qqa (qqp qq2 rfl (qqh zr) rfl) (qqa (qzb rfl rfl) (om rfl (qqx 17 rfl (fun h2 => ?_) (fun h2 => ?_))))))))))))
  ·
   have h2r := h2
   try simp only [nq, nr] at h2
   refine qqa (qqb rfl rfl h2r) (qqa (qqb rfl rfl h2r) (qqa (qqb rfl rfl h2r) (qqa (qqb rfl rfl h2r) (qqa (qqb rfl rfl h2r) (qqa (qqb rfl rfl h2r) (qqa (qqu rfl h2r (evo rfl)) (om rfl (qqa (qqb rfl rfl rfl) (qqa (qqb rfl rfl rfl) (qqa (qqb rfl rfl rfl) (qqa (qqb rfl rfl rfl) (qqa (qqb rfl rfl rfl) (qqa (qqb rfl rfl rfl) ?_)))))))))))))
   refine qqa (qqu rfl rfl (evo rfl)) (on (a_tt rfl ?_))
   refine rs (oa rfl (on (qqm ?_)))
   exact qq8 rfl ⟨qqv (by unfold linOk; rw [all_no (p := (fun a => decide (a ≠ 0 ∧ -9 ≤ a ∧ a ≤ 9))) (d := default) (k := k) (by omega) (decide_eq_false (by omega))]; simp), rfl, rfl⟩
  have h2r := h2
  try simp only [nq, nr] at h2
  refine qqa (qqd rfl rfl h2r (qqi qzk rfl rfl)) (qqa (qqd rfl rfl h2r (qqc qq9 rfl rfl rfl)) (qqa (qqd rfl rfl h2r (qql (evo rfl))) (qqa (qqd rfl rfl h2r (qqy qqz rfl rfl rfl (qqh zr) rfl)) (qqa (qqd rfl rfl h2r (qqp qq2 rfl (qqh zr) rfl)) (qqa (qqd rfl rfl h2r (j_gt rfl rfl)) (qqa (qqt rfl h2r (evo rfl)) (om rfl (qqx 25 rfl (fun h3 => ?_) (fun h3 => ?_)))))))))
  ·
   have h3r := h3
   try simp only [nq, nr] at h3
   refine qqa (qqb rfl rfl h3r) (qqa (qqb rfl rfl h3r) (qqa (qqb rfl rfl h3r) (qqa (qqb rfl rfl h3r) (qqa (qqb rfl rfl h3r) (qqa (qqb rfl rfl h3r) (qqa (qqu rfl h3r (evo rfl)) (on (a_tt rfl ?_))))))))
   refine rs (oa rfl (on (qqm ?_)))
   exact qq8 rfl ⟨qqv (by unfold linOk; rw [all_no (p := (fun a => decide (a ≠ 0 ∧ -9 ≤ a ∧ a ≤ 9))) (d := default) (k := k) (by omega) (decide_eq_false (by omega))]; simp), rfl, rfl⟩
  have h3r := h3
  try simp only [nq, nr] at h3
  refine qqa (qqd rfl rfl h3r (qqi qzk rfl rfl)) (qqa (qqd rfl rfl h3r (qqc qq9 rfl rfl rfl)) (qqa (qqd rfl rfl h3r (qql (evo rfl))) (qqa (qqd rfl rfl h3r (qqy qqz rfl rfl rfl (qqh zr) rfl)) (qqa (qqd rfl rfl h3r (qqp qq2 rfl (qqh zr) rfl)) (qqa (qqd rfl rfl h3r (qz4 rfl rfl)) (qqa (qqt rfl h3r (evo rfl)) (on (ac rfl (fun h4 => ?_) fun h4 => ?_))))))))
  ·
   have h4r := h4
   try simp only [nq, nr] at h4
   refine rs (oa rfl (on (qqm ?_)))
   exact qq8 rfl ⟨qqv (by unfold linOk; rw [all_no (p := (fun a => decide (a ≠ 0 ∧ -9 ≤ a ∧ a ≤ 9))) (d := default) (k := k) (by omega) (decide_eq_false (by omega))]; simp), rfl, rfl⟩
  have h4r := h4
  try simp only [nq, nr] at h4
  refine qqj (ar (om rfl (qqa (qjh rfl rfl zr zr) (oa rfl (on ?_)))))
  exact ⟨k + 1, ⟨by omega, all_next (d := default) hk.2 (by omega) (decide_eq_true (by omega))⟩, ⟨⟨rfl, rfl⟩, ⟨rfl, trivial⟩, trivial, ⟨rfl, rfl⟩, ⟨rfl, rfl⟩⟩, zr⟩
 have h1r := h1
 try simp only [nq, nr] at h1
 refine qja (qqe ?_)
 have hal := all_full hk.2 (by omega)
 refine ar (qqa (qqi qzk rfl rfl) (qqa (qqc qq9 rfl rfl rfl) (qqa (qqg Tryz.underlying23 rfl) (qqa (qqi qjy rfl rfl) (qqa (qqc qq9 rfl rfl rfl) (qqa (qqg Tryz.underlying23 rfl) (qqa (qz4 rfl rfl) (om rfl (qqx 40 rfl (fun h5 => ?_) (fun h5 => ?_))))))))))
 ·
  have h5r := h5
  try simp only [nq, nr] at h5
  refine qqa (qqd rfl rfl h5r (qqi fld123f3 rfl rfl)) (qqa (qqd rfl rfl h5r (qqc qq2 rfl rfl rfl)) (qqa (qqd rfl rfl h5r (j_ge rfl rfl)) (qqa (qqu rfl h5r (evo rfl)) (om rfl (qqx 45 rfl (fun h6 => ?_) (fun h6 => ?_))))))
  ·
   have h6r := h6
   try simp only [nq, nr] at h6
   refine qqa (qqd rfl rfl h6r (qqi fld123f3 rfl rfl)) (qqa (qqd rfl rfl h6r (qqc qq2 rfl rfl rfl)) (qqa (qqd rfl rfl h6r (j_le rfl rfl)) (qqa (qqu rfl h6r (evo rfl)) (oa rfl (on (qqm ?_))))))
   exact qq8 rfl ⟨qqv (by unfold linOk; first | (rw [decide_eq_true (show r.2.2.1.length = r.2.1.length by omega), decide_eq_true (show -1000 ≤ r.2.2.2.1 ∧ r.2.2.2.1 ≤ 1000 by omega), hal]; rfl) | (rw [decide_eq_false (show ¬ (-1000 ≤ r.2.2.2.1 ∧ r.2.2.2.1 ≤ 1000) by omega)]; simp; done) | (rw [decide_eq_false (show ¬ r.2.2.1.length = r.2.1.length by omega)]; rfl) | (rw [decide_eq_true (show r.2.2.1.length = r.2.1.length by omega), hal, Bool.true_and, Bool.and_true]; exact decide_eq_decide.2 (by omega))), rfl, rfl⟩
  have h6r := h6
  try simp only [nq, nr] at h6
  refine qqa (qqb rfl rfl h6r) (qqa (qqb rfl rfl h6r) (qqa (qqb rfl rfl h6r) (qqa (qqt rfl h6r (evo rfl)) (oa rfl (on (qqm ?_))))))
  exact qq8 rfl ⟨qqv (by unfold linOk; first | (rw [decide_eq_true (show r.2.2.1.length = r.2.1.length by omega), decide_eq_true (show -1000 ≤ r.2.2.2.1 ∧ r.2.2.2.1 ≤ 1000 by omega), hal]; rfl) | (rw [decide_eq_false (show ¬ (-1000 ≤ r.2.2.2.1 ∧ r.2.2.2.1 ≤ 1000) by omega)]; simp; done) | (rw [decide_eq_false (show ¬ r.2.2.1.length = r.2.1.length by omega)]; rfl) | (rw [decide_eq_true (show r.2.2.1.length = r.2.1.length by omega), hal, Bool.true_and, Bool.and_true]; exact decide_eq_decide.2 (by omega))), rfl, rfl⟩
 have h5r := h5
 try simp only [nq, nr] at h5
 refine qqa (qqb rfl rfl h5r) (qqa (qqb rfl rfl h5r) (qqa (qqb rfl rfl h5r) (qqa (qqt rfl h5r (evo rfl)) (om rfl (qqa (qqb rfl rfl rfl) (qqa (qqb rfl rfl rfl) (qqa (qqb rfl rfl rfl) (qqa (qqt rfl rfl (evo rfl)) (oa rfl (on (qqm ?_)))))))))))
 exact qq8 rfl ⟨qqv (by unfold linOk; first | (rw [decide_eq_true (show r.2.2.1.length = r.2.1.length by omega), decide_eq_true (show -1000 ≤ r.2.2.2.1 ∧ r.2.2.2.1 ≤ 1000 by omega), hal]; rfl) | (rw [decide_eq_false (show ¬ (-1000 ≤ r.2.2.2.1 ∧ r.2.2.2.1 ≤ 1000) by omega)]; simp; done) | (rw [decide_eq_false (show ¬ r.2.2.1.length = r.2.1.length by omega)]; rfl) | (rw [decide_eq_true (show r.2.2.1.length = r.2.1.length by omega), hal, Bool.true_and, Bool.and_true]; exact decide_eq_decide.2 (by omega))), rfl, rfl⟩
theorem f_l6Tab (r : Rl) : Fn Tryz.prog 208 [.agg [.p (.int .i64 r.1), .sl (r.2.1.map dI), .sl (r.2.2.1.map dI), .p (.int .i64 r.2.2.2.1), .sl (r.2.2.2.2.map dL)]] [] (fun rr ii nn => rr = .p (.bool (tabOk r)) ∧ ii = [] ∧ nn = []) := by
 refine qjm Tryz.func208 rfl (nb rfl) fun w X g => ?_
 show AWp _ _ _ ⟨[(0, .agg [.p (.int .i64 r.1), .sl (r.2.1.map dI), .sl (r.2.2.1.map dI), .p (.int .i64 r.2.2.2.1), .sl (r.2.2.2.2.map dL)])], []⟩
 refine a_len_rule3 0 rfl fun hlr => ?_
 refine a_len_rule 0 rfl fun hlv => ?_
 refine rs (qq5 (fun ver => qj3 rfl) fun v1x1 => ?_)
 refine oa rfl (on (qqe (rs (oa rfl (on (qqf (qqr (ι := Nat) (fun k => k ≤ r.2.2.2.2.length ∧ (r.2.2.2.2.take k).all (rowOk r) = true) (fun k r => (3, .p (.int .i64 ((k : Nat)))) :: r) (fun k r => r) (fun k => r.2.2.2.2.length - k) (fun _ _ => rfl) (fun _ _ => rfl) 0 ⟨Nat.zero_le _, rfl⟩ ⟨⟨rfl, rfl⟩, ⟨rfl, trivial⟩, trivial, ⟨rfl, rfl⟩, ⟨rfl, rfl⟩⟩ ?_)))))))
 intro k hk
 refine qqe (rs (om rfl (qqa (qqi qj5 rfl rfl) (qqa (qqc qzi rfl rfl rfl) (qqa (qqg Tryz.underlying107 rfl) (qqa (qzb rfl rfl) (on (ac rfl (fun h1 => ?_) fun h1 => ?_))))))))
 ·
  have h1r := h1
  try simp only [nq, nr] at h1
  refine qqj (qqe (qqf (qqe (qqe ?_))))
  have hlx : (r.2.2.2.2.getD k default).length ≤ 9223372036854775807 ∨ True := .inr trivial
  refine qjz qzj (by kernel_rfl) (by kernel_rfl) fun vf => ?_
  refine qqq (qqi qj5 rfl rfl) (qqq (qqc qzi rfl rfl rfl) (qqq (qql (evo rfl)) (qqq (qqy slt107 rfl rfl rfl (qqh zr) rfl) (qqq (qqp qq9 rfl (qqh zr) rfl) (qqq (qqg Tryz.underlying23 rfl) (qqq (qqi qjy rfl rfl) (qqq (qqc qq9 rfl rfl rfl) (qqq (qqg Tryz.underlying23 rfl) (qqq (j_ne rfl rfl) (qze (by kernel_rfl) (by kernel_rfl) ?_))))))))))
  refine ac rfl (fun h2 => ?_) fun h2 => ?_
  ·
   have h2r := h2
   try simp only [nq, nr] at h2
   refine rs (oa rfl (on (qqm ?_)))
   exact qq8 rfl ⟨qqv (by unfold tabOk; rw [all_no (p := rowOk r) (d := default) (k := k) (by omega) (by unfold rowOk; rw [decide_eq_false (by omega)]; rfl)]; simp), rfl, rfl⟩
  have h2r := h2
  try simp only [nq, nr] at h2
  refine qqj (rs (oa rfl (on (qqf (qqr (ι := Nat) (fun j => j ≤ (r.2.2.2.2.getD k default).length ∧ ((r.2.2.2.2.getD k default).take j).all (fun a => decide (0 ≤ a ∧ a ≤ 3)) = true) (fun j r => (4, .p (.int .i64 ((j : Nat)))) :: r) (fun j r => r) (fun j => (r.2.2.2.2.getD k default).length - j) (fun _ _ => rfl) (fun _ _ => rfl) 0 ⟨Nat.zero_le _, rfl⟩ ⟨⟨rfl, rfl⟩, ⟨rfl, trivial⟩, trivial, ⟨rfl, rfl⟩, ⟨rfl, rfl⟩⟩ ?_)))))
  intro j hj
  refine qqe (rs (om rfl (qqa (qqi qj5 rfl rfl) (qqa (qqc qzi rfl rfl rfl) (om rfl (qqa (qqy slt107 rfl rfl rfl (qqh zr) rfl) (qqa (qqp qq9 rfl (qqh zr) rfl) (qqa (qqg Tryz.underlying23 rfl) (qqa (qzb rfl rfl) (on (ac rfl (fun h3 => ?_) fun h3 => ?_)))))))))))
  ·
   have h3r := h3
   try simp only [nq, nr] at h3
   refine qqj (qqe (qqf (rs (qqa (qqi qj5 rfl rfl) (qqa (qqc qzi rfl rfl rfl) (om rfl (qqa (qqy slt107 rfl rfl rfl (qqh zr) rfl) (qqa (qqp qq9 rfl (qqh zr) rfl) (om rfl (qqa (qqy qqz rfl rfl rfl (qqh zr) rfl) (qqa (qqp qq2 rfl (qqh zr) rfl) (qqa (qzb rfl rfl) (om rfl (qqx 41 rfl (fun h4 => ?_) (fun h4 => ?_)))))))))))))))
   ·
    have h4r := h4
    try simp only [nq, nr] at h4
    refine qqa (qqb rfl rfl h4r) (qqa (qqb rfl rfl h4r) (qqa (qqb rfl rfl h4r) (qqa (qqb rfl rfl h4r) (qqa (qqb rfl rfl h4r) (qqa (qqb rfl rfl h4r) (qqa (qqb rfl rfl h4r) (qqa (qqb rfl rfl h4r) (qqa (qqb rfl rfl h4r) (qqa (qqu rfl h4r (evo rfl)) (on (a_tt rfl ?_)))))))))))
    refine rs (oa rfl (on (qqm ?_)))
    exact qq8 rfl ⟨qqv (by unfold tabOk; rw [all_no (p := rowOk r) (d := default) (k := k) (by omega) (by unfold rowOk; rw [all_no (p := fun a => decide (0 ≤ a ∧ a ≤ 3)) (d := default) (k := j) (by omega) (decide_eq_false (by omega)), Bool.and_false])]; simp), rfl, rfl⟩
   have h4r := h4
   try simp only [nq, nr] at h4
   refine qqa (qqd rfl rfl h4r (qqi qj5 rfl rfl)) (qqa (qqd rfl rfl h4r (qqc qzi rfl rfl rfl)) (qqa (qqd rfl rfl h4r (qql (evo rfl))) (qqa (qqd rfl rfl h4r (qqy slt107 rfl rfl rfl (qqh zr) rfl)) (qqa (qqd rfl rfl h4r (qqp qq9 rfl (qqh zr) rfl)) (qqa (qqd rfl rfl h4r (qql (evo rfl))) (qqa (qqd rfl rfl h4r (qqy qqz rfl rfl rfl (qqh zr) rfl)) (qqa (qqd rfl rfl h4r (qqp qq2 rfl (qqh zr) rfl)) (qqa (qqd rfl rfl h4r (j_gt rfl rfl)) (qqa (qqt rfl h4r (evo rfl)) (on (ac rfl (fun h5 => ?_) fun h5 => ?_)))))))))))
   ·
    have h5r := h5
    try simp only [nq, nr] at h5
    refine rs (oa rfl (on (qqm ?_)))
    exact qq8 rfl ⟨qqv (by unfold tabOk; rw [all_no (p := rowOk r) (d := default) (k := k) (by omega) (by unfold rowOk; rw [all_no (p := fun a => decide (0 ≤ a ∧ a ≤ 3)) (d := default) (k := j) (by omega) (decide_eq_false (by omega)), Bool.and_false])]; simp), rfl, rfl⟩
   have h5r := h5
   try simp only [nq, nr] at h5
   refine qqj (ar (om rfl (qqa (qjh rfl rfl zr zr) (oa rfl (on ?_)))))
   exact ⟨j + 1, ⟨by omega, all_next (d := default) hj.2 (by omega) (decide_eq_true (by omega))⟩, ⟨⟨rfl, rfl⟩, ⟨rfl, trivial⟩, trivial, ⟨rfl, rfl⟩, ⟨rfl, rfl⟩⟩, zr⟩
  have h3r := h3
  try simp only [nq, nr] at h3
  refine qja (ar (om rfl (qqa (qjh rfl rfl zr zr) (oa rfl (on ?_)))))
  exact ⟨k + 1, ⟨by omega, all_next (d := default) hk.2 (by omega) (by unfold rowOk; rw [decide_eq_true (by omega), Bool.true_and]; exact all_full hj.2 (by omega))⟩, ⟨⟨rfl, rfl⟩, ⟨rfl, trivial⟩, trivial, ⟨rfl, rfl⟩, ⟨rfl, rfl⟩⟩, zr⟩
 have h1r := h1
 try simp only [nq, nr] at h1
 refine qja (qqe ?_)
 have hal := all_full hk.2 (by omega)
 refine ar (qqa (qqi qj5 rfl rfl) (qqa (qqc qzi rfl rfl rfl) (qqa (qqg Tryz.underlying107 rfl) (qqa (j_le rfl rfl) (oa rfl (on (qqm ?_)))))))
 exact qq8 rfl ⟨qqv (by unfold tabOk; rw [hal, Bool.and_true]; exact decide_eq_decide.2 (by omega)), rfl, rfl⟩
theorem f_l6Rule (m : Md) (r : Rl) (hm : m.1.length ≤ 1000) : Fn Tryz.prog 165 [.agg [.sl (m.1.map dI), .sl (m.2.map dR)], .agg [.p (.int .i64 r.1), .sl (r.2.1.map dI), .sl (r.2.2.1.map dI), .p (.int .i64 r.2.2.2.1), .sl (r.2.2.2.2.map dL)]] [] (fun rr ii nn => rr = .p (.bool (rOk m.1.length r)) ∧ ii = [] ∧ nn = []) := by
 refine qjm Tryz.func165 rfl (nb rfl) fun w X g => ?_
 show AWp _ _ _ ⟨[(0, .agg [.sl (m.1.map dI), .sl (m.2.map dR)]), (1, .agg [.p (.int .i64 r.1), .sl (r.2.1.map dI), .sl (r.2.2.1.map dI), .p (.int .i64 r.2.2.2.1), .sl (r.2.2.2.2.map dL)])], []⟩
 refine rs (qq5 (fun ver => qj3 rfl) fun v2x1 => ?_)
 refine qq5 (fun ver => qj3 rfl) fun v3x2 => ?_
 refine oa rfl (on (qqe (rs (qqa (qqk (ys := [.sl _, .sl _]) qjw rfl rfl rfl (nb rfl)) (qqa (qqi qjy rfl rfl) (qqa (qqc qq9 rfl rfl rfl) ?_))))))
 refine qq3 (qqn (v := .p _) (hp1 := []) [] false [] ent206 (f_l6Vars m r.2.1 hm) ⟨.inl ⟨rfl, rfl⟩, .inl ⟨rfl, rfl⟩, trivial⟩ trivial rfl rfl (fun h => by cases h) rfl (fun _ h => by cases h) (.inl rfl) rfl rfl) ?_
 refine qqa (qzw rfl) (om rfl (qqx 10 rfl (fun h1 => ?_) (fun h1 => ?_)))
 ·
  have h1r := h1
  try simp only [nq, nr] at h1
  refine qqa (qqb rfl rfl h1r) (qqa (qqb rfl rfl h1r) (qqa (qqb rfl rfl h1r) (qqa (qqb rfl rfl h1r) (qqa (qjb rfl rfl) (qqa (qjb rfl rfl) (qqa (qjb rfl rfl) (qqa (qjb rfl rfl) (qqa (qjb rfl rfl) (qqa (qjb rfl rfl) (qqa (qjb rfl rfl) (qqa (qjb rfl rfl) (qqa (qjb rfl rfl) (qqa (qqb rfl rfl h1r) ?_)))))))))))))
  refine qqa (qqu rfl h1r (evo rfl)) (om rfl (qqa (qqb rfl rfl rfl) (qqa (qqb rfl rfl rfl) (qqa (qqb rfl rfl rfl) (qqa (qqb rfl rfl rfl) (qqa (qjb rfl rfl) (qqa (qjb rfl rfl) (qqa (qjb rfl rfl) (qqa (qjb rfl rfl) (qqa (qqb rfl rfl rfl) (qqa (qqu rfl rfl (evo rfl)) (on (a_tt rfl ?_)))))))))))))
  refine rs (oa rfl (on (qqm ?_)))
  exact qq8 rfl ⟨qqv (by symm; first | exact rOk_h (by unfold rHead; omega) | exact rOk_v2 (by assumption)), rfl, rfl⟩
 have h1r := h1
 try simp only [nq, nr] at h1
 refine qqa (qqd rfl rfl h1r (qqi qzc rfl rfl)) (qqa (qqd rfl rfl h1r (qqc qq2 rfl rfl rfl)) (qqa (qqd rfl rfl h1r (j_ne rfl rfl)) (qqa (qqd rfl rfl h1r (qql (evo rfl))) (qqx 14 rfl (fun h2 => ?_) (fun h2 => ?_)))))
 ·
  have h2r := h2
  try simp only [nq, nr] at h2
  refine qqa (qqd rfl rfl h2r (qqi qzk rfl rfl)) (qqa (qqd rfl rfl h2r (qqc qq9 rfl rfl rfl)) (qqa (qqd rfl rfl h2r (qqg Tryz.underlying23 rfl)) (qqa (qqd rfl rfl h2r (j_ne rfl rfl)) (qqa (qqd rfl rfl h2r (qql (evo rfl))) (qqx 19 rfl (fun h3 => ?_) (fun h3 => ?_))))))
  ·
   have h3r := h3
   try simp only [nq, nr] at h3
   refine qqa (qqb rfl rfl h3r) (qqa (qqb rfl rfl h3r) (qqa (qqb rfl rfl h3r) (qqa (qqd rfl rfl h2r (qqu rfl h3r (evo rfl))) (qqa (qqd rfl rfl h1r (qqu rfl h2r (evo rfl))) (qqa (qqt rfl h1r (evo rfl)) (om rfl (qqa (qqb rfl rfl rfl) (qqa (qqb rfl rfl rfl) (qqa (qqb rfl rfl rfl) (qqa (qqb rfl rfl rfl) (qqa (qjb rfl rfl) (qqa (qjb rfl rfl) (qqa (qjb rfl rfl) ?_)))))))))))))
   refine qqa (qjb rfl rfl) (qqa (qqb rfl rfl rfl) (qqa (qqu rfl rfl (evo rfl)) (on (a_tt rfl ?_))))
   refine rs (oa rfl (on (qqm ?_)))
   exact qq8 rfl ⟨qqv (by symm; first | exact rOk_h (by unfold rHead; omega) | exact rOk_v2 (by assumption)), rfl, rfl⟩
  have h3r := h3
  try simp only [nq, nr] at h3
  refine qqa (qqd rfl rfl h3r (qqi fld123f3 rfl rfl)) (qqa (qqd rfl rfl h3r (qqc qq2 rfl rfl rfl)) (qqa (qqd rfl rfl h3r (j_ne rfl rfl)) (qqa (qqd rfl rfl h2r (qqt rfl h3r (evo rfl))) (qqa (qqd rfl rfl h1r (qqu rfl h2r (evo rfl))) (qqa (qqt rfl h1r (evo rfl)) (om rfl (qqx 26 rfl (fun h4 => ?_) (fun h4 => ?_))))))))
  ·
   have h4r := h4
   try simp only [nq, nr] at h4
   refine qqa (qqb rfl rfl h4r) (qqa (qqb rfl rfl h4r) (qqa (qqb rfl rfl h4r) (qqa (qqb rfl rfl h4r) (qqa (qjb rfl rfl) (qqa (qjb rfl rfl) (qqa (qjb rfl rfl) (qqa (qjb rfl rfl) (qqa (qqb rfl rfl h4r) (qqa (qqu rfl h4r (evo rfl)) (on (a_tt rfl ?_)))))))))))
   refine rs (oa rfl (on (qqm ?_)))
   exact qq8 rfl ⟨qqv (by symm; first | exact rOk_h (by unfold rHead; omega) | exact rOk_v2 (by assumption)), rfl, rfl⟩
  have h4r := h4
  try simp only [nq, nr] at h4
  refine qqa (qqd rfl rfl h4r (qqi qzc rfl rfl)) (qqa (qqd rfl rfl h4r (qqc qq2 rfl rfl rfl)) (qqa (qqd rfl rfl h4r (j_ne rfl rfl)) (qqa (qqd rfl rfl h4r (qql (evo rfl))) (qqx 30 rfl (fun h5 => ?_) (fun h5 => ?_)))))
  ·
   have h5r := h5
   try simp only [nq, nr] at h5
   refine qqa (qqd rfl rfl h5r (qqi qj5 rfl rfl)) (qqa (qqd rfl rfl h5r (qqc qzi rfl rfl rfl)) (qqa (qqd rfl rfl h5r (qqg Tryz.underlying107 rfl)) (qqa (qqd rfl rfl h5r (j_ne rfl rfl)) (qqa (qqd rfl rfl h4r (qqu rfl h5r (evo rfl))) (qqa (qqt rfl h4r (evo rfl)) (on (ac rfl (fun h6 => ?_) fun h6 => ?_)))))))
   ·
    have h6r := h6
    try simp only [nq, nr] at h6
    refine rs (oa rfl (on (qqm ?_)))
    exact qq8 rfl ⟨qqv (by symm; first | exact rOk_h (by unfold rHead; omega) | exact rOk_v2 (by assumption)), rfl, rfl⟩
   have h6r := h6
   try simp only [nq, nr] at h6
   refine qqj (qqe (qqe ?_))
   have hvv : (vsN (m.1.length : Int) r.2.1 r.2.1.length && decide (r.2.1.length ≠ 0)) = true := by assumption
   have hv : vsN (m.1.length : Int) r.2.1 r.2.1.length = true := (Bool.and_eq_true_iff.1 hvv).1
   have hl0 : r.2.1.length ≠ 0 := of_decide_eq_true (Bool.and_eq_true_iff.1 hvv).2
   have hh : rHead r := by unfold rHead; omega
   refine ar (qqa (qqi qzc rfl rfl) (qqa (qqc qq2 rfl rfl rfl) (on (qqf (rs (qqa (qz4 rfl rfl) (oa rfl (on (ac rfl (fun h7 => ?_) fun h7 => ?_)))))))))
   ·
    have h7r := h7
    try simp only [nq, nr] at h7
    refine rs (qqa (qqk (ys := [.p _, .sl _, .sl _, .p _, .sl _]) qzd rfl rfl rfl (nb rfl)) ?_)
    refine qq3 (qqn (v := .p _) (hp1 := []) [] false [] ent207 (f_l6Lin r) ⟨.inl ⟨rfl, rfl⟩, trivial⟩ trivial rfl rfl (fun h => by cases h) rfl (fun _ h => by cases h) (.inl rfl) rfl rfl) ?_
    refine oa rfl (on (qqm ?_))
    exact qq8 rfl ⟨qqv (by rw [qzq hv hh, rTail_1 (by omega)]), rfl, rfl⟩
   have h7r := h7
   try simp only [nq, nr] at h7
   refine rs (qqa (qz4 rfl rfl) (oa rfl (on (ac rfl (fun h8 => ?_) fun h8 => ?_))))
   ·
    have h8r := h8
    try simp only [nq, nr] at h8
    refine rs (oa rfl (on (qqm ?_)))
    exact qq8 rfl ⟨qqv (by rw [qzq hv hh, rTail_0 (by omega) (by omega) (by omega)]; symm; exact decide_eq_true (by omega)), rfl, rfl⟩
   have h8r := h8
   try simp only [nq, nr] at h8
   refine rs (qqa (qz4 rfl rfl) (oa rfl (on (ac rfl (fun h9 => ?_) fun h9 => ?_))))
   ·
    have h9r := h9
    try simp only [nq, nr] at h9
    refine rs (qqa (qqk (ys := [.p _, .sl _, .sl _, .p _, .sl _]) qzd rfl rfl rfl (nb rfl)) ?_)
    refine qq3 (qqn (v := .p _) (hp1 := []) [] false [] ent208 (f_l6Tab r) ⟨.inl ⟨rfl, rfl⟩, trivial⟩ trivial rfl rfl (fun h => by cases h) rfl (fun _ h => by cases h) (.inl rfl) rfl rfl) ?_
    refine oa rfl (on (qqm ?_))
    exact qq8 rfl ⟨qqv (by rw [qzq hv hh, rTail_3 (by omega)]), rfl, rfl⟩
   have h9r := h9
   try simp only [nq, nr] at h9
   refine rs (qqa (qz4 rfl rfl) (oa rfl (on (ac rfl (fun h10 => ?_) fun h10 => ?_))))
   ·
    have h10r := h10
    try simp only [nq, nr] at h10
    refine rs (qqa (qqi qjy rfl rfl) (qqa (qqc qq9 rfl rfl rfl) (qqa (qqg Tryz.underlying23 rfl) (qqa (qz4 rfl rfl) (oa rfl (on (qqm ?_)))))))
    exact qq8 rfl ⟨qqv (by rw [qzq hv hh, rTail_4 (by omega)]; exact decide_eq_decide.2 (by omega)), rfl, rfl⟩
   have h10r := h10
   try simp only [nq, nr] at h10
   refine qqj (rs (oa rfl (on (qqm ?_))))
   exact qq8 rfl ⟨qqv (by rw [qzq hv hh, rTail_0 (by omega) (by omega) (by omega)]; symm; exact decide_eq_false (by omega)), rfl, rfl⟩
  have h5r := h5
  try simp only [nq, nr] at h5
  refine qqa (qqb rfl rfl h5r) (qqa (qqb rfl rfl h5r) (qqa (qqb rfl rfl h5r) (qqa (qqb rfl rfl h5r) (qqa (qqd rfl rfl h4r (qqt rfl h5r (evo rfl))) (qqa (qqt rfl h4r (evo rfl)) (on (a_ff rfl ?_)))))))
  refine qqj (qqe (qqe ?_))
  have hvv : (vsN (m.1.length : Int) r.2.1 r.2.1.length && decide (r.2.1.length ≠ 0)) = true := by assumption
  have hv : vsN (m.1.length : Int) r.2.1 r.2.1.length = true := (Bool.and_eq_true_iff.1 hvv).1
  have hl0 : r.2.1.length ≠ 0 := of_decide_eq_true (Bool.and_eq_true_iff.1 hvv).2
  have hh : rHead r := by unfold rHead; omega
  refine ar (qqa (qqi qzc rfl rfl) (qqa (qqc qq2 rfl rfl rfl) (on (qqf (rs (qqa (qz4 rfl rfl) (oa rfl (on (ac rfl (fun h11 => ?_) fun h11 => ?_)))))))))
  ·
   have h11r := h11
   try simp only [nq, nr] at h11
   refine rs (qqa (qqk (ys := [.p _, .sl _, .sl _, .p _, .sl _]) qzd rfl rfl rfl (nb rfl)) ?_)
   refine qq3 (qqn (v := .p _) (hp1 := []) [] false [] ent207 (f_l6Lin r) ⟨.inl ⟨rfl, rfl⟩, trivial⟩ trivial rfl rfl (fun h => by cases h) rfl (fun _ h => by cases h) (.inl rfl) rfl rfl) ?_
   refine oa rfl (on (qqm ?_))
   exact qq8 rfl ⟨qqv (by rw [qzq hv hh, rTail_1 (by omega)]), rfl, rfl⟩
  have h11r := h11
  try simp only [nq, nr] at h11
  refine rs (qqa (qz4 rfl rfl) (oa rfl (on (ac rfl (fun h12 => ?_) fun h12 => ?_))))
  ·
   have h12r := h12
   try simp only [nq, nr] at h12
   refine rs (oa rfl (on (qqm ?_)))
   exact qq8 rfl ⟨qqv (by rw [qzq hv hh, rTail_0 (by omega) (by omega) (by omega)]; symm; exact decide_eq_true (by omega)), rfl, rfl⟩
  have h12r := h12
  try simp only [nq, nr] at h12
  refine rs (qqa (qz4 rfl rfl) (oa rfl (on (ac rfl (fun h13 => ?_) fun h13 => ?_))))
  ·
   have h13r := h13
   try simp only [nq, nr] at h13
   refine rs (qqa (qqk (ys := [.p _, .sl _, .sl _, .p _, .sl _]) qzd rfl rfl rfl (nb rfl)) ?_)
   refine qq3 (qqn (v := .p _) (hp1 := []) [] false [] ent208 (f_l6Tab r) ⟨.inl ⟨rfl, rfl⟩, trivial⟩ trivial rfl rfl (fun h => by cases h) rfl (fun _ h => by cases h) (.inl rfl) rfl rfl) ?_
   refine oa rfl (on (qqm ?_))
   exact qq8 rfl ⟨qqv (by rw [qzq hv hh, rTail_3 (by omega)]), rfl, rfl⟩
  have h13r := h13
  try simp only [nq, nr] at h13
  refine rs (qqa (qz4 rfl rfl) (oa rfl (on (ac rfl (fun h14 => ?_) fun h14 => ?_))))
  ·
   have h14r := h14
   try simp only [nq, nr] at h14
   refine rs (qqa (qqi qjy rfl rfl) (qqa (qqc qq9 rfl rfl rfl) (qqa (qqg Tryz.underlying23 rfl) (qqa (qz4 rfl rfl) (oa rfl (on (qqm ?_)))))))
   exact qq8 rfl ⟨qqv (by rw [qzq hv hh, rTail_4 (by omega)]; exact decide_eq_decide.2 (by omega)), rfl, rfl⟩
  have h14r := h14
  try simp only [nq, nr] at h14
  refine qqj (rs (oa rfl (on (qqm ?_))))
  exact qq8 rfl ⟨qqv (by rw [qzq hv hh, rTail_0 (by omega) (by omega) (by omega)]; symm; exact decide_eq_false (by omega)), rfl, rfl⟩
 have h2r := h2
 try simp only [nq, nr] at h2
 refine qqa (qqb rfl rfl h2r) (qqa (qqb rfl rfl h2r) (qqa (qqb rfl rfl h2r) (qqa (qqb rfl rfl h2r) (qqa (qqb rfl rfl h2r) (qqa (qjb rfl rfl) (qqa (qjb rfl rfl) (qqa (qjb rfl rfl) (qqa (qqb rfl rfl h2r) (qqa (qqd rfl rfl h1r (qqt rfl h2r (evo rfl))) (qqa (qqt rfl h1r (evo rfl)) (om rfl (qqa (qqd rfl rfl rfl (qqi qzc rfl rfl)) (qqa (qqd rfl rfl rfl (qqc qq2 rfl rfl rfl)) ?_)))))))))))))
 refine qqa (qqd rfl rfl rfl (j_ne rfl rfl)) (qqa (qqd rfl rfl rfl (qql (evo rfl))) (qqx 30 rfl (fun h15 => ?_) (fun h15 => ?_)))
 ·
  have h15r := h15
  try simp only [nq, nr] at h15
  refine qqa (qqd rfl rfl h15r (qqi qj5 rfl rfl)) (qqa (qqd rfl rfl h15r (qqc qzi rfl rfl rfl)) (qqa (qqd rfl rfl h15r (qqg Tryz.underlying107 rfl)) (qqa (qqd rfl rfl h15r (j_ne rfl rfl)) (qqa (qqd rfl rfl rfl (qqu rfl h15r (evo rfl))) (qqa (qqt rfl rfl (evo rfl)) (on (ac rfl (fun h16 => ?_) fun h16 => ?_)))))))
  ·
   have h16r := h16
   try simp only [nq, nr] at h16
   refine rs (oa rfl (on (qqm ?_)))
   exact qq8 rfl ⟨qqv (by symm; first | exact rOk_h (by unfold rHead; omega) | exact rOk_v2 (by assumption)), rfl, rfl⟩
  have h16r := h16
  try simp only [nq, nr] at h16
  refine qqj (qqe (qqe ?_))
  have hvv : (vsN (m.1.length : Int) r.2.1 r.2.1.length && decide (r.2.1.length ≠ 0)) = true := by assumption
  have hv : vsN (m.1.length : Int) r.2.1 r.2.1.length = true := (Bool.and_eq_true_iff.1 hvv).1
  have hl0 : r.2.1.length ≠ 0 := of_decide_eq_true (Bool.and_eq_true_iff.1 hvv).2
  have hh : rHead r := by unfold rHead; omega
  refine ar (qqa (qqi qzc rfl rfl) (qqa (qqc qq2 rfl rfl rfl) (on (qqf (rs (qqa (qz4 rfl rfl) (oa rfl (on (ac rfl (fun h17 => ?_) fun h17 => ?_)))))))))
  ·
   have h17r := h17
   try simp only [nq, nr] at h17
   refine rs (qqa (qqk (ys := [.p _, .sl _, .sl _, .p _, .sl _]) qzd rfl rfl rfl (nb rfl)) ?_)
   refine qq3 (qqn (v := .p _) (hp1 := []) [] false [] ent207 (f_l6Lin r) ⟨.inl ⟨rfl, rfl⟩, trivial⟩ trivial rfl rfl (fun h => by cases h) rfl (fun _ h => by cases h) (.inl rfl) rfl rfl) ?_
   refine oa rfl (on (qqm ?_))
   exact qq8 rfl ⟨qqv (by rw [qzq hv hh, rTail_1 (by omega)]), rfl, rfl⟩
  have h17r := h17
  try simp only [nq, nr] at h17
  refine rs (qqa (qz4 rfl rfl) (oa rfl (on (ac rfl (fun h18 => ?_) fun h18 => ?_))))
  ·
   have h18r := h18
   try simp only [nq, nr] at h18
   refine rs (oa rfl (on (qqm ?_)))
   exact qq8 rfl ⟨qqv (by rw [qzq hv hh, rTail_0 (by omega) (by omega) (by omega)]; symm; exact decide_eq_true (by omega)), rfl, rfl⟩
  have h18r := h18
  try simp only [nq, nr] at h18
  refine rs (qqa (qz4 rfl rfl) (oa rfl (on (ac rfl (fun h19 => ?_) fun h19 => ?_))))
  ·
   have h19r := h19
   try simp only [nq, nr] at h19
   refine rs (qqa (qqk (ys := [.p _, .sl _, .sl _, .p _, .sl _]) qzd rfl rfl rfl (nb rfl)) ?_)
   refine qq3 (qqn (v := .p _) (hp1 := []) [] false [] ent208 (f_l6Tab r) ⟨.inl ⟨rfl, rfl⟩, trivial⟩ trivial rfl rfl (fun h => by cases h) rfl (fun _ h => by cases h) (.inl rfl) rfl rfl) ?_
   refine oa rfl (on (qqm ?_))
   exact qq8 rfl ⟨qqv (by rw [qzq hv hh, rTail_3 (by omega)]), rfl, rfl⟩
  have h19r := h19
  try simp only [nq, nr] at h19
  refine rs (qqa (qz4 rfl rfl) (oa rfl (on (ac rfl (fun h20 => ?_) fun h20 => ?_))))
  ·
   have h20r := h20
   try simp only [nq, nr] at h20
   refine rs (qqa (qqi qjy rfl rfl) (qqa (qqc qq9 rfl rfl rfl) (qqa (qqg Tryz.underlying23 rfl) (qqa (qz4 rfl rfl) (oa rfl (on (qqm ?_)))))))
   exact qq8 rfl ⟨qqv (by rw [qzq hv hh, rTail_4 (by omega)]; exact decide_eq_decide.2 (by omega)), rfl, rfl⟩
  have h20r := h20
  try simp only [nq, nr] at h20
  refine qqj (rs (oa rfl (on (qqm ?_))))
  exact qq8 rfl ⟨qqv (by rw [qzq hv hh, rTail_0 (by omega) (by omega) (by omega)]; symm; exact decide_eq_false (by omega)), rfl, rfl⟩
 have h15r := h15
 try simp only [nq, nr] at h15
 refine qqa (qqb rfl rfl h15r) (qqa (qqb rfl rfl h15r) (qqa (qqb rfl rfl h15r) (qqa (qqb rfl rfl h15r) (qqa (qqd rfl rfl rfl (qqt rfl h15r (evo rfl))) (qqa (qqt rfl rfl (evo rfl)) (on (a_ff rfl ?_)))))))
 refine qqj (qqe (qqe ?_))
 have hvv : (vsN (m.1.length : Int) r.2.1 r.2.1.length && decide (r.2.1.length ≠ 0)) = true := by assumption
 have hv : vsN (m.1.length : Int) r.2.1 r.2.1.length = true := (Bool.and_eq_true_iff.1 hvv).1
 have hl0 : r.2.1.length ≠ 0 := of_decide_eq_true (Bool.and_eq_true_iff.1 hvv).2
 have hh : rHead r := by unfold rHead; omega
 refine ar (qqa (qqi qzc rfl rfl) (qqa (qqc qq2 rfl rfl rfl) (on (qqf (rs (qqa (qz4 rfl rfl) (oa rfl (on (ac rfl (fun h21 => ?_) fun h21 => ?_)))))))))
 ·
  have h21r := h21
  try simp only [nq, nr] at h21
  refine rs (qqa (qqk (ys := [.p _, .sl _, .sl _, .p _, .sl _]) qzd rfl rfl rfl (nb rfl)) ?_)
  refine qq3 (qqn (v := .p _) (hp1 := []) [] false [] ent207 (f_l6Lin r) ⟨.inl ⟨rfl, rfl⟩, trivial⟩ trivial rfl rfl (fun h => by cases h) rfl (fun _ h => by cases h) (.inl rfl) rfl rfl) ?_
  refine oa rfl (on (qqm ?_))
  exact qq8 rfl ⟨qqv (by rw [qzq hv hh, rTail_1 (by omega)]), rfl, rfl⟩
 have h21r := h21
 try simp only [nq, nr] at h21
 refine rs (qqa (qz4 rfl rfl) (oa rfl (on (ac rfl (fun h22 => ?_) fun h22 => ?_))))
 ·
  have h22r := h22
  try simp only [nq, nr] at h22
  refine rs (oa rfl (on (qqm ?_)))
  exact qq8 rfl ⟨qqv (by rw [qzq hv hh, rTail_0 (by omega) (by omega) (by omega)]; symm; exact decide_eq_true (by omega)), rfl, rfl⟩
 have h22r := h22
 try simp only [nq, nr] at h22
 refine rs (qqa (qz4 rfl rfl) (oa rfl (on (ac rfl (fun h23 => ?_) fun h23 => ?_))))
 ·
  have h23r := h23
  try simp only [nq, nr] at h23
  refine rs (qqa (qqk (ys := [.p _, .sl _, .sl _, .p _, .sl _]) qzd rfl rfl rfl (nb rfl)) ?_)
  refine qq3 (qqn (v := .p _) (hp1 := []) [] false [] ent208 (f_l6Tab r) ⟨.inl ⟨rfl, rfl⟩, trivial⟩ trivial rfl rfl (fun h => by cases h) rfl (fun _ h => by cases h) (.inl rfl) rfl rfl) ?_
  refine oa rfl (on (qqm ?_))
  exact qq8 rfl ⟨qqv (by rw [qzq hv hh, rTail_3 (by omega)]), rfl, rfl⟩
 have h23r := h23
 try simp only [nq, nr] at h23
 refine rs (qqa (qz4 rfl rfl) (oa rfl (on (ac rfl (fun h24 => ?_) fun h24 => ?_))))
 ·
  have h24r := h24
  try simp only [nq, nr] at h24
  refine rs (qqa (qqi qjy rfl rfl) (qqa (qqc qq9 rfl rfl rfl) (qqa (qqg Tryz.underlying23 rfl) (qqa (qz4 rfl rfl) (oa rfl (on (qqm ?_)))))))
  exact qq8 rfl ⟨qqv (by rw [qzq hv hh, rTail_4 (by omega)]; exact decide_eq_decide.2 (by omega)), rfl, rfl⟩
 have h24r := h24
 try simp only [nq, nr] at h24
 refine qqj (rs (oa rfl (on (qqm ?_))))
 exact qq8 rfl ⟨qqv (by rw [qzq hv hh, rTail_0 (by omega) (by omega) (by omega)]; symm; exact decide_eq_false (by omega)), rfl, rfl⟩
theorem f_mvSpec (m : Md) : Fn Tryz.prog 104 [.agg [.sl (m.1.map dI), .sl (m.2.map dR)]] [] (fun rr ii nn => rr = .p (.bool (mOk m)) ∧ ii = [] ∧ nn = []) := by
 refine qjm Tryz.func104 rfl (nb rfl) fun w X g => ?_
 show AWp _ _ _ ⟨[(0, .agg [.sl (m.1.map dI), .sl (m.2.map dR)])], []⟩
 refine a_len_map2 0 rfl fun hls => ?_
 refine a_len_rule 0 rfl fun hlr => ?_
 refine rs (qq5 (fun ver => qj3 rfl) fun v1x1 => ?_)
 refine oa rfl (on (rs (oa rfl (on (qqe (rs (oa rfl (on (qqf ?_)))))))))
 refine qqr (ι := Nat) (fun k => k ≤ m.1.length ∧ k ≤ 5 ∧ (m.1.take k).all (fun s => decide (0 ≤ s ∧ s ≤ 3)) = true) (fun k r => (4, .p (.int .i64 ((k : Nat)))) :: (3, .p (.int .i64 (szSum (m.1.take k)))) :: r) (fun k r => r) (fun k => m.1.length - k) (fun _ _ => rfl) (fun _ _ => rfl) 0 ⟨Nat.zero_le _, by omega, rfl⟩ ⟨⟨rfl, rfl⟩, ⟨rfl, qzg rfl, trivial⟩, trivial, ⟨rfl, rfl⟩, ⟨rfl, rfl⟩⟩ ?_
 intro k hk
 refine qqe (rs (om rfl (qqa (qqi qjs rfl rfl) (qqa (qqc qq9 rfl rfl rfl) (qqa (qqg Tryz.underlying23 rfl) (qqa (qzb rfl rfl) (om rfl (qqx 11 rfl (fun h1 => ?_) (fun h1 => ?_)))))))))
 ·
  have h1r := h1
  try simp only [nq, nr] at h1
  refine qqa (qqd rfl rfl h1r (qql (evo rfl))) (qqa (qqd rfl rfl h1r (qzb rfl rfl)) (qqa (qqu rfl h1r (evo rfl)) (on (ac rfl (fun h2 => ?_) fun h2 => ?_))))
  ·
   have h2r := h2
   try simp only [nq, nr] at h2
   refine qqj (qqe (qqf (qqe (rs (qqa (qqi qjs rfl rfl) (qqa (qqc qq9 rfl rfl rfl) (om rfl (qqa (qqy qqz rfl rfl rfl (qqh zr) rfl) (qqa (qqp qq2 rfl (qqh zr) rfl) (qqa (qzb rfl rfl) (om rfl (qqx 23 rfl (fun h3 => ?_) (fun h3 => ?_)))))))))))))
   ·
    have h3r := h3
    try simp only [nq, nr] at h3
    refine qqa (qqb rfl rfl h3r) (qqa (qqb rfl rfl h3r) (qqa (qqb rfl rfl h3r) (qqa (qqb rfl rfl h3r) (qqa (qqb rfl rfl h3r) (qqa (qqb rfl rfl h3r) (qqa (qqu rfl h3r (evo rfl)) (on (a_tt rfl ?_))))))))
    refine rs (oa rfl (on (qqm ?_)))
    exact qq8 rfl ⟨qqv (by symm; exact mOk_s (szs_no (.inr (.inl (all_no (d := default) (k := k) (by omega) (decide_eq_false (by omega))))))), rfl, rfl⟩
   have h3r := h3
   try simp only [nq, nr] at h3
   refine qqa (qqd rfl rfl h3r (qqi qjs rfl rfl)) (qqa (qqd rfl rfl h3r (qqc qq9 rfl rfl rfl)) (qqa (qqd rfl rfl h3r (qql (evo rfl))) (qqa (qqd rfl rfl h3r (qqy qqz rfl rfl rfl (qqh zr) rfl)) (qqa (qqd rfl rfl h3r (qqp qq2 rfl (qqh zr) rfl)) (qqa (qqd rfl rfl h3r (j_gt rfl rfl)) (qqa (qqt rfl h3r (evo rfl)) (on (ac rfl (fun h4 => ?_) fun h4 => ?_))))))))
   ·
    have h4r := h4
    try simp only [nq, nr] at h4
    refine rs (oa rfl (on (qqm ?_)))
    exact qq8 rfl ⟨qqv (by symm; exact mOk_s (szs_no (.inr (.inl (all_no (d := default) (k := k) (by omega) (decide_eq_false (by omega))))))), rfl, rfl⟩
   have h4r := h4
   try simp only [nq, nr] at h4
   refine qqj ?_
   have hsr := szSum_rng (k := k) (by omega) hk.2.2
   refine ar (om rfl (qqa (qqi qjs rfl rfl) (qqa (qqc qq9 rfl rfl rfl) (om rfl (qqa (qqy qqz rfl rfl rfl (qqh zr) rfl) (qqa (qqp qq2 rfl (qqh zr) rfl) (qqa (qjh rfl rfl zr zr) (qqa (qjh rfl rfl zr zr) (oa rfl (on (ar (om rfl (qqa (qjh rfl rfl zr zr) ?_)))))))))))))
   refine oa rfl (on ?_)
   exact ⟨k + 1, ⟨by omega, by omega, all_next (d := default) hk.2.2 (by omega) (decide_eq_true (by omega))⟩, ⟨⟨rfl, rfl⟩, ⟨rfl, qzg (by rw [szSum_next (by omega)]; omega), trivial⟩, trivial, ⟨rfl, rfl⟩, ⟨rfl, rfl⟩⟩, zr⟩
  have h2r := h2
  try simp only [nq, nr] at h2
  refine qja (qqe (qqe ?_))
  have hsr := szSum_rng (k := k) (by omega) hk.2.2
  refine ar (qqa (qqi qjs rfl rfl) (qqa (qqc qq9 rfl rfl rfl) (qqa (qqg Tryz.underlying23 rfl) (qqa (qzb rfl rfl) (om rfl (qqx 43 rfl (fun h5 => ?_) (fun h5 => ?_)))))))
  ·
   have h5r := h5
   try simp only [nq, nr] at h5
   refine qqa (qqb rfl rfl h5r) (qqa (qqb rfl rfl h5r) (qqa (qqb rfl rfl h5r) (qqa (qqb rfl rfl h5r) (qqa (qqu rfl h5r (evo rfl)) (om rfl (qqa (qqb rfl rfl rfl) (qqa (qqb rfl rfl rfl) (qqa (qqu rfl rfl (evo rfl)) (om rfl (qqa (qqb rfl rfl rfl) (qqa (qqb rfl rfl rfl) (qqa (qqb rfl rfl rfl) (qqa (qqb rfl rfl rfl) ?_)))))))))))))
   refine qqa (qqu rfl rfl (evo rfl)) (on (a_tt rfl ?_))
   refine rs (oa rfl (on (qqm ?_)))
   exact qq8 rfl ⟨qqv (by symm; first | exact mOk_s (szs_no (.inl (by omega))) | exact mOk_l (by omega) | (have hkl : k = m.1.length := (by omega); subst hkl; rw [List.take_length] at *; exact mOk_s (szs_no (.inr (.inr (by omega)))))), rfl, rfl⟩
  have h5r := h5
  try simp only [nq, nr] at h5
  refine qqa (qqd rfl rfl h5r (qqi qjs rfl rfl)) (qqa (qqd rfl rfl h5r (qqc qq9 rfl rfl rfl)) (qqa (qqd rfl rfl h5r (qqg Tryz.underlying23 rfl)) (qqa (qqd rfl rfl h5r (j_gt rfl rfl)) (qqa (qqt rfl h5r (evo rfl)) (om rfl (qqx 49 rfl (fun h6 => ?_) (fun h6 => ?_)))))))
  ·
   have h6r := h6
   try simp only [nq, nr] at h6
   refine qqa (qqb rfl rfl h6r) (qqa (qqb rfl rfl h6r) (qqa (qqu rfl h6r (evo rfl)) (om rfl (qqa (qqb rfl rfl rfl) (qqa (qqb rfl rfl rfl) (qqa (qqb rfl rfl rfl) (qqa (qqb rfl rfl rfl) (qqa (qqu rfl rfl (evo rfl)) (on (a_tt rfl ?_))))))))))
   refine rs (oa rfl (on (qqm ?_)))
   exact qq8 rfl ⟨qqv (by symm; first | exact mOk_s (szs_no (.inl (by omega))) | exact mOk_l (by omega) | (have hkl : k = m.1.length := (by omega); subst hkl; rw [List.take_length] at *; exact mOk_s (szs_no (.inr (.inr (by omega)))))), rfl, rfl⟩
  have h6r := h6
  try simp only [nq, nr] at h6
  refine qqa (qqd rfl rfl h6r (qql (evo rfl))) (qqa (qqd rfl rfl h6r (j_gt rfl rfl)) (qqa (qqt rfl h6r (evo rfl)) (om rfl (qqx 53 rfl (fun h7 => ?_) (fun h7 => ?_)))))
  ·
   have h7r := h7
   try simp only [nq, nr] at h7
   refine qqa (qqb rfl rfl h7r) (qqa (qqb rfl rfl h7r) (qqa (qqb rfl rfl h7r) (qqa (qqb rfl rfl h7r) (qqa (qqu rfl h7r (evo rfl)) (on (a_tt rfl ?_))))))
   refine rs (oa rfl (on (qqm ?_)))
   exact qq8 rfl ⟨qqv (by symm; first | exact mOk_s (szs_no (.inl (by omega))) | exact mOk_l (by omega) | (have hkl : k = m.1.length := (by omega); subst hkl; rw [List.take_length] at *; exact mOk_s (szs_no (.inr (.inr (by omega)))))), rfl, rfl⟩
  have h7r := h7
  try simp only [nq, nr] at h7
  refine qqa (qqd rfl rfl h7r (qqi qzt rfl rfl)) (qqa (qqd rfl rfl h7r (qqc leaf58 rfl rfl rfl)) (qqa (qqd rfl rfl h7r (qqg Tryz.underlying58 rfl)) (qqa (qqd rfl rfl h7r (j_gt rfl rfl)) (qqa (qqt rfl h7r (evo rfl)) (on (ac rfl (fun h8 => ?_) fun h8 => ?_))))))
  ·
   have h8r := h8
   try simp only [nq, nr] at h8
   refine rs (oa rfl (on (qqm ?_)))
   exact qq8 rfl ⟨qqv (by symm; first | exact mOk_s (szs_no (.inl (by omega))) | exact mOk_l (by omega) | (have hkl : k = m.1.length := (by omega); subst hkl; rw [List.take_length] at *; exact mOk_s (szs_no (.inr (.inr (by omega)))))), rfl, rfl⟩
  have h8r := h8
  try simp only [nq, nr] at h8
  refine qqj (qqe (qqe ?_))
  obtain rfl : k = m.1.length := by omega
  have hka := hk.2.2
  have htl : szSum (m.1.take m.1.length) = szSum m.1 := by rw [List.take_length]
  rw [List.take_length] at hka
  have hso : szsOk m.1 = true := szs_of (by omega) hka (by omega)
  refine ar (oa rfl (on (qqf (qqr (ι := Nat) (fun q => q ≤ m.2.length ∧ (m.2.take q).all (rOk m.1.length) = true) (fun q r => (5, .p (.int .i64 ((q : Nat)))) :: r) (fun q r => r) (fun q => m.2.length - q) (fun _ _ => rfl) (fun _ _ => rfl) 0 ⟨Nat.zero_le _, rfl⟩ ⟨⟨rfl, rfl⟩, ⟨rfl, trivial⟩, trivial, ⟨rfl, rfl⟩, ⟨rfl, rfl⟩⟩ ?_))))
  intro q hq
  refine qqe (rs (om rfl (qqa (qqi qzt rfl rfl) (qqa (qqc leaf58 rfl rfl rfl) (qqa (qqg Tryz.underlying58 rfl) (qqa (qzb rfl rfl) (on (ac rfl (fun h9 => ?_) fun h9 => ?_))))))))
  ·
   have h9r := h9
   try simp only [nq, nr] at h9
   refine qqj (qqe (qqf (qqe (qjz qzj (by kernel_rfl) (by kernel_rfl) fun vf => ?_))))
   refine qqq (qqk (ys := [.sl _, .sl _]) qjw rfl rfl rfl (nb rfl)) (qqq (qqi qzt rfl rfl) (qqq (qqc leaf58 rfl rfl rfl) (qqq (qql (evo rfl)) (qqq (qqy slt58 rfl rfl rfl (qqh zr) rfl) (qqq (qzf (ys := [.p _, .sl _, .sl _, .p _, .sl _]) qzd rfl (qqh zr) rfl (Nat.le_refl _)) ?_)))))
   refine d_v0' (qqn (v := .p _) (hp1 := []) [] false [] ent165 (f_l6Rule m (m.2.getD q default) (by omega)) ⟨.inl ⟨rfl, rfl⟩, .inl ⟨rfl, rfl⟩, trivial⟩ trivial rfl rfl (fun h => by cases h) rfl (fun _ h => by cases h) (.inl rfl) rfl rfl) ?_
   refine qqq (qzw rfl) (qze (by kernel_rfl) (by kernel_rfl) ?_)
   refine ac rfl (fun h10 => ?_) fun h10 => ?_
   ·
    have h10r := h10
    try simp only [nq, nr] at h10
    refine rs (oa rfl (on (qqm ?_)))
    exact qq8 rfl ⟨qqv (by symm; exact mOk_r (all_no (d := default) (k := q) (by omega) (by assumption))), rfl, rfl⟩
   have h10r := h10
   try simp only [nq, nr] at h10
   refine qqj (ar (om rfl (qqa (qjh rfl rfl zr zr) (oa rfl (on ?_)))))
   exact ⟨q + 1, ⟨by omega, all_next (d := default) hq.2 (by omega) (by assumption)⟩, ⟨⟨rfl, rfl⟩, ⟨rfl, trivial⟩, trivial, ⟨rfl, rfl⟩, ⟨rfl, rfl⟩⟩, zr⟩
  have h9r := h9
  try simp only [nq, nr] at h9
  refine qja (rs (oa rfl (on (qqm ?_))))
  exact qq8 rfl ⟨qqv (by rw [mOk_of hso (by omega)]; symm; exact all_full hq.2 (by omega)), rfl, rfl⟩
 have h1r := h1
 try simp only [nq, nr] at h1
 refine qqa (qqb rfl rfl h1r) (qqa (qqb rfl rfl h1r) (qqa (qqt rfl h1r (evo rfl)) (on (a_ff rfl ?_))))
 refine qja (qqe (qqe ?_))
 have hsr := szSum_rng (k := k) (by omega) hk.2.2
 refine ar (qqa (qqi qjs rfl rfl) (qqa (qqc qq9 rfl rfl rfl) (qqa (qqg Tryz.underlying23 rfl) (qqa (qzb rfl rfl) (om rfl (qqx 43 rfl (fun h11 => ?_) (fun h11 => ?_)))))))
 ·
  have h11r := h11
  try simp only [nq, nr] at h11
  refine qqa (qqb rfl rfl h11r) (qqa (qqb rfl rfl h11r) (qqa (qqb rfl rfl h11r) (qqa (qqb rfl rfl h11r) (qqa (qqu rfl h11r (evo rfl)) (om rfl (qqa (qqb rfl rfl rfl) (qqa (qqb rfl rfl rfl) (qqa (qqu rfl rfl (evo rfl)) (om rfl (qqa (qqb rfl rfl rfl) (qqa (qqb rfl rfl rfl) (qqa (qqb rfl rfl rfl) (qqa (qqb rfl rfl rfl) ?_)))))))))))))
  refine qqa (qqu rfl rfl (evo rfl)) (on (a_tt rfl ?_))
  refine rs (oa rfl (on (qqm ?_)))
  exact qq8 rfl ⟨qqv (by symm; first | exact mOk_s (szs_no (.inl (by omega))) | exact mOk_l (by omega) | (have hkl : k = m.1.length := (by omega); subst hkl; rw [List.take_length] at *; exact mOk_s (szs_no (.inr (.inr (by omega)))))), rfl, rfl⟩
 have h11r := h11
 try simp only [nq, nr] at h11
 refine qqa (qqd rfl rfl h11r (qqi qjs rfl rfl)) (qqa (qqd rfl rfl h11r (qqc qq9 rfl rfl rfl)) (qqa (qqd rfl rfl h11r (qqg Tryz.underlying23 rfl)) (qqa (qqd rfl rfl h11r (j_gt rfl rfl)) (qqa (qqt rfl h11r (evo rfl)) (om rfl (qqx 49 rfl (fun h12 => ?_) (fun h12 => ?_)))))))
 ·
  have h12r := h12
  try simp only [nq, nr] at h12
  refine qqa (qqb rfl rfl h12r) (qqa (qqb rfl rfl h12r) (qqa (qqu rfl h12r (evo rfl)) (om rfl (qqa (qqb rfl rfl rfl) (qqa (qqb rfl rfl rfl) (qqa (qqb rfl rfl rfl) (qqa (qqb rfl rfl rfl) (qqa (qqu rfl rfl (evo rfl)) (on (a_tt rfl ?_))))))))))
  refine rs (oa rfl (on (qqm ?_)))
  exact qq8 rfl ⟨qqv (by symm; first | exact mOk_s (szs_no (.inl (by omega))) | exact mOk_l (by omega) | (have hkl : k = m.1.length := (by omega); subst hkl; rw [List.take_length] at *; exact mOk_s (szs_no (.inr (.inr (by omega)))))), rfl, rfl⟩
 have h12r := h12
 try simp only [nq, nr] at h12
 refine qqa (qqd rfl rfl h12r (qql (evo rfl))) (qqa (qqd rfl rfl h12r (j_gt rfl rfl)) (qqa (qqt rfl h12r (evo rfl)) (om rfl (qqx 53 rfl (fun h13 => ?_) (fun h13 => ?_)))))
 ·
  have h13r := h13
  try simp only [nq, nr] at h13
  refine qqa (qqb rfl rfl h13r) (qqa (qqb rfl rfl h13r) (qqa (qqb rfl rfl h13r) (qqa (qqb rfl rfl h13r) (qqa (qqu rfl h13r (evo rfl)) (on (a_tt rfl ?_))))))
  refine rs (oa rfl (on (qqm ?_)))
  exact qq8 rfl ⟨qqv (by symm; first | exact mOk_s (szs_no (.inl (by omega))) | exact mOk_l (by omega) | (have hkl : k = m.1.length := (by omega); subst hkl; rw [List.take_length] at *; exact mOk_s (szs_no (.inr (.inr (by omega)))))), rfl, rfl⟩
 have h13r := h13
 try simp only [nq, nr] at h13
 refine qqa (qqd rfl rfl h13r (qqi qzt rfl rfl)) (qqa (qqd rfl rfl h13r (qqc leaf58 rfl rfl rfl)) (qqa (qqd rfl rfl h13r (qqg Tryz.underlying58 rfl)) (qqa (qqd rfl rfl h13r (j_gt rfl rfl)) (qqa (qqt rfl h13r (evo rfl)) (on (ac rfl (fun h14 => ?_) fun h14 => ?_))))))
 ·
  have h14r := h14
  try simp only [nq, nr] at h14
  refine rs (oa rfl (on (qqm ?_)))
  exact qq8 rfl ⟨qqv (by symm; first | exact mOk_s (szs_no (.inl (by omega))) | exact mOk_l (by omega) | (have hkl : k = m.1.length := (by omega); subst hkl; rw [List.take_length] at *; exact mOk_s (szs_no (.inr (.inr (by omega)))))), rfl, rfl⟩
 have h14r := h14
 try simp only [nq, nr] at h14
 refine qqj (qqe (qqe ?_))
 obtain rfl : k = m.1.length := by omega
 have hka := hk.2.2
 have htl : szSum (m.1.take m.1.length) = szSum m.1 := by rw [List.take_length]
 rw [List.take_length] at hka
 have hso : szsOk m.1 = true := szs_of (by omega) hka (by omega)
 refine ar (oa rfl (on (qqf (qqr (ι := Nat) (fun q => q ≤ m.2.length ∧ (m.2.take q).all (rOk m.1.length) = true) (fun q r => (5, .p (.int .i64 ((q : Nat)))) :: r) (fun q r => r) (fun q => m.2.length - q) (fun _ _ => rfl) (fun _ _ => rfl) 0 ⟨Nat.zero_le _, rfl⟩ ⟨⟨rfl, rfl⟩, ⟨rfl, trivial⟩, trivial, ⟨rfl, rfl⟩, ⟨rfl, rfl⟩⟩ ?_))))
 intro q hq
 refine qqe (rs (om rfl (qqa (qqi qzt rfl rfl) (qqa (qqc leaf58 rfl rfl rfl) (qqa (qqg Tryz.underlying58 rfl) (qqa (qzb rfl rfl) (on (ac rfl (fun h15 => ?_) fun h15 => ?_))))))))
 ·
  have h15r := h15
  try simp only [nq, nr] at h15
  refine qqj (qqe (qqf (qqe (qjz qzj (by kernel_rfl) (by kernel_rfl) fun vf => ?_))))
  refine qqq (qqk (ys := [.sl _, .sl _]) qjw rfl rfl rfl (nb rfl)) (qqq (qqi qzt rfl rfl) (qqq (qqc leaf58 rfl rfl rfl) (qqq (qql (evo rfl)) (qqq (qqy slt58 rfl rfl rfl (qqh zr) rfl) (qqq (qzf (ys := [.p _, .sl _, .sl _, .p _, .sl _]) qzd rfl (qqh zr) rfl (Nat.le_refl _)) ?_)))))
  refine d_v0' (qqn (v := .p _) (hp1 := []) [] false [] ent165 (f_l6Rule m (m.2.getD q default) (by omega)) ⟨.inl ⟨rfl, rfl⟩, .inl ⟨rfl, rfl⟩, trivial⟩ trivial rfl rfl (fun h => by cases h) rfl (fun _ h => by cases h) (.inl rfl) rfl rfl) ?_
  refine qqq (qzw rfl) (qze (by kernel_rfl) (by kernel_rfl) ?_)
  refine ac rfl (fun h16 => ?_) fun h16 => ?_
  ·
   have h16r := h16
   try simp only [nq, nr] at h16
   refine rs (oa rfl (on (qqm ?_)))
   exact qq8 rfl ⟨qqv (by symm; exact mOk_r (all_no (d := default) (k := q) (by omega) (by assumption))), rfl, rfl⟩
  have h16r := h16
  try simp only [nq, nr] at h16
  refine qqj (ar (om rfl (qqa (qjh rfl rfl zr zr) (oa rfl (on ?_)))))
  exact ⟨q + 1, ⟨by omega, all_next (d := default) hq.2 (by omega) (by assumption)⟩, ⟨⟨rfl, rfl⟩, ⟨rfl, trivial⟩, trivial, ⟨rfl, rfl⟩, ⟨rfl, rfl⟩⟩, zr⟩
 have h15r := h15
 try simp only [nq, nr] at h15
 refine qja (rs (oa rfl (on (qqm ?_))))
 exact qq8 rfl ⟨qqv (by rw [mOk_of hso (by omega)]; symm; exact all_full hq.2 (by omega)), rfl, rfl⟩
theorem f_domains (m : Md) (b : Bool) (hs : m.1.length ≤ 5 ∧ ∀ k, k < m.1.length → 0 ≤ m.1.getD k default ∧ m.1.getD k default ≤ 3) : Fn Tryz.prog 99 [.agg [.sl (m.1.map dI), .sl (m.2.map dR)], .p (.bool (b))] [] (fun rr ii nn => rr = .own 0 0 ∧ ii = [] ∧ nn = [.deep (.mk 44 1 [(0, .mk 4 1 [])]) ((fdL b m.1).map dD) none]) := by
 refine qjm Tryz.func99 rfl (nb rfl) fun w X g => ?_
 show AWp _ _ _ ⟨[(0, .agg [.sl (m.1.map dI), .sl (m.2.map dR)]), (1, .p (.bool (b)))], []⟩
 refine rs (qq5 (fun ver => qj3 rfl) fun v2x1 => ?_)
 refine oa rfl (on (rs (oa rfl (on (qjt 5 5 44 1 rfl fun v5 => ?_)))))
 refine a_todeep 5 0 (.mk 44 1 [(0, (.mk 4 1 []))]) (zs := []) (zs' := []) rfl rfl rfl rfl eat_end rfl ?_
 refine qqe (rs (qqa (qqi qjs rfl rfl) (qqa (qqc qq9 rfl rfl rfl) (qqa (qqg Tryz.underlying23 rfl) (om rfl (on (qqf (qqr (ι := Nat × Nat) (fun x => x.1 ≤ m.1.length) (fun x r => (13, .p (.int .i64 ((x.1 : Nat)))) :: (5, .own 5 x.2) :: r) (fun x r => (5, some (x.2, .deep (.mk 44 1 [(0, .mk 4 1 [])]) ((fdL b (m.1.take x.1)).map dD) none)) :: r) (fun x => m.1.length - x.1) (fun _ _ => rfl) (fun _ _ => rfl) (0, v5) (by first | exact (Nat.zero_le _) | (dsimp only; exact (Nat.zero_le _))) ⟨⟨rfl, rfl⟩, ⟨rfl, rfl, trivial⟩, ⟨rfl, trivial⟩, ⟨rfl, rfl⟩, ⟨rfl, rfl⟩⟩ ?_))))))))
 rintro ⟨k, v⟩ hk; dsimp only at hk ⊢
 refine rs (qqa (qzb rfl rfl) (on (qqe (ac rfl (fun h1 => ?_) fun h1 => ?_))))
 ·
  have h1r := h1
  try simp only [nq, nr, nl, List.length_replicate, qzs, wr_length] at h1
  refine qqj (qqe (qqf (qqe ?_)))
  have hsk := hs.2 k (by omega)
  refine ar (qqa (qqy qqz rfl rfl rfl (qqh zar1) rfl) (qqa (qqp qq2 rfl (qqh zar1) rfl) (oa rfl (on (rs (om rfl (qqa (qjh rfl rfl zar1 zar1) (qq5 (fun ver => j_make (n := ((m.1.getD k default) + 1).toNat) slt44 elt4 rfl rfl (by decide) rfl rfl (by omega) (by omega) zar1 (by rw [qq0]; first | omega | (simp only [nr, nl, List.length_replicate, qzs, wr_length]; omega))) fun v19x2 => ?_))))))))
  refine oa rfl (on (qqe (rs (om rfl (qqa (j_len_own Tryz.underlying44 rfl rfl) (om rfl (on (qqf (qqr (ι := Nat) (fun j => j ≤ ((m.1.getD k default) + 1).toNat) (fun j r => (22, .p (.int .i64 ((j : Nat)))) :: r) (fun j r => (19, some (v19x2, .row 4 1 (wr dB (List.replicate ((m.1.getD k default) + 1).toNat b) j (dB false)))) :: r) (fun j => ((m.1.getD k default) + 1).toNat - j) (fun _ _ => rfl) (fun _ _ => rfl) 0 (Nat.zero_le _) ⟨⟨rfl, rfl⟩, ⟨rfl, trivial⟩, ⟨qza (by rw [wr_zero, List.length_replicate]; rfl), trivial⟩, ⟨rfl, rfl⟩, ⟨rfl, rfl⟩⟩ ?_)))))))))
  intro j hj
  refine rs (qqa (qzb rfl rfl) (on (qqe (ac rfl (fun h2 => ?_) fun h2 => ?_))))
  ·
   have h2r := h2
   try simp only [nq, nr, nl, List.length_replicate, qzs, wr_length] at h2
   refine qqj (qqe (qqf (rs (om rfl (oa rfl (on (ar (om rfl (om rfl (om rfl (qqa (qqo slt44 rfl rfl rfl rfl zar1) (qjo (qji leaf4 rfl rfl zar1 (evo rfl) rfl rfl) ?_))))))))))))
   refine on (ar (qqa (qjh rfl rfl zar1 zar1) (om rfl (on ?_))))
   exact ⟨j + 1, zar1, ⟨⟨rfl, rfl⟩, ⟨rfl, trivial⟩, ⟨qza (wr_rep zar1), trivial⟩, ⟨rfl, rfl⟩, ⟨rfl, rfl⟩⟩, zar1⟩
  have h2r := h2
  try simp only [nq, nr, nl, List.length_replicate, qzs, wr_length] at h2
  refine qja (a_row 19 (es' := (List.replicate ((m.1.getD k default) + 1).toNat b).map dB) rfl (wr_all zar1) ?_)
  refine ar (om rfl (om rfl (qj9 (fun ver => qzr (x := .tmp 31) (t := (.mk 44 1 [(0, (.mk 4 1 []))])) slt24 elt44 rfl rfl rfl (by decide) (by decide) rfl rfl rfl (eat_own rfl rfl rfl eat_end) rfl rfl) fun v32x3 => ?_)))
  refine qj9 (fun ver => j_append_deep (by decide) slt24 elt44 rfl rfl rfl rfl rfl rfl rfl rfl (nb rfl) (by rw [qq0]; first | omega | (simp only [nr, nl, List.length_replicate, qzs, wr_length]; omega)) zar1) fun v5x4 => ?_
  refine oa rfl (on (ar (qqa (qjh rfl rfl zar1 zar1) (om rfl (on ?_)))))
  exact ⟨(k + 1, v5x4), (by first | exact zar1 | (dsimp only; exact zar1)), ⟨⟨rfl, rfl⟩, ⟨rfl, rfl, trivial⟩, ⟨deepEq (by rw [fdL_next (by omega), List.map_append]; rfl), trivial⟩, ⟨rfl, rfl⟩, ⟨rfl, rfl⟩⟩, (by first | exact zar1 | (dsimp only; exact zar1))⟩
 have h1r := h1
 try simp only [nq, nr, nl, List.length_replicate, qzs, wr_length] at h1
 refine qja (rs (om rfl (oa rfl (on (qqm ?_)))))
 exact ⟨[.own 5 v], .own 0 0, [], [.deep (.mk 44 1 [(0, (.mk 4 1 []))]) _ none], [(5, v)], ⟨rfl, trivial⟩, rfl, rfl, ⟨⟨rfl, rfl⟩, trivial⟩, rfl, rfl, ⟨rfl, rfl, by rw [List.take_of_length_le (by omega)]⟩⟩
theorem f_l8Make (m : Md) (b : Bool) (hs : m.1.length ≤ 5 ∧ ∀ k, k < m.1.length → 0 ≤ m.1.getD k default ∧ m.1.getD k default ≤ 3) : Fn Tryz.prog 105 [.agg [.sl (m.1.map dI), .sl (m.2.map dR)], .p (.bool (b))] [] (fun rr ii nn => rr = .sl ((fdL b m.1).map dD) ∧ ii = [] ∧ nn = []) := by
 refine qjm Tryz.func105 rfl (nb rfl) fun w X g => ?_
 show AWp _ _ _ ⟨[(0, .agg [.sl (m.1.map dI), .sl (m.2.map dR)]), (1, .p (.bool (b)))], []⟩
 refine rs (qq5 (fun ver => qj3 rfl) fun v2x1 => ?_)
 refine oa rfl (on (rs (qq5 (fun ver => j_bs0 slt24 elt44 rfl rfl (by decide)) fun v9x2 => ?_)))
 refine oa rfl (on (qqe (rs (oa rfl (on (qqf (qqr (ι := Nat × Nat) (fun x => x.1 ≤ m.1.length) (fun x r => (6, .p (.int .i64 ((x.1 : Nat)))) :: (5, .own 9 x.2) :: r) (fun x r => (9, some (x.2, .row 44 1 ((fdL b (m.1.take x.1)).map dD))) :: r) (fun x => m.1.length - x.1) (fun _ _ => rfl) (fun _ _ => rfl) (0, v9x2) (by first | exact (Nat.zero_le _) | (dsimp only; exact (Nat.zero_le _))) ⟨⟨rfl, rfl⟩, ⟨rfl, rfl, trivial⟩, ⟨rfl, trivial⟩, ⟨rfl, rfl⟩, ⟨rfl, rfl⟩⟩ ?_)))))))
 rintro ⟨k, v⟩ hk; dsimp only at hk ⊢
 refine qqe (rs (om rfl (qqa (qqi qjs rfl rfl) (qqa (qqc qq9 rfl rfl rfl) (qqa (qqg Tryz.underlying23 rfl) (qqa (qzb rfl rfl) (on (ac rfl (fun h1 => ?_) fun h1 => ?_))))))))
 ·
  have h1r := h1
  try simp only [nq, nr, nl, List.length_replicate, qzs] at h1
  refine qqj (qqe (qqf (qqe ?_)))
  have hsk := hs.2 k (by omega)
  refine ar (qq5 (fun ver => j_bs0 slt44 elt4 rfl rfl (by decide)) fun v17x3 => ?_)
  refine oa rfl (on (qqe (rs (oa rfl (on (qqf (qqr (ι := Nat × Nat) (fun x => x.1 ≤ ((m.1.getD k default) + 1).toNat) (fun x r => (8, .p (.int .i64 ((x.1 : Nat)))) :: (7, .own 17 x.2) :: r) (fun x r => (17, some (x.2, .row 4 1 ((List.replicate x.1 b).map dB))) :: r) (fun x => ((m.1.getD k default) + 1).toNat - x.1) (fun _ _ => rfl) (fun _ _ => rfl) (0, v17x3) (by first | exact (Nat.zero_le _) | (dsimp only; exact (Nat.zero_le _))) ⟨⟨rfl, rfl⟩, ⟨rfl, rfl, trivial⟩, ⟨rfl, trivial⟩, ⟨rfl, rfl⟩, ⟨rfl, rfl⟩⟩ ?_)))))))
  rintro ⟨j, w⟩ hj; dsimp only at hj ⊢
  refine qqe (rs (om rfl (qqa (qqi qjs rfl rfl) (qqa (qqc qq9 rfl rfl rfl) (om rfl (qqa (qqy qqz rfl rfl rfl (qqh zar2) rfl) (qqa (qqp qq2 rfl (qqh zar2) rfl) (qqa (j_le rfl rfl) (on (ac rfl (fun h2 => ?_) fun h2 => ?_))))))))))
  ·
   have h2r := h2
   try simp only [nq, nr, nl, List.length_replicate, qzs] at h2
   refine qqj (qqe (qqf (ar (om rfl (om rfl (qq5 (fun ver => qqw (parts := [(0, .tmp 28)]) (es := [[_]]) slt44 elt4 rfl rfl (by decide) (by decide) rfl rfl (by simp) rfl) fun v29x4 => ?_))))))
   refine qq5 (fun ver => qq6 slt44 elt4 rfl rfl rfl rfl rfl rfl (by rw [qq0]; first | omega | (simp only [nr, nl, List.length_replicate, qzs]; omega)) zar2) fun v17x5 => ?_
   refine oa rfl (on (ar (om rfl (qqa (qjh rfl rfl zar2 zar2) (oa rfl (on ?_))))))
   exact ⟨(j + 1, v17x5), (by first | exact zar2 | (dsimp only; exact zar2)), ⟨⟨rfl, rfl⟩, ⟨rfl, rfl, trivial⟩, ⟨qza (by rw [← rep_succ, List.map_append]; rfl), trivial⟩, ⟨rfl, rfl⟩, ⟨rfl, rfl⟩⟩, (by first | exact zar2 | (dsimp only; exact zar2))⟩
  have h2r := h2
  try simp only [nq, nr, nl, List.length_replicate, qzs] at h2
  refine qja (a_freeze' 7 (noA _ _ _ _ _) rfl rfl ?_)
  refine ar (om rfl (om rfl (qq5 (fun ver => qqw (parts := [(0, .tmp 32)]) (es := [[_]]) slt24 elt44 rfl rfl (by decide) (by decide) rfl rfl (by simp) rfl) fun v33x6 => ?_)))
  refine qq5 (fun ver => qq6 slt24 elt44 rfl rfl rfl rfl rfl rfl (by rw [qq0]; first | omega | (simp only [nr, nl, List.length_replicate, qzs]; omega)) zar2) fun v9x7 => ?_
  refine oa rfl (on (ar (om rfl (qqa (qjh rfl rfl zar2 zar2) (oa rfl (on ?_))))))
  exact ⟨(k + 1, v9x7), (by first | exact zar2 | (dsimp only; exact zar2)), ⟨⟨rfl, rfl⟩, ⟨rfl, rfl, trivial⟩, ⟨qza (by rw [fdL_next (by omega), List.map_append, ← show j = (m.1.getD k default + 1).toNat by omega]; rfl), trivial⟩, ⟨rfl, rfl⟩, ⟨rfl, rfl⟩⟩, (by first | exact zar2 | (dsimp only; exact zar2))⟩
 have h1r := h1
 try simp only [nq, nr, nl, List.length_replicate, qzs] at h1
 refine qja (rs (om rfl (oa rfl (on (a_freeze' 4 (noA _ _ _ _ _) rfl rfl ?_)))))
 refine qqm ?_
 exact fin_sl rfl ⟨slEq (by rw [List.take_of_length_le (by omega)]), rfl, rfl⟩
theorem f_fdImpl (m : Md) : Fn Tryz.prog 39 [.agg [.sl (m.1.map dI), .sl (m.2.map dR)]] [] (fun rr ii nn => rr = .own 0 0 ∧ ii = [] ∧ nn = [.deep (.mk 44 1 [(0, .mk 4 1 [])]) ((fullD m).map dD) none]) := by
 refine qjm Tryz.func39 rfl (nb rfl) fun w X g => ?_
 show AWp _ _ _ ⟨[(0, .agg [.sl (m.1.map dI), .sl (m.2.map dR)])], []⟩
 refine rs (qq5 (fun ver => qj3 rfl) fun v1x1 => ?_)
 refine oa rfl (on (qqe (rs (qqa (qqk (ys := [.sl _, .sl _]) qjw rfl rfl rfl (nb rfl)) ?_))))
 refine qq3 (qqn (v := .p _) (hp1 := []) [] false [] ent90 (f_mvImpl _) ⟨.inl ⟨rfl, rfl⟩, trivial⟩ trivial rfl rfl (fun h => by cases h) rfl (fun _ h => by cases h) (.inl rfl) rfl rfl) ?_
 refine qqa (qzw rfl) (on (ac rfl (fun h1 => ?_) fun h1 => ?_))
 ·
  have h1r := h1
  try simp only [nq, nr] at h1
  refine rs (oa rfl (on (qjt 2 2 44 1 rfl fun v2 => ?_)))
  refine a_todeep 2 0 (.mk 44 1 [(0, (.mk 4 1 []))]) (zs := []) (zs' := []) rfl rfl rfl rfl eat_end rfl ?_
  refine qqm ?_
  exact ⟨[.own 2 v2], .own 0 0, [], [.deep (.mk 44 1 [(0, (.mk 4 1 []))]) _ none], [(2, v2)], ⟨rfl, trivial⟩, rfl, rfl, ⟨⟨rfl, rfl⟩, trivial⟩, rfl, rfl, ⟨rfl, rfl, by rw [fullD_bad h1]; rfl⟩⟩
 have h1r := h1
 try simp only [nq, nr] at h1
 refine qqj (qqe ?_)
 have hms := qzx h1
 refine ar (qqa (qqk (ys := [.sl _, .sl _]) qjw rfl rfl rfl (nb rfl)) ?_)
 refine qj9 (fun ver => qj8 (v := .own 7 ver) (hp1 := [(7, some (ver, .deep (.mk 44 1 [(0, (.mk 4 1 []))]) _ none))]) [] false [] ent99 (f_domains m true ⟨hms.1.2, hms.2⟩) ⟨.inl ⟨rfl, rfl⟩, .inl ⟨rfl, rfl⟩, trivial⟩ trivial rfl rfl rfl (fun h => by cases h) rfl (List.all_eq_true.1 rfl) (.inl rfl) rfl rfl) fun v7x2 => ?_
 refine oa rfl (on (qqm ?_))
 exact ⟨[.own 7 v7x2], .own 0 0, [], [.deep (.mk 44 1 [(0, (.mk 4 1 []))]) _ none], [(7, v7x2)], ⟨rfl, trivial⟩, rfl, rfl, ⟨⟨rfl, rfl⟩, trivial⟩, rfl, rfl, ⟨rfl, rfl, by rw [fullD_ok h1]⟩⟩
theorem f_fdSpec (m : Md) : Fn Tryz.prog 41 [.agg [.sl (m.1.map dI), .sl (m.2.map dR)]] [] (fun rr ii nn => rr = .sl ((fullD m).map dD) ∧ ii = [] ∧ nn = []) := by
 refine qjm Tryz.func41 rfl (nb rfl) fun w X g => ?_
 show AWp _ _ _ ⟨[(0, .agg [.sl (m.1.map dI), .sl (m.2.map dR)])], []⟩
 refine rs (qq5 (fun ver => qj3 rfl) fun v1x1 => ?_)
 refine oa rfl (on (qqe (rs (qqa (qqk (ys := [.sl _, .sl _]) qjw rfl rfl rfl (nb rfl)) ?_))))
 refine qq3 (qqn (v := .p _) (hp1 := []) [] false [] ent104 (f_mvSpec _) ⟨.inl ⟨rfl, rfl⟩, trivial⟩ trivial rfl rfl (fun h => by cases h) rfl (fun _ h => by cases h) (.inl rfl) rfl rfl) ?_
 refine qqa (qzw rfl) (on (ac rfl (fun h1 => ?_) fun h1 => ?_))
 ·
  have h1r := h1
  try simp only [nq, nr] at h1
  refine rs (qq5 (fun ver => j_bs0 slt24 elt44 rfl rfl (by decide)) fun v6x2 => ?_)
  refine oa rfl (on (a_freeze' 2 (noA _ _ _ _ _) rfl rfl ?_))
  refine qqm ?_
  exact fin_sl rfl ⟨by rw [fullD_bad h1]; rfl, rfl, rfl⟩
 have h1r := h1
 try simp only [nq, nr] at h1
 refine qqj (qqe ?_)
 have hms := qzx h1
 refine ar (qqa (qqk (ys := [.sl _, .sl _]) qjw rfl rfl rfl (nb rfl)) ?_)
 refine qq3 (qqn (v := .sl _) (hp1 := []) [] false [] ent105 (f_l8Make m true ⟨hms.1.2, hms.2⟩) ⟨.inl ⟨rfl, rfl⟩, .inl ⟨rfl, rfl⟩, trivial⟩ trivial rfl rfl (fun h => by cases h) rfl (fun _ h => by cases h) (.inl rfl) rfl rfl) ?_
 refine oa rfl (on (qqm ?_))
 exact fin_sl rfl ⟨by rw [fullD_ok h1], rfl, rfl⟩
end Go.Ab

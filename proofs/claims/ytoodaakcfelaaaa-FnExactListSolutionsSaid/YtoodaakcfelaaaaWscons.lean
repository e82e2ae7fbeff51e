/- Walks. -/
import Derived.Test.YtoodaakcfelaaaaBase
import Derived.Test.YtoodaakcfelaaaaSimp
import Derived.Test.YtoodaakcfelaaaaWsvals
namespace Go.Ab
open Go.Proofs
set_option maxRecDepth 100000
set_option maxHeartbeats 8000000
set_option linter.unusedSimpArgs false
set_option linter.unusedVariables false
theorem f_within (n lo hi : Int) : Fn Try.prog 53 [.p (.int .i64 (n)), .p (.int .i64 (lo)), .p (.int .i64 (hi))] [] (fun rr ii nn => rr = .p (.bool (decide (lo ≤ n ∧ n ≤ hi))) ∧ ii = [] ∧ nn = []) := by
 refine qjj Try.func53 rfl (nb rfl) fun w X g => ?_
 show AWp _ _ _ ⟨[(0, .p (.int .i64 (n))), (1, .p (.int .i64 (lo))), (2, .p (.int .i64 (hi)))], []⟩
 refine rs (oa rfl (on (rs (om rfl (om rfl (qqa (j_le rfl rfl) (om rfl (qq9 10 rfl (fun h1 => ?_) (fun h1 => ?_)))))))))
 ·
  have h1r := h1
  try simp only [nq, nr] at h1
  refine qqa (qqf rfl rfl h1r (qqn (evo rfl))) (qqa (qqf rfl rfl h1r (qqn (evo rfl))) (qqa (qqf rfl rfl h1r (j_le rfl rfl)) (qqa (qq6 rfl h1r (evo rfl)) (oa rfl (on (qql ?_))))))
  exact qjh rfl ⟨qja (biff (by simp only [decide_eq_true_eq, Bool.false_eq_true, false_iff, litOk_iff]; omega)), rfl, rfl⟩
 have h1r := h1
 try simp only [nq, nr] at h1
 refine qqa (qqb rfl rfl h1r) (qqa (qqb rfl rfl h1r) (qqa (qqb rfl rfl h1r) (qqa (qq3 rfl h1r (evo rfl)) (oa rfl (on (qql ?_))))))
 exact qjh rfl ⟨qja (biff (by simp only [decide_eq_true_eq, Bool.false_eq_true, false_iff, litOk_iff]; omega)), rfl, rfl⟩
theorem f_isLit (n : Int) : Fn Try.prog 88 [.p (.int .i64 (n))] [] (fun rr ii nn => rr = .p (.bool (litOk n)) ∧ ii = [] ∧ nn = []) := by
 refine qjj Try.func88 rfl (nb rfl) fun w X g => ?_
 show AWp _ _ _ ⟨[(0, .p (.int .i64 (n)))], []⟩
 refine rs (oa rfl (on (rs (om rfl (qqa (j_ne rfl rfl) (om rfl (qq9 5 rfl (fun h1 => ?_) (fun h1 => ?_))))))))
 ·
  have h1r := h1
  try simp only [nq, nr] at h1
  refine qqa (qqf rfl rfl h1r (qqn (evo rfl))) ?_
  refine qq4 (qqf rfl rfl h1r (qqp (v := .p _) (hp1 := []) [] false [] ent53 (f_within _ _ _) ⟨.inl ⟨rfl, rfl⟩, .inl ⟨rfl, rfl⟩, .inl ⟨rfl, rfl⟩, trivial⟩ trivial rfl rfl (fun h => by cases h) rfl (fun _ h => by cases h) (.inl rfl) rfl rfl)) ?_
  refine qqa (qq6 rfl h1r (evo rfl)) (oa rfl (on (qql ?_)))
  exact qjh rfl ⟨qja (biff (by simp only [decide_eq_true_eq, Bool.false_eq_true, false_iff, litOk_iff]; omega)), rfl, rfl⟩
 have h1r := h1
 try simp only [nq, nr] at h1
 refine qqa (qqb rfl rfl h1r) (qqa (qqb rfl rfl h1r) (qqa (qq3 rfl h1r (evo rfl)) (oa rfl (on (qql ?_)))))
 exact qjh rfl ⟨qja (biff (by simp only [decide_eq_true_eq, Bool.false_eq_true, false_iff, litOk_iff]; omega)), rfl, rfl⟩
theorem f_l1Lit (n : Int) : Fn Try.prog 62 [.p (.int .i64 (n))] [] (fun rr ii nn => rr = .p (.bool (litOk n)) ∧ ii = [] ∧ nn = []) := by
 refine qjj Try.func62 rfl (nb rfl) fun w X g => ?_
 show AWp _ _ _ ⟨[(0, .p (.int .i64 (n)))], []⟩
 refine rs (oa rfl (on (rs (om rfl (qqa (j_ne rfl rfl) (om rfl (qq9 5 rfl (fun h1 => ?_) (fun h1 => ?_))))))))
 ·
  have h1r := h1
  try simp only [nq, nr] at h1
  refine qqa (qqf rfl rfl h1r (qqn (evo rfl))) (qqa (qqf rfl rfl h1r (j_ge rfl rfl)) (qqa (qq6 rfl h1r (evo rfl)) (om rfl (qq9 9 rfl (fun h2 => ?_) (fun h2 => ?_)))))
  ·
   have h2r := h2
   try simp only [nq, nr] at h2
   refine qqa (qqf rfl rfl h2r (qqn (evo rfl))) (qqa (qqf rfl rfl h2r (j_le rfl rfl)) (qqa (qq6 rfl h2r (evo rfl)) (oa rfl (on (qql ?_)))))
   exact qjh rfl ⟨qja (biff (by simp only [decide_eq_true_eq, Bool.false_eq_true, false_iff, litOk_iff]; omega)), rfl, rfl⟩
  have h2r := h2
  try simp only [nq, nr] at h2
  refine qqa (qqb rfl rfl h2r) (qqa (qqb rfl rfl h2r) (qqa (qq3 rfl h2r (evo rfl)) (oa rfl (on (qql ?_)))))
  exact qjh rfl ⟨qja (biff (by simp only [decide_eq_true_eq, Bool.false_eq_true, false_iff, litOk_iff]; omega)), rfl, rfl⟩
 have h1r := h1
 try simp only [nq, nr] at h1
 refine qqa (qqb rfl rfl h1r) (qqa (qqb rfl rfl h1r) (qqa (qq3 rfl h1r (evo rfl)) (om rfl (qqa (qqb rfl rfl rfl) (qqa (qqb rfl rfl rfl) (qqa (qq3 rfl rfl (evo rfl)) (oa rfl (on (qql ?_)))))))))
 exact qjh rfl ⟨qja (biff (by simp only [decide_eq_true_eq, Bool.false_eq_true, false_iff, litOk_iff]; omega)), rfl, rfl⟩
theorem f_varOf (n : Int) (hn : -12 ≤ n ∧ n ≤ 12) : Fn Try.prog 70 [.p (.int .i64 (n))] [] (fun rr ii nn => rr = .p (.int .i64 (varOf n)) ∧ ii = [] ∧ nn = []) := by
 refine qjj Try.func70 rfl (nb rfl) fun w X g => ?_
 show AWp _ _ _ ⟨[(0, .p (.int .i64 (n)))], []⟩
 refine rs (oa rfl (on (rs (om rfl (om rfl (qqa (j_neg rfl (by omega) (by omega)) (qqa (j_max rfl rfl) (oa rfl (on (qql ?_))))))))))
 exact qjh rfl ⟨rfl, rfl, rfl⟩
theorem f_l1Abs (n : Int) (hn : -12 ≤ n ∧ n ≤ 12) : Fn Try.prog 63 [.p (.int .i64 (n))] [] (fun rr ii nn => rr = .p (.int .i64 (varOf n)) ∧ ii = [] ∧ nn = []) := by
 refine qjj Try.func63 rfl (nb rfl) fun w X g => ?_
 show AWp _ _ _ ⟨[(0, .p (.int .i64 (n)))], []⟩
 refine rs (oa rfl (on (qqd (rs (om rfl (qqa (qzk rfl rfl) (on (ac rfl (fun h1 => ?_) fun h1 => ?_))))))))
 ·
  have h1r := h1
  try simp only [nq, nr] at h1
  refine rs (om rfl (qqa (j_neg rfl (by omega) (by omega)) (oa rfl (on (qql ?_)))))
  exact qjh rfl ⟨qz7 (by unfold varOf; omega), rfl, rfl⟩
 have h1r := h1
 try simp only [nq, nr] at h1
 refine qqg (rs (om rfl (oa rfl (on (qql ?_)))))
 exact qjh rfl ⟨qz7 (by unfold varOf; omega), rfl, rfl⟩
theorem f_cvImpl (c : Con) : Fn Try.prog 81 [.agg [.sl (c.1.map dT), .p (.int .i64 c.2)]] [] (fun rr ii nn => rr = .p (.bool (cOk c)) ∧ ii = [] ∧ nn = []) := by
 refine qjj Try.func81 rfl (nb rfl) fun w X g => ?_
 show AWp _ _ _ ⟨[(0, .agg [.sl (c.1.map dT), .p (.int .i64 c.2)])], []⟩
 refine a_len_map2 0 rfl fun hlen => ?_
 refine rs (qqu (fun ver => j_boxa rfl) fun v1x1 => ?_)
 refine oa rfl (on (rs (oa rfl (on (qqd (rs (qqa (qqm qjp rfl rfl) (qqa (qqe qj7 rfl rfl rfl) (qqa (qqs Try.underlying54 rfl) (om rfl (on (qqh (qqt (ι := Nat) (fun k => k ≤ c.1.length ∧ okFrom 0 c.1 = okFrom (prevV c.1 k) (c.1.drop k)) (fun k r => (9, .p (.int .i64 ((k : Nat)))) :: (3, .p (.int .i64 (prevV c.1 k))) :: r) (fun k r => r) (fun k => c.1.length - k) (fun _ _ => rfl) (fun _ _ => rfl) 0 ⟨Nat.zero_le _, rfl⟩ ⟨⟨rfl, rfl⟩, ⟨rfl, rfl, trivial⟩, trivial, ⟨rfl, rfl⟩, ⟨rfl, rfl⟩⟩ ?_)))))))))))))
 intro k hpre
 refine rs (qqa (qzk rfl rfl) (on (qqd (ac rfl (fun h1 => ?_) fun h1 => ?_))))
 ·
  have h1r := h1
  try simp only [nq, nr] at h1
  refine qqg (qqd (qqh (rs (qqa (qq5 qz0 rfl rfl rfl (qqj (by omega)) rfl) (qqa (qjq (ys := [.p _, .p _]) agg83 rfl (qqj (by omega)) rfl (Nat.le_refl _)) (qqu (fun ver => qjw elt83 rfl) fun v5x2 => ?_))))))
  refine qjk (qqk agg83 rfl rfl rfl rfl rfl rfl) ?_
  refine on (qqd (rs (qqa (qqm qzn rfl rfl) (qqa (qqe qq7 rfl rfl rfl) ?_))))
  refine qq4 (qqp (v := .p _) (hp1 := []) [] false [] ent88 (f_isLit _) ⟨.inl ⟨rfl, rfl⟩, trivial⟩ trivial rfl rfl (fun h => by cases h) rfl (fun _ h => by cases h) (.inl rfl) rfl rfl) ?_
  refine qqa (j_not rfl) (om rfl (qq9 17 rfl (fun h2 => ?_) (fun h2 => ?_)))
  ·
   have h2r := h2
   try simp only [nq, nr] at h2
   refine qqa (qqb rfl rfl h2r) (qqa (qqb rfl rfl h2r) (qqa (qqb rfl rfl h2r) (qqa (qqb rfl rfl h2r) (qqa (qqb rfl rfl h2r) (qqa (qq6 rfl h2r (evo rfl)) (om rfl (qqa (qqb rfl rfl rfl) (qqa (qqb rfl rfl rfl) (qqa (qqb rfl rfl rfl) (qqa (qqb rfl rfl rfl) (qqa (qq6 rfl rfl (evo rfl)) (on (a_tt rfl ?_)))))))))))))
   refine rs (oa rfl (on (qql ?_)))
   exact qjh rfl ⟨qja (by symm; unfold cOk; rw [hpre.2, qjm (d := default) (by omega), (qzu (by rintro ⟨a1, a2, a3, a4⟩; first | omega | (rw [prevV_pos (by omega)] at a2; omega) | (simp_all; done))), Bool.false_and]), rfl, rfl⟩
  have h2r := h2
  try simp only [nq, nr] at h2
  refine qqa (qqf rfl rfl h2r (qqm qzn rfl rfl)) (qqa (qqf rfl rfl h2r (qqe qq7 rfl rfl rfl)) ?_)
  refine qq4 (qqf rfl rfl h2r (qqp (v := .p _) (hp1 := []) [] false [] ent70 (f_varOf _ (by have := litOk_iff.1 h2; omega)) ⟨.inl ⟨rfl, rfl⟩, trivial⟩ trivial rfl rfl (fun h => by cases h) rfl (fun _ h => by cases h) (.inl rfl) rfl rfl)) ?_
  refine qqa (qqf rfl rfl h2r (qqn (evo rfl))) (qqa (qqf rfl rfl h2r (j_le rfl rfl)) (qqa (qq3 rfl h2r (evo rfl)) (om rfl (qq9 24 rfl (fun h3 => ?_) (fun h3 => ?_)))))
  ·
   have h3r := h3
   try simp only [nq, nr] at h3
   refine qqa (qqb rfl rfl h3r) (qqa (qqb rfl rfl h3r) (qqa (qqb rfl rfl h3r) (qqa (qqb rfl rfl h3r) (qqa (qq6 rfl h3r (evo rfl)) (on (a_tt rfl ?_))))))
   refine rs (oa rfl (on (qql ?_)))
   exact qjh rfl ⟨qja (by symm; unfold cOk; rw [hpre.2, qjm (d := default) (by omega), (qzu (by rintro ⟨a1, a2, a3, a4⟩; first | omega | (rw [prevV_pos (by omega)] at a2; omega) | (simp_all; done))), Bool.false_and]), rfl, rfl⟩
  have h3r := h3
  try simp only [nq, nr] at h3
  refine qqa (qqf rfl rfl h3r (qqm fld83f0 rfl rfl)) (qqa (qqf rfl rfl h3r (qqe qq7 rfl rfl rfl)) ?_)
  refine qq4 (qqf rfl rfl h3r (qqp (v := .p _) (hp1 := []) [] false [] ent53 (f_within _ _ _) ⟨.inl ⟨rfl, rfl⟩, .inl ⟨rfl, rfl⟩, .inl ⟨rfl, rfl⟩, trivial⟩ trivial rfl rfl (fun h => by cases h) rfl (fun _ h => by cases h) (.inl rfl) rfl rfl)) ?_
  refine qqa (qqf rfl rfl h3r (j_not rfl)) (qqa (qq3 rfl h3r (evo rfl)) (on (ac rfl (fun h4 => ?_) fun h4 => ?_)))
  ·
   have h4r := h4
   try simp only [nq, nr] at h4
   refine rs (oa rfl (on (qql ?_)))
   exact qjh rfl ⟨qja (by symm; unfold cOk; rw [hpre.2, qjm (d := default) (by omega), (qzu (by rintro ⟨a1, a2, a3, a4⟩; first | omega | (rw [prevV_pos (by omega)] at a2; omega) | (simp_all; done))), Bool.false_and]), rfl, rfl⟩
  have h4r := h4
  try simp only [nq, nr] at h4
  refine qqg (ar (qqa (qqm qzn rfl rfl) (qqa (qqe qq7 rfl rfl rfl) ?_)))
  refine qq4 (qqp (v := .p _) (hp1 := []) [] false [] ent70 (f_varOf _ (by have := litOk_iff.1 h2; omega)) ⟨.inl ⟨rfl, rfl⟩, trivial⟩ trivial rfl rfl (fun h => by cases h) rfl (fun _ h => by cases h) (.inl rfl) rfl rfl) ?_
  refine oa rfl (on (ar (qqa (qje rfl rfl (by omega) (by omega)) (om rfl (on ?_)))))
  exact ⟨k + 1, ⟨by omega, by rw [hpre.2, qjm (d := default) (by omega), qzm h2 (by omega) (by omega) (by omega), prevV_succ]⟩, ⟨⟨rfl, rfl⟩, ⟨rfl, qz7 prevV_succ.symm, trivial⟩, trivial, ⟨rfl, rfl⟩, ⟨rfl, rfl⟩⟩, (by omega)⟩
 have h1r := h1
 try simp only [nq, nr] at h1
 refine qjf (rs (qqa (qqm fld56f1 rfl rfl) (qqa (qqe qq7 rfl rfl rfl) ?_)))
 refine qq4 (qqp (v := .p _) (hp1 := []) [] false [] ent53 (f_within _ _ _) ⟨.inl ⟨rfl, rfl⟩, .inl ⟨rfl, rfl⟩, .inl ⟨rfl, rfl⟩, trivial⟩ trivial rfl rfl (fun h => by cases h) rfl (fun _ h => by cases h) (.inl rfl) rfl rfl) ?_
 refine oa rfl (on (qql ?_))
 exact qjh rfl ⟨qja (by unfold cOk; rw [hpre.2, List.drop_of_length_le (by omega)]; simp only [okFrom, Bool.true_and]), rfl, rfl⟩
theorem f_cvSpec (c : Con) : Fn Try.prog 47 [.agg [.sl (c.1.map dT), .p (.int .i64 c.2)]] [] (fun rr ii nn => rr = .p (.bool (cOk c)) ∧ ii = [] ∧ nn = []) := by
 refine qjj Try.func47 rfl (nb rfl) fun w X g => ?_
 show AWp _ _ _ ⟨[(0, .agg [.sl (c.1.map dT), .p (.int .i64 c.2)])], []⟩
 refine a_len_map2 0 rfl fun hlen => ?_
 refine rs (qqu (fun ver => j_boxa rfl) fun v1x1 => ?_)
 refine oa rfl (on (qqd (rs (oa rfl (on (qqh (qqt (ι := Nat) (fun k => k ≤ c.1.length ∧ okFrom 0 c.1 = okFrom (prevV c.1 k) (c.1.drop k) ∧ (0 < k → litOk (c.1.getD (k - 1) default).2 = true)) (fun k r => (3, .p (.int .i64 ((k : Nat)))) :: r) (fun k r => r) (fun k => c.1.length - k) (fun _ _ => rfl) (fun _ _ => rfl) 0 ⟨Nat.zero_le _, rfl, fun h => absurd h (by decide)⟩ ⟨⟨rfl, rfl⟩, ⟨rfl, trivial⟩, trivial, ⟨rfl, rfl⟩, ⟨rfl, rfl⟩⟩ ?_)))))))
 intro k hpre
 refine qqd (rs (om rfl (qqa (qqm qjp rfl rfl) (qqa (qqe qj7 rfl rfl rfl) (qqa (qqs Try.underlying54 rfl) (qqa (qzk rfl rfl) (on (ac rfl (fun h1 => ?_) fun h1 => ?_))))))))
 ·
  have h1r := h1
  try simp only [nq, nr] at h1
  refine qqg (qqd (qqh (rs (qqa (qqm qjp rfl rfl) (qqa (qqe qj7 rfl rfl rfl) (om rfl (qqa (qq5 qz0 rfl rfl rfl (qqj (by omega)) rfl) (qqa (qjq (ys := [.p _, .p _]) agg83 rfl (qqj (by omega)) rfl (Nat.le_refl _)) (qqu (fun ver => qjw elt83 rfl) fun v4x2 => ?_)))))))))
  refine qjk (qqk agg83 rfl rfl rfl rfl rfl rfl) ?_
  refine on (qqd (a_draw mixed (by kernel_rfl) (by kernel_rfl) fun vf => ?_))
  refine qqq (qqm qzn rfl rfl) (qqq (qqe qq7 rfl rfl rfl) ?_)
  refine d_v0' (qqp (v := .p _) (hp1 := []) [] false [] ent62 (f_l1Lit _) ⟨.inl ⟨rfl, rfl⟩, trivial⟩ trivial rfl rfl (fun h => by cases h) rfl (fun _ h => by cases h) (.inl rfl) rfl rfl) ?_
  refine qqq (j_not rfl) (qqq (qqn (evo rfl)) (d_split' 21 rfl (fun h2 => ?_) (fun h2 => ?_)))
  ·
   have h2r := h2
   try simp only [nq, nr] at h2
   refine qqq (qqb rfl rfl h2r) (qqq (qqb rfl rfl h2r) (qqq (qqb rfl rfl h2r) (qqq (qq6 rfl h2r (evo rfl)) (qqq (qqn (evo rfl)) (qqq (qqb rfl rfl rfl) (qqq (qqb rfl rfl rfl) (qqq (qqb rfl rfl rfl) (qqq (qq6 rfl rfl (evo rfl)) (qqq (qqn (evo rfl)) (qqq (qqb rfl rfl rfl) (qqq (qqb rfl rfl rfl) (qqq (qqb rfl rfl rfl) (qqq (qqo rfl rfl) ?_)))))))))))))
   refine qqq (qqo rfl rfl) (qqq (qqo rfl rfl) (qqq (qqo rfl rfl) (qqq (qqo rfl rfl) (qqq (qqo rfl rfl) (qqq (qqo rfl rfl) (qqq (qqo rfl rfl) (qqq (qqo rfl rfl) (qqq (qqo rfl rfl) (qqq (qqo rfl rfl) (qqq (qqo rfl rfl) (qqq (qqb rfl rfl rfl) (qqq (qq6 rfl rfl (evo rfl)) (d_nil (by kernel_rfl) (by kernel_rfl) ?_)))))))))))))
   refine a_tt rfl ?_
   refine rs (oa rfl (on (qql ?_)))
   exact qjh rfl ⟨qja (by symm; unfold cOk; rw [hpre.2.1, qjm (d := default) (by omega), (qzu (by rintro ⟨a1, a2, a3, a4⟩; first | omega | (rw [prevV_pos (by omega)] at a2; omega) | (simp_all; done))), Bool.false_and]), rfl, rfl⟩
  have h2r := h2
  try simp only [nq, nr] at h2
  refine qqq (qqf rfl rfl h2r (qqm fld83f0 rfl rfl)) (qqq (qqf rfl rfl h2r (qqe qq7 rfl rfl rfl)) (qqq (qqf rfl rfl h2r (qzk rfl rfl)) (qqq (qq3 rfl h2r (evo rfl)) (qqq (qqn (evo rfl)) (d_split' 26 rfl (fun h3 => ?_) (fun h3 => ?_))))))
  ·
   have h3r := h3
   try simp only [nq, nr] at h3
   refine qqq (qqb rfl rfl h3r) (qqq (qqb rfl rfl h3r) (qqq (qqb rfl rfl h3r) (qqq (qq6 rfl h3r (evo rfl)) (qqq (qqn (evo rfl)) (qqq (qqb rfl rfl rfl) (qqq (qqb rfl rfl rfl) (qqq (qqb rfl rfl rfl) (qqq (qqo rfl rfl) (qqq (qqo rfl rfl) (qqq (qqo rfl rfl) (qqq (qqo rfl rfl) (qqq (qqo rfl rfl) (qqq (qqo rfl rfl) ?_)))))))))))))
   refine qqq (qqo rfl rfl) (qqq (qqo rfl rfl) (qqq (qqo rfl rfl) (qqq (qqo rfl rfl) (qqq (qqo rfl rfl) (qqq (qqo rfl rfl) (qqq (qqb rfl rfl rfl) (qqq (qq6 rfl rfl (evo rfl)) (d_nil (by kernel_rfl) (by kernel_rfl) ?_))))))))
   refine a_tt rfl ?_
   refine rs (oa rfl (on (qql ?_)))
   exact qjh rfl ⟨qja (by symm; unfold cOk; rw [hpre.2.1, qjm (d := default) (by omega), (qzu (by rintro ⟨a1, a2, a3, a4⟩; first | omega | (rw [prevV_pos (by omega)] at a2; omega) | (simp_all; done))), Bool.false_and]), rfl, rfl⟩
  have h3r := h3
  try simp only [nq, nr] at h3
  refine qqq (qqf rfl rfl h3r (qqm fld83f0 rfl rfl)) (qqq (qqf rfl rfl h3r (qqe qq7 rfl rfl rfl)) (qqq (qqf rfl rfl h3r (j_gt rfl rfl)) (qqq (qq3 rfl h3r (evo rfl)) (qqq (qqn (evo rfl)) (d_split' 31 rfl (fun h4 => ?_) (fun h4 => ?_))))))
  ·
   have h4r := h4
   try simp only [nq, nr] at h4
   refine qqq (qqb rfl rfl h4r) (qqq (qqb rfl rfl h4r) (qqq (qqb rfl rfl h4r) (qqq (qqo rfl rfl) (qqq (qqo rfl rfl) (qqq (qqo rfl rfl) (qqq (qqo rfl rfl) (qqq (qqo rfl rfl) (qqq (qqo rfl rfl) (qqq (qqo rfl rfl) (qqq (qqo rfl rfl) (qqq (qqo rfl rfl) (qqq (qqo rfl rfl) (qqq (qqo rfl rfl) ?_)))))))))))))
   refine qqq (qqo rfl rfl) (qqq (qqb rfl rfl h4r) (qqq (qq6 rfl h4r (evo rfl)) (d_nil (by kernel_rfl) (by kernel_rfl) ?_)))
   refine a_tt rfl ?_
   refine rs (oa rfl (on (qql ?_)))
   exact qjh rfl ⟨qja (by symm; unfold cOk; rw [hpre.2.1, qjm (d := default) (by omega), (qzu (by rintro ⟨a1, a2, a3, a4⟩; first | omega | (rw [prevV_pos (by omega)] at a2; omega) | (simp_all; done))), Bool.false_and]), rfl, rfl⟩
  have h4r := h4
  try simp only [nq, nr] at h4
  refine qqq (qqf rfl rfl h4r (qqn (evo rfl))) (qqq (qqf rfl rfl h4r (j_gt rfl rfl)) (qqq (qqf rfl rfl h4r (qqn (evo rfl))) (d_split' 34 rfl (fun h5 => ?_) (fun h5 => ?_))))
  ·
   have h5r := h5
   try simp only [nq, nr] at h5
   refine qqq (qqf rfl rfl h5r (qqm qjp rfl rfl)) (qqq (qqf rfl rfl h5r (qqe qj7 rfl rfl rfl)) (qqq (qqf rfl rfl h5r (qqn (evo rfl))) (qqq (qqf rfl rfl h5r (j_sub rfl rfl (by omega) (by omega))) (qqq (qqf rfl rfl h5r (qq5 (n := k - 1) qz0 rfl rfl (by omega) (qqj (by omega)) rfl)) ?_))))
   refine qqq (qqf rfl rfl h5r (qxa qzn rfl)) (qqq (qqf rfl rfl h5r (qqz qq7 rfl (qqj (by omega)) rfl)) ?_)
   refine d_v0' (qqf rfl rfl h5r (qqp (v := .p _) (hp1 := []) [] false [] ent63 (f_l1Abs _ (by have := litOk_iff.1 (hpre.2.2 (by omega)); omega)) ⟨.inl ⟨rfl, rfl⟩, trivial⟩ trivial rfl rfl (fun h => by cases h) rfl (fun _ h => by cases h) (.inl rfl) rfl rfl)) ?_
   refine qqq (qqf rfl rfl h5r (qqm qzn rfl rfl)) (qqq (qqf rfl rfl h5r (qqe qq7 rfl rfl rfl)) ?_)
   refine d_v0' (qqf rfl rfl h5r (qqp (v := .p _) (hp1 := []) [] false [] ent63 (f_l1Abs _ (by have := litOk_iff.1 h2; omega)) ⟨.inl ⟨rfl, rfl⟩, trivial⟩ trivial rfl rfl (fun h => by cases h) rfl (fun _ h => by cases h) (.inl rfl) rfl rfl)) ?_
   refine qqq (qqf rfl rfl h5r (j_ge rfl rfl)) (qqq (qqf rfl rfl h4r (qq6 rfl h5r (evo rfl))) (qqq (qq3 rfl h4r (evo rfl)) (d_nil (by kernel_rfl) (by kernel_rfl) ?_)))
   refine ac rfl (fun h6 => ?_) fun h6 => ?_
   ·
    have h6r := h6
    try simp only [nq, nr] at h6
    refine rs (oa rfl (on (qql ?_)))
    exact qjh rfl ⟨qja (by symm; unfold cOk; rw [hpre.2.1, qjm (d := default) (by omega), (qzu (by rintro ⟨a1, a2, a3, a4⟩; first | omega | (rw [prevV_pos (by omega)] at a2; omega) | (simp_all; done))), Bool.false_and]), rfl, rfl⟩
   have h6r := h6
   try simp only [nq, nr] at h6
   refine qqg (ar (om rfl (qqa (qje rfl rfl (by omega) (by omega)) (oa rfl (on ?_)))))
   exact ⟨k + 1, ⟨by omega, by rw [hpre.2.1, qjm (d := default) (by omega), qzm h2 (by first | (simp only [prevV]; split <;> first | omega | (have := varOf_pos h2; omega))) (by omega) (by omega), prevV_succ], fun _ => h2⟩, ⟨⟨rfl, rfl⟩, ⟨rfl, trivial⟩, trivial, ⟨rfl, rfl⟩, ⟨rfl, rfl⟩⟩, (by omega)⟩
  have h5r := h5
  try simp only [nq, nr] at h5
  refine qqq (qqb rfl rfl h5r) (qqq (qqb rfl rfl h5r) (qqq (qqb rfl rfl h5r) (qqq (qqb rfl rfl h5r) (qqq (qqb rfl rfl h5r) (qqq (qqb rfl rfl h5r) (qqq (qqb rfl rfl h5r) (qqq (qqb rfl rfl h5r) (qqq (qqb rfl rfl h5r) (qqq (qqb rfl rfl h5r) (qqq (qqb rfl rfl h5r) (qqq (qqb rfl rfl h5r) (qqq (qqf rfl rfl h4r (qq3 rfl h5r (evo rfl))) (qqq (qq3 rfl h4r (evo rfl)) (d_nil (by kernel_rfl) (by kernel_rfl) ?_))))))))))))))
  refine a_ff rfl ?_
  refine qqg (ar (om rfl (qqa (qje rfl rfl (by omega) (by omega)) (oa rfl (on ?_)))))
  exact ⟨k + 1, ⟨by omega, by rw [hpre.2.1, qjm (d := default) (by omega), qzm h2 (by first | (simp only [prevV]; split <;> first | omega | (have := varOf_pos h2; omega))) (by omega) (by omega), prevV_succ], fun _ => h2⟩, ⟨⟨rfl, rfl⟩, ⟨rfl, trivial⟩, trivial, ⟨rfl, rfl⟩, ⟨rfl, rfl⟩⟩, (by omega)⟩
 have h1r := h1
 try simp only [nq, nr] at h1
 refine qjf (rs (qqa (qqm fld56f1 rfl rfl) (qqa (qqe qq7 rfl rfl rfl) (qqa (j_ge rfl rfl) (om rfl (qq9 52 rfl (fun h7 => ?_) (fun h7 => ?_)))))))
 ·
  have h7r := h7
  try simp only [nq, nr] at h7
  refine qqa (qqf rfl rfl h7r (qqm fld56f1 rfl rfl)) (qqa (qqf rfl rfl h7r (qqe qq7 rfl rfl rfl)) (qqa (qqf rfl rfl h7r (j_le rfl rfl)) (qqa (qq6 rfl h7r (evo rfl)) (oa rfl (on (qql ?_))))))
  exact qjh rfl ⟨qja (by unfold cOk; rw [hpre.2.1, List.drop_of_length_le (by omega)]; simp only [okFrom, Bool.true_and]; exact biff (by simp only [decide_eq_true_eq, Bool.false_eq_true, false_iff]; omega)), rfl, rfl⟩
 have h7r := h7
 try simp only [nq, nr] at h7
 refine qqa (qqb rfl rfl h7r) (qqa (qqb rfl rfl h7r) (qqa (qqb rfl rfl h7r) (qqa (qq3 rfl h7r (evo rfl)) (oa rfl (on (qql ?_))))))
 exact qjh rfl ⟨qja (by unfold cOk; rw [hpre.2.1, List.drop_of_length_le (by omega)]; simp only [okFrom, Bool.true_and]; exact biff (by simp only [decide_eq_true_eq, Bool.false_eq_true, false_iff]; omega)), rfl, rfl⟩
end Go.Ab

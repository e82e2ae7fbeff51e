/- Walks. -/
import Derived.Test.YtoodaakcfelaaaaGreatBase
import Derived.Test.YtoodaakcfelaaaaGreatSimp
import Derived.Test.YtoodaakcfelaaaaGreatVals
namespace Go.Ab
open Go.Proofs
set_option maxRecDepth 100000
set_option maxHeartbeats 8000000
set_option linter.unusedSimpArgs false
set_option linter.unusedVariables false
theorem f_within (n lo hi : Int) : Fn Tryz.prog 113 [.p (.int .i64 (n)), .p (.int .i64 (lo)), .p (.int .i64 (hi))] [] (fun rr ii nn => rr = .p (.bool (decide (lo ≤ n ∧ n ≤ hi))) ∧ ii = [] ∧ nn = []) := by
 refine qjl Tryz.func113 rfl (nb rfl) fun w X g => ?_
 show AWp _ _ _ ⟨[(0, .p (.int .i64 (n))), (1, .p (.int .i64 (lo))), (2, .p (.int .i64 (hi)))], []⟩
 refine rs (oa rfl (on (rs (om rfl (om rfl (qqa (j_le rfl rfl) (om rfl (qqz 10 rfl (fun h1 => ?_) (fun h1 => ?_)))))))))
 ·
  have h1r := h1
  try simp only [nq, nr] at h1
  refine qqa (qqd rfl rfl h1r (qqj (evo rfl))) (qqa (qqd rfl rfl h1r (qqj (evo rfl))) (qqa (qqd rfl rfl h1r (j_le rfl rfl)) (qqa (qqr rfl h1r (evo rfl)) (oa rfl (on (qqx ?_))))))
  exact qjt rfl ⟨qje (biff (by simp only [decide_eq_true_eq, Bool.false_eq_true, false_iff, litOk_iff]; omega)), rfl, rfl⟩
 have h1r := h1
 try simp only [nq, nr] at h1
 refine qqa (qqb rfl rfl h1r) (qqa (qqb rfl rfl h1r) (qqa (qqb rfl rfl h1r) (qqa (qqy rfl h1r (evo rfl)) (oa rfl (on (qqx ?_))))))
 exact qjt rfl ⟨qje (biff (by simp only [decide_eq_true_eq, Bool.false_eq_true, false_iff, litOk_iff]; omega)), rfl, rfl⟩
theorem f_isLit (n : Int) : Fn Tryz.prog 106 [.p (.int .i64 (n))] [] (fun rr ii nn => rr = .p (.bool (litOk n)) ∧ ii = [] ∧ nn = []) := by
 refine qjl Tryz.func106 rfl (nb rfl) fun w X g => ?_
 show AWp _ _ _ ⟨[(0, .p (.int .i64 (n)))], []⟩
 refine rs (oa rfl (on (rs (om rfl (qqa (j_ne rfl rfl) (om rfl (qqz 5 rfl (fun h1 => ?_) (fun h1 => ?_))))))))
 ·
  have h1r := h1
  try simp only [nq, nr] at h1
  refine qqa (qqd rfl rfl h1r (qqj (evo rfl))) ?_
  refine qq0 (qqd rfl rfl h1r (qqn (v := .p _) (hp1 := []) [] false [] ent113 (f_within _ _ _) ⟨.inl ⟨rfl, rfl⟩, .inl ⟨rfl, rfl⟩, .inl ⟨rfl, rfl⟩, trivial⟩ trivial rfl rfl (fun h => by cases h) rfl (fun _ h => by cases h) (.inl rfl) rfl rfl)) ?_
  refine qqa (qqr rfl h1r (evo rfl)) (oa rfl (on (qqx ?_)))
  exact qjt rfl ⟨qje (biff (by simp only [decide_eq_true_eq, Bool.false_eq_true, false_iff, litOk_iff]; omega)), rfl, rfl⟩
 have h1r := h1
 try simp only [nq, nr] at h1
 refine qqa (qqb rfl rfl h1r) (qqa (qqb rfl rfl h1r) (qqa (qqy rfl h1r (evo rfl)) (oa rfl (on (qqx ?_)))))
 exact qjt rfl ⟨qje (biff (by simp only [decide_eq_true_eq, Bool.false_eq_true, false_iff, litOk_iff]; omega)), rfl, rfl⟩
theorem f_l1Lit (n : Int) : Fn Tryz.prog 170 [.p (.int .i64 (n))] [] (fun rr ii nn => rr = .p (.bool (litOk n)) ∧ ii = [] ∧ nn = []) := by
 refine qjl Tryz.func170 rfl (nb rfl) fun w X g => ?_
 show AWp _ _ _ ⟨[(0, .p (.int .i64 (n)))], []⟩
 refine rs (oa rfl (on (rs (om rfl (qqa (j_ne rfl rfl) (om rfl (qqz 5 rfl (fun h1 => ?_) (fun h1 => ?_))))))))
 ·
  have h1r := h1
  try simp only [nq, nr] at h1
  refine qqa (qqd rfl rfl h1r (qqj (evo rfl))) (qqa (qqd rfl rfl h1r (j_ge rfl rfl)) (qqa (qqr rfl h1r (evo rfl)) (om rfl (qqz 9 rfl (fun h2 => ?_) (fun h2 => ?_)))))
  ·
   have h2r := h2
   try simp only [nq, nr] at h2
   refine qqa (qqd rfl rfl h2r (qqj (evo rfl))) (qqa (qqd rfl rfl h2r (j_le rfl rfl)) (qqa (qqr rfl h2r (evo rfl)) (oa rfl (on (qqx ?_)))))
   exact qjt rfl ⟨qje (biff (by simp only [decide_eq_true_eq, Bool.false_eq_true, false_iff, litOk_iff]; omega)), rfl, rfl⟩
  have h2r := h2
  try simp only [nq, nr] at h2
  refine qqa (qqb rfl rfl h2r) (qqa (qqb rfl rfl h2r) (qqa (qqy rfl h2r (evo rfl)) (oa rfl (on (qqx ?_)))))
  exact qjt rfl ⟨qje (biff (by simp only [decide_eq_true_eq, Bool.false_eq_true, false_iff, litOk_iff]; omega)), rfl, rfl⟩
 have h1r := h1
 try simp only [nq, nr] at h1
 refine qqa (qqb rfl rfl h1r) (qqa (qqb rfl rfl h1r) (qqa (qqy rfl h1r (evo rfl)) (om rfl (qqa (qqb rfl rfl rfl) (qqa (qqb rfl rfl rfl) (qqa (qqy rfl rfl (evo rfl)) (oa rfl (on (qqx ?_)))))))))
 exact qjt rfl ⟨qje (biff (by simp only [decide_eq_true_eq, Bool.false_eq_true, false_iff, litOk_iff]; omega)), rfl, rfl⟩
theorem f_varOf (n : Int) (hn : -12 ≤ n ∧ n ≤ 12) : Fn Tryz.prog 111 [.p (.int .i64 (n))] [] (fun rr ii nn => rr = .p (.int .i64 (varOf n)) ∧ ii = [] ∧ nn = []) := by
 refine qjl Tryz.func111 rfl (nb rfl) fun w X g => ?_
 show AWp _ _ _ ⟨[(0, .p (.int .i64 (n)))], []⟩
 refine rs (oa rfl (on (rs (om rfl (om rfl (qqa (j_neg rfl (by omega) (by omega)) (qqa (j_max rfl rfl) (oa rfl (on (qqx ?_))))))))))
 exact qjt rfl ⟨rfl, rfl, rfl⟩
theorem f_l1Abs (n : Int) (hn : -12 ≤ n ∧ n ≤ 12) : Fn Tryz.prog 171 [.p (.int .i64 (n))] [] (fun rr ii nn => rr = .p (.int .i64 (varOf n)) ∧ ii = [] ∧ nn = []) := by
 refine qjl Tryz.func171 rfl (nb rfl) fun w X g => ?_
 show AWp _ _ _ ⟨[(0, .p (.int .i64 (n)))], []⟩
 refine rs (oa rfl (on (qqf (rs (om rfl (qqa (qzt rfl rfl) (on (ac rfl (fun h1 => ?_) fun h1 => ?_))))))))
 ·
  have h1r := h1
  try simp only [nq, nr] at h1
  refine rs (om rfl (qqa (j_neg rfl (by omega) (by omega)) (oa rfl (on (qqx ?_)))))
  exact qjt rfl ⟨qz1 (by unfold varOf; omega), rfl, rfl⟩
 have h1r := h1
 try simp only [nq, nr] at h1
 refine qqo (rs (om rfl (oa rfl (on (qqx ?_)))))
 exact qjt rfl ⟨qz1 (by unfold varOf; omega), rfl, rfl⟩
theorem f_cvImpl (c : Con) : Fn Tryz.prog 115 [.agg [.sl (c.1.map dT), .p (.int .i64 c.2)]] [] (fun rr ii nn => rr = .p (.bool (cOk c)) ∧ ii = [] ∧ nn = []) := by
 refine qjl Tryz.func115 rfl (nb rfl) fun w X g => ?_
 show AWp _ _ _ ⟨[(0, .agg [.sl (c.1.map dT), .p (.int .i64 c.2)])], []⟩
 refine a_len_map2 0 rfl fun hlen => ?_
 refine rs (qqv (fun ver => qzg rfl) fun v1x1 => ?_)
 refine oa rfl (on (rs (oa rfl (on (qqf (rs (qqa (qqi qjn rfl rfl) (qqa (qqc qjv rfl rfl rfl) (qqa (qqw Tryz.underlying67 rfl) (om rfl (on (qqk (qq4 (ι := Nat) (fun k => k ≤ c.1.length ∧ okFrom 0 c.1 = okFrom (prevV c.1 k) (c.1.drop k)) (fun k r => (9, .p (.int .i64 ((k : Nat)))) :: (3, .p (.int .i64 (prevV c.1 k))) :: r) (fun k r => r) (fun k => c.1.length - k) (fun _ _ => rfl) (fun _ _ => rfl) 0 ⟨Nat.zero_le _, rfl⟩ ⟨⟨rfl, rfl⟩, ⟨rfl, rfl, trivial⟩, trivial, ⟨rfl, rfl⟩, ⟨rfl, rfl⟩⟩ ?_)))))))))))))
 intro k hpre
 refine rs (qqa (qzt rfl rfl) (on (qqf (ac rfl (fun h1 => ?_) fun h1 => ?_))))
 ·
  have h1r := h1
  try simp only [nq, nr] at h1
  refine qqo (qqf (qqk (rs (qqa (qq9 qzc rfl rfl rfl (qqq (by omega)) rfl) (qqa (qjw (ys := [.p _, .p _]) qz7 rfl (qqq (by omega)) rfl (Nat.le_refl _)) (qqv (fun ver => qjd qjx rfl) fun v5x2 => ?_))))))
  refine qjg (qqe qz7 rfl rfl rfl rfl rfl rfl) ?_
  refine on (qqf (rs (qqa (qqi qzl rfl rfl) (qqa (qqc qq6 rfl rfl rfl) ?_))))
  refine qq0 (qqn (v := .p _) (hp1 := []) [] false [] ent106 (f_isLit _) ⟨.inl ⟨rfl, rfl⟩, trivial⟩ trivial rfl rfl (fun h => by cases h) rfl (fun _ h => by cases h) (.inl rfl) rfl rfl) ?_
  refine qqa (qzk rfl) (om rfl (qqz 17 rfl (fun h2 => ?_) (fun h2 => ?_)))
  ·
   have h2r := h2
   try simp only [nq, nr] at h2
   refine qqa (qqb rfl rfl h2r) (qqa (qqb rfl rfl h2r) (qqa (qqb rfl rfl h2r) (qqa (qqb rfl rfl h2r) (qqa (qqb rfl rfl h2r) (qqa (qqr rfl h2r (evo rfl)) (om rfl (qqa (qqb rfl rfl rfl) (qqa (qqb rfl rfl rfl) (qqa (qqb rfl rfl rfl) (qqa (qqb rfl rfl rfl) (qqa (qqr rfl rfl (evo rfl)) (on (a_tt rfl ?_)))))))))))))
   refine rs (oa rfl (on (qqx ?_)))
   exact qjt rfl ⟨qje (by symm; unfold cOk; rw [hpre.2, qjz (d := default) (by omega), (qzx (by rintro ⟨a1, a2, a3, a4⟩; first | omega | (rw [prevV_pos (by omega)] at a2; omega) | (simp_all; done))), Bool.false_and]), rfl, rfl⟩
  have h2r := h2
  try simp only [nq, nr] at h2
  refine qqa (qqd rfl rfl h2r (qqi qzl rfl rfl)) (qqa (qqd rfl rfl h2r (qqc qq6 rfl rfl rfl)) ?_)
  refine qq0 (qqd rfl rfl h2r (qqn (v := .p _) (hp1 := []) [] false [] ent111 (f_varOf _ (by have := litOk_iff.1 h2; omega)) ⟨.inl ⟨rfl, rfl⟩, trivial⟩ trivial rfl rfl (fun h => by cases h) rfl (fun _ h => by cases h) (.inl rfl) rfl rfl)) ?_
  refine qqa (qqd rfl rfl h2r (qqj (evo rfl))) (qqa (qqd rfl rfl h2r (j_le rfl rfl)) (qqa (qqy rfl h2r (evo rfl)) (om rfl (qqz 24 rfl (fun h3 => ?_) (fun h3 => ?_)))))
  ·
   have h3r := h3
   try simp only [nq, nr] at h3
   refine qqa (qqb rfl rfl h3r) (qqa (qqb rfl rfl h3r) (qqa (qqb rfl rfl h3r) (qqa (qqb rfl rfl h3r) (qqa (qqr rfl h3r (evo rfl)) (on (a_tt rfl ?_))))))
   refine rs (oa rfl (on (qqx ?_)))
   exact qjt rfl ⟨qje (by symm; unfold cOk; rw [hpre.2, qjz (d := default) (by omega), (qzx (by rintro ⟨a1, a2, a3, a4⟩; first | omega | (rw [prevV_pos (by omega)] at a2; omega) | (simp_all; done))), Bool.false_and]), rfl, rfl⟩
  have h3r := h3
  try simp only [nq, nr] at h3
  refine qqa (qqd rfl rfl h3r (qqi qzp rfl rfl)) (qqa (qqd rfl rfl h3r (qqc qq6 rfl rfl rfl)) ?_)
  refine qq0 (qqd rfl rfl h3r (qqn (v := .p _) (hp1 := []) [] false [] ent113 (f_within _ _ _) ⟨.inl ⟨rfl, rfl⟩, .inl ⟨rfl, rfl⟩, .inl ⟨rfl, rfl⟩, trivial⟩ trivial rfl rfl (fun h => by cases h) rfl (fun _ h => by cases h) (.inl rfl) rfl rfl)) ?_
  refine qqa (qqd rfl rfl h3r (qzk rfl)) (qqa (qqy rfl h3r (evo rfl)) (on (ac rfl (fun h4 => ?_) fun h4 => ?_)))
  ·
   have h4r := h4
   try simp only [nq, nr] at h4
   refine rs (oa rfl (on (qqx ?_)))
   exact qjt rfl ⟨qje (by symm; unfold cOk; rw [hpre.2, qjz (d := default) (by omega), (qzx (by rintro ⟨a1, a2, a3, a4⟩; first | omega | (rw [prevV_pos (by omega)] at a2; omega) | (simp_all; done))), Bool.false_and]), rfl, rfl⟩
  have h4r := h4
  try simp only [nq, nr] at h4
  refine qqo (ar (qqa (qqi qzl rfl rfl) (qqa (qqc qq6 rfl rfl rfl) ?_)))
  refine qq0 (qqn (v := .p _) (hp1 := []) [] false [] ent111 (f_varOf _ (by have := litOk_iff.1 h2; omega)) ⟨.inl ⟨rfl, rfl⟩, trivial⟩ trivial rfl rfl (fun h => by cases h) rfl (fun _ h => by cases h) (.inl rfl) rfl rfl) ?_
  refine oa rfl (on (ar (qqa (qjh rfl rfl (by omega) (by omega)) (om rfl (on ?_)))))
  exact ⟨k + 1, ⟨by omega, by rw [hpre.2, qjz (d := default) (by omega), qj2 h2 (by omega) (by omega) (by omega), prevV_succ]⟩, ⟨⟨rfl, rfl⟩, ⟨rfl, qz1 prevV_succ.symm, trivial⟩, trivial, ⟨rfl, rfl⟩, ⟨rfl, rfl⟩⟩, (by omega)⟩
 have h1r := h1
 try simp only [nq, nr] at h1
 refine qjf (rs (qqa (qqi qzi rfl rfl) (qqa (qqc qq6 rfl rfl rfl) ?_)))
 refine qq0 (qqn (v := .p _) (hp1 := []) [] false [] ent113 (f_within _ _ _) ⟨.inl ⟨rfl, rfl⟩, .inl ⟨rfl, rfl⟩, .inl ⟨rfl, rfl⟩, trivial⟩ trivial rfl rfl (fun h => by cases h) rfl (fun _ h => by cases h) (.inl rfl) rfl rfl) ?_
 refine oa rfl (on (qqx ?_))
 exact qjt rfl ⟨qje (by unfold cOk; rw [hpre.2, List.drop_of_length_le (by omega)]; simp only [okFrom, Bool.true_and]), rfl, rfl⟩
theorem f_cvSpec (c : Con) : Fn Tryz.prog 118 [.agg [.sl (c.1.map dT), .p (.int .i64 c.2)]] [] (fun rr ii nn => rr = .p (.bool (cOk c)) ∧ ii = [] ∧ nn = []) := by
 refine qjl Tryz.func118 rfl (nb rfl) fun w X g => ?_
 show AWp _ _ _ ⟨[(0, .agg [.sl (c.1.map dT), .p (.int .i64 c.2)])], []⟩
 refine a_len_map2 0 rfl fun hlen => ?_
 refine rs (qqv (fun ver => qzg rfl) fun v1x1 => ?_)
 refine oa rfl (on (qqf (rs (oa rfl (on (qqk (qq4 (ι := Nat) (fun k => k ≤ c.1.length ∧ okFrom 0 c.1 = okFrom (prevV c.1 k) (c.1.drop k) ∧ (0 < k → litOk (c.1.getD (k - 1) default).2 = true)) (fun k r => (3, .p (.int .i64 ((k : Nat)))) :: r) (fun k r => r) (fun k => c.1.length - k) (fun _ _ => rfl) (fun _ _ => rfl) 0 ⟨Nat.zero_le _, rfl, fun h => absurd h (by decide)⟩ ⟨⟨rfl, rfl⟩, ⟨rfl, trivial⟩, trivial, ⟨rfl, rfl⟩, ⟨rfl, rfl⟩⟩ ?_)))))))
 intro k hpre
 refine qqf (rs (om rfl (qqa (qqi qjn rfl rfl) (qqa (qqc qjv rfl rfl rfl) (qqa (qqw Tryz.underlying67 rfl) (qqa (qzt rfl rfl) (on (ac rfl (fun h1 => ?_) fun h1 => ?_))))))))
 ·
  have h1r := h1
  try simp only [nq, nr] at h1
  refine qqo (qqf (qqk (rs (qqa (qqi qjn rfl rfl) (qqa (qqc qjv rfl rfl rfl) (om rfl (qqa (qq9 qzc rfl rfl rfl (qqq (by omega)) rfl) (qqa (qjw (ys := [.p _, .p _]) qz7 rfl (qqq (by omega)) rfl (Nat.le_refl _)) (qqv (fun ver => qjd qjx rfl) fun v4x2 => ?_)))))))))
  refine qjg (qqe qz7 rfl rfl rfl rfl rfl rfl) ?_
  refine on (qqf (qj3 qzr (by kernel_rfl) (by kernel_rfl) fun vf => ?_))
  refine qql (qqi qzl rfl rfl) (qql (qqc qq6 rfl rfl rfl) ?_)
  refine d_v0' (qqn (v := .p _) (hp1 := []) [] false [] ent170 (f_l1Lit _) ⟨.inl ⟨rfl, rfl⟩, trivial⟩ trivial rfl rfl (fun h => by cases h) rfl (fun _ h => by cases h) (.inl rfl) rfl rfl) ?_
  refine qql (qzk rfl) (qql (qqj (evo rfl)) (d_split' 21 rfl (fun h2 => ?_) (fun h2 => ?_)))
  ·
   have h2r := h2
   try simp only [nq, nr] at h2
   refine qql (qqb rfl rfl h2r) (qql (qqb rfl rfl h2r) (qql (qqb rfl rfl h2r) (qql (qqr rfl h2r (evo rfl)) (qql (qqj (evo rfl)) (qql (qqb rfl rfl rfl) (qql (qqb rfl rfl rfl) (qql (qqb rfl rfl rfl) (qql (qqr rfl rfl (evo rfl)) (qql (qqj (evo rfl)) (qql (qqb rfl rfl rfl) (qql (qqb rfl rfl rfl) (qql (qqb rfl rfl rfl) (qql (qqp rfl rfl) ?_)))))))))))))
   refine qql (qqp rfl rfl) (qql (qqp rfl rfl) (qql (qqp rfl rfl) (qql (qqp rfl rfl) (qql (qqp rfl rfl) (qql (qqp rfl rfl) (qql (qqp rfl rfl) (qql (qqp rfl rfl) (qql (qqp rfl rfl) (qql (qqp rfl rfl) (qql (qqp rfl rfl) (qql (qqb rfl rfl rfl) (qql (qqr rfl rfl (evo rfl)) (qzf (by kernel_rfl) (by kernel_rfl) ?_)))))))))))))
   refine a_tt rfl ?_
   refine rs (oa rfl (on (qqx ?_)))
   exact qjt rfl ⟨qje (by symm; unfold cOk; rw [hpre.2.1, qjz (d := default) (by omega), (qzx (by rintro ⟨a1, a2, a3, a4⟩; first | omega | (rw [prevV_pos (by omega)] at a2; omega) | (simp_all; done))), Bool.false_and]), rfl, rfl⟩
  have h2r := h2
  try simp only [nq, nr] at h2
  refine qql (qqd rfl rfl h2r (qqi qzp rfl rfl)) (qql (qqd rfl rfl h2r (qqc qq6 rfl rfl rfl)) (qql (qqd rfl rfl h2r (qzt rfl rfl)) (qql (qqy rfl h2r (evo rfl)) (qql (qqj (evo rfl)) (d_split' 26 rfl (fun h3 => ?_) (fun h3 => ?_))))))
  ·
   have h3r := h3
   try simp only [nq, nr] at h3
   refine qql (qqb rfl rfl h3r) (qql (qqb rfl rfl h3r) (qql (qqb rfl rfl h3r) (qql (qqr rfl h3r (evo rfl)) (qql (qqj (evo rfl)) (qql (qqb rfl rfl rfl) (qql (qqb rfl rfl rfl) (qql (qqb rfl rfl rfl) (qql (qqp rfl rfl) (qql (qqp rfl rfl) (qql (qqp rfl rfl) (qql (qqp rfl rfl) (qql (qqp rfl rfl) (qql (qqp rfl rfl) ?_)))))))))))))
   refine qql (qqp rfl rfl) (qql (qqp rfl rfl) (qql (qqp rfl rfl) (qql (qqp rfl rfl) (qql (qqp rfl rfl) (qql (qqp rfl rfl) (qql (qqb rfl rfl rfl) (qql (qqr rfl rfl (evo rfl)) (qzf (by kernel_rfl) (by kernel_rfl) ?_))))))))
   refine a_tt rfl ?_
   refine rs (oa rfl (on (qqx ?_)))
   exact qjt rfl ⟨qje (by symm; unfold cOk; rw [hpre.2.1, qjz (d := default) (by omega), (qzx (by rintro ⟨a1, a2, a3, a4⟩; first | omega | (rw [prevV_pos (by omega)] at a2; omega) | (simp_all; done))), Bool.false_and]), rfl, rfl⟩
  have h3r := h3
  try simp only [nq, nr] at h3
  refine qql (qqd rfl rfl h3r (qqi qzp rfl rfl)) (qql (qqd rfl rfl h3r (qqc qq6 rfl rfl rfl)) (qql (qqd rfl rfl h3r (j_gt rfl rfl)) (qql (qqy rfl h3r (evo rfl)) (qql (qqj (evo rfl)) (d_split' 31 rfl (fun h4 => ?_) (fun h4 => ?_))))))
  ·
   have h4r := h4
   try simp only [nq, nr] at h4
   refine qql (qqb rfl rfl h4r) (qql (qqb rfl rfl h4r) (qql (qqb rfl rfl h4r) (qql (qqp rfl rfl) (qql (qqp rfl rfl) (qql (qqp rfl rfl) (qql (qqp rfl rfl) (qql (qqp rfl rfl) (qql (qqp rfl rfl) (qql (qqp rfl rfl) (qql (qqp rfl rfl) (qql (qqp rfl rfl) (qql (qqp rfl rfl) (qql (qqp rfl rfl) ?_)))))))))))))
   refine qql (qqp rfl rfl) (qql (qqb rfl rfl h4r) (qql (qqr rfl h4r (evo rfl)) (qzf (by kernel_rfl) (by kernel_rfl) ?_)))
   refine a_tt rfl ?_
   refine rs (oa rfl (on (qqx ?_)))
   exact qjt rfl ⟨qje (by symm; unfold cOk; rw [hpre.2.1, qjz (d := default) (by omega), (qzx (by rintro ⟨a1, a2, a3, a4⟩; first | omega | (rw [prevV_pos (by omega)] at a2; omega) | (simp_all; done))), Bool.false_and]), rfl, rfl⟩
  have h4r := h4
  try simp only [nq, nr] at h4
  refine qql (qqd rfl rfl h4r (qqj (evo rfl))) (qql (qqd rfl rfl h4r (j_gt rfl rfl)) (qql (qqd rfl rfl h4r (qqj (evo rfl))) (d_split' 34 rfl (fun h5 => ?_) (fun h5 => ?_))))
  ·
   have h5r := h5
   try simp only [nq, nr] at h5
   refine qql (qqd rfl rfl h5r (qqi qjn rfl rfl)) (qql (qqd rfl rfl h5r (qqc qjv rfl rfl rfl)) (qql (qqd rfl rfl h5r (qqj (evo rfl))) (qql (qqd rfl rfl h5r (qzw rfl rfl (by omega) (by omega))) (qql (qqd rfl rfl h5r (qq9 (n := k - 1) qzc rfl rfl (by omega) (qqq (by omega)) rfl)) ?_))))
   refine qql (qqd rfl rfl h5r (j_fldel qzl rfl)) (qql (qqd rfl rfl h5r (qq8 qq6 rfl (qqq (by omega)) rfl)) ?_)
   refine d_v0' (qqd rfl rfl h5r (qqn (v := .p _) (hp1 := []) [] false [] ent171 (f_l1Abs _ (by have := litOk_iff.1 (hpre.2.2 (by omega)); omega)) ⟨.inl ⟨rfl, rfl⟩, trivial⟩ trivial rfl rfl (fun h => by cases h) rfl (fun _ h => by cases h) (.inl rfl) rfl rfl)) ?_
   refine qql (qqd rfl rfl h5r (qqi qzl rfl rfl)) (qql (qqd rfl rfl h5r (qqc qq6 rfl rfl rfl)) ?_)
   refine d_v0' (qqd rfl rfl h5r (qqn (v := .p _) (hp1 := []) [] false [] ent171 (f_l1Abs _ (by have := litOk_iff.1 h2; omega)) ⟨.inl ⟨rfl, rfl⟩, trivial⟩ trivial rfl rfl (fun h => by cases h) rfl (fun _ h => by cases h) (.inl rfl) rfl rfl)) ?_
   refine qql (qqd rfl rfl h5r (j_ge rfl rfl)) (qql (qqd rfl rfl h4r (qqr rfl h5r (evo rfl))) (qql (qqy rfl h4r (evo rfl)) (qzf (by kernel_rfl) (by kernel_rfl) ?_)))
   refine ac rfl (fun h6 => ?_) fun h6 => ?_
   ·
    have h6r := h6
    try simp only [nq, nr] at h6
    refine rs (oa rfl (on (qqx ?_)))
    exact qjt rfl ⟨qje (by symm; unfold cOk; rw [hpre.2.1, qjz (d := default) (by omega), (qzx (by rintro ⟨a1, a2, a3, a4⟩; first | omega | (rw [prevV_pos (by omega)] at a2; omega) | (simp_all; done))), Bool.false_and]), rfl, rfl⟩
   have h6r := h6
   try simp only [nq, nr] at h6
   refine qqo (ar (om rfl (qqa (qjh rfl rfl (by omega) (by omega)) (oa rfl (on ?_)))))
   exact ⟨k + 1, ⟨by omega, by rw [hpre.2.1, qjz (d := default) (by omega), qj2 h2 (by first | (simp only [prevV]; split <;> first | omega | (have := varOf_pos h2; omega))) (by omega) (by omega), prevV_succ], fun _ => h2⟩, ⟨⟨rfl, rfl⟩, ⟨rfl, trivial⟩, trivial, ⟨rfl, rfl⟩, ⟨rfl, rfl⟩⟩, (by omega)⟩
  have h5r := h5
  try simp only [nq, nr] at h5
  refine qql (qqb rfl rfl h5r) (qql (qqb rfl rfl h5r) (qql (qqb rfl rfl h5r) (qql (qqb rfl rfl h5r) (qql (qqb rfl rfl h5r) (qql (qqb rfl rfl h5r) (qql (qqb rfl rfl h5r) (qql (qqb rfl rfl h5r) (qql (qqb rfl rfl h5r) (qql (qqb rfl rfl h5r) (qql (qqb rfl rfl h5r) (qql (qqb rfl rfl h5r) (qql (qqd rfl rfl h4r (qqy rfl h5r (evo rfl))) (qql (qqy rfl h4r (evo rfl)) (qzf (by kernel_rfl) (by kernel_rfl) ?_))))))))))))))
  refine a_ff rfl ?_
  refine qqo (ar (om rfl (qqa (qjh rfl rfl (by omega) (by omega)) (oa rfl (on ?_)))))
  exact ⟨k + 1, ⟨by omega, by rw [hpre.2.1, qjz (d := default) (by omega), qj2 h2 (by first | (simp only [prevV]; split <;> first | omega | (have := varOf_pos h2; omega))) (by omega) (by omega), prevV_succ], fun _ => h2⟩, ⟨⟨rfl, rfl⟩, ⟨rfl, trivial⟩, trivial, ⟨rfl, rfl⟩, ⟨rfl, rfl⟩⟩, (by omega)⟩
 have h1r := h1
 try simp only [nq, nr] at h1
 refine qjf (rs (qqa (qqi qzi rfl rfl) (qqa (qqc qq6 rfl rfl rfl) (qqa (j_ge rfl rfl) (om rfl (qqz 52 rfl (fun h7 => ?_) (fun h7 => ?_)))))))
 ·
  have h7r := h7
  try simp only [nq, nr] at h7
  refine qqa (qqd rfl rfl h7r (qqi qzi rfl rfl)) (qqa (qqd rfl rfl h7r (qqc qq6 rfl rfl rfl)) (qqa (qqd rfl rfl h7r (j_le rfl rfl)) (qqa (qqr rfl h7r (evo rfl)) (oa rfl (on (qqx ?_))))))
  exact qjt rfl ⟨qje (by unfold cOk; rw [hpre.2.1, List.drop_of_length_le (by omega)]; simp only [okFrom, Bool.true_and]; exact biff (by simp only [decide_eq_true_eq, Bool.false_eq_true, false_iff]; omega)), rfl, rfl⟩
 have h7r := h7
 try simp only [nq, nr] at h7
 refine qqa (qqb rfl rfl h7r) (qqa (qqb rfl rfl h7r) (qqa (qqb rfl rfl h7r) (qqa (qqy rfl h7r (evo rfl)) (oa rfl (on (qqx ?_))))))
 exact qjt rfl ⟨qje (by unfold cOk; rw [hpre.2.1, List.drop_of_length_le (by omega)]; simp only [okFrom, Bool.true_and]; exact biff (by simp only [decide_eq_true_eq, Bool.false_eq_true, false_iff]; omega)), rfl, rfl⟩
end Go.Ab

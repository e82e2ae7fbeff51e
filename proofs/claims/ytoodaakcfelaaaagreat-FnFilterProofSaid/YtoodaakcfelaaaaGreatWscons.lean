/- Walks. -/
import Derived.Test.YtoodaakcfelaaaaGreatBase
import Derived.Test.YtoodaakcfelaaaaGreatSimp
import Derived.Test.YtoodaakcfelaaaaGreatVals
namespace Go.Ab
open Go.Proofs
set_option maxRecDepth 100000
set_option maxHeartbeats 8000000
set_option linter.unusedSimpArgs false
set_option linter.unusedVariables false
theorem qxa (n lo hi : Int) : Fn Tryz.prog 113 [.p (.int .i64 (n)), .p (.int .i64 (lo)), .p (.int .i64 (hi))] [] (fun rr ii nn => rr = .p (.bool (decide (lo ≤ n ∧ n ≤ hi))) ∧ ii = [] ∧ nn = []) := by
 refine qjm Tryz.func113 rfl (nb rfl) fun w X g => ?_
 show AWp _ _ _ ⟨[(0, .p (.int .i64 (n))), (1, .p (.int .i64 (lo))), (2, .p (.int .i64 (hi)))], []⟩
 refine rs (oa rfl (on (rs (om rfl (om rfl (qqa (j_le rfl rfl) (om rfl (qqx 10 rfl (fun h1 => ?_) (fun h1 => ?_)))))))))
 ·
  have h1r := h1
  try simp only [nq, nr] at h1
  refine qqa (qqd rfl rfl h1r (qql (evo rfl))) (qqa (qqd rfl rfl h1r (qql (evo rfl))) (qqa (qqd rfl rfl h1r (j_le rfl rfl)) (qqa (qqu rfl h1r (evo rfl)) (oa rfl (on (qqm ?_))))))
  exact qq8 rfl ⟨qqv (biff (by simp only [decide_eq_true_eq, Bool.false_eq_true, false_iff, litOk_iff]; omega)), rfl, rfl⟩
 have h1r := h1
 try simp only [nq, nr] at h1
 refine qqa (qqb rfl rfl h1r) (qqa (qqb rfl rfl h1r) (qqa (qqb rfl rfl h1r) (qqa (qqt rfl h1r (evo rfl)) (oa rfl (on (qqm ?_))))))
 exact qq8 rfl ⟨qqv (biff (by simp only [decide_eq_true_eq, Bool.false_eq_true, false_iff, litOk_iff]; omega)), rfl, rfl⟩
theorem f_isLit (n : Int) : Fn Tryz.prog 106 [.p (.int .i64 (n))] [] (fun rr ii nn => rr = .p (.bool (litOk n)) ∧ ii = [] ∧ nn = []) := by
 refine qjm Tryz.func106 rfl (nb rfl) fun w X g => ?_
 show AWp _ _ _ ⟨[(0, .p (.int .i64 (n)))], []⟩
 refine rs (oa rfl (on (rs (om rfl (qqa (j_ne rfl rfl) (om rfl (qqx 5 rfl (fun h1 => ?_) (fun h1 => ?_))))))))
 ·
  have h1r := h1
  try simp only [nq, nr] at h1
  refine qqa (qqd rfl rfl h1r (qql (evo rfl))) ?_
  refine qq3 (qqd rfl rfl h1r (qqn (v := .p _) (hp1 := []) [] false [] ent113 (qxa _ _ _) ⟨.inl ⟨rfl, rfl⟩, .inl ⟨rfl, rfl⟩, .inl ⟨rfl, rfl⟩, trivial⟩ trivial rfl rfl (fun h => by cases h) rfl (fun _ h => by cases h) (.inl rfl) rfl rfl)) ?_
  refine qqa (qqu rfl h1r (evo rfl)) (oa rfl (on (qqm ?_)))
  exact qq8 rfl ⟨qqv (biff (by simp only [decide_eq_true_eq, Bool.false_eq_true, false_iff, litOk_iff]; omega)), rfl, rfl⟩
 have h1r := h1
 try simp only [nq, nr] at h1
 refine qqa (qqb rfl rfl h1r) (qqa (qqb rfl rfl h1r) (qqa (qqt rfl h1r (evo rfl)) (oa rfl (on (qqm ?_)))))
 exact qq8 rfl ⟨qqv (biff (by simp only [decide_eq_true_eq, Bool.false_eq_true, false_iff, litOk_iff]; omega)), rfl, rfl⟩
theorem f_varOf (n : Int) (hn : -12 ≤ n ∧ n ≤ 12) : Fn Tryz.prog 111 [.p (.int .i64 (n))] [] (fun rr ii nn => rr = .p (.int .i64 (varOf n)) ∧ ii = [] ∧ nn = []) := by
 refine qjm Tryz.func111 rfl (nb rfl) fun w X g => ?_
 show AWp _ _ _ ⟨[(0, .p (.int .i64 (n)))], []⟩
 refine rs (oa rfl (on (rs (om rfl (om rfl (qqa (j_neg rfl (by omega) (by omega)) (qqa (j_max rfl rfl) (oa rfl (on (qqm ?_))))))))))
 exact qq8 rfl ⟨rfl, rfl, rfl⟩
theorem f_cvImpl (c : Con) : Fn Tryz.prog 115 [.agg [.sl (c.1.map dT), .p (.int .i64 c.2)]] [] (fun rr ii nn => rr = .p (.bool (cOk c)) ∧ ii = [] ∧ nn = []) := by
 refine qjm Tryz.func115 rfl (nb rfl) fun w X g => ?_
 show AWp _ _ _ ⟨[(0, .agg [.sl (c.1.map dT), .p (.int .i64 c.2)])], []⟩
 refine a_len_map2 0 rfl fun hlen => ?_
 refine rs (qq5 (fun ver => qj3 rfl) fun v1x1 => ?_)
 refine oa rfl (on (rs (oa rfl (on (qqe (rs (qqa (qqi fld69f0 rfl rfl) (qqa (qqc leaf67 rfl rfl rfl) (qqa (qqg Tryz.underlying67 rfl) (om rfl (on (qqf (qqr (ι := Nat) (fun k => k ≤ c.1.length ∧ okFrom 0 c.1 = okFrom (prevV c.1 k) (c.1.drop k)) (fun k r => (9, .p (.int .i64 ((k : Nat)))) :: (3, .p (.int .i64 (prevV c.1 k))) :: r) (fun k r => r) (fun k => c.1.length - k) (fun _ _ => rfl) (fun _ _ => rfl) 0 ⟨Nat.zero_le _, rfl⟩ ⟨⟨rfl, rfl⟩, ⟨rfl, rfl, trivial⟩, trivial, ⟨rfl, rfl⟩, ⟨rfl, rfl⟩⟩ ?_)))))))))))))
 intro k hpre
 refine rs (qqa (qzb rfl rfl) (on (qqe (ac rfl (fun h1 => ?_) fun h1 => ?_))))
 ·
  have h1r := h1
  try simp only [nq, nr] at h1
  refine qqj (qqe (qqf (rs (qqa (qqy slt67 rfl rfl rfl (qqh (by omega)) rfl) (qqa (qzf (ys := [.p _, .p _]) agg135 rfl (qqh (by omega)) rfl (Nat.le_refl _)) (qq5 (fun ver => qjv qz3 rfl) fun v5x2 => ?_))))))
  refine qjo (qqs agg135 rfl rfl rfl rfl rfl rfl) ?_
  refine on (qqe (rs (qqa (qqi fld135f1 rfl rfl) (qqa (qqc qq2 rfl rfl rfl) ?_))))
  refine qq3 (qqn (v := .p _) (hp1 := []) [] false [] ent106 (f_isLit _) ⟨.inl ⟨rfl, rfl⟩, trivial⟩ trivial rfl rfl (fun h => by cases h) rfl (fun _ h => by cases h) (.inl rfl) rfl rfl) ?_
  refine qqa (qzw rfl) (om rfl (qqx 17 rfl (fun h2 => ?_) (fun h2 => ?_)))
  ·
   have h2r := h2
   try simp only [nq, nr] at h2
   refine qqa (qqb rfl rfl h2r) (qqa (qqb rfl rfl h2r) (qqa (qqb rfl rfl h2r) (qqa (qqb rfl rfl h2r) (qqa (qqb rfl rfl h2r) (qqa (qqu rfl h2r (evo rfl)) (om rfl (qqa (qqb rfl rfl rfl) (qqa (qqb rfl rfl rfl) (qqa (qqb rfl rfl rfl) (qqa (qqb rfl rfl rfl) (qqa (qqu rfl rfl (evo rfl)) (on (a_tt rfl ?_)))))))))))))
   refine rs (oa rfl (on (qqm ?_)))
   exact qq8 rfl ⟨qqv (by symm; unfold cOk; rw [hpre.2, drop_getD (d := default) (by omega), (okFrom_bad (by rintro ⟨a1, a2, a3, a4⟩; first | omega | (rw [prevV_pos (by omega)] at a2; omega) | (simp_all; done))), Bool.false_and]), rfl, rfl⟩
  have h2r := h2
  try simp only [nq, nr] at h2
  refine qqa (qqd rfl rfl h2r (qqi fld135f1 rfl rfl)) (qqa (qqd rfl rfl h2r (qqc qq2 rfl rfl rfl)) ?_)
  refine qq3 (qqd rfl rfl h2r (qqn (v := .p _) (hp1 := []) [] false [] ent111 (f_varOf _ (by have := litOk_iff.1 h2; omega)) ⟨.inl ⟨rfl, rfl⟩, trivial⟩ trivial rfl rfl (fun h => by cases h) rfl (fun _ h => by cases h) (.inl rfl) rfl rfl)) ?_
  refine qqa (qqd rfl rfl h2r (qql (evo rfl))) (qqa (qqd rfl rfl h2r (j_le rfl rfl)) (qqa (qqt rfl h2r (evo rfl)) (om rfl (qqx 24 rfl (fun h3 => ?_) (fun h3 => ?_)))))
  ·
   have h3r := h3
   try simp only [nq, nr] at h3
   refine qqa (qqb rfl rfl h3r) (qqa (qqb rfl rfl h3r) (qqa (qqb rfl rfl h3r) (qqa (qqb rfl rfl h3r) (qqa (qqu rfl h3r (evo rfl)) (on (a_tt rfl ?_))))))
   refine rs (oa rfl (on (qqm ?_)))
   exact qq8 rfl ⟨qqv (by symm; unfold cOk; rw [hpre.2, drop_getD (d := default) (by omega), (okFrom_bad (by rintro ⟨a1, a2, a3, a4⟩; first | omega | (rw [prevV_pos (by omega)] at a2; omega) | (simp_all; done))), Bool.false_and]), rfl, rfl⟩
  have h3r := h3
  try simp only [nq, nr] at h3
  refine qqa (qqd rfl rfl h3r (qqi fld135f0 rfl rfl)) (qqa (qqd rfl rfl h3r (qqc qq2 rfl rfl rfl)) ?_)
  refine qq3 (qqd rfl rfl h3r (qqn (v := .p _) (hp1 := []) [] false [] ent113 (qxa _ _ _) ⟨.inl ⟨rfl, rfl⟩, .inl ⟨rfl, rfl⟩, .inl ⟨rfl, rfl⟩, trivial⟩ trivial rfl rfl (fun h => by cases h) rfl (fun _ h => by cases h) (.inl rfl) rfl rfl)) ?_
  refine qqa (qqd rfl rfl h3r (qzw rfl)) (qqa (qqt rfl h3r (evo rfl)) (on (ac rfl (fun h4 => ?_) fun h4 => ?_)))
  ·
   have h4r := h4
   try simp only [nq, nr] at h4
   refine rs (oa rfl (on (qqm ?_)))
   exact qq8 rfl ⟨qqv (by symm; unfold cOk; rw [hpre.2, drop_getD (d := default) (by omega), (okFrom_bad (by rintro ⟨a1, a2, a3, a4⟩; first | omega | (rw [prevV_pos (by omega)] at a2; omega) | (simp_all; done))), Bool.false_and]), rfl, rfl⟩
  have h4r := h4
  try simp only [nq, nr] at h4
  refine qqj (ar (qqa (qqi fld135f1 rfl rfl) (qqa (qqc qq2 rfl rfl rfl) ?_)))
  refine qq3 (qqn (v := .p _) (hp1 := []) [] false [] ent111 (f_varOf _ (by have := litOk_iff.1 h2; omega)) ⟨.inl ⟨rfl, rfl⟩, trivial⟩ trivial rfl rfl (fun h => by cases h) rfl (fun _ h => by cases h) (.inl rfl) rfl rfl) ?_
  refine oa rfl (on (ar (qqa (qjh rfl rfl (by omega) (by omega)) (om rfl (on ?_)))))
  exact ⟨k + 1, ⟨by omega, by rw [hpre.2, drop_getD (d := default) (by omega), okFrom_good h2 (by omega) (by omega) (by omega), prevV_succ]⟩, ⟨⟨rfl, rfl⟩, ⟨rfl, qzg prevV_succ.symm, trivial⟩, trivial, ⟨rfl, rfl⟩, ⟨rfl, rfl⟩⟩, (by omega)⟩
 have h1r := h1
 try simp only [nq, nr] at h1
 refine qja (rs (qqa (qqi fld69f1 rfl rfl) (qqa (qqc qq2 rfl rfl rfl) ?_)))
 refine qq3 (qqn (v := .p _) (hp1 := []) [] false [] ent113 (qxa _ _ _) ⟨.inl ⟨rfl, rfl⟩, .inl ⟨rfl, rfl⟩, .inl ⟨rfl, rfl⟩, trivial⟩ trivial rfl rfl (fun h => by cases h) rfl (fun _ h => by cases h) (.inl rfl) rfl rfl) ?_
 refine oa rfl (on (qqm ?_))
 exact qq8 rfl ⟨qqv (by unfold cOk; rw [hpre.2, List.drop_of_length_le (by omega)]; simp only [okFrom, Bool.true_and]), rfl, rfl⟩
end Go.Ab

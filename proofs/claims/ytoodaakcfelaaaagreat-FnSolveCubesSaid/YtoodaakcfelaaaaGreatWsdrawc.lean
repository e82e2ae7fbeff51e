/- Walks. -/
import Derived.Test.YtoodaakcfelaaaaGreatBase
import Derived.Test.YtoodaakcfelaaaaGreatSimp
import Derived.Test.YtoodaakcfelaaaaGreatWsdraw
import Derived.Test.YtoodaakcfelaaaaGreatWsexcl2
import Derived.Test.YtoodaakcfelaaaaGreatWstab
namespace Go.Ab
open Go.Proofs
set_option maxRecDepth 100000
set_option maxHeartbeats 8000000
set_option linter.unusedSimpArgs false
set_option linter.unusedVariables false
theorem f_eqTerms (a b : List Term) : Fn Tryz.prog 137 [.sl (a.map dT), .sl (b.map dT)] [] (fun rr ii nn => rr = .p (.bool (decide (a = b))) ∧ ii = [] ∧ nn = []) := by
 refine qjl Tryz.func137 rfl (nb rfl) fun w X g => ?_
 show AWp _ _ _ ⟨[(0, .sl (a.map dT)), (1, .sl (b.map dT))], []⟩
 refine a_len_map 0 rfl fun hla => ?_
 refine rs (oa rfl (on (qqf (rs (om rfl (qqa (qqw Tryz.underlying67 rfl) (om rfl (qqa (qqw Tryz.underlying67 rfl) (qqa (j_ne rfl rfl) (on (ac rfl (fun h1 => ?_) fun h1 => ?_)))))))))))
 ·
  have h1r := h1
  try simp only [nq, nr] at h1
  refine rs (oa rfl (on (qqx ?_)))
  exact qjt rfl ⟨qje (by symm; rw [decide_eq_false_iff_not]; rintro rfl; exact h1 rfl), rfl, rfl⟩
 have h1r := h1
 try simp only [nq, nr] at h1
 refine qqo (qqf (rs (om rfl (qqa (qqw Tryz.underlying67 rfl) (om rfl (on (qqk (qq4 (ι := Nat) (fun k => k ≤ a.length ∧ a.take k = b.take k) (fun k r => (13, .p (.int .i64 ((k : Nat)))) :: r) (fun k r => r) (fun k => a.length - k) (fun _ _ => rfl) (fun _ _ => rfl) 0 ⟨Nat.zero_le _, rfl⟩ ⟨⟨rfl, rfl⟩, ⟨rfl, trivial⟩, trivial, ⟨rfl, rfl⟩, ⟨rfl, rfl⟩⟩ ?_))))))))
 intro k hpre0
 refine rs (qqa (qzt rfl rfl) (on (qqf (ac rfl (fun h2 => ?_) fun h2 => ?_))))
 ·
  have h2r := h2
  try simp only [nq, nr] at h2
  refine qqo (qqf (qqk (rs (om rfl (oa rfl (on (qqf (qj3 qzr (by kernel_rfl) (by kernel_rfl) fun vf => ?_))))))))
  refine qql (qqj (evo rfl)) (qql (qqj (evo rfl)) (qql (qq9 qzc rfl rfl rfl (qqq (by omega)) rfl) (qql (qjw (ys := [.p _, .p _]) qz7 rfl (qqq (by omega)) rfl (Nat.le_refl _)) (qql (qqj (evo rfl)) (qql (qqj (evo rfl)) (qql (qq9 qzc rfl rfl rfl (qqq (by omega)) rfl) (qql (qjw (ys := [.p _, .p _]) qz7 rfl (qqq (by omega)) rfl (Nat.le_refl _)) (qql (j_ne2 eqt135 rfl rfl) (qzf (by kernel_rfl) (by kernel_rfl) ?_)))))))))
  refine ac rfl (fun h3 => ?_) fun h3 => ?_
  ·
   have h3r := h3
   try simp only [nq, nr] at h3
   refine rs (oa rfl (on (qqx ?_)))
   exact qjt rfl ⟨qje (by symm; rw [decide_eq_false_iff_not]; rintro rfl; exact of_decide_eq_true h3r rfl), rfl, rfl⟩
  have h3r := h3
  try simp only [nq, nr] at h3
  refine qqo (ar (qqa (qjh rfl rfl (by omega) (by omega)) (om rfl (on ?_))))
  exact ⟨k + 1, ⟨(by omega), take_next hpre0.2 (by omega) (by omega) (Classical.not_not.1 (of_decide_eq_false h3r))⟩, ⟨⟨rfl, rfl⟩, ⟨rfl, trivial⟩, trivial, ⟨rfl, rfl⟩, ⟨rfl, rfl⟩⟩, (by omega)⟩
 have h2r := h2
 try simp only [nq, nr] at h2
 refine qjf (rs (oa rfl (on (qqx ?_))))
 exact qjt rfl ⟨qje (by symm; rw [decide_eq_true_eq]; exact take_eq hpre0.2 (by omega) (by omega)), rfl, rfl⟩
theorem f_same (c d : Con) : Fn Tryz.prog 78 [.agg [.sl (c.1.map dT), .p (.int .i64 c.2)], .agg [.sl (d.1.map dT), .p (.int .i64 d.2)]] [] (fun rr ii nn => rr = .p (.bool (decide (c = d))) ∧ ii = [] ∧ nn = []) := by
 refine qjl Tryz.func78 rfl (nb rfl) fun w X g => ?_
 show AWp _ _ _ ⟨[(0, .agg [.sl (c.1.map dT), .p (.int .i64 c.2)]), (1, .agg [.sl (d.1.map dT), .p (.int .i64 d.2)])], []⟩
 refine rs (qqv (fun ver => qzg rfl) fun v2x1 => ?_)
 refine qqv (fun ver => qzg rfl) fun v3x2 => ?_
 refine oa rfl (on (rs (qqa (qqi qzi rfl rfl) (qqa (qqc qq6 rfl rfl rfl) (qqa (qqi qzi rfl rfl) (qqa (qqc qq6 rfl rfl rfl) (qqa (qz5 rfl rfl) (om rfl (qqz 10 rfl (fun h1 => ?_) (fun h1 => ?_))))))))))
 ·
  have h1r := h1
  try simp only [nq, nr] at h1
  refine qqa (qqd rfl rfl h1r (qqi qjn rfl rfl)) (qqa (qqd rfl rfl h1r (qqc qjv rfl rfl rfl)) (qqa (qqd rfl rfl h1r (qqi qjn rfl rfl)) (qqa (qqd rfl rfl h1r (qqc qjv rfl rfl rfl)) ?_)))
  refine qq0 (qqd rfl rfl h1r (qqn (v := .p _) (hp1 := []) [] false [] ent137 (f_eqTerms c.1 d.1) ⟨.inl ⟨rfl, rfl⟩, .inl ⟨rfl, rfl⟩, trivial⟩ trivial rfl rfl (fun h => by cases h) rfl (fun _ h => by cases h) (.inl rfl) rfl rfl)) ?_
  refine qqa (qqr rfl h1r (evo rfl)) (oa rfl (on (qqx ?_)))
  exact qjt rfl ⟨qje (by first | exact decide_eq_decide.2 ⟨fun h => Prod.ext h h1, fun h => congrArg Prod.fst h⟩ | exact (decide_eq_false (fun h => h1 (congrArg Prod.snd h))).symm), rfl, rfl⟩
 have h1r := h1
 try simp only [nq, nr] at h1
 refine qqa (qqb rfl rfl h1r) (qqa (qqb rfl rfl h1r) (qqa (qqb rfl rfl h1r) (qqa (qqb rfl rfl h1r) (qqa (qqb rfl rfl h1r) (qqa (qqy rfl h1r (evo rfl)) (oa rfl (on (qqx ?_))))))))
 exact qjt rfl ⟨qje (by first | exact decide_eq_decide.2 ⟨fun h => Prod.ext h h1, fun h => congrArg Prod.fst h⟩ | exact (decide_eq_false (fun h => h1 (congrArg Prod.snd h))).symm), rfl, rfl⟩
end Go.Ab

/- Walks. -/
import Derived.Test.YtoodaakcfelaaaaGreatBase
import Derived.Test.YtoodaakcfelaaaaGreatSimp
import Derived.Test.YtoodaakcfelaaaaGreatWscons
import Derived.Test.YtoodaakcfelaaaaGreatVals
namespace Go.Ab
open Go.Proofs
set_option maxRecDepth 100000
set_option maxHeartbeats 8000000
set_option linter.unusedSimpArgs false
set_option linter.unusedVariables false
theorem f_areVars (vs : List Int) : Fn Tryz.prog 70 [.sl (vs.map dI)] [] (fun rr ii nn => rr = .p (.bool (varsFrom 0 vs)) ∧ ii = [] ∧ nn = []) := by
 refine qjl Tryz.func70 rfl (nb rfl) fun w X g => ?_
 show AWp _ _ _ ⟨[(0, .sl (vs.map dI))], []⟩
 refine a_len_map 0 rfl fun hlen => ?_
 refine rs (oa rfl (on (qqf (rs (om rfl (qqa (qqw Tryz.underlying23 rfl) (om rfl (on (qqk (qq4 (ι := Nat) (fun k => k ≤ vs.length ∧ varsFrom 0 vs = varsFrom (prevI vs k) (vs.drop k)) (fun k r => (7, .p (.int .i64 ((k : Nat)))) :: r) (fun k r => r) (fun k => vs.length - k) (fun _ _ => rfl) (fun _ _ => rfl) 0 ⟨Nat.zero_le _, rfl⟩ ⟨⟨rfl, rfl⟩, ⟨rfl, trivial⟩, trivial, ⟨rfl, rfl⟩, ⟨rfl, rfl⟩⟩ ?_))))))))))
 intro k hpre
 refine rs (qqa (qzt rfl rfl) (on (qqf (ac rfl (fun h1 => ?_) fun h1 => ?_))))
 ·
  have h1r := h1
  try simp only [nq, nr] at h1
  refine qqo (qqf (qqk (rs (om rfl (qqa (qq9 qjb rfl rfl rfl (qqq (by omega)) rfl) (qqa (qq8 qq6 rfl (qqq (by omega)) rfl) (oa rfl (oa rfl (on (rs (om rfl ?_)))))))))))
  refine qq0 (qqn (v := .p _) (hp1 := []) [] false [] ent113 (f_within _ _ _) ⟨.inl ⟨rfl, rfl⟩, .inl ⟨rfl, rfl⟩, .inl ⟨rfl, rfl⟩, trivial⟩ trivial rfl rfl (fun h => by cases h) rfl (fun _ h => by cases h) (.inl rfl) rfl rfl) ?_
  refine qqa (qzk rfl) (om rfl (qqz 15 rfl (fun h2 => ?_) (fun h2 => ?_)))
  ·
   have h2r := h2
   try simp only [nq, nr] at h2
   refine qqa (qqb rfl rfl h2r) (qqa (qqb rfl rfl h2r) (qqa (qqb rfl rfl h2r) (qqa (qqp rfl rfl) (qqa (qqp rfl rfl) (qqa (qqp rfl rfl) (qqa (qqp rfl rfl) (qqa (qqp rfl rfl) (qqa (qqp rfl rfl) (qqa (qqp rfl rfl) (qqa (qqb rfl rfl h2r) (qqa (qqr rfl h2r (evo rfl)) (on (a_tt rfl ?_)))))))))))))
   refine rs (oa rfl (on (qqx ?_)))
   exact qjt rfl ⟨qje (by symm; rw [hpre.2, qjz (d := default) (by omega), (varsFrom_bad (by rintro ⟨a1, a2, a3⟩; first | omega | (rw [prevI_pos (by omega)] at a1; omega)))]), rfl, rfl⟩
  have h2r := h2
  try simp only [nq, nr] at h2
  refine qqa (qqd rfl rfl h2r (qqj (evo rfl))) (qqa (qqd rfl rfl h2r (j_gt rfl rfl)) (qqa (qqd rfl rfl h2r (qqj (evo rfl))) (qqz 18 rfl (fun h3 => ?_) (fun h3 => ?_))))
  ·
   have h3r := h3
   try simp only [nq, nr] at h3
   refine qqa (qqd rfl rfl h3r (qqj (evo rfl))) (qqa (qqd rfl rfl h3r (qqj (evo rfl))) (qqa (qqd rfl rfl h3r (qzw rfl rfl (by omega) (by omega))) (qqa (qqd rfl rfl h3r (qq9 (n := k - 1) qjb rfl rfl (by omega) (qqq (by omega)) rfl)) ?_)))
   refine qqa (qqd rfl rfl h3r (qq8 qq6 rfl (qqq (by omega)) rfl)) ?_
   refine qqa (qqd rfl rfl h3r (qqj (evo rfl))) (qqa (qqd rfl rfl h3r (j_ge rfl rfl)) (qqa (qqd rfl rfl h2r (qqr rfl h3r (evo rfl))) (qqa (qqy rfl h2r (evo rfl)) (on (ac rfl (fun h4 => ?_) fun h4 => ?_)))))
   ·
    have h4r := h4
    try simp only [nq, nr] at h4
    refine rs (oa rfl (on (qqx ?_)))
    exact qjt rfl ⟨qje (by symm; rw [hpre.2, qjz (d := default) (by omega), (varsFrom_bad (by rintro ⟨a1, a2, a3⟩; first | omega | (rw [prevI_pos (by omega)] at a1; omega)))]), rfl, rfl⟩
   have h4r := h4
   try simp only [nq, nr] at h4
   refine qqo (ar (qqa (qjh rfl rfl (by omega) (by omega)) (om rfl (on ?_))))
   exact ⟨k + 1, ⟨by omega, by rw [hpre.2, qjz (d := default) (by omega), qxb (by first | (rw [prevI_pos (by omega)]; omega) | (rw [prevI_zero (by omega)]; omega)) (by omega) (by omega), prevI_succ]⟩, ⟨⟨rfl, rfl⟩, ⟨rfl, trivial⟩, trivial, ⟨rfl, rfl⟩, ⟨rfl, rfl⟩⟩, (by omega)⟩
  have h3r := h3
  try simp only [nq, nr] at h3
  refine qqa (qqb rfl rfl h3r) (qqa (qqb rfl rfl h3r) (qqa (qqb rfl rfl h3r) (qqa (qqb rfl rfl h3r) (qqa (qqb rfl rfl h3r) (qqa (qqb rfl rfl h3r) (qqa (qqb rfl rfl h3r) (qqa (qqd rfl rfl h2r (qqy rfl h3r (evo rfl))) (qqa (qqy rfl h2r (evo rfl)) (on (a_ff rfl ?_))))))))))
  refine qqo (ar (qqa (qjh rfl rfl (by omega) (by omega)) (om rfl (on ?_))))
  exact ⟨k + 1, ⟨by omega, by rw [hpre.2, qjz (d := default) (by omega), qxb (by first | (rw [prevI_pos (by omega)]; omega) | (rw [prevI_zero (by omega)]; omega)) (by omega) (by omega), prevI_succ]⟩, ⟨⟨rfl, rfl⟩, ⟨rfl, trivial⟩, trivial, ⟨rfl, rfl⟩, ⟨rfl, rfl⟩⟩, (by omega)⟩
 have h1r := h1
 try simp only [nq, nr] at h1
 refine qjf (rs (oa rfl (on (qqx ?_))))
 exact qjt rfl ⟨qje (by symm; rw [hpre.2, List.drop_of_length_le (by omega)]; rfl), rfl, rfl⟩
end Go.Ab

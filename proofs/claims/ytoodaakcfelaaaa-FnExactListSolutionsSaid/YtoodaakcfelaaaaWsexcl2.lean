/- Walks. -/
import Derived.Test.YtoodaakcfelaaaaBase
import Derived.Test.YtoodaakcfelaaaaSimp
import Derived.Test.YtoodaakcfelaaaaWsexcl
namespace Go.Ab
open Go.Proofs
set_option maxRecDepth 100000
set_option maxHeartbeats 8000000
set_option linter.unusedSimpArgs false
set_option linter.unusedVariables false
theorem f_areVars (vs : List Int) : Fn Try.prog 52 [.sl (vs.map dI)] [] (fun rr ii nn => rr = .p (.bool (varsFrom 0 vs)) ∧ ii = [] ∧ nn = []) := by
 refine qjj Try.func52 rfl (nb rfl) fun w X g => ?_
 show AWp _ _ _ ⟨[(0, .sl (vs.map dI))], []⟩
 refine qzb 0 rfl fun hlen => ?_
 refine rs (oa rfl (on (qqd (rs (om rfl (qqa (qqs Try.underlying23 rfl) (om rfl (on (qqh (qqt (ι := Nat) (fun k => k ≤ vs.length ∧ varsFrom 0 vs = varsFrom (prevI vs k) (vs.drop k)) (fun k r => (7, .p (.int .i64 ((k : Nat)))) :: r) (fun k r => r) (fun k => vs.length - k) (fun _ _ => rfl) (fun _ _ => rfl) 0 ⟨Nat.zero_le _, rfl⟩ ⟨⟨rfl, rfl⟩, ⟨rfl, trivial⟩, trivial, ⟨rfl, rfl⟩, ⟨rfl, rfl⟩⟩ ?_))))))))))
 intro k hpre
 refine rs (qqa (qzk rfl rfl) (on (qqd (ac rfl (fun h1 => ?_) fun h1 => ?_))))
 ·
  have h1r := h1
  try simp only [nq, nr] at h1
  refine qqg (qqd (qqh (rs (om rfl (qqa (qq5 qjg rfl rfl rfl (qqj (by omega)) rfl) (qqa (qqz qq7 rfl (qqj (by omega)) rfl) (oa rfl (oa rfl (on (rs (om rfl ?_)))))))))))
  refine qq4 (qqp (v := .p _) (hp1 := []) [] false [] ent53 (f_within _ _ _) ⟨.inl ⟨rfl, rfl⟩, .inl ⟨rfl, rfl⟩, .inl ⟨rfl, rfl⟩, trivial⟩ trivial rfl rfl (fun h => by cases h) rfl (fun _ h => by cases h) (.inl rfl) rfl rfl) ?_
  refine qqa (j_not rfl) (om rfl (qq9 15 rfl (fun h2 => ?_) (fun h2 => ?_)))
  ·
   have h2r := h2
   try simp only [nq, nr] at h2
   refine qqa (qqb rfl rfl h2r) (qqa (qqb rfl rfl h2r) (qqa (qqb rfl rfl h2r) (qqa (qqo rfl rfl) (qqa (qqo rfl rfl) (qqa (qqo rfl rfl) (qqa (qqo rfl rfl) (qqa (qqo rfl rfl) (qqa (qqo rfl rfl) (qqa (qqo rfl rfl) (qqa (qqb rfl rfl h2r) (qqa (qq6 rfl h2r (evo rfl)) (on (a_tt rfl ?_)))))))))))))
   refine rs (oa rfl (on (qql ?_)))
   exact qjh rfl ⟨qja (by symm; rw [hpre.2, qjm (d := default) (by omega), (varsFrom_bad (by rintro ⟨a1, a2, a3⟩; first | omega | (rw [prevI_pos (by omega)] at a1; omega)))]), rfl, rfl⟩
  have h2r := h2
  try simp only [nq, nr] at h2
  refine qqa (qqf rfl rfl h2r (qqn (evo rfl))) (qqa (qqf rfl rfl h2r (j_gt rfl rfl)) (qqa (qqf rfl rfl h2r (qqn (evo rfl))) (qq9 18 rfl (fun h3 => ?_) (fun h3 => ?_))))
  ·
   have h3r := h3
   try simp only [nq, nr] at h3
   refine qqa (qqf rfl rfl h3r (qqn (evo rfl))) (qqa (qqf rfl rfl h3r (qqn (evo rfl))) (qqa (qqf rfl rfl h3r (j_sub rfl rfl (by omega) (by omega))) (qqa (qqf rfl rfl h3r (qq5 (n := k - 1) qjg rfl rfl (by omega) (qqj (by omega)) rfl)) ?_)))
   refine qqa (qqf rfl rfl h3r (qqz qq7 rfl (qqj (by omega)) rfl)) ?_
   refine qqa (qqf rfl rfl h3r (qqn (evo rfl))) (qqa (qqf rfl rfl h3r (j_ge rfl rfl)) (qqa (qqf rfl rfl h2r (qq6 rfl h3r (evo rfl))) (qqa (qq3 rfl h2r (evo rfl)) (on (ac rfl (fun h4 => ?_) fun h4 => ?_)))))
   ·
    have h4r := h4
    try simp only [nq, nr] at h4
    refine rs (oa rfl (on (qql ?_)))
    exact qjh rfl ⟨qja (by symm; rw [hpre.2, qjm (d := default) (by omega), (varsFrom_bad (by rintro ⟨a1, a2, a3⟩; first | omega | (rw [prevI_pos (by omega)] at a1; omega)))]), rfl, rfl⟩
   have h4r := h4
   try simp only [nq, nr] at h4
   refine qqg (ar (qqa (qje rfl rfl (by omega) (by omega)) (om rfl (on ?_))))
   exact ⟨k + 1, ⟨by omega, by rw [hpre.2, qjm (d := default) (by omega), varsFrom_good (by first | (rw [prevI_pos (by omega)]; omega) | (rw [prevI_zero (by omega)]; omega)) (by omega) (by omega), prevI_succ]⟩, ⟨⟨rfl, rfl⟩, ⟨rfl, trivial⟩, trivial, ⟨rfl, rfl⟩, ⟨rfl, rfl⟩⟩, (by omega)⟩
  have h3r := h3
  try simp only [nq, nr] at h3
  refine qqa (qqb rfl rfl h3r) (qqa (qqb rfl rfl h3r) (qqa (qqb rfl rfl h3r) (qqa (qqb rfl rfl h3r) (qqa (qqb rfl rfl h3r) (qqa (qqb rfl rfl h3r) (qqa (qqb rfl rfl h3r) (qqa (qqf rfl rfl h2r (qq3 rfl h3r (evo rfl))) (qqa (qq3 rfl h2r (evo rfl)) (on (a_ff rfl ?_))))))))))
  refine qqg (ar (qqa (qje rfl rfl (by omega) (by omega)) (om rfl (on ?_))))
  exact ⟨k + 1, ⟨by omega, by rw [hpre.2, qjm (d := default) (by omega), varsFrom_good (by first | (rw [prevI_pos (by omega)]; omega) | (rw [prevI_zero (by omega)]; omega)) (by omega) (by omega), prevI_succ]⟩, ⟨⟨rfl, rfl⟩, ⟨rfl, trivial⟩, trivial, ⟨rfl, rfl⟩, ⟨rfl, rfl⟩⟩, (by omega)⟩
 have h1r := h1
 try simp only [nq, nr] at h1
 refine qjf (rs (oa rfl (on (qql ?_))))
 exact qjh rfl ⟨qja (by symm; rw [hpre.2, List.drop_of_length_le (by omega)]; rfl), rfl, rfl⟩
theorem f_l14Vars (vs : List Int) : Fn Try.prog 24 [.sl (vs.map dI)] [] (fun rr ii nn => rr = .p (.bool (varsFrom 0 vs)) ∧ ii = [] ∧ nn = []) := by
 refine qjj Try.func24 rfl (nb rfl) fun w X g => ?_
 show AWp _ _ _ ⟨[(0, .sl (vs.map dI))], []⟩
 refine qzb 0 rfl fun hlen => ?_
 refine rs (oa rfl (on (qqd (rs (oa rfl (on (qqh (qqt (ι := Nat) (fun k => k ≤ vs.length ∧ varsFrom 0 vs = varsFrom (prevI vs k) (vs.drop k)) (fun k r => (3, .p (.int .i64 ((k : Nat)))) :: r) (fun k r => r) (fun k => vs.length - k) (fun _ _ => rfl) (fun _ _ => rfl) 0 ⟨Nat.zero_le _, rfl⟩ ⟨⟨rfl, rfl⟩, ⟨rfl, trivial⟩, trivial, ⟨rfl, rfl⟩, ⟨rfl, rfl⟩⟩ ?_))))))))
 intro k hpre
 refine qqd (rs (om rfl (om rfl (qqa (qqs Try.underlying23 rfl) (qqa (qzk rfl rfl) (on (ac rfl (fun h1 => ?_) fun h1 => ?_)))))))
 ·
  have h1r := h1
  try simp only [nq, nr] at h1
  refine qqg (qqd (qqh (qqd (a_draw mixed (by kernel_rfl) (by kernel_rfl) fun vf => ?_))))
  refine qqq (qqn (evo rfl)) (qqq (qqn (evo rfl)) (qqq (qq5 qjg rfl rfl rfl (qqj (by omega)) rfl) (qqq (qqz qq7 rfl (qqj (by omega)) rfl) (qqq (qzk rfl rfl) (qqq (qqn (evo rfl)) (d_split' 15 rfl (fun h2 => ?_) (fun h2 => ?_)))))))
  ·
   have h2r := h2
   try simp only [nq, nr] at h2
   refine qqq (qqb rfl rfl h2r) (qqq (qqb rfl rfl h2r) (qqq (qqb rfl rfl h2r) (qqq (qqb rfl rfl h2r) (qqq (qqb rfl rfl h2r) (qqq (qq6 rfl h2r (evo rfl)) (qqq (qqn (evo rfl)) (qqq (qqb rfl rfl rfl) (qqq (qqb rfl rfl rfl) (qqq (qqb rfl rfl rfl) (qqq (qqo rfl rfl) (qqq (qqo rfl rfl) (qqq (qqo rfl rfl) (qqq (qqo rfl rfl) ?_)))))))))))))
   refine qqq (qqo rfl rfl) (qqq (qqo rfl rfl) (qqq (qqo rfl rfl) (qqq (qqo rfl rfl) (qqq (qqo rfl rfl) (qqq (qqo rfl rfl) (qqq (qqb rfl rfl rfl) (qqq (qq6 rfl rfl (evo rfl)) (d_nil (by kernel_rfl) (by kernel_rfl) ?_))))))))
   refine a_tt rfl ?_
   refine rs (oa rfl (on (qql ?_)))
   exact qjh rfl ⟨qja (by symm; rw [hpre.2, qjm (d := default) (by omega), (varsFrom_bad (by rintro ⟨a1, a2, a3⟩; first | omega | (rw [prevI_pos (by omega)] at a1; omega)))]), rfl, rfl⟩
  have h2r := h2
  try simp only [nq, nr] at h2
  refine qqq (qqf rfl rfl h2r (qqn (evo rfl))) (qqq (qqf rfl rfl h2r (qqn (evo rfl))) (qqq (qqf rfl rfl h2r (qq5 qjg rfl rfl rfl (qqj (by omega)) rfl)) ?_))
  refine qqq (qqf rfl rfl h2r (qqz qq7 rfl (qqj (by omega)) rfl)) ?_
  refine qqq (qqf rfl rfl h2r (j_gt rfl rfl)) (qqq (qq3 rfl h2r (evo rfl)) (qqq (qqn (evo rfl)) (d_split' 22 rfl (fun h3 => ?_) (fun h3 => ?_))))
  ·
   have h3r := h3
   try simp only [nq, nr] at h3
   refine qqq (qqb rfl rfl h3r) (qqq (qqb rfl rfl h3r) (qqq (qqb rfl rfl h3r) (qqq (qqo rfl rfl) (qqq (qqo rfl rfl) (qqq (qqo rfl rfl) (qqq (qqo rfl rfl) (qqq (qqo rfl rfl) (qqq (qqo rfl rfl) (qqq (qqo rfl rfl) (qqq (qqo rfl rfl) (qqq (qqo rfl rfl) (qqq (qqo rfl rfl) (qqq (qqb rfl rfl h3r) ?_)))))))))))))
   refine qqq (qq6 rfl h3r (evo rfl)) (d_nil (by kernel_rfl) (by kernel_rfl) ?_)
   refine a_tt rfl ?_
   refine rs (oa rfl (on (qql ?_)))
   exact qjh rfl ⟨qja (by symm; rw [hpre.2, qjm (d := default) (by omega), (varsFrom_bad (by rintro ⟨a1, a2, a3⟩; first | omega | (rw [prevI_pos (by omega)] at a1; omega)))]), rfl, rfl⟩
  have h3r := h3
  try simp only [nq, nr] at h3
  refine qqq (qqf rfl rfl h3r (qqn (evo rfl))) (qqq (qqf rfl rfl h3r (j_gt rfl rfl)) (qqq (qqf rfl rfl h3r (qqn (evo rfl))) (d_split' 25 rfl (fun h4 => ?_) (fun h4 => ?_))))
  ·
   have h4r := h4
   try simp only [nq, nr] at h4
   refine qqq (qqf rfl rfl h4r (qqn (evo rfl))) (qqq (qqf rfl rfl h4r (qqn (evo rfl))) (qqq (qqf rfl rfl h4r (j_sub rfl rfl (by omega) (by omega))) (qqq (qqf rfl rfl h4r (qq5 (n := k - 1) qjg rfl rfl (by omega) (qqj (by omega)) rfl)) ?_)))
   refine qqq (qqf rfl rfl h4r (qqz qq7 rfl (qqj (by omega)) rfl)) ?_
   refine qqq (qqf rfl rfl h4r (qqn (evo rfl))) (qqq (qqf rfl rfl h4r (qqn (evo rfl))) (qqq (qqf rfl rfl h4r (qq5 qjg rfl rfl rfl (qqj (by omega)) rfl)) ?_))
   refine qqq (qqf rfl rfl h4r (qqz qq7 rfl (qqj (by omega)) rfl)) ?_
   refine qqq (qqf rfl rfl h4r (j_ge rfl rfl)) (qqq (qqf rfl rfl h3r (qq6 rfl h4r (evo rfl))) (qqq (qq3 rfl h3r (evo rfl)) (d_nil (by kernel_rfl) (by kernel_rfl) ?_)))
   refine ac rfl (fun h5 => ?_) fun h5 => ?_
   ·
    have h5r := h5
    try simp only [nq, nr] at h5
    refine rs (oa rfl (on (qql ?_)))
    exact qjh rfl ⟨qja (by symm; rw [hpre.2, qjm (d := default) (by omega), (varsFrom_bad (by rintro ⟨a1, a2, a3⟩; first | omega | (rw [prevI_pos (by omega)] at a1; omega)))]), rfl, rfl⟩
   have h5r := h5
   try simp only [nq, nr] at h5
   refine qqg (ar (om rfl (qqa (qje rfl rfl (by omega) (by omega)) (oa rfl (on ?_)))))
   exact ⟨k + 1, ⟨by omega, by rw [hpre.2, qjm (d := default) (by omega), varsFrom_good (by first | (rw [prevI_pos (by omega)]; omega) | (rw [prevI_zero (by omega)]; omega)) (by omega) (by omega), prevI_succ]⟩, ⟨⟨rfl, rfl⟩, ⟨rfl, trivial⟩, trivial, ⟨rfl, rfl⟩, ⟨rfl, rfl⟩⟩, (by omega)⟩
  have h4r := h4
  try simp only [nq, nr] at h4
  refine qqq (qqb rfl rfl h4r) (qqq (qqb rfl rfl h4r) (qqq (qqb rfl rfl h4r) (qqq (qqb rfl rfl h4r) (qqq (qqb rfl rfl h4r) (qqq (qqb rfl rfl h4r) (qqq (qqb rfl rfl h4r) (qqq (qqb rfl rfl h4r) (qqq (qqb rfl rfl h4r) (qqq (qqb rfl rfl h4r) (qqq (qqf rfl rfl h3r (qq3 rfl h4r (evo rfl))) (qqq (qq3 rfl h3r (evo rfl)) (d_nil (by kernel_rfl) (by kernel_rfl) ?_))))))))))))
  refine a_ff rfl ?_
  refine qqg (ar (om rfl (qqa (qje rfl rfl (by omega) (by omega)) (oa rfl (on ?_)))))
  exact ⟨k + 1, ⟨by omega, by rw [hpre.2, qjm (d := default) (by omega), varsFrom_good (by first | (rw [prevI_pos (by omega)]; omega) | (rw [prevI_zero (by omega)]; omega)) (by omega) (by omega), prevI_succ]⟩, ⟨⟨rfl, rfl⟩, ⟨rfl, trivial⟩, trivial, ⟨rfl, rfl⟩, ⟨rfl, rfl⟩⟩, (by omega)⟩
 have h1r := h1
 try simp only [nq, nr] at h1
 refine qjf (rs (oa rfl (on (qql ?_))))
 exact qjh rfl ⟨qja (by symm; rw [hpre.2, List.drop_of_length_le (by omega)]; rfl), rfl, rfl⟩
end Go.Ab

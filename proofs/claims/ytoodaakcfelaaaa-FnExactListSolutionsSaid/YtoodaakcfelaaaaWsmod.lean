/- Walks. -/
import Derived.Test.YtoodaakcfelaaaaBase
import Derived.Test.YtoodaakcfelaaaaFd
import Derived.Test.YtoodaakcfelaaaaWsfun
import Derived.Test.YtoodaakcfelaaaaWscons
import Derived.Test.YtoodaakcfelaaaaWsexcl
import Derived.Test.YtoodaakcfelaaaaWsparse
namespace Go.Ab
open Go.Proofs
set_option maxRecDepth 100000
set_option maxHeartbeats 8000000
set_option linter.unusedSimpArgs false
set_option linter.unusedVariables false
theorem f_indexInt (l : List Int) (v : Int) : Fn Try.prog 95 [.sl (l.map dI), .p (.int .i64 v)] [] (fun rr ii nn => rr = .p (.int .i64 (idxF (fun a => decide (v = a)) l 0)) ∧ ii = [] ∧ nn = []) := by
 refine qjj Try.func95 rfl (nb rfl) fun w X g => ?_
 show AWp _ _ _ ⟨[(0, .sl (l.map dI)), (1, .p (.int .i64 v))], []⟩
 refine qzb 0 rfl fun hlen => ?_
 refine rs (oa rfl (on (qqd (rs (om rfl (qqa (qqs Try.underlying23 rfl) (om rfl (on (qqh (qqt (ι := Nat) (fun k => k ≤ l.length ∧ idxF (fun a => decide (v = a)) l 0 = idxF (fun a => decide (v = a)) (l.drop k) (k : Int)) (fun k r => (8, .p (.int .i64 ((k : Nat)))) :: r) (fun k r => r) (fun k => l.length - k) (fun _ _ => rfl) (fun _ _ => rfl) 0 ⟨Nat.zero_le _, rfl⟩ ⟨⟨rfl, rfl⟩, ⟨rfl, trivial⟩, trivial, ⟨rfl, rfl⟩, ⟨rfl, rfl⟩⟩ ?_))))))))))
 intro k hpre
 refine rs (qqa (qzk rfl rfl) (on (qqd (ac rfl (fun h1 => ?_) fun h1 => ?_))))
 ·
  have h1r := h1
  try simp only [nq, nr] at h1
  refine qqg (qqd (qqh (rs (om rfl (oa rfl (on (rs (om rfl (om rfl (om rfl (qqa (qq5 qjg rfl rfl rfl (qqj (by omega)) rfl) (qqa (qqz qq7 rfl (qqj (by omega)) rfl) (qqa (j_eq rfl rfl) ?_)))))))))))))
  refine on (ac rfl (fun h2 => ?_) fun h2 => ?_)
  ·
   have h2r := h2
   try simp only [nq, nr] at h2
   refine rs (om rfl (oa rfl (on (qql ?_))))
   exact qjh rfl ⟨qz7 (by rw [hpre.2, idxF_hit (d := default) (by omega) (by first | (rw [decide_eq_true_eq]; assumption) | (simp_all; done))]), rfl, rfl⟩
  have h2r := h2
  try simp only [nq, nr] at h2
  refine qqg (ar (qqa (qje rfl rfl (by omega) (by omega)) (om rfl (on ?_))))
  exact ⟨k + 1, ⟨by omega, by rw [hpre.2, idxF_skip (d := default) (by omega) (by first | (rw [decide_eq_false_iff_not]; assumption) | (simp_all; done))]⟩, ⟨⟨rfl, rfl⟩, ⟨rfl, trivial⟩, trivial, ⟨rfl, rfl⟩, ⟨rfl, rfl⟩⟩, (by omega)⟩
 have h1r := h1
 try simp only [nq, nr] at h1
 refine qjf (rs (oa rfl (on (qql ?_))))
 exact qjh rfl ⟨qz7 (by rw [hpre.2, idxF_end (by omega)]), rfl, rfl⟩
theorem f_containsInt (l : List Int) (v : Int) : Fn Try.prog 90 [.sl (l.map dI), .p (.int .i64 v)] [] (fun rr ii nn => rr = .p (.bool (decide (v ∈ l))) ∧ ii = [] ∧ nn = []) := by
 refine qjj Try.func90 rfl (nb rfl) fun w X g => ?_
 show AWp _ _ _ ⟨[(0, .sl (l.map dI)), (1, .p (.int .i64 v))], []⟩
 refine rs (oa rfl (on (rs (om rfl (om rfl ?_)))))
 refine qq4 (qqp (v := .p _) (hp1 := []) [] false [] ent95 (f_indexInt l v) ⟨.inl ⟨rfl, rfl⟩, .inl ⟨rfl, rfl⟩, trivial⟩ trivial rfl rfl (fun h => by cases h) rfl (fun _ h => by cases h) (.inl rfl) rfl rfl) ?_
 refine qqa (j_ge rfl rfl) (oa rfl (on (qql ?_)))
 exact qjh rfl ⟨qja ((idxF_any (Int.le_refl 0)).trans any_mem), rfl, rfl⟩
end Go.Ab

/- Walks. -/
import Derived.Test.YtoodaakcfelaaaaGreatBase
import Derived.Test.YtoodaakcfelaaaaGreatFlt2
import Derived.Test.YtoodaakcfelaaaaGreatWsfun
import Derived.Test.YtoodaakcfelaaaaGreatWscons
import Derived.Test.YtoodaakcfelaaaaGreatSimp
import Derived.Test.YtoodaakcfelaaaaGreatVals
namespace Go.Ab
open Go.Proofs
set_option maxRecDepth 100000
set_option maxHeartbeats 8000000
set_option linter.unusedSimpArgs false
set_option linter.unusedVariables false
theorem f_indexInt (l : List Int) (v : Int) : Fn Tryz.prog 166 [.sl (l.map dI), .p (.int .i64 v)] [] (fun rr ii nn => rr = .p (.int .i64 (idxF (fun a => decide (v = a)) l 0)) ∧ ii = [] ∧ nn = []) := by
 refine qjl Tryz.func166 rfl (nb rfl) fun w X g => ?_
 show AWp _ _ _ ⟨[(0, .sl (l.map dI)), (1, .p (.int .i64 v))], []⟩
 refine a_len_map 0 rfl fun hlen => ?_
 refine rs (oa rfl (on (qqf (rs (om rfl (qqa (qqw Tryz.underlying23 rfl) (om rfl (on (qqk (qq4 (ι := Nat) (fun k => k ≤ l.length ∧ idxF (fun a => decide (v = a)) l 0 = idxF (fun a => decide (v = a)) (l.drop k) (k : Int)) (fun k r => (8, .p (.int .i64 ((k : Nat)))) :: r) (fun k r => r) (fun k => l.length - k) (fun _ _ => rfl) (fun _ _ => rfl) 0 ⟨Nat.zero_le _, rfl⟩ ⟨⟨rfl, rfl⟩, ⟨rfl, trivial⟩, trivial, ⟨rfl, rfl⟩, ⟨rfl, rfl⟩⟩ ?_))))))))))
 intro k hpre
 refine rs (qqa (qzt rfl rfl) (on (qqf (ac rfl (fun h1 => ?_) fun h1 => ?_))))
 ·
  have h1r := h1
  try simp only [nq, nr] at h1
  refine qqo (qqf (qqk (rs (om rfl (oa rfl (on (rs (om rfl (om rfl (om rfl (qqa (qq9 qjb rfl rfl rfl (qqq (by omega)) rfl) (qqa (qq8 qq6 rfl (qqq (by omega)) rfl) (qqa (qz5 rfl rfl) ?_)))))))))))))
  refine on (ac rfl (fun h2 => ?_) fun h2 => ?_)
  ·
   have h2r := h2
   try simp only [nq, nr] at h2
   refine rs (om rfl (oa rfl (on (qqx ?_))))
   exact qjt rfl ⟨qz1 (by rw [hpre.2, idxF_hit (d := default) (by omega) (by first | (rw [decide_eq_true_eq]; assumption) | (simp_all; done))]), rfl, rfl⟩
  have h2r := h2
  try simp only [nq, nr] at h2
  refine qqo (ar (qqa (qjh rfl rfl (by omega) (by omega)) (om rfl (on ?_))))
  exact ⟨k + 1, ⟨by omega, by rw [hpre.2, idxF_skip (d := default) (by omega) (by first | (rw [decide_eq_false_iff_not]; assumption) | (simp_all; done))]⟩, ⟨⟨rfl, rfl⟩, ⟨rfl, trivial⟩, trivial, ⟨rfl, rfl⟩, ⟨rfl, rfl⟩⟩, (by omega)⟩
 have h1r := h1
 try simp only [nq, nr] at h1
 refine qjf (rs (oa rfl (on (qqx ?_))))
 exact qjt rfl ⟨qz1 (by rw [hpre.2, idxF_end (by omega)]), rfl, rfl⟩
theorem f_containsInt (l : List Int) (v : Int) : Fn Tryz.prog 107 [.sl (l.map dI), .p (.int .i64 v)] [] (fun rr ii nn => rr = .p (.bool (decide (v ∈ l))) ∧ ii = [] ∧ nn = []) := by
 refine qjl Tryz.func107 rfl (nb rfl) fun w X g => ?_
 show AWp _ _ _ ⟨[(0, .sl (l.map dI)), (1, .p (.int .i64 v))], []⟩
 refine rs (oa rfl (on (rs (om rfl (om rfl ?_)))))
 refine qq0 (qqn (v := .p _) (hp1 := []) [] false [] ent166 (f_indexInt l v) ⟨.inl ⟨rfl, rfl⟩, .inl ⟨rfl, rfl⟩, trivial⟩ trivial rfl rfl (fun h => by cases h) rfl (fun _ h => by cases h) (.inl rfl) rfl rfl) ?_
 refine qqa (j_ge rfl rfl) (oa rfl (on (qqx ?_)))
 exact qjt rfl ⟨qje ((idxF_any (Int.le_refl 0)).trans any_mem), rfl, rfl⟩
end Go.Ab

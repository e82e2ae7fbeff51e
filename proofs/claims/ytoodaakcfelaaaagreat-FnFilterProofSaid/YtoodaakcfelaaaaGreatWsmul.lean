/- Walks. -/
import Derived.Test.YtoodaakcfelaaaaGreatBase
import Derived.Test.YtoodaakcfelaaaaGreatSimp
import Derived.Test.YtoodaakcfelaaaaGreatWsprob
namespace Go.Ab
open Go.Proofs
set_option maxRecDepth 100000
set_option maxHeartbeats 8000000
set_option linter.unusedSimpArgs false
set_option linter.unusedVariables false
theorem f_valid (c : Con) : Fn Tryz.prog 201 [.agg [.sl (c.1.map dT), .p (.int .i64 c.2)]] [] (fun rr ii nn => rr = .tup [.agg [.sl ((vC c).1.map dT), .p (.int .i64 (vC c).2)], .p (.bool (cOk c))] ∧ ii = [] ∧ nn = []) := by
 refine qjm Tryz.func201 rfl (nb rfl) fun w X g => ?_
 show AWp _ _ _ ⟨[(0, .agg [.sl (c.1.map dT), .p (.int .i64 c.2)])], []⟩
 refine rs (qq5 (fun ver => qj3 rfl) fun v1x1 => ?_)
 refine qq5 (fun ver => qjv qz5 rfl) fun v2x2 => ?_
 refine oa rfl (on (qqe (rs (qqa (qqk (ys := [.sl _, .p _]) qzn rfl rfl rfl (nb rfl)) ?_))))
 refine qq3 (qqn (v := .p _) (hp1 := []) [] false [] ent115 (f_cvImpl _) ⟨.inl ⟨rfl, rfl⟩, trivial⟩ trivial rfl rfl (fun h => by cases h) rfl (fun _ h => by cases h) (.inl rfl) rfl rfl) ?_
 refine qqa (qzw rfl) (on (ac rfl (fun h1 => ?_) fun h1 => ?_))
 ·
  have h1r := h1
  try simp only [nq, nr] at h1
  refine rs (qqa (qzu (parts := []) str69 qz5 rfl rfl) (qjo (qqs qzn rfl rfl rfl rfl rfl rfl) ?_))
  refine oa rfl (on (qj2 0 1002 135 2 (by decide) (id := 2) rfl rfl fun v1002x3 => ?_))
  refine qjf 0 2 (by decide) trivial rfl rfl rfl rfl ?_
  try dsimp only [List.set]
  refine qqm ?_
  exact ⟨[.agg [.sl _, .p _], .p _], .tup [.agg [.sl _, .p _], .p _], [], [], [], ⟨⟨_, _, _, _, rfl, rfl, qzn, rfl⟩, rfl, trivial⟩, rfl, rfl, trivial, rfl, rfl, ⟨by rw [vC_bad h1, h1]; rfl, rfl, rfl⟩⟩
 have h1r := h1
 try simp only [nq, nr] at h1
 refine qqj (rs (qqa (qqk (ys := [.sl _, .p _]) qzn rfl rfl rfl (nb rfl)) (qjo (qqs qzn rfl rfl rfl rfl rfl rfl) ?_)))
 refine oa rfl (on (qqm ?_))
 exact ⟨[.agg [.sl _, .p _], .p _], .tup [.agg [.sl _, .p _], .p _], [], [], [], ⟨⟨_, _, _, _, rfl, rfl, qzn, rfl⟩, rfl, trivial⟩, rfl, rfl, trivial, rfl, rfl, ⟨by rw [vC_ok h1, h1], rfl, rfl⟩⟩
end Go.Ab

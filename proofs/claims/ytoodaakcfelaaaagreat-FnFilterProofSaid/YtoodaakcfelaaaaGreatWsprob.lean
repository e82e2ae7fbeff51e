/- Walks. -/
import Derived.Test.YtoodaakcfelaaaaGreatBase
import Derived.Test.YtoodaakcfelaaaaGreatSimp
import Derived.Test.YtoodaakcfelaaaaGreatWsfun
import Derived.Test.YtoodaakcfelaaaaGreatWsdraw
import Derived.Test.YtoodaakcfelaaaaGreatWscons
import Derived.Test.YtoodaakcfelaaaaGreatVals
import Derived.Test.YtoodaakcfelaaaaGreatWstab
namespace Go.Ab
open Go.Proofs
set_option maxRecDepth 100000
set_option maxHeartbeats 8000000
set_option linter.unusedSimpArgs false
set_option linter.unusedVariables false
theorem f_allV1 (c : Con) : Fn Tryz.prog 181 [.agg [.sl (c.1.map dT), .p (.int .i64 c.2)]] [] (fun rr ii nn => rr = .p (.bool (!cOk c)) ∧ ii = [] ∧ nn = []) := by
 refine qjm Tryz.func181 rfl (nb rfl) fun w X g => ?_
 show AWp _ _ _ ⟨[(0, .agg [.sl (c.1.map dT), .p (.int .i64 c.2)])], []⟩
 refine rs (qq5 (fun ver => qj3 rfl) fun v1x1 => ?_)
 refine oa rfl (on (rs (qqa (qqk (ys := [.sl _, .p _]) qzn rfl rfl rfl (nb rfl)) ?_)))
 refine qq3 (qqn (v := .p _) (hp1 := []) [] false [] ent115 (f_cvImpl _) ⟨.inl ⟨rfl, rfl⟩, trivial⟩ trivial rfl rfl (fun h => by cases h) rfl (fun _ h => by cases h) (.inl rfl) rfl rfl) ?_
 refine qqa (qzw rfl) (oa rfl (on (qqm ?_)))
 exact qq8 rfl ⟨rfl, rfl, rfl⟩
theorem f_allV (l : List Con) : Fn Tryz.prog 133 [.sl (l.map dC)] [] (fun rr ii nn => rr = .p (.bool (l.all cOk)) ∧ ii = [] ∧ nn = []) := by
 refine qjm Tryz.func133 rfl (nb rfl) fun w X g => ?_
 show AWp _ _ _ ⟨[(0, .sl (l.map dC))], []⟩
 refine rs (oa rfl (on (rs (om rfl ?_))))
 refine qq3 (qqn (v := .p _) (hp1 := []) [] false [] ent124 (f_ctf_Con_0 181 l (fun c => !cOk c) ent181 (fun c _ => f_allV1 c)) ⟨.inl ⟨rfl, rfl⟩, .inl ⟨rfl, rfl⟩, trivial⟩ trivial rfl rfl (fun h => by cases h) rfl (fun _ h => by cases h) (.inl rfl) rfl rfl) ?_
 refine qqa (qzw rfl) (oa rfl (on (qqm ?_)))
 exact qq8 rfl ⟨qqv qjq, rfl, rfl⟩
theorem f_pvImpl (l : List Con) : Fn Tryz.prog 69 [.sl (l.map dC)] [] (fun rr ii nn => rr = .p (.bool (pOk l)) ∧ ii = [] ∧ nn = []) := by
 refine qjm Tryz.func69 rfl (nb rfl) fun w X g => ?_
 show AWp _ _ _ ⟨[(0, .sl (l.map dC))], []⟩
 refine rs (oa rfl (on (rs (om rfl (qqa (qqg Tryz.underlying30 rfl) (qqa (j_le rfl rfl) (om rfl (qqx 6 rfl (fun h1 => ?_) (fun h1 => ?_)))))))))
 ·
  have h1r := h1
  try simp only [nq, nr] at h1
  refine qqa (qqd rfl rfl h1r (qql (evo rfl))) ?_
  refine qq3 (qqd rfl rfl h1r (qqn (v := .p _) (hp1 := []) [] false [] ent133 (f_allV _) ⟨.inl ⟨rfl, rfl⟩, trivial⟩ trivial rfl rfl (fun h => by cases h) rfl (fun _ h => by cases h) (.inl rfl) rfl rfl)) ?_
  refine qqa (qqu rfl h1r (evo rfl)) (oa rfl (on (qqm ?_)))
  exact qq8 rfl ⟨qqv (by unfold pOk; first | (rw [decide_eq_true (show l.length ≤ 400 by omega), Bool.true_and]) | (rw [decide_eq_false (show ¬ l.length ≤ 400 by omega), Bool.false_and])), rfl, rfl⟩
 have h1r := h1
 try simp only [nq, nr] at h1
 refine qqa (qqb rfl rfl h1r) (qqa (qqb rfl rfl h1r) (qqa (qqt rfl h1r (evo rfl)) (oa rfl (on (qqm ?_)))))
 exact qq8 rfl ⟨qqv (by unfold pOk; first | (rw [decide_eq_true (show l.length ≤ 400 by omega), Bool.true_and]) | (rw [decide_eq_false (show ¬ l.length ≤ 400 by omega), Bool.false_and])), rfl, rfl⟩
end Go.Ab

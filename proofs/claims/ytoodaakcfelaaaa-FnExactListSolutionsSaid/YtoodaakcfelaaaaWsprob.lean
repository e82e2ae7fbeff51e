/- Walks. -/
import Derived.Test.YtoodaakcfelaaaaBase
import Derived.Test.YtoodaakcfelaaaaSimp
import Derived.Test.YtoodaakcfelaaaaWsfun
import Derived.Test.YtoodaakcfelaaaaWstight
import Derived.Test.YtoodaakcfelaaaaWsparse
import Derived.Test.YtoodaakcfelaaaaWsexcl2
import Derived.Test.YtoodaakcfelaaaaWscon2
import Derived.Test.YtoodaakcfelaaaaWsexcl
namespace Go.Ab
open Go.Proofs
set_option maxRecDepth 100000
set_option maxHeartbeats 8000000
set_option linter.unusedSimpArgs false
set_option linter.unusedVariables false
theorem f_allV1 (c : Con) : Fn Try.prog 80 [.agg [.sl (c.1.map dT), .p (.int .i64 c.2)]] [] (fun rr ii nn => rr = .p (.bool (!cOk c)) ∧ ii = [] ∧ nn = []) := by
 refine qjj Try.func80 rfl (nb rfl) fun w X g => ?_
 show AWp _ _ _ ⟨[(0, .agg [.sl (c.1.map dT), .p (.int .i64 c.2)])], []⟩
 refine rs (qqu (fun ver => j_boxa rfl) fun v1x1 => ?_)
 refine oa rfl (on (rs (qqa (qqr (ys := [.sl _, .p _]) qj5 rfl rfl rfl (nb rfl)) ?_)))
 refine qq4 (qqp (v := .p _) (hp1 := []) [] false [] ent81 (f_cvImpl _) ⟨.inl ⟨rfl, rfl⟩, trivial⟩ trivial rfl rfl (fun h => by cases h) rfl (fun _ h => by cases h) (.inl rfl) rfl rfl) ?_
 refine qqa (j_not rfl) (oa rfl (on (qql ?_)))
 exact qjh rfl ⟨rfl, rfl, rfl⟩
theorem f_allV (l : List Con) : Fn Try.prog 69 [.sl (l.map dC)] [] (fun rr ii nn => rr = .p (.bool (l.all cOk)) ∧ ii = [] ∧ nn = []) := by
 refine qjj Try.func69 rfl (nb rfl) fun w X g => ?_
 show AWp _ _ _ ⟨[(0, .sl (l.map dC))], []⟩
 refine rs (oa rfl (on (rs (om rfl ?_))))
 refine qq4 (qqp (v := .p _) (hp1 := []) [] false [] ent79 (f_ctf_Con_0 80 l (fun c => !cOk c) ent80 (fun c _ => f_allV1 c)) ⟨.inl ⟨rfl, rfl⟩, .inl ⟨rfl, rfl⟩, trivial⟩ trivial rfl rfl (fun h => by cases h) rfl (fun _ h => by cases h) (.inl rfl) rfl rfl) ?_
 refine qqa (j_not rfl) (oa rfl (on (qql ?_)))
 exact qjh rfl ⟨qja not_any_not, rfl, rfl⟩
theorem f_pvImpl (l : List Con) : Fn Try.prog 51 [.sl (l.map dC)] [] (fun rr ii nn => rr = .p (.bool (pOk l)) ∧ ii = [] ∧ nn = []) := by
 refine qjj Try.func51 rfl (nb rfl) fun w X g => ?_
 show AWp _ _ _ ⟨[(0, .sl (l.map dC))], []⟩
 refine rs (oa rfl (on (rs (om rfl (qqa (qqs Try.underlying29 rfl) (qqa (j_le rfl rfl) (om rfl (qq9 6 rfl (fun h1 => ?_) (fun h1 => ?_)))))))))
 ·
  have h1r := h1
  try simp only [nq, nr] at h1
  refine qqa (qqf rfl rfl h1r (qqn (evo rfl))) ?_
  refine qq4 (qqf rfl rfl h1r (qqp (v := .p _) (hp1 := []) [] false [] ent69 (f_allV _) ⟨.inl ⟨rfl, rfl⟩, trivial⟩ trivial rfl rfl (fun h => by cases h) rfl (fun _ h => by cases h) (.inl rfl) rfl rfl)) ?_
  refine qqa (qq6 rfl h1r (evo rfl)) (oa rfl (on (qql ?_)))
  exact qjh rfl ⟨qja (by unfold pOk; first | (rw [decide_eq_true (show l.length ≤ 400 by omega), Bool.true_and]) | (rw [decide_eq_false (show ¬ l.length ≤ 400 by omega), Bool.false_and])), rfl, rfl⟩
 have h1r := h1
 try simp only [nq, nr] at h1
 refine qqa (qqb rfl rfl h1r) (qqa (qqb rfl rfl h1r) (qqa (qq3 rfl h1r (evo rfl)) (oa rfl (on (qql ?_)))))
 exact qjh rfl ⟨qja (by unfold pOk; first | (rw [decide_eq_true (show l.length ≤ 400 by omega), Bool.true_and]) | (rw [decide_eq_false (show ¬ l.length ≤ 400 by omega), Bool.false_and])), rfl, rfl⟩
theorem f_pvSpec (l : List Con) : Fn Try.prog 23 [.sl (l.map dC)] [] (fun rr ii nn => rr = .p (.bool (pOk l)) ∧ ii = [] ∧ nn = []) := by
 refine qjj Try.func23 rfl (nb rfl) fun w X g => ?_
 show AWp _ _ _ ⟨[(0, .sl (l.map dC))], []⟩
 refine qzb 0 rfl fun hlen => ?_
 refine rs (oa rfl (on (qqd (rs (oa rfl (on (qqh (qqt (ι := Nat) (fun k => k ≤ l.length ∧ (l.take k).all cOk = true) (fun k r => (3, .p (.int .i64 ((k : Nat)))) :: r) (fun k r => r) (fun k => l.length - k) (fun _ _ => rfl) (fun _ _ => rfl) 0 ⟨Nat.zero_le _, rfl⟩ ⟨⟨rfl, rfl⟩, ⟨rfl, trivial⟩, trivial, ⟨rfl, rfl⟩, ⟨rfl, rfl⟩⟩ ?_))))))))
 intro k hpre
 refine qqd (rs (om rfl (om rfl (qqa (qqs Try.underlying29 rfl) (qqa (qzk rfl rfl) (on (ac rfl (fun h1 => ?_) fun h1 => ?_)))))))
 ·
  have h1r := h1
  try simp only [nq, nr] at h1
  refine qqg (qqd (qqh (rs (om rfl (om rfl (qqa (qq5 qz9 rfl rfl rfl (qqj (by omega)) rfl) (qqa (qjq (ys := [.sl _, .p _]) qj5 rfl (qqj (by omega)) rfl (Nat.le_refl _)) ?_)))))))
  refine qq4 (qqp (v := .p _) (hp1 := []) [] false [] ent47 (f_cvSpec (l.getD k default)) ⟨.inl ⟨rfl, rfl⟩, trivial⟩ trivial rfl rfl (fun h => by cases h) rfl (fun _ h => by cases h) (.inl rfl) rfl rfl) ?_
  refine qqa (j_not rfl) (on (ac rfl (fun h2 => ?_) fun h2 => ?_))
  ·
   have h2r := h2
   try simp only [nq, nr] at h2
   refine rs (oa rfl (on (qql ?_)))
   exact qjh rfl ⟨qja (by unfold pOk; rw [all_no (d := default) (k := k) (by omega) (by assumption), Bool.and_false]), rfl, rfl⟩
  have h2r := h2
  try simp only [nq, nr] at h2
  refine qqg (ar (om rfl (qqa (qje rfl rfl (by omega) (by omega)) (oa rfl (on ?_)))))
  exact ⟨k + 1, ⟨by omega, all_next (d := default) hpre.2 (by omega) (by assumption)⟩, ⟨⟨rfl, rfl⟩, ⟨rfl, trivial⟩, trivial, ⟨rfl, rfl⟩, ⟨rfl, rfl⟩⟩, (by omega)⟩
 have h1r := h1
 try simp only [nq, nr] at h1
 refine qjf (rs (om rfl (qqa (qqs Try.underlying29 rfl) (qqa (j_le rfl rfl) (oa rfl (on (qql ?_)))))))
 exact qjh rfl ⟨qja (by unfold pOk; rw [all_full hpre.2 (by omega), Bool.and_true]; exact decide_eq_decide.2 (by omega)), rfl, rfl⟩
end Go.Ab

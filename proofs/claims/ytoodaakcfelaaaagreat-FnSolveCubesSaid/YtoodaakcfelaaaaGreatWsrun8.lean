/- Walks. -/
import Derived.Test.YtoodaakcfelaaaaGreatBase2
import Derived.Test.YtoodaakcfelaaaaGreatPf4
import Derived.Test.YtoodaakcfelaaaaGreatWsrun7
import Derived.Test.YtoodaakcfelaaaaGreatWscp
import Derived.Test.YtoodaakcfelaaaaGreatBase
import Derived.Test.YtoodaakcfelaaaaGreatFlt2
import Derived.Test.YtoodaakcfelaaaaGreatWsmod
import Derived.Test.YtoodaakcfelaaaaGreatVals
import Derived.Test.YtoodaakcfelaaaaGreatSimp
import Derived.Test.YtoodaakcfelaaaaGreatWscons
namespace Go.Ab
open Go.Proofs
set_option maxRecDepth 100000
set_option maxHeartbeats 8000000
set_option linter.unusedSimpArgs false
set_option linter.unusedVariables false
theorem f_eqfSt (a b : List Stp) : Fn Tryz.prog 76 [.sl (a.map dStp), .sl (b.map dStp), .fn 77 []] [] (fun rr ii nn => rr = .p (.bool (decide (a = b))) ∧ ii = [] ∧ nn = []) := by
 refine qjl Tryz.func76 rfl (nb rfl) fun w X g => ?_
 show AWp _ _ _ ⟨[(0, .sl (a.map dStp)), (1, .sl (b.map dStp)), (2, .fn 77 [])], []⟩
 refine a_len_map 0 rfl fun hla => ?_
 refine rs (oa rfl (on (qqf (rs (om rfl (qqa (qqw Tryz.underlying34 rfl) (om rfl (qqa (qqw Tryz.underlying34 rfl) (qqa (j_ne rfl rfl) (on (ac rfl (fun h1 => ?_) fun h1 => ?_)))))))))))
 ·
  have h1r := h1
  try simp only [nq, nr] at h1
  refine rs (oa rfl (on (qqx ?_)))
  exact qjt rfl ⟨qje (by symm; rw [decide_eq_false_iff_not]; rintro rfl; exact h1 rfl), rfl, rfl⟩
 have h1r := h1
 try simp only [nq, nr] at h1
 refine qqo (qqf (rs (om rfl (qqa (qqw Tryz.underlying34 rfl) (om rfl (on (qqk (qq4 (ι := Nat) (fun k => k ≤ a.length ∧ a.take k = b.take k) (fun k r => (17, .p (.int .i64 ((k : Nat)))) :: r) (fun k r => r) (fun k => a.length - k) (fun _ _ => rfl) (fun _ _ => rfl) 0 ⟨Nat.zero_le _, rfl⟩ ⟨⟨rfl, rfl⟩, ⟨rfl, trivial⟩, trivial, ⟨rfl, rfl⟩, ⟨rfl, rfl⟩⟩ ?_))))))))
 intro k hpre0
 refine rs (qqa (qzt rfl rfl) (on (qqf (ac rfl (fun h2 => ?_) fun h2 => ?_))))
 ·
  have h2r := h2
  try simp only [nq, nr] at h2
  refine qqo (qqf (qqk (rs (om rfl (qqa (qq9 qxa rfl rfl rfl (qqq (by omega)) rfl) (qqa (qjw (ys := [.p _, .p _, .p _, .sl _, .p _]) agg89 rfl (qqq (by omega)) rfl (Nat.le_refl _)) (qqv (fun ver => qjd qzs rfl) fun v8x1 => ?_)))))))
  refine oa rfl (qjg (qqe agg89 rfl rfl rfl rfl rfl rfl) ?_)
  refine on (rs (om rfl (om rfl (qqa (qq9 qxa rfl rfl rfl (qqq (by omega)) rfl) (qqa (qjw (ys := [.p _, .p _, .p _, .sl _, .p _]) agg89 rfl (qqq (by omega)) rfl (Nat.le_refl _)) (qqv (fun ver => qjd qzs rfl) fun v9x2 => ?_))))))
  refine qjg (qqe agg89 rfl rfl rfl rfl rfl rfl) ?_
  refine on (rs (om rfl (qqa (qqg (ys := [.p _, .p _, .p _, .sl _, .p _]) agg89 rfl rfl rfl (nb rfl)) (qqa (qqg (ys := [.p _, .p _, .p _, .sl _, .p _]) agg89 rfl rfl rfl (nb rfl)) ?_))))
  refine qq0 (j_callF0 (v := .p _) (hp1 := []) [] false [] rfl ent77 (f_psame1 (a.getD k default) (b.getD k default)) ⟨.inl ⟨rfl, rfl⟩, .inl ⟨rfl, rfl⟩, trivial⟩ trivial rfl rfl (fun h => by cases h) rfl (fun _ h => by cases h) (.inl rfl) rfl rfl) ?_
  refine qqa (qzk rfl) (on (ac rfl (fun h3 => ?_) fun h3 => ?_))
  ·
   have h3r := h3
   try simp only [nq, nr] at h3
   refine rs (oa rfl (on (qqx ?_)))
   exact qjt rfl ⟨qje (by symm; rw [decide_eq_false_iff_not]; rintro rfl; exact h3 rfl), rfl, rfl⟩
  have h3r := h3
  try simp only [nq, nr] at h3
  refine qqo (ar (qqa (qjh rfl rfl (by omega) (by omega)) (om rfl (on ?_))))
  exact ⟨k + 1, ⟨(by omega), take_next hpre0.2 (by omega) (by omega) h3⟩, ⟨⟨rfl, rfl⟩, ⟨rfl, trivial⟩, trivial, ⟨rfl, rfl⟩, ⟨rfl, rfl⟩⟩, (by omega)⟩
 have h2r := h2
 try simp only [nq, nr] at h2
 refine qjf (rs (oa rfl (on (qqx ?_))))
 exact qjt rfl ⟨qje (by symm; rw [decide_eq_true_eq]; exact take_eq hpre0.2 (by omega) (by omega)), rfl, rfl⟩
theorem f_psame (a b : List Stp) : Fn Tryz.prog 29 [.sl (a.map dStp), .sl (b.map dStp)] [] (fun rr ii nn => rr = .p (.bool (decide (a = b))) ∧ ii = [] ∧ nn = []) := by
 refine qjl Tryz.func29 rfl (nb rfl) fun w X g => ?_
 show AWp _ _ _ ⟨[(0, .sl (a.map dStp)), (1, .sl (b.map dStp))], []⟩
 refine rs (oa rfl (on (rs (om rfl (om rfl ?_)))))
 refine qq0 (qqn (v := .p _) (hp1 := []) [] false [] ent76 (f_eqfSt a b) ⟨.inl ⟨rfl, rfl⟩, .inl ⟨rfl, rfl⟩, .inl ⟨rfl, rfl⟩, trivial⟩ trivial rfl rfl (fun h => by cases h) rfl (fun _ h => by cases h) (.inl rfl) rfl rfl) ?_
 refine oa rfl (on (qqx ?_))
 exact qjt rfl ⟨rfl, rfl, rfl⟩
end Go.Ab

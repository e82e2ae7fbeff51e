/- Walks. -/
import Derived.Test.YtoodaakcfelaaaaGreatBase
import Derived.Test.YtoodaakcfelaaaaGreatSimp
import Derived.Test.YtoodaakcfelaaaaGreatWsprob
import Derived.Test.YtoodaakcfelaaaaGreatWsdraw
import Derived.Test.YtoodaakcfelaaaaGreatWscons
import Derived.Test.YtoodaakcfelaaaaGreatVals
import Derived.Test.YtoodaakcfelaaaaGreatWstab
namespace Go.Ab
open Go.Proofs
set_option maxRecDepth 100000
set_option maxHeartbeats 8000000
set_option linter.unusedSimpArgs false
set_option linter.unusedVariables false
theorem f_under (l : Int) (p : List Int) (hl : litOk l = true) (hp : paOk p = true) : Fn Tryz.prog 265 [.p (.int .i64 (l)), .sl (p.map dI)] [] (fun rr ii nn => rr = .p (.int .i64 (stV p l)) ∧ ii = [] ∧ nn = []) := by
 refine qjm Tryz.func265 rfl (nb rfl) fun w X g => ?_
 show AWp _ _ _ ⟨[(0, .p (.int .i64 (l))), (1, .sl (p.map dI))], []⟩
 have hpl := qxb hp
 have hli := litOk_iff.1 hl
 have ha1 := paOk_at hp (-l - 1).toNat
 have ha2 := paOk_at hp (l - 1).toNat
 refine rs (oa rfl (on (qqe (rs (om rfl (qqa (qzb rfl rfl) (on (ac rfl (fun h1 => ?_) fun h1 => ?_))))))))
 ·
  have h1r := h1
  try simp only [nq, nr] at h1
  refine rs (om rfl (om rfl (qqa (j_neg rfl zr zr) (qqa (qzy rfl rfl zr zr) (qqa (qqy (n := (-l - 1).toNat) qqz rfl rfl zr (qqh zr) rfl) (qqa (qqp qq2 rfl (qqh zr) rfl) (qqa (j_neg rfl zr zr) (oa rfl (on (qqm ?_))))))))))
  exact qq8 rfl ⟨qzg (by unfold stV; first | rw [if_pos (by omega)] | rw [if_neg (by omega)]), rfl, rfl⟩
 have h1r := h1
 try simp only [nq, nr] at h1
 refine qqj (rs (om rfl (om rfl (qqa (qzy rfl rfl zr zr) (qqa (qqy (n := (l - 1).toNat) qqz rfl rfl zr (qqh zr) rfl) (qqa (qqp qq2 rfl (qqh zr) rfl) (oa rfl (on (qqm ?_)))))))))
 exact qq8 rfl ⟨qzg (by unfold stV; first | rw [if_pos (by omega)] | rw [if_neg (by omega)]), rfl, rfl⟩
end Go.Ab

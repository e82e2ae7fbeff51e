/- Walks. -/
import Derived.Test.YtoodaakcfelaaaaBase
import Derived.Test.YtoodaakcfelaaaaSimp
import Derived.Test.YtoodaakcfelaaaaWsprob
import Derived.Test.YtoodaakcfelaaaaWstight
import Derived.Test.YtoodaakcfelaaaaWsparse
import Derived.Test.YtoodaakcfelaaaaWsexcl2
import Derived.Test.YtoodaakcfelaaaaWscon2
import Derived.Test.YtoodaakcfelaaaaWsexcl
namespace Go.Ab
open Go.Proofs
set_option maxRecDepth 100000
set_option maxHeartbeats 8000000
set_option linter.unusedSimpArgs false
set_option linter.unusedVariables false
theorem f_under (l : Int) (p : List Int) (hl : litOk l = true) (hp : paOk p = true) : Fn Try.prog 89 [.p (.int .i64 (l)), .sl (p.map dI)] [] (fun rr ii nn => rr = .p (.int .i64 (stV p l)) ∧ ii = [] ∧ nn = []) := by
 refine qjj Try.func89 rfl (nb rfl) fun w X g => ?_
 show AWp _ _ _ ⟨[(0, .p (.int .i64 (l))), (1, .sl (p.map dI))], []⟩
 have hpl := qjv hp
 have hli := litOk_iff.1 hl
 have ha1 := paOk_at hp (-l - 1).toNat
 have ha2 := paOk_at hp (l - 1).toNat
 refine rs (oa rfl (on (qqd (rs (om rfl (qqa (qzk rfl rfl) (on (ac rfl (fun h1 => ?_) fun h1 => ?_))))))))
 ·
  have h1r := h1
  try simp only [nq, nr] at h1
  refine rs (om rfl (om rfl (qqa (j_neg rfl zr zr) (qqa (j_sub rfl rfl zr zr) (qqa (qq5 (n := (-l - 1).toNat) qjg rfl rfl zr (qqj zr) rfl) (qqa (qqz qq7 rfl (qqj zr) rfl) (qqa (j_neg rfl zr zr) (oa rfl (on (qql ?_))))))))))
  exact qjh rfl ⟨qz7 (by unfold stV; first | rw [if_pos (by omega)] | rw [if_neg (by omega)]), rfl, rfl⟩
 have h1r := h1
 try simp only [nq, nr] at h1
 refine qqg (rs (om rfl (om rfl (qqa (j_sub rfl rfl zr zr) (qqa (qq5 (n := (l - 1).toNat) qjg rfl rfl zr (qqj zr) rfl) (qqa (qqz qq7 rfl (qqj zr) rfl) (oa rfl (on (qql ?_)))))))))
 exact qjh rfl ⟨qz7 (by unfold stV; first | rw [if_pos (by omega)] | rw [if_neg (by omega)]), rfl, rfl⟩
theorem f_l3State (p : List Int) (l : Int) (hl : litOk l = true) (hp : paOk p = true) : Fn Try.prog 86 [.sl (p.map dI), .p (.int .i64 (l))] [] (fun rr ii nn => rr = .p (.int .i64 (stV p l)) ∧ ii = [] ∧ nn = []) := by
 refine qjj Try.func86 rfl (nb rfl) fun w X g => ?_
 show AWp _ _ _ ⟨[(0, .sl (p.map dI)), (1, .p (.int .i64 (l)))], []⟩
 have hpl := qjv hp
 have hli := litOk_iff.1 hl
 have ha1 := paOk_at hp (-l - 1).toNat
 have ha2 := paOk_at hp (l - 1).toNat
 refine rs (oa rfl (on (qqd (rs (om rfl (qqa (j_gt rfl rfl) (on (ac rfl (fun h1 => ?_) fun h1 => ?_))))))))
 ·
  have h1r := h1
  try simp only [nq, nr] at h1
  refine rs (om rfl (om rfl (qqa (j_sub rfl rfl zr zr) (qqa (qq5 (n := (l - 1).toNat) qjg rfl rfl zr (qqj zr) rfl) (qqa (qqz qq7 rfl (qqj zr) rfl) (oa rfl (on (qql ?_))))))))
  exact qjh rfl ⟨qz7 (by unfold stV; first | rw [if_pos (by omega)] | rw [if_neg (by omega)]), rfl, rfl⟩
 have h1r := h1
 try simp only [nq, nr] at h1
 refine qqg (rs (om rfl (om rfl (qqa (j_neg rfl zr zr) (qqa (j_sub rfl rfl zr zr) (qqa (qq5 (n := (-l - 1).toNat) qjg rfl rfl zr (qqj zr) rfl) (qqa (qqz qq7 rfl (qqj zr) rfl) (qqa (j_neg rfl zr zr) (oa rfl (on (qql ?_)))))))))))
 exact qjh rfl ⟨qz7 (by unfold stV; first | rw [if_pos (by omega)] | rw [if_neg (by omega)]), rfl, rfl⟩
theorem f_l3Assign (p : List Int) (l : Int) (hl : litOk l = true) (hp : p.length = 12) : Fn Try.prog 64 [.own 0 0, .p (.int .i64 (l))] [.row 3 1 (p.map dI)] (fun rr ii nn => rr = .tup [] ∧ ii = [.row 3 1 ((p.set (varOf l - 1).toNat (if l < 0 then -1 else 1)).map dI)] ∧ nn = []) := by
 refine qjj Try.func64 rfl (nb rfl) fun w X g => ?_
 show AWp _ _ _ ⟨[(0, .own 0 0), (1, .p (.int .i64 (l)))], [(0, some (0, .row 3 1 (p.map dI)))]⟩
 have hli := litOk_iff.1 hl
 have hvo : varOf l = max l (-l) := rfl
 refine rs (om rfl (qqa (j_gt rfl rfl) (on (ac rfl (fun h1 => ?_) fun h1 => ?_))))
 ·
  have h1r := h1
  try simp only [nq, nr] at h1
  refine ar (om rfl (om rfl (qqa (j_sub rfl rfl zr zr) (qqa (qqx (n := (varOf l - 1).toNat) qjg rfl rfl rfl zr zr) (qjk (qj9 qq7 rfl rfl zr (evo rfl) rfl rfl) ?_)))))
  refine on ?_
  exact ⟨[], .tup [], [.row 3 1 _], [], [], trivial, rfl, rfl, ⟨⟨rfl, rfl⟩, trivial⟩, rfl, rfl, ⟨rfl, by rw [if_neg (by omega), List.map_set]; rfl, rfl⟩⟩
 have h1r := h1
 try simp only [nq, nr] at h1
 refine ar (om rfl (om rfl (qqa (j_neg rfl zr zr) (qqa (j_sub rfl rfl zr zr) (qqa (qqx (n := (varOf l - 1).toNat) qjg rfl rfl rfl zr zr) (qjk (qj9 qq7 rfl rfl zr (evo rfl) rfl rfl) ?_))))))
 refine on ?_
 exact ⟨[], .tup [], [.row 3 1 _], [], [], trivial, rfl, rfl, ⟨⟨rfl, rfl⟩, trivial⟩, rfl, rfl, ⟨rfl, by rw [if_pos (by omega), List.map_set]; rfl, rfl⟩⟩
end Go.Ab

/- Walks. -/
import Derived.Test.YtikknnpdiahnoaaBase
import Derived.Test.YtikknnpdiahnoaaSimp
import Derived.Test.YtikknnpdiahnoaaVals
namespace Go.Ab
open Go.Proofs
set_option maxRecDepth 100000
set_option maxHeartbeats 8000000
set_option linter.unusedSimpArgs false
set_option linter.unusedVariables false
theorem f_within (n lo hi : Int) : Fn Try.prog 58 [.p (.int .i64 (n)), .p (.int .i64 (lo)), .p (.int .i64 (hi))] [] (fun rr ii nn => rr = .p (.bool (decide (lo ≤ n ∧ n ≤ hi))) ∧ ii = [] ∧ nn = []) := by
 refine fn_of Try.func58 rfl (Nat.le_of_ble_eq_true rfl) fun w X g => ?_
 show AWp _ _ _ ⟨[(0, .p (.int .i64 (n))), (1, .p (.int .i64 (lo))), (2, .p (.int .i64 (hi)))], []⟩
 refine a_seq ?_
 refine a_region (by kernel_rfl) ?_
 refine op_v' (j_assign (evo rfl)) ?_
 refine op_nil ?_
 refine a_seq ?_
 refine a_region (by kernel_rfl) ?_
 refine op_v' (j_move (evo rfl)) ?_
 refine op_v' (j_move (evo rfl)) ?_
 refine op_v' (j_le rfl rfl) ?_
 refine op_v' (j_move (evo rfl)) ?_
 refine op_split' 10 rfl (fun h1 => ?_) (fun h1 => ?_)
 ·
  have h1r := h1
  try simp only [nq, nr] at h1
  refine op_v' (j_want rfl rfl h1r (j_move (evo rfl))) ?_
  refine op_v' (j_want rfl rfl h1r (j_move (evo rfl))) ?_
  refine op_v' (j_want rfl rfl h1r (j_le rfl rfl)) ?_
  refine op_v' (j_pick_t rfl h1r (evo rfl)) ?_
  refine op_v' (j_assign (evo rfl)) ?_
  refine op_nil ?_
  refine a_ret ?_
  exact ⟨[.p _], .p _, [], [], [], ⟨rfl, trivial⟩, rfl, rfl, trivial, rfl, rfl, ⟨boolEq (biff (by simp only [decide_eq_true_eq, Bool.false_eq_true, false_iff, litOk_iff]; omega)), rfl, rfl⟩⟩
 ·
  have h1r := h1
  try simp only [nq, nr] at h1
  refine op_v' (j_unwantV rfl rfl h1r) ?_
  refine op_v' (j_unwantV rfl rfl h1r) ?_
  refine op_v' (j_unwantV rfl rfl h1r) ?_
  refine op_v' (j_pick_f rfl h1r (evo rfl)) ?_
  refine op_v' (j_assign (evo rfl)) ?_
  refine op_nil ?_
  refine a_ret ?_
  exact ⟨[.p _], .p _, [], [], [], ⟨rfl, trivial⟩, rfl, rfl, trivial, rfl, rfl, ⟨boolEq (biff (by simp only [decide_eq_true_eq, Bool.false_eq_true, false_iff, litOk_iff]; omega)), rfl, rfl⟩⟩


end Go.Ab

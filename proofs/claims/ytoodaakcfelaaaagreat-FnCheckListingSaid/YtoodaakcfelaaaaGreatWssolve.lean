/- Walks. -/
import Derived.Test.YtoodaakcfelaaaaGreatBase
import Derived.Test.YtoodaakcfelaaaaGreatCub
import Derived.Test.YtoodaakcfelaaaaGreatWssrch3
import Derived.Test.YtoodaakcfelaaaaGreatWsprop
import Derived.Test.YtoodaakcfelaaaaGreatWstight
import Derived.Test.YtoodaakcfelaaaaGreatWsprob
import Derived.Test.YtoodaakcfelaaaaGreatWsfix
namespace Go.Ab
open Go.Proofs
set_option maxRecDepth 100000
set_option maxHeartbeats 8000000
set_option linter.unusedSimpArgs false
set_option linter.unusedVariables false
theorem f_copyF (c : Con) (hc : c.1.length ≤ 1048576) : Fn Tryz.prog 136 [.agg [.sl (c.1.map dT), .p (.int .i64 c.2)]] [] (fun rr ii nn => rr = .agg [.sl (c.1.map dT), .p (.int .i64 c.2)] ∧ ii = [] ∧ nn = []) := by
 refine fn_of Tryz.func136 rfl (Nat.le_of_ble_eq_true rfl) fun w X g => ?_
 show AWp _ _ _ ⟨[(0, .agg [.sl (c.1.map dT), .p (.int .i64 c.2)])], []⟩
 refine rs ?_
 refine op_n' (fun ver => j_boxa rfl) fun v1x1 => ?_
 refine op_n' (fun ver => j_alloc elt69 rfl) fun v2x2 => ?_
 refine on ?_
 refine a_seq ?_
 refine a_draw mixed (by kernel_rfl) (by kernel_rfl) fun vf => ?_
 refine d_n' (fun ver => j_buildSlice (parts := []) (es := []) slt67 elt135 rfl rfl (by decide) (by decide) rfl rfl (by simp) rfl) ?_
 refine d_v' (j_fldp fld69f0 rfl rfl) ?_
 refine d_v' (j_load_box leaf67 rfl rfl rfl) ?_
 refine d_n1' (fun ver => j_append_slN (by decide) slt67 elt135 rfl rfl rfl rfl (by intro x hx; obtain ⟨t, _, rfl⟩ := List.mem_map.1 hx; rfl) (all_lf_dT _) (by rw [maxLen_eq]; first | omega | (simp only [nr, nl]; omega)) (by first | omega | (simp only [nr, nl]; omega))) ?_
 refine d_v' (j_fldp fld69f1 rfl rfl) ?_
 refine d_v' (j_load_box leaf3 rfl rfl rfl) ?_
 refine d_v' (j_build (parts := [(0, .tmp 6), (1, .tmp 8)]) str69 elt69 rfl rfl) ?_
 refine d_s' (j_storea_box0 agg69 rfl rfl rfl rfl rfl rfl) ?_
 refine d_nil (by kernel_rfl) (by kernel_rfl) ?_
 refine a_freezeboxK 0 2 (by decide) trivial rfl rfl rfl rfl ?_
 try dsimp only [List.set]
 refine a_ret ?_
 exact ⟨[.agg [.sl _, .p _]], .agg [.sl _, .p _], [], [], [], ⟨⟨_, _, _, _, rfl, rfl, agg69, rfl⟩, trivial⟩, rfl, rfl, trivial, rfl, rfl, ⟨rfl, rfl, rfl⟩⟩
end Go.Ab

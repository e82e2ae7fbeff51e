/- Walks. -/
import Derived.Test.YtoodaakcfelaaaaBase
import Derived.Test.YtoodaakcfelaaaaCub
import Derived.Test.YtoodaakcfelaaaaWssrch3
import Derived.Test.YtoodaakcfelaaaaWsprop
import Derived.Test.YtoodaakcfelaaaaWstight
import Derived.Test.YtoodaakcfelaaaaWsprob
import Derived.Test.YtoodaakcfelaaaaWsfix
namespace Go.Ab
open Go.Proofs
set_option maxRecDepth 100000
set_option maxHeartbeats 8000000
set_option linter.unusedSimpArgs false
set_option linter.unusedVariables false
theorem f_copyF (c : Con) (hc : c.1.length ≤ 1048576) : Fn Try.prog 49 [.agg [.sl (c.1.map dT), .p (.int .i64 c.2)]] [] (fun rr ii nn => rr = .agg [.sl (c.1.map dT), .p (.int .i64 c.2)] ∧ ii = [] ∧ nn = []) := by
 refine qjj Try.func49 rfl (nb rfl) fun w X g => ?_
 show AWp _ _ _ ⟨[(0, .agg [.sl (c.1.map dT), .p (.int .i64 c.2)])], []⟩
 refine rs (qqu (fun ver => j_boxa rfl) fun v1x1 => ?_)
 refine qqu (fun ver => qjw qzh rfl) fun v2x2 => ?_
 refine on (qqd (a_draw mixed (by kernel_rfl) (by kernel_rfl) fun vf => ?_))
 refine d_n' (fun ver => qza qz0 elt83 rfl rfl (by decide)) ?_
 refine qqq (qqm qjp rfl rfl) (qqq (qqe qj7 rfl rfl rfl) (d_n1' (fun ver => j_append_slN (by decide) qz0 elt83 rfl rfl rfl rfl (by intro x hx; obtain ⟨t, _, rfl⟩ := List.mem_map.1 hx; rfl) (all_lf_dT _) (by rw [qqw]; first | omega | (simp only [nr, nl]; omega)) zz) ?_))
 refine qqq (qqm fld56f1 rfl rfl) (qqq (qqe qq7 rfl rfl rfl) (qqq (qz3 (parts := [(0, .tmp 6), (1, .tmp 8)]) str56 qzh rfl rfl) (d_s' (qqk qj5 rfl rfl rfl rfl rfl rfl) ?_)))
 refine d_nil (by kernel_rfl) (by kernel_rfl) ?_
 refine a_freezeboxK 0 2 (by decide) trivial rfl rfl rfl rfl ?_
 try dsimp only [List.set]
 refine qql ?_
 exact ⟨[.agg [.sl _, .p _]], .agg [.sl _, .p _], [], [], [], ⟨⟨_, _, _, _, rfl, rfl, qj5, rfl⟩, trivial⟩, rfl, rfl, trivial, rfl, rfl, ⟨rfl, rfl, rfl⟩⟩
end Go.Ab

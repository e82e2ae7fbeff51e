/- Walks. -/
import Derived.Test.YtdnkggifpoknoaaBase
import Derived.Test.YtdnkggifpoknoaaTabs2
import Derived.Test.YtdnkggifpoknoaaWstab
namespace Go.Ab
open Go.Proofs
set_option maxRecDepth 100000
set_option maxHeartbeats 8000000
set_option linter.unusedSimpArgs false
set_option linter.unusedVariables false
theorem f_copy (c : Con) (hc : c.1.length ≤ 1048576) : Fn Try.prog 73 [.agg [.sl (c.1.map dT), .p (.int .i64 c.2)]] [] (fun rr ii nn => rr = .agg [.own 0 0, .p (.int .i64 c.2)] ∧ ii = [] ∧ nn = [.row 52 2 (c.1.map dT)]) := by
  refine fn_of Try.func73 rfl (Nat.le_of_ble_eq_true rfl) fun w X g => ?_
  show AWp _ _ _ ⟨[(0, .agg [.sl (c.1.map dT), .p (.int .i64 c.2)])], []⟩
  refine a_seq ?_
  refine a_region (by kernel_rfl) ?_
  refine op_n' (fun ver => j_boxa rfl) fun v1x1 => ?_
  refine op_n' (fun ver => j_alloc elt32 rfl) fun v2x2 => ?_
  refine op_nil ?_
  refine a_seq ?_
  refine a_draw mixed (by kernel_rfl) (by kernel_rfl) fun vf => ?_
  refine d_n' (fun ver => j_buildSlice (parts := []) (es := []) slt30 elt52 rfl rfl (by decide) (by decide) rfl rfl (by simp) rfl) ?_
  refine d_v' (j_fldp fld32f0 rfl rfl) ?_
  refine d_v' (j_load_box leaf30 rfl rfl rfl) ?_
  refine d_n1' (fun ver => j_append_slN (by decide) slt30 elt52 rfl rfl rfl rfl (by intro x hx; obtain ⟨t, _, rfl⟩ := List.mem_map.1 hx; rfl) (all_lf_dT _) (by rw [maxLen_eq]; first | omega | (simp only [List.length_map, List.length_take, Int.toNat_natCast, List.length_map, List.length_nil]; omega)) (by first | omega | (simp only [List.length_map, List.length_take, Int.toNat_natCast, List.length_map, List.length_nil]; omega))) ?_
  refine d_v' (j_fldp fld32f1 rfl rfl) ?_
  refine d_v' (j_load_box leaf3 rfl rfl rfl) ?_
  refine d_v' (j_build (parts := [(0, .tmp 6), (1, .tmp 8)]) str32 elt32 rfl rfl) ?_
  refine d_s' (j_storea_box0 agg32 rfl rfl rfl rfl rfl rfl) ?_
  refine d_nil (by kernel_rfl) (by kernel_rfl) ?_
  refine a_ret ?_
  exact ⟨[.agg [.own 6 (vf 6), .p _]], .agg [.own 0 0, .p _], [], [.row 52 2 _], [(6, (vf 6))], ⟨⟨_, _, _, _, rfl, rfl, agg32, rfl⟩, trivial⟩, rfl, rfl, ⟨⟨rfl, rfl⟩, trivial⟩, rfl, rfl, ⟨rfl, rfl, rfl⟩⟩


end Go.Ab

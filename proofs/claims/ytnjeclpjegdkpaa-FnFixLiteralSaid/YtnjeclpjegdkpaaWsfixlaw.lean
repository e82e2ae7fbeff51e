/- Walks. -/
import Derived.Test.YtnjeclpjegdkpaaBase
import Derived.Test.YtnjeclpjegdkpaaWsfix
import Derived.Test.YtnjeclpjegdkpaaWsprobd
namespace Go.Ab
open Go.Proofs
set_option maxRecDepth 100000
set_option maxHeartbeats 8000000
set_option linter.unusedSimpArgs false
set_option linter.unusedVariables false
theorem f_dFL (b : List Int) (hb : ∀ a ∈ b, 0 ≤ a ∧ a ≤ 255) : Fn Try.prog 42 [.sl (b.map dU)] [] (fun rr ii nn => ∃ x : List Con × Int, (okP x.1 14 15 ∧ -20 ≤ x.2 ∧ x.2 ≤ 20) ∧ rr = .tup [.sl (x.1.map dC), .p (.int .i64 x.2)] ∧ ii = [] ∧ nn = []) := by
  refine fn_of Try.func42 rfl (Nat.le_of_ble_eq_true rfl) fun w X g => ?_
  show AWp _ _ _ ⟨[(0, .sl (b.map dU))], []⟩
  refine a_seq ?_
  refine a_region (by kernel_rfl) ?_
  refine op_v' (j_assign (evo rfl)) ?_
  refine op_v' (j_assign (evo rfl)) ?_
  refine op_nil ?_
  refine a_seq ?_
  refine a_region (by kernel_rfl) ?_
  refine op_v' (j_move (evo rfl)) ?_
  refine op_n1' (fun ver => j_call1 (v := .ptr 7 ver 0) (hp1 := [(7, some (ver, .box 118 [.sl _, .p _]))]) [] false [] ent84 (f_open _) ⟨.inl ⟨rfl, rfl⟩, trivial⟩ trivial rfl rfl rfl (fun h => by cases h) rfl (List.all_eq_true.1 rfl) (.inl rfl) rfl rfl) fun v7x1 => ?_
  refine op_v' (j_assign (evo rfl)) ?_
  refine op_nil ?_
  refine a_seq ?_
  have hbt := okB_take (Nat.le_refl _) hb
  refine a_region (by kernel_rfl) ?_
  refine op_v' (j_move (evo rfl)) ?_
  refine op_v' (j_move (evo rfl)) ?_
  refine op_callE1 (v := fun x ver => .own 10 ver) (hp1 := fun x ver => [(7, some (v7x1, .box 118 [.sl _, .p _])), (10, some (ver, .row 59 2 _))]) [(7, v7x1)] false ent96 (f_l5Hard (b.take 2000) 0 hbt (by decide)) ⟨.inl ⟨rfl, rfl⟩, trivial⟩ ⟨⟨rfl, rfl⟩, trivial⟩ rfl rfl (fun _ => rfl) (fun _ => rfl) (.inl rfl) (fun _ _ => rfl) (fun _ _ => rfl) ?_
  rintro ⟨l10, p10⟩ ⟨ho10, hp10⟩ v10x2
  try dsimp only at ho10
  try dsimp only at hp10
  dsimp only [List.cons_append, List.nil_append]
  refine op_freezeK 10 trivial rfl rfl rfl ?_
  refine op_callE (v := fun x => .sl _) (hp1 := fun x => [(7, some (v7x1, .box 118 [.sl _, .p _]))]) [(7, v7x1)] false ent95 (f_l3Mut (b.take 2000) p10 l10 14 12 hbt (by omega) ho10 (by decide) (by decide)) ⟨.inl ⟨rfl, rfl⟩, .inl ⟨rfl, rfl⟩, trivial⟩ ⟨⟨rfl, rfl⟩, trivial⟩ rfl (fun _ => rfl) (fun _ => rfl) (.inl rfl) (fun _ => rfl) (fun _ => rfl) ?_
  rintro ⟨l11, p11⟩ ⟨ho11, hl11, hp11⟩
  try dsimp only at ho11
  try dsimp only at hl11
  try dsimp only at hp11
  dsimp only [List.cons_append, List.nil_append]
  refine op_v' (j_assign (evo rfl)) ?_
  refine op_nil ?_
  refine a_seq ?_
  refine a_region (by kernel_rfl) ?_
  refine op_v' (j_move (evo rfl)) ?_
  refine op_v' (j_move (evo rfl)) ?_
  refine op_n' (fun ver => j_buildSlice (parts := [(0, .const (.int .i64 1)), (1, .const (.int .i64 (-1))), (2, .const (.int .i64 2)), (3, .const (.int .i64 (-2))), (4, .const (.int .i64 3)), (5, .const (.int .i64 (-4))), (6, .const (.int .i64 12)), (7, .const (.int .i64 0)), (8, .const (.int .i64 13))]) (es := [[_], [_], [_], [_], [_], [_], [_], [_], [_]]) slt25 elt3 rfl rfl (by decide) (by decide) rfl rfl (by simp) rfl) fun v14x3 => ?_
  refine op_v0' (j_call0 (v := .p _) (hp1 := [(7, some (v7x1, .box 118 [.sl _, .p _])), (14, some (v14x3, .row 3 1 _))]) [(7, v7x1), (14, v14x3)] false [7, 14] ent97 (f_num (b.take 2000) p11 [1, -1, 2, -2, 3, -4, 12, 0, 13] hbt (by omega) (by decide) (by decide)) ⟨.inl ⟨rfl, rfl⟩, .inl ⟨rfl, rfl⟩, trivial⟩ ⟨⟨rfl, rfl⟩, ⟨rfl, rfl⟩, trivial⟩ rfl rfl (fun h => by cases h) rfl (List.all_eq_true.1 rfl) (.inl rfl) rfl rfl) ?_
  refine op_v' (j_assign (evo rfl)) ?_
  refine op_v' (j_assign (evo rfl)) ?_
  refine op_nil ?_
  refine a_ret ?_
  exact ⟨[.sl _, .p _], .tup [.sl _, .p _], [], [], [], ⟨rfl, rfl, trivial⟩, rfl, rfl, trivial, rfl, rfl, ⟨(l11, ofV (b.take 2000) p11 ([1, -1, 2, -2, 3, -4, 12, 0, 13] : List Int)), ⟨ho11, ofV_in (l := [1, -1, 2, -2, 3, -4, 12, 0, 13]) (lo := -20) (hi := 20) (by decide) (by decide)⟩, rfl, rfl, rfl⟩⟩


end Go.Ab

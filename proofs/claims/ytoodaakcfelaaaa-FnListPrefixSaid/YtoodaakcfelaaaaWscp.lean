/- Walks. -/
import Derived.Test.YtoodaakcfelaaaaBase
import Derived.Test.YtoodaakcfelaaaaCp
import Derived.Test.YtoodaakcfelaaaaSimp
import Derived.Test.YtoodaakcfelaaaaWsprop
import Derived.Test.YtoodaakcfelaaaaWsclau
import Derived.Test.YtoodaakcfelaaaaWsprobd
import Derived.Test.YtoodaakcfelaaaaWsdrawc
import Derived.Test.YtoodaakcfelaaaaDeep2
import Derived.Test.YtoodaakcfelaaaaMod3
import Derived.Test.YtoodaakcfelaaaaWscons
import Derived.Test.YtoodaakcfelaaaaVals
import Derived.Test.YtoodaakcfelaaaaWsfix
import Derived.Test.YtoodaakcfelaaaaWsfun
import Derived.Test.YtoodaakcfelaaaaWsprob
import Derived.Test.YtoodaakcfelaaaaWsenum
import Derived.Test.YtoodaakcfelaaaaWsexcl2
namespace Go.Ab
open Go.Proofs
set_option maxRecDepth 100000
set_option maxHeartbeats 8000000
set_option linter.unusedSimpArgs false
set_option linter.unusedVariables false
theorem f_l5Fuel (b : List Int) (p : Nat) (hb : okB b) (hp : p ≤ 1099509000000) : Fn Try.prog 44 [.ptr 0 0 0] [.box 93 [.sl (b.map dU), .p (.int .i64 ((p : Nat) : Int))]] (fun rr ii nn => rr = .p (.int .i64 (ofV b p ([200, 100, 300, 2, 5, 0, 1, -1, 2001] : List Int))) ∧ ii = [.box 93 [.sl (b.map dU), .p (.int .i64 (((p + 1) : Nat) : Int))]] ∧ nn = []) := by
 refine fn_of Try.func44 rfl (Nat.le_of_ble_eq_true rfl) fun w X g => ?_
 show AWp _ _ _ ⟨[(0, .ptr 0 0 0)], [(0, some (0, .box 93 [.sl (b.map dU), .p (.int .i64 ((p : Nat) : Int))]))]⟩
 refine a_seq ?_
 refine a_region (by kernel_rfl) ?_
 refine op_v' (j_assign (evo rfl)) ?_
 refine op_nil ?_
 refine a_seq ?_
 refine a_region (by kernel_rfl) ?_
 refine op_v' (j_move (evo rfl)) ?_
 refine op_n' (fun ver => j_buildSlice (parts := [(0, .const (.int .i64 200)), (1, .const (.int .i64 100)), (2, .const (.int .i64 300)), (3, .const (.int .i64 2)), (4, .const (.int .i64 5)), (5, .const (.int .i64 0)), (6, .const (.int .i64 1)), (7, .const (.int .i64 (-1))), (8, .const (.int .i64 2001))]) (es := [[_], [_], [_], [_], [_], [_], [_], [_], [_]]) slt23 elt3 rfl rfl (by decide) (by decide) rfl rfl (by simp) rfl) fun v4x1 => ?_
 refine op_v0' (j_call0 (v := .p _) (hp1 := [(0, some (0, .box 93 [.sl _, .p _])), (4, some (v4x1, .row 3 1 _))]) [(0, 0), (4, v4x1)] false [0, 4] ent59 (f_num b (p) [200, 100, 300, 2, 5, 0, 1, -1, 2001] hb (by omega) (by decide) (by decide)) ⟨.inl ⟨rfl, rfl⟩, .inl ⟨rfl, rfl⟩, trivial⟩ ⟨⟨rfl, rfl⟩, ⟨rfl, rfl⟩, trivial⟩ rfl rfl (fun h => by cases h) rfl (List.all_eq_true.1 rfl) (.inl rfl) rfl rfl) ?_
 refine op_v' (j_assign (evo rfl)) ?_
 refine op_nil ?_
 refine a_ret ?_
 exact ⟨[.p _], .p _, [.box 93 [.sl _, .p _]], [], [], ⟨rfl, trivial⟩, rfl, rfl, ⟨⟨rfl, rfl⟩, trivial⟩, rfl, rfl, ⟨rfl, rfl, rfl⟩⟩


theorem f_dLS (b : List Int) (hb : ∀ a ∈ b, 0 ≤ a ∧ a ≤ 255) : Fn Try.prog 20 [.sl (b.map dU)] [] (fun rr ii nn => ∃ x : List Con × List Int × Int, (okP x.1 14 15 ∧ x.2.1.length ≤ 6 ∧ -20 ≤ x.2.2 ∧ x.2.2 ≤ 3000) ∧ rr = .tup [.sl (x.1.map dC), .sl (x.2.1.map dI), .p (.int .i64 x.2.2)] ∧ ii = [] ∧ nn = []) := by
 refine fn_of Try.func20 rfl (Nat.le_of_ble_eq_true rfl) fun w X g => ?_
 show AWp _ _ _ ⟨[(0, .sl (b.map dU))], []⟩
 refine a_seq ?_
 refine a_region (by kernel_rfl) ?_
 refine op_v' (j_assign (evo rfl)) ?_
 refine op_v' (j_assign (evo rfl)) ?_
 refine op_v' (j_assign (evo rfl)) ?_
 refine op_nil ?_
 refine a_seq ?_
 refine a_region (by kernel_rfl) ?_
 refine op_v' (j_move (evo rfl)) ?_
 refine op_n1' (fun ver => j_call1 (v := .ptr 9 ver 0) (hp1 := [(9, some (ver, .box 93 [.sl _, .p _]))]) [] false [] ent40 (f_open _) ⟨.inl ⟨rfl, rfl⟩, trivial⟩ trivial rfl rfl rfl (fun h => by cases h) rfl (List.all_eq_true.1 rfl) (.inl rfl) rfl rfl) fun v9x1 => ?_
 refine op_v' (j_assign (evo rfl)) ?_
 refine op_nil ?_
 refine a_seq ?_
 have hbt := okB_take (Nat.le_refl _) hb
 refine a_region (by kernel_rfl) ?_
 refine op_v' (j_move (evo rfl)) ?_
 refine op_v' (j_move (evo rfl)) ?_
 refine op_callE1 (v := fun x ver => .own 12 ver) (hp1 := fun x ver => [(9, some (v9x1, .box 93 [.sl _, .p _])), (12, some (ver, .row 56 2 _))]) [(9, v9x1)] false ent42 (f_l5Hard (b.take 2000) 0 hbt (by decide)) ⟨.inl ⟨rfl, rfl⟩, trivial⟩ ⟨⟨rfl, rfl⟩, trivial⟩ rfl rfl (fun _ => rfl) (fun _ => rfl) (.inl rfl) (fun _ _ => rfl) (fun _ _ => rfl) ?_
 rintro ⟨l12, p12⟩ ⟨ho12, hp12⟩ v12x2
 try dsimp only at ho12
 try dsimp only at hp12
 dsimp only [List.cons_append, List.nil_append]
 refine op_freezeK 12 trivial rfl rfl rfl ?_
 refine op_callE (v := fun x => .sl _) (hp1 := fun x => [(9, some (v9x1, .box 93 [.sl _, .p _]))]) [(9, v9x1)] false ent41 (f_l3Mut (b.take 2000) p12 l12 14 12 hbt (by omega) ho12 (by decide) (by decide)) ⟨.inl ⟨rfl, rfl⟩, .inl ⟨rfl, rfl⟩, trivial⟩ ⟨⟨rfl, rfl⟩, trivial⟩ rfl (fun _ => rfl) (fun _ => rfl) (.inl rfl) (fun _ => rfl) (fun _ => rfl) ?_
 rintro ⟨l13, p13⟩ ⟨ho13, hl13, hp13⟩
 try dsimp only at ho13
 try dsimp only at hl13
 try dsimp only at hp13
 dsimp only [List.cons_append, List.nil_append]
 refine op_v' (j_assign (evo rfl)) ?_
 refine op_nil ?_
 refine a_seq ?_
 refine a_region (by kernel_rfl) ?_
 refine op_v' (j_move (evo rfl)) ?_
 refine op_callE (v := fun x => .sl _) (hp1 := fun x => [(9, some (v9x1, .box 93 [.sl _, .p _]))]) [(9, v9x1)] false ent43 (f_dVars (b.take 2000) p13 hbt (by omega)) ⟨.inl ⟨rfl, rfl⟩, trivial⟩ ⟨⟨rfl, rfl⟩, trivial⟩ rfl (fun _ => rfl) (fun _ => rfl) (.inl rfl) (fun _ => rfl) (fun _ => rfl) ?_
 rintro ⟨vs15, p15⟩ ⟨hl15, hp15⟩
 try dsimp only at hl15
 try dsimp only at hp15
 dsimp only [List.cons_append, List.nil_append]
 refine op_v' (j_assign (evo rfl)) ?_
 refine op_nil ?_
 refine a_seq ?_
 refine a_region (by kernel_rfl) ?_
 refine op_v' (j_move (evo rfl)) ?_
 refine op_v' (j_move (evo rfl)) ?_
 refine op_v' (j_move (evo rfl)) ?_
 refine op_v0' (j_call0 (v := .p _) (hp1 := [(9, some (v9x1, .box 93 [.sl _, .p _]))]) [(9, v9x1)] false [9] ent44 (f_l5Fuel (b.take 2000) p15 hbt (by omega)) ⟨.inl ⟨rfl, rfl⟩, trivial⟩ ⟨⟨rfl, rfl⟩, trivial⟩ rfl rfl (fun h => by cases h) rfl (List.all_eq_true.1 rfl) (.inl rfl) rfl rfl) ?_
 refine op_v' (j_assign (evo rfl)) ?_
 refine op_v' (j_assign (evo rfl)) ?_
 refine op_v' (j_assign (evo rfl)) ?_
 refine op_nil ?_
 refine a_ret ?_
 exact ⟨[.sl _, .sl _, .p _], .tup [.sl _, .sl _, .p _], [], [], [], ⟨rfl, rfl, rfl, trivial⟩, rfl, rfl, trivial, rfl, rfl, ⟨(l13, vs15, ofV (b.take 2000) p15 ([200, 100, 300, 2, 5, 0, 1, -1, 2001] : List Int)), ⟨ho13, by dsimp only; omega, ofV_in (l := [200, 100, 300, 2, 5, 0, 1, -1, 2001]) (lo := -20) (hi := 3000) (by decide) (by decide)⟩, rfl, rfl, rfl⟩⟩


end Go.Ab

/- Walks. -/
import Derived.Test.YtoodaakcfelaaaaBase
import Derived.Test.YtoodaakcfelaaaaSimp
import Derived.Test.YtoodaakcfelaaaaWsdraw
import Derived.Test.YtoodaakcfelaaaaWsexcl2
import Derived.Test.YtoodaakcfelaaaaWsenum
import Derived.Test.YtoodaakcfelaaaaWscons
import Derived.Test.YtoodaakcfelaaaaVals
namespace Go.Ab
open Go.Proofs
set_option maxRecDepth 100000
set_option maxHeartbeats 8000000
set_option linter.unusedSimpArgs false
set_option linter.unusedVariables false
theorem f_dVars (b : List Int) (p : Nat) (hb : okB b) (hp : p ≤ 1099511620000) : Fn Try.prog 43 [.ptr 0 0 0] [.box 93 [.sl (b.map dU), .p (.int .i64 ((p : Nat) : Int))]] (fun rr ii nn => ∃ x : List Int × Nat, (x.1.length ≤ 6 ∧ p ≤ x.2 ∧ x.2 ≤ p + 10) ∧ rr = .sl (x.1.map dI) ∧ ii = [.box 93 [.sl (b.map dU), .p (.int .i64 ((x.2 : Nat) : Int))]] ∧ nn = []) := by
 refine fn_of Try.func43 rfl (Nat.le_of_ble_eq_true rfl) fun w X g => ?_
 show AWp _ _ _ ⟨[(0, .ptr 0 0 0)], [(0, some (0, .box 93 [.sl (b.map dU), .p (.int .i64 ((p : Nat) : Int))]))]⟩
 refine a_seq ?_
 refine a_region (by kernel_rfl) ?_
 refine op_v' (j_assign (evo rfl)) ?_
 refine op_nil ?_
 refine a_seq ?_
 refine a_region (by kernel_rfl) ?_
 refine op_n' (fun ver => j_buildSlice (parts := []) (es := []) slt23 elt3 rfl rfl (by decide) (by decide) rfl rfl (by simp) rfl) fun v5x1 => ?_
 refine op_v' (j_assign (evo rfl)) ?_
 refine op_nil ?_
 refine a_seq ?_
 refine a_seq ?_
 refine a_region (by kernel_rfl) ?_
 refine op_v' (j_assign (evo rfl)) ?_
 refine op_nil ?_
 refine a_block ?_
 refine a_loopF' (ι := List Int × Nat × Nat × Nat) (fun x => x.2.1 ≤ 5 ∧ x.1.length ≤ x.2.1 ∧ x.2.2.1 = p + x.2.1) (fun x r => (4, .p (.int .i64 ((x.2.1 : Nat) + 1))) :: (3, .own 5 x.2.2.2) :: r) (fun x r => (0, some (0, .box 93 [.sl (b.map dU), .p (.int .i64 ((x.2.2.1 : Nat) : Int))])) :: (5, some (x.2.2.2, .row 3 1 (x.1.map dI))) :: r) (fun x => 5 - x.2.1) (fun _ _ => rfl) (fun _ _ => rfl) ([], 0, p, v5x1) (by first | exact ⟨Nat.zero_le _, Nat.zero_le _, rfl⟩ | (dsimp only; exact ⟨Nat.zero_le _, Nat.zero_le _, rfl⟩)) ⟨⟨rfl, rfl⟩, ⟨rfl, rfl, trivial⟩, ⟨rfl, rfl, trivial⟩, ⟨rfl, rfl⟩, ⟨rfl, rfl⟩⟩ ?_
 rintro ⟨l, k, q, v⟩ hpre; dsimp only at hpre ⊢
 refine a_seq ?_
 refine a_seq ?_
 refine a_region (by kernel_rfl) ?_
 refine op_v' (j_move (evo rfl)) ?_
 refine op_v' (j_le rfl rfl) ?_
 refine op_nil ?_
 refine a_cond rfl (fun h1 => ?_) (fun h1 => ?_)
 ·
  have h1r := h1
  try simp only [nq, nr, nl] at h1
  refine a_skip ?_
  refine a_seq ?_
  refine a_block ?_
  refine a_seq ?_
  refine a_region (by kernel_rfl) ?_
  refine op_v' (j_move (evo rfl)) ?_
  refine op_v0' (j_call0 (v := .p _) (hp1 := [(0, some (0, .box 93 [.sl _, .p _]))]) [(0, 0)] false [0] ent56 (f_pick _ _ _ (by assumption) (by omega)) ⟨.inl ⟨rfl, rfl⟩, .inl ⟨rfl, rfl⟩, trivial⟩ ⟨⟨rfl, rfl⟩, trivial⟩ rfl rfl (fun h => by cases h) rfl (List.all_eq_true.1 rfl) (.inl rfl) rfl rfl) ?_
  refine op_v' (j_eq rfl rfl) ?_
  refine op_nil ?_
  refine a_cond rfl (fun h2 => ?_) (fun h2 => ?_)
  ·
   have h2r := h2
   try simp only [nq, nr, nl] at h2
   refine a_region (by kernel_rfl) ?_
   refine op_v' (j_move (evo rfl)) ?_
   refine op_v' (j_move (evo rfl)) ?_
   refine op_n' (fun ver => j_buildSlice (parts := [(0, .tmp 14)]) (es := [[_]]) slt23 elt3 rfl rfl (by decide) (by decide) rfl rfl (by simp) rfl) fun v15x2 => ?_
   refine op_n' (fun ver => j_append_own slt23 elt3 rfl rfl rfl rfl rfl rfl (by rw [maxLen_eq]; first | omega | (simp only [nr, nl]; omega)) (by first | omega | (simp only [nr, nl]; omega))) fun v5x3 => ?_
   refine op_v' (j_assign (evo rfl)) ?_
   refine op_nil ?_
   refine a_region (by kernel_rfl) ?_
   refine op_v' (j_move (evo rfl)) ?_
   refine op_v' (j_add rfl rfl (by first | omega | (simp only [nr, nl]; omega)) (by first | omega | (simp only [nr, nl]; omega))) ?_
   refine op_v' (j_assign (evo rfl)) ?_
   refine op_nil ?_
   exact ⟨(l ++ [(k : Int) + 1], k + 1, q + 1, v5x3), (by first | exact ⟨by first | omega | (simp only [nr, nl]; omega), by first | omega | (simp only [nr, nl]; omega), by first | omega | (simp only [nr, nl]; omega)⟩ | (dsimp only; exact ⟨by first | omega | (simp only [nr, nl]; omega), by first | omega | (simp only [nr, nl]; omega), by first | omega | (simp only [nr, nl]; omega)⟩)), ⟨⟨rfl, rfl⟩, ⟨rfl, rfl, trivial⟩, ⟨rfl, rowEq (by rw [List.map_append]; rfl), trivial⟩, ⟨rfl, rfl⟩, ⟨rfl, rfl⟩⟩, (by first | exact (by first | omega | (simp only [nr, nl]; omega)) | (dsimp only; exact (by first | omega | (simp only [nr, nl]; omega))))⟩
  ·
   have h2r := h2
   try simp only [nq, nr, nl] at h2
   refine a_skip ?_
   refine a_region (by kernel_rfl) ?_
   refine op_v' (j_move (evo rfl)) ?_
   refine op_v' (j_add rfl rfl (by first | omega | (simp only [nr, nl]; omega)) (by first | omega | (simp only [nr, nl]; omega))) ?_
   refine op_v' (j_assign (evo rfl)) ?_
   refine op_nil ?_
   exact ⟨(l, k + 1, q + 1, v), (by first | exact ⟨by first | omega | (simp only [nr, nl]; omega), by first | omega | (simp only [nr, nl]; omega), by first | omega | (simp only [nr, nl]; omega)⟩ | (dsimp only; exact ⟨by first | omega | (simp only [nr, nl]; omega), by first | omega | (simp only [nr, nl]; omega), by first | omega | (simp only [nr, nl]; omega)⟩)), ⟨⟨rfl, rfl⟩, ⟨rfl, rfl, trivial⟩, ⟨rfl, rfl, trivial⟩, ⟨rfl, rfl⟩, ⟨rfl, rfl⟩⟩, (by first | exact (by first | omega | (simp only [nr, nl]; omega)) | (dsimp only; exact (by first | omega | (simp only [nr, nl]; omega))))⟩
 ·
  have h1r := h1
  try simp only [nq, nr, nl] at h1
  refine a_exit ?_
  refine a_seq ?_
  refine a_seq ?_
  refine a_region (by kernel_rfl) ?_
  refine op_v' (j_move (evo rfl)) ?_
  refine op_v0' (j_call0 (v := .p _) (hp1 := [(0, some (0, .box 93 [.sl _, .p _]))]) [(0, 0)] false [0] ent56 (f_pick _ _ _ (by assumption) (by omega)) ⟨.inl ⟨rfl, rfl⟩, .inl ⟨rfl, rfl⟩, trivial⟩ ⟨⟨rfl, rfl⟩, trivial⟩ rfl rfl (fun h => by cases h) rfl (List.all_eq_true.1 rfl) (.inl rfl) rfl rfl) ?_
  refine op_v' (j_eq rfl rfl) ?_
  refine op_nil ?_
  refine a_cond rfl (fun h3 => ?_) (fun h3 => ?_)
  ·
   have h3r := h3
   try simp only [nq, nr, nl] at h3
   refine a_region (by kernel_rfl) ?_
   refine op_v' (j_move (evo rfl)) ?_
   refine op_v' (j_move (evo rfl)) ?_
   refine op_n' (fun ver => j_buildSlice (parts := [(0, .const (.int .i64 12)), (1, .const (.int .i64 13)), (2, .const (.int .i64 0)), (3, .const (.int .i64 1))]) (es := [[_], [_], [_], [_]]) slt23 elt3 rfl rfl (by decide) (by decide) rfl rfl (by simp) rfl) fun v22x4 => ?_
   refine op_v0' (j_call0 (v := .p _) (hp1 := [(0, some (0, .box 93 [.sl _, .p _])), (22, some (v22x4, .row 3 1 _))]) [(0, 0), (22, v22x4)] false [0, 22] ent59 (f_num b (q + 1) [12, 13, 0, 1] hb (by omega) (by decide) (by decide)) ⟨.inl ⟨rfl, rfl⟩, .inl ⟨rfl, rfl⟩, trivial⟩ ⟨⟨rfl, rfl⟩, ⟨rfl, rfl⟩, trivial⟩ rfl rfl (fun h => by cases h) rfl (List.all_eq_true.1 rfl) (.inl rfl) rfl rfl) ?_
   refine op_n' (fun ver => j_buildSlice (parts := [(0, .tmp 23)]) (es := [[_]]) slt23 elt3 rfl rfl (by decide) (by decide) rfl rfl (by simp) rfl) fun v24x5 => ?_
   refine op_n' (fun ver => j_append_own slt23 elt3 rfl rfl rfl rfl rfl rfl (by rw [maxLen_eq]; first | omega | (simp only [nr, nl]; omega)) (by first | omega | (simp only [nr, nl]; omega))) fun v5x6 => ?_
   refine op_v' (j_assign (evo rfl)) ?_
   refine op_nil ?_
   refine a_seq ?_
   refine a_region (by kernel_rfl) ?_
   refine op_v' (j_move (evo rfl)) ?_
   refine op_v' (j_assign (evo rfl)) ?_
   refine op_nil ?_
   refine a_freezeK 2 ⟨⟨_, _, rfl⟩, trivial⟩ rfl rfl rfl ?_
   refine a_ret ?_
   exact ⟨[.sl _], .sl _, [.box 93 [.sl _, .p _]], [], [], ⟨rfl, trivial⟩, rfl, rfl, ⟨⟨rfl, rfl⟩, trivial⟩, rfl, rfl, ⟨(l ++ [ofV b (q + 1) [12, 13, 0, 1]], q + 2), ⟨by first | omega | (simp only [nr, nl]; omega), by dsimp only; omega⟩, slEq (by rw [List.map_append]; rfl), rfl, rfl⟩⟩
  ·
   have h3r := h3
   try simp only [nq, nr, nl] at h3
   refine a_skip ?_
   refine a_seq ?_
   refine a_region (by kernel_rfl) ?_
   refine op_v' (j_move (evo rfl)) ?_
   refine op_v' (j_assign (evo rfl)) ?_
   refine op_nil ?_
   refine a_freezeK 2 ⟨⟨_, _, rfl⟩, trivial⟩ rfl rfl rfl ?_
   refine a_ret ?_
   exact ⟨[.sl _], .sl _, [.box 93 [.sl _, .p _]], [], [], ⟨rfl, trivial⟩, rfl, rfl, ⟨⟨rfl, rfl⟩, trivial⟩, rfl, rfl, ⟨(l, q + 1), ⟨by dsimp only; omega, by dsimp only; omega⟩, rfl, rfl, rfl⟩⟩


end Go.Ab

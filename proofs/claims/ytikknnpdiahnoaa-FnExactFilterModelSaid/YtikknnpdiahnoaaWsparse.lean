/- Walks. -/
import Derived.Test.YtikknnpdiahnoaaBase
import Derived.Test.YtikknnpdiahnoaaVals
import Derived.Test.YtikknnpdiahnoaaWsvals
namespace Go.Ab
open Go.Proofs
set_option maxRecDepth 100000
set_option maxHeartbeats 8000000
set_option linter.unusedSimpArgs false
set_option linter.unusedVariables false
theorem f_markBoolS (k : Nat) (bs : List Bool) (hb : k + bs.length ≤ 4611686018427387904) : Fn Try.prog 111 [.own 0 0, .p (.int .i64 (k : Nat))] [.row 4 1 (bs.map dB)] (fun rr ii nn => rr = .p (.int .i64 ((k + bs.length : Nat) : Int)) ∧ ii = [.row 4 1 ((marksB k bs.length).map dB)] ∧ nn = []) := by
  refine fn_of Try.func111 rfl (Nat.le_of_ble_eq_true rfl) fun w X g => ?_
  show AWp _ _ _ ⟨[(0, .own 0 0), (1, .p (.int .i64 (k : Nat)))], [(0, some (0, .row 4 1 (bs.map dB)))]⟩
  refine a_seq ?_
  refine a_region (by kernel_rfl) ?_
  refine op_v' (j_assign (evo rfl)) ?_
  refine op_nil ?_
  refine a_seq ?_
  refine a_seq ?_
  refine a_region (by kernel_rfl) ?_
  refine op_v' (j_assign (evo rfl)) ?_
  refine op_nil ?_
  refine a_block ?_
  refine a_loopF' (ι := Nat) (fun i => i ≤ bs.length) (fun i r => (5, .p (.int .i64 (i : Nat))) :: (1, .p (.int .i64 ((k + i : Nat) : Int))) :: r) (fun i r => (0, some (0, .row 4 1 (wo dB (marksB k bs.length) bs i))) :: r) (fun i => bs.length - i) (fun _ _ => rfl) (fun _ _ => rfl) 0 (by first | omega | (simp only [List.length_map, List.length_take, Int.toNat_natCast, wo_length, marksB_length]; omega)) ⟨⟨rfl, rfl⟩, ⟨rfl, rfl, trivial⟩, ⟨rowEq wo_zero.symm, trivial⟩, ⟨rfl, rfl⟩, ⟨rfl, rfl⟩⟩ ?_
  intro i hpre0
  refine a_seq ?_
  refine a_seq ?_
  refine a_region (by kernel_rfl) ?_
  refine op_v' (j_move (evo rfl)) ?_
  refine op_v' (j_move (evo rfl)) ?_
  refine op_v' (j_len_own Try.underlying34 rfl rfl) ?_
  refine op_v' (j_lt rfl rfl) ?_
  refine op_nil ?_
  refine a_cond rfl (fun h1 => ?_) (fun h1 => ?_)
  ·
    have h1r := h1
    try simp only [Bool.not_eq_true', Bool.not_eq_false', Bool.not_not, bne_iff_ne, bne_eq_false_iff_eq, beq_eq_false_iff_ne, beq_iff_eq, ne_eq, decide_eq_true_eq, decide_eq_false_iff_not, Classical.not_not, List.length_map, List.length_take, Int.toNat_natCast, wo_length, marksB_length] at h1
    refine a_skip ?_
    refine a_seq ?_
    refine a_block ?_
    refine a_seq ?_
    refine a_region (by kernel_rfl) ?_
    refine op_v' (j_move (evo rfl)) ?_
    refine op_v' (j_move (evo rfl)) ?_
    refine op_v' (j_move (evo rfl)) ?_
    refine op_v' (j_rem rfl rfl (by first | omega | (simp only [List.length_map, List.length_take, Int.toNat_natCast, wo_length, marksB_length]; omega)) (by first | omega | (simp only [List.length_map, List.length_take, Int.toNat_natCast, wo_length, marksB_length]; omega))) ?_
    refine op_v' (j_eq rfl rfl) ?_
    refine op_v' (j_elem_ownN slt34 rfl rfl rfl rfl (by first | omega | (simp only [List.length_map, List.length_take, Int.toNat_natCast, wo_length, marksB_length]; omega))) ?_
    refine op_s' (j_store_row leaf4 rfl rfl (by first | omega | (simp only [List.length_map, List.length_take, Int.toNat_natCast, wo_length, marksB_length]; omega)) (evo rfl) rfl rfl) ?_
    refine op_nil ?_
    refine a_region (by kernel_rfl) ?_
    refine op_v' (j_move (evo rfl)) ?_
    refine op_v' (j_add rfl rfl (by first | omega | (simp only [List.length_map, List.length_take, Int.toNat_natCast, wo_length, marksB_length]; omega)) (by first | omega | (simp only [List.length_map, List.length_take, Int.toNat_natCast, wo_length, marksB_length]; omega))) ?_
    refine op_v' (j_assign (evo rfl)) ?_
    refine op_nil ?_
    refine a_region (by kernel_rfl) ?_
    refine op_v' (j_move (evo rfl)) ?_
    refine op_v' (j_add rfl rfl (by first | omega | (simp only [List.length_map, List.length_take, Int.toNat_natCast, wo_length, marksB_length]; omega)) (by first | omega | (simp only [List.length_map, List.length_take, Int.toNat_natCast, wo_length, marksB_length]; omega))) ?_
    refine op_v' (j_assign (evo rfl)) ?_
    refine op_nil ?_
    exact ⟨i + 1, (by first | omega | (simp only [List.length_map, List.length_take, Int.toNat_natCast, wo_length, marksB_length]; omega)), ⟨⟨rfl, rfl⟩, ⟨rfl, rfl, trivial⟩, ⟨rowEq (wo_set (d := default) (x := markB k i) (by first | omega | (simp only [List.length_map, List.length_take, Int.toNat_natCast, wo_length, marksB_length]; omega)) (by first | omega | (simp only [List.length_map, List.length_take, Int.toNat_natCast, wo_length, marksB_length]; omega)) (marksB_at (by first | omega | (simp only [List.length_map, List.length_take, Int.toNat_natCast, wo_length, marksB_length]; omega)))), trivial⟩, ⟨rfl, rfl⟩, ⟨rfl, rfl⟩⟩, (by first | omega | (simp only [List.length_map, List.length_take, Int.toNat_natCast, wo_length, marksB_length]; omega))⟩
  ·
    have h1r := h1
    try simp only [Bool.not_eq_true', Bool.not_eq_false', Bool.not_not, bne_iff_ne, bne_eq_false_iff_eq, beq_eq_false_iff_ne, beq_iff_eq, ne_eq, decide_eq_true_eq, decide_eq_false_iff_not, Classical.not_not, List.length_map, List.length_take, Int.toNat_natCast, wo_length, marksB_length] at h1
    refine a_exit ?_
    refine a_seq ?_
    refine a_region (by kernel_rfl) ?_
    refine op_v' (j_move (evo rfl)) ?_
    refine op_v' (j_assign (evo rfl)) ?_
    refine op_nil ?_
    refine a_ret ?_
    exact fin_p1 rfl rfl rfl rfl ⟨by rw [show i = bs.length by first | omega | (simp only [List.length_map, List.length_take, Int.toNat_natCast, wo_length, marksB_length]; omega)], congrArg (fun x => [Obj.row _ _ x]) (wo_all (by first | omega | (simp only [List.length_map, List.length_take, Int.toNat_natCast, wo_length, marksB_length]; omega)) (by first | omega | (simp only [List.length_map, List.length_take, Int.toNat_natCast, wo_length, marksB_length]; omega))), rfl⟩


theorem f_heldBoolS (k n : Nat) (hb : k + n ≤ 4611686018427387904) : Fn Try.prog 112 [.sl ((marksB k n).map dB), .p (.int .i64 (k : Nat))] [] (fun rr ii nn => rr = .p (.int .i64 ((k + n : Nat) : Int)) ∧ ii = [] ∧ nn = []) := by
  refine fn_of Try.func112 rfl (Nat.le_of_ble_eq_true rfl) fun w X g => ?_
  show AWp _ _ _ ⟨[(0, .sl ((marksB k n).map dB)), (1, .p (.int .i64 (k : Nat)))], []⟩
  refine a_seq ?_
  refine a_region (by kernel_rfl) ?_
  refine op_v' (j_assign (evo rfl)) ?_
  refine op_nil ?_
  refine a_seq ?_
  refine a_seq ?_
  refine a_region (by kernel_rfl) ?_
  refine op_v' (j_assign (evo rfl)) ?_
  refine op_nil ?_
  refine a_block ?_
  refine a_loopF' (ι := Nat) (fun i => i ≤ n) (fun i r => (5, .p (.int .i64 (i : Nat))) :: (1, .p (.int .i64 ((k + i : Nat) : Int))) :: r) (fun i r => r) (fun i => n - i) (fun _ _ => rfl) (fun _ _ => rfl) 0 (by first | omega | (simp only [List.length_map, List.length_take, Int.toNat_natCast, marksB_length]; omega)) ⟨⟨rfl, rfl⟩, ⟨rfl, rfl, trivial⟩, trivial, ⟨rfl, rfl⟩, ⟨rfl, rfl⟩⟩ ?_
  intro i hpre0
  refine a_seq ?_
  refine a_seq ?_
  refine a_region (by kernel_rfl) ?_
  refine op_v' (j_move (evo rfl)) ?_
  refine op_v' (j_move (evo rfl)) ?_
  refine op_v' (j_len_map Try.underlying34 rfl) ?_
  refine op_v' (j_lt rfl rfl) ?_
  refine op_nil ?_
  refine a_cond rfl (fun h1 => ?_) (fun h1 => ?_)
  ·
    have h1r := h1
    try simp only [Bool.not_eq_true', Bool.not_eq_false', Bool.not_not, bne_iff_ne, bne_eq_false_iff_eq, beq_eq_false_iff_ne, beq_iff_eq, ne_eq, decide_eq_true_eq, decide_eq_false_iff_not, Classical.not_not, List.length_map, List.length_take, Int.toNat_natCast, marksB_length] at h1
    refine a_skip ?_
    refine a_seq ?_
    refine a_block ?_
    refine a_seq ?_
    refine a_seq ?_
    refine a_region (by kernel_rfl) ?_
    refine op_v' (j_move (evo rfl)) ?_
    refine op_v' (j_move (evo rfl)) ?_
    refine op_v' (j_elemN slt34 rfl rfl rfl (at_map (by first | omega | (simp only [List.length_map, List.length_take, Int.toNat_natCast, marksB_length]; omega))) rfl) ?_
    refine op_v' (j_load_el leaf4 rfl (at_map (by first | omega | (simp only [List.length_map, List.length_take, Int.toNat_natCast, marksB_length]; omega))) rfl) ?_
    refine op_v' (j_move (evo rfl)) ?_
    refine op_v' (j_rem rfl rfl (by first | omega | (simp only [List.length_map, List.length_take, Int.toNat_natCast, marksB_length]; omega)) (by first | omega | (simp only [List.length_map, List.length_take, Int.toNat_natCast, marksB_length]; omega))) ?_
    refine op_v' (j_eq rfl rfl) ?_
    refine op_v' (j_neb Try.underlying4 rfl rfl) ?_
    refine op_nil ?_
    refine a_cond rfl (fun h2 => ?_) (fun h2 => ?_)
    ·
      have h2r := h2
      try simp only [Bool.not_eq_true', Bool.not_eq_false', Bool.not_not, bne_iff_ne, bne_eq_false_iff_eq, beq_eq_false_iff_ne, beq_iff_eq, ne_eq, decide_eq_true_eq, decide_eq_false_iff_not, Classical.not_not, List.length_map, List.length_take, Int.toNat_natCast, marksB_length] at h2
      refine a_seq ?_
      refine a_region (by kernel_rfl) ?_
      refine op_v' (j_assign (evo rfl)) ?_
      refine op_nil ?_
      refine a_ret ?_
      exact absurd h2 (by rw [marksB_at (by first | omega | (simp only [List.length_map, List.length_take, Int.toNat_natCast, marksB_length]; omega))]; unfold markB; simp)
    ·
      have h2r := h2
      try simp only [Bool.not_eq_true', Bool.not_eq_false', Bool.not_not, bne_iff_ne, bne_eq_false_iff_eq, beq_eq_false_iff_ne, beq_iff_eq, ne_eq, decide_eq_true_eq, decide_eq_false_iff_not, Classical.not_not, List.length_map, List.length_take, Int.toNat_natCast, marksB_length] at h2
      refine a_skip ?_
      refine a_region (by kernel_rfl) ?_
      refine op_v' (j_move (evo rfl)) ?_
      refine op_v' (j_add rfl rfl (by first | omega | (simp only [List.length_map, List.length_take, Int.toNat_natCast, marksB_length]; omega)) (by first | omega | (simp only [List.length_map, List.length_take, Int.toNat_natCast, marksB_length]; omega))) ?_
      refine op_v' (j_assign (evo rfl)) ?_
      refine op_nil ?_
      refine a_region (by kernel_rfl) ?_
      refine op_v' (j_move (evo rfl)) ?_
      refine op_v' (j_add rfl rfl (by first | omega | (simp only [List.length_map, List.length_take, Int.toNat_natCast, marksB_length]; omega)) (by first | omega | (simp only [List.length_map, List.length_take, Int.toNat_natCast, marksB_length]; omega))) ?_
      refine op_v' (j_assign (evo rfl)) ?_
      refine op_nil ?_
      exact ⟨i + 1, (by first | omega | (simp only [List.length_map, List.length_take, Int.toNat_natCast, marksB_length]; omega)), ⟨⟨rfl, rfl⟩, ⟨rfl, rfl, trivial⟩, trivial, ⟨rfl, rfl⟩, ⟨rfl, rfl⟩⟩, (by first | omega | (simp only [List.length_map, List.length_take, Int.toNat_natCast, marksB_length]; omega))⟩
  ·
    have h1r := h1
    try simp only [Bool.not_eq_true', Bool.not_eq_false', Bool.not_not, bne_iff_ne, bne_eq_false_iff_eq, beq_eq_false_iff_ne, beq_iff_eq, ne_eq, decide_eq_true_eq, decide_eq_false_iff_not, Classical.not_not, List.length_map, List.length_take, Int.toNat_natCast, marksB_length] at h1
    refine a_exit ?_
    refine a_seq ?_
    refine a_region (by kernel_rfl) ?_
    refine op_v' (j_move (evo rfl)) ?_
    refine op_v' (j_assign (evo rfl)) ?_
    refine op_nil ?_
    refine a_ret ?_
    exact fin_p rfl ⟨by rw [show i = n by first | omega | (simp only [List.length_map, List.length_take, Int.toNat_natCast, marksB_length]; omega)], rfl, rfl⟩


end Go.Ab

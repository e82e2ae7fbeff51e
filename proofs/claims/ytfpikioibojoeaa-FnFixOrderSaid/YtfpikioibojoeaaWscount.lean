/- Walks. -/
import Derived.Test.YtfpikioibojoeaaBase
import Derived.Test.YtfpikioibojoeaaTabs2
import Derived.Test.YtfpikioibojoeaaWstab
namespace Go.Ab
open Go.Proofs
set_option maxRecDepth 100000
set_option maxHeartbeats 8000000
set_option linter.unusedSimpArgs false
set_option linter.unusedVariables false
theorem f_ccImpl (c : Con) : Fn Try.prog 29 [.agg [.sl (c.1.map dT), .p (.int .i64 c.2)]] [] (fun rr ii nn => rr = .p (.int .i64 (ccV c)) ∧ ii = [] ∧ nn = []) := by
  refine fn_of Try.func29 rfl (Nat.le_of_ble_eq_true rfl) fun w X g => ?_
  show AWp _ _ _ ⟨[(0, .agg [.sl (c.1.map dT), .p (.int .i64 c.2)])], []⟩
  refine a_seq ?_
  refine a_region (by kernel_rfl) ?_
  refine op_n' (fun ver => j_boxa rfl) fun v1x1 => ?_
  refine op_v' (j_assign (evo rfl)) ?_
  refine op_nil ?_
  refine a_seq ?_
  refine a_seq ?_
  refine a_region (by kernel_rfl) ?_
  refine op_v' (j_loada_box (ys := [.sl _, .p _]) agg25 rfl rfl rfl (Nat.le_of_ble_eq_true rfl)) ?_
  refine op_v0' (j_call0 (v := .p _) (hp1 := []) [] false [] ent66 (f_cvImpl _) ⟨.inl ⟨rfl, rfl⟩, trivial⟩ trivial rfl rfl (fun h => by cases h) rfl (fun _ h => by cases h) (.inl rfl) rfl rfl) ?_
  refine op_v' (j_not rfl) ?_
  refine op_nil ?_
  refine a_cond rfl (fun h1 => ?_) (fun h1 => ?_)
  ·
    have h1r := h1
    try simp only [Bool.not_eq_true', Bool.not_eq_false', Bool.not_not, bne_iff_ne, bne_eq_false_iff_eq, beq_eq_false_iff_ne, beq_iff_eq, ne_eq, decide_eq_true_eq, decide_eq_false_iff_not, Classical.not_not, List.length_map, List.length_take, Int.toNat_natCast] at h1
    refine a_seq ?_
    refine a_region (by kernel_rfl) ?_
    refine op_v' (j_assign (evo rfl)) ?_
    refine op_nil ?_
    refine a_ret ?_
    exact ⟨[.p _], .p _, [], [], [], ⟨rfl, trivial⟩, rfl, rfl, trivial, rfl, rfl, ⟨intEq (by unfold ccV; rw [if_neg (by rw [h1]; decide)]), rfl, rfl⟩⟩
  ·
    have h1r := h1
    try simp only [Bool.not_eq_true', Bool.not_eq_false', Bool.not_not, bne_iff_ne, bne_eq_false_iff_eq, beq_eq_false_iff_ne, beq_iff_eq, ne_eq, decide_eq_true_eq, decide_eq_false_iff_not, Classical.not_not, List.length_map, List.length_take, Int.toNat_natCast] at h1
    refine a_skip ?_
    refine a_seq ?_
    refine a_region (by kernel_rfl) ?_
    refine op_v' (j_assign (evo rfl)) ?_
    refine op_nil ?_
    refine a_seq ?_
    refine a_seq ?_
    refine a_region (by kernel_rfl) ?_
    refine op_v' (j_move (evo rfl)) ?_
    refine op_nil ?_
    refine a_block ?_
    refine a_loopF' (ι := Nat) (fun k => k ≤ 4096) (fun k r => (8, .p (.int .i64 ((k : Nat)))) :: (3, .p (.int .i64 (((cntH c k : Nat) : Int)))) :: r) (fun k r => r) (fun k => 4096 - k) (fun _ _ => rfl) (fun _ _ => rfl) 0 (by omega) ⟨⟨rfl, rfl⟩, ⟨rfl, rfl, trivial⟩, trivial, ⟨rfl, rfl⟩, ⟨rfl, rfl⟩⟩ ?_
    intro k hpre0
    refine a_seq ?_
    refine a_region (by kernel_rfl) ?_
    refine op_v' (j_lt rfl rfl) ?_
    refine op_nil ?_
    refine a_seq ?_
    refine a_cond rfl (fun h2 => ?_) (fun h2 => ?_)
    ·
      have h2r := h2
      try simp only [Bool.not_eq_true', Bool.not_eq_false', Bool.not_not, bne_iff_ne, bne_eq_false_iff_eq, beq_eq_false_iff_ne, beq_iff_eq, ne_eq, decide_eq_true_eq, decide_eq_false_iff_not, Classical.not_not, List.length_map, List.length_take, Int.toNat_natCast] at h2
      refine a_skip ?_
      refine a_seq ?_
      refine a_block ?_
      refine a_seq ?_
      refine a_region (by kernel_rfl) ?_
      refine op_v' (j_move (evo rfl)) ?_
      refine op_v' (j_assign (evo rfl)) ?_
      refine op_nil ?_
      refine a_seq ?_
      refine a_draw mixed (by kernel_rfl) (by kernel_rfl) fun vf => ?_
      refine d_v' (j_loada_box (ys := [.sl _, .p _]) agg25 rfl rfl rfl (Nat.le_of_ble_eq_true rfl)) ?_
      refine d_v' (j_move (evo rfl)) ?_
      refine d_n1' (fun ver => j_call1 (v := .own 13 ver) (hp1 := [(13, some (ver, .row 4 1 _))]) [] false [] ent75 (f_numbered _ (by omega)) ⟨.inl ⟨rfl, rfl⟩, trivial⟩ trivial rfl rfl rfl (fun h => by cases h) rfl (List.all_eq_true.1 rfl) (.inl rfl) rfl rfl) ?_
      refine d_v0' (j_call0 (v := .p _) (hp1 := []) [] true [13] ent76 (f_holdsC c (assn k) h1 assn_length) ⟨.inl ⟨rfl, rfl⟩, .inr ⟨rfl, view_own rfl rfl, rfl⟩, trivial⟩ trivial rfl rfl (fun _ => rfl) rfl (fun _ h => by cases h) (.inr ⟨rfl, by first | exact pl_new1 (fun _ => rfl) | (simp [plO, plV, plV.plL]; done)⟩) rfl rfl) ?_
      refine d_nil (by kernel_rfl) (by kernel_rfl) ?_
      refine a_cond rfl (fun h3 => ?_) (fun h3 => ?_)
      ·
        have h3r := h3
        try simp only [Bool.not_eq_true', Bool.not_eq_false', Bool.not_not, bne_iff_ne, bne_eq_false_iff_eq, beq_eq_false_iff_ne, beq_iff_eq, ne_eq, decide_eq_true_eq, decide_eq_false_iff_not, Classical.not_not, List.length_map, List.length_take, Int.toNat_natCast] at h3
        refine a_region (by kernel_rfl) ?_
        refine op_v' (j_move (evo rfl)) ?_
        refine op_v' (j_add rfl rfl (by omega) (by have := cntH_le (c := c) (k := k); omega)) ?_
        refine op_v' (j_assign (evo rfl)) ?_
        refine op_nil ?_
        refine a_region (by kernel_rfl) ?_
        refine op_v' (j_add rfl rfl (by omega) (by omega)) ?_
        refine op_v' (j_move (evo rfl)) ?_
        refine op_nil ?_
        exact ⟨k + 1, (by omega), ⟨⟨rfl, rfl⟩, ⟨rfl, intEq (by rw [cntH_succ, if_pos h3r]; rfl), trivial⟩, trivial, ⟨rfl, rfl⟩, ⟨rfl, rfl⟩⟩, (by omega)⟩
      ·
        have h3r := h3
        try simp only [Bool.not_eq_true', Bool.not_eq_false', Bool.not_not, bne_iff_ne, bne_eq_false_iff_eq, beq_eq_false_iff_ne, beq_iff_eq, ne_eq, decide_eq_true_eq, decide_eq_false_iff_not, Classical.not_not, List.length_map, List.length_take, Int.toNat_natCast] at h3
        refine a_skip ?_
        refine a_region (by kernel_rfl) ?_
        refine op_v' (j_add rfl rfl (by omega) (by omega)) ?_
        refine op_v' (j_move (evo rfl)) ?_
        refine op_nil ?_
        exact ⟨k + 1, (by omega), ⟨⟨rfl, rfl⟩, ⟨rfl, intEq (by rw [cntH_succ, if_neg (by rw [h3r]; decide), Nat.add_zero]), trivial⟩, trivial, ⟨rfl, rfl⟩, ⟨rfl, rfl⟩⟩, (by omega)⟩
    ·
      have h2r := h2
      try simp only [Bool.not_eq_true', Bool.not_eq_false', Bool.not_not, bne_iff_ne, bne_eq_false_iff_eq, beq_eq_false_iff_ne, beq_iff_eq, ne_eq, decide_eq_true_eq, decide_eq_false_iff_not, Classical.not_not, List.length_map, List.length_take, Int.toNat_natCast] at h2
      refine a_exit ?_
      refine a_seq ?_
      refine a_region (by kernel_rfl) ?_
      refine op_v' (j_move (evo rfl)) ?_
      refine op_v' (j_assign (evo rfl)) ?_
      refine op_nil ?_
      refine a_ret ?_
      exact ⟨[.p _], .p _, [], [], [], ⟨rfl, trivial⟩, rfl, rfl, trivial, rfl, rfl, ⟨intEq (by unfold ccV; rw [if_pos h1, show k = 4096 by omega]), rfl, rfl⟩⟩


end Go.Ab

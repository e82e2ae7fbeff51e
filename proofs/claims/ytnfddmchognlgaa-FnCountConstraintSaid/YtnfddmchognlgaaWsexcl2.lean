/- Walks. -/
import Derived.Test.YtnfddmchognlgaaBase
import Derived.Test.YtnfddmchognlgaaCons
import Derived.Test.YtnfddmchognlgaaWsexcl
namespace Go.Ab
open Go.Proofs
set_option maxRecDepth 100000
set_option maxHeartbeats 8000000
set_option linter.unusedSimpArgs false
set_option linter.unusedVariables false
theorem f_areVars (vs : List Int) : Fn Try.prog 64 [.sl (vs.map dI)] [] (fun rr ii nn => rr = .p (.bool (varsFrom 0 vs)) ∧ ii = [] ∧ nn = []) := by
  refine fn_of Try.func64 rfl (Nat.le_of_ble_eq_true rfl) fun w X g => ?_
  show AWp _ _ _ ⟨[(0, .sl (vs.map dI))], []⟩
  refine a_len_map 0 rfl fun hlen => ?_
  refine a_seq ?_
  refine a_region (by kernel_rfl) ?_
  refine op_v' (j_assign (evo rfl)) ?_
  refine op_nil ?_
  refine a_seq ?_
  refine a_seq ?_
  refine a_region (by kernel_rfl) ?_
  refine op_v' (j_move (evo rfl)) ?_
  refine op_v' (j_len_map Try.underlying46 rfl) ?_
  refine op_v' (j_move (evo rfl)) ?_
  refine op_nil ?_
  refine a_block ?_
  refine a_loopF' (ι := Nat) (fun k => k ≤ vs.length ∧ varsFrom 0 vs = varsFrom (prevI vs k) (vs.drop k)) (fun k r => (7, .p (.int .i64 ((k : Nat)))) :: r) (fun k r => r) (fun k => vs.length - k) (fun _ _ => rfl) (fun _ _ => rfl) 0 ⟨Nat.zero_le _, rfl⟩ ⟨⟨rfl, rfl⟩, ⟨rfl, trivial⟩, trivial, ⟨rfl, rfl⟩, ⟨rfl, rfl⟩⟩ ?_
  intro k hpre
  refine a_seq ?_
  refine a_region (by kernel_rfl) ?_
  refine op_v' (j_lt rfl rfl) ?_
  refine op_nil ?_
  refine a_seq ?_
  refine a_cond rfl (fun h1 => ?_) (fun h1 => ?_)
  ·
    have h1r := h1
    try simp only [Bool.not_eq_true', Bool.not_eq_false', Bool.not_not, bne_iff_ne, bne_eq_false_iff_eq, beq_eq_false_iff_ne, beq_iff_eq, ne_eq, decide_eq_true_eq, decide_eq_false_iff_not, Classical.not_not, List.length_map, List.length_take, Int.toNat_natCast] at h1
    refine a_skip ?_
    refine a_seq ?_
    refine a_block ?_
    refine a_seq ?_
    refine a_region (by kernel_rfl) ?_
    refine op_v' (j_move (evo rfl)) ?_
    refine op_v' (j_elemN slt46 rfl rfl rfl (at_map (by omega)) rfl) ?_
    refine op_v' (j_load_el leaf3 rfl (at_map (by omega)) rfl) ?_
    refine op_v' (j_assign (evo rfl)) ?_
    refine op_v' (j_assign (evo rfl)) ?_
    refine op_nil ?_
    refine a_seq ?_
    refine a_region (by kernel_rfl) ?_
    refine op_v' (j_move (evo rfl)) ?_
    refine op_v0' (j_call0 (v := .p _) (hp1 := []) [] false [] ent71 (f_within _ _ _) ⟨.inl ⟨rfl, rfl⟩, .inl ⟨rfl, rfl⟩, .inl ⟨rfl, rfl⟩, trivial⟩ trivial rfl rfl (fun h => by cases h) rfl (fun _ h => by cases h) (.inl rfl) rfl rfl) ?_
    refine op_v' (j_not rfl) ?_
    refine op_v' (j_move (evo rfl)) ?_
    refine op_split' 15 rfl (fun h2 => ?_) (fun h2 => ?_)
    ·
      have h2r := h2
      try simp only [Bool.not_eq_true', Bool.not_eq_false', Bool.not_not, bne_iff_ne, bne_eq_false_iff_eq, beq_eq_false_iff_ne, beq_iff_eq, ne_eq, decide_eq_true_eq, decide_eq_false_iff_not, Classical.not_not, List.length_map, List.length_take, Int.toNat_natCast] at h2
      refine op_v' (j_unwantV rfl rfl h2r) ?_
      refine op_v' (j_unwantV rfl rfl h2r) ?_
      refine op_v' (j_unwantV rfl rfl h2r) ?_
      refine op_v' (j_unwantU rfl rfl) ?_
      refine op_v' (j_unwantU rfl rfl) ?_
      refine op_v' (j_unwantU rfl rfl) ?_
      refine op_v' (j_unwantU rfl rfl) ?_
      refine op_v' (j_unwantU rfl rfl) ?_
      refine op_v' (j_unwantU rfl rfl) ?_
      refine op_v' (j_unwantU rfl rfl) ?_
      refine op_v' (j_unwantV rfl rfl h2r) ?_
      refine op_v' (j_pick_t rfl h2r (evo rfl)) ?_
      refine op_nil ?_
      refine a_tt rfl ?_
      refine a_seq ?_
      refine a_region (by kernel_rfl) ?_
      refine op_v' (j_assign (evo rfl)) ?_
      refine op_nil ?_
      refine a_ret ?_
      exact ⟨[.p _], .p _, [], [], [], ⟨rfl, trivial⟩, rfl, rfl, trivial, rfl, rfl, ⟨boolEq (by symm; rw [hpre.2, drop_getD (d := default) (by omega), (varsFrom_bad (by rintro ⟨a1, a2, a3⟩; first | omega | (rw [prevI_pos (by omega)] at a1; omega)))]), rfl, rfl⟩⟩
    ·
      have h2r := h2
      try simp only [Bool.not_eq_true', Bool.not_eq_false', Bool.not_not, bne_iff_ne, bne_eq_false_iff_eq, beq_eq_false_iff_ne, beq_iff_eq, ne_eq, decide_eq_true_eq, decide_eq_false_iff_not, Classical.not_not, List.length_map, List.length_take, Int.toNat_natCast] at h2
      refine op_v' (j_want rfl rfl h2r (j_move (evo rfl))) ?_
      refine op_v' (j_want rfl rfl h2r (j_gt rfl rfl)) ?_
      refine op_v' (j_want rfl rfl h2r (j_move (evo rfl))) ?_
      refine op_split' 18 rfl (fun h3 => ?_) (fun h3 => ?_)
      ·
        have h3r := h3
        try simp only [Bool.not_eq_true', Bool.not_eq_false', Bool.not_not, bne_iff_ne, bne_eq_false_iff_eq, beq_eq_false_iff_ne, beq_iff_eq, ne_eq, decide_eq_true_eq, decide_eq_false_iff_not, Classical.not_not, List.length_map, List.length_take, Int.toNat_natCast] at h3
        refine op_v' (j_want rfl rfl h3r (j_move (evo rfl))) ?_
        refine op_v' (j_want rfl rfl h3r (j_move (evo rfl))) ?_
        refine op_v' (j_want rfl rfl h3r (j_sub rfl rfl (by omega) (by omega))) ?_
        refine op_v' (j_want rfl rfl h3r (j_elemN (n := k - 1) slt46 rfl rfl (by omega) (at_map (by omega)) rfl)) ?_
        refine op_v' (j_want rfl rfl h3r (j_load_el leaf3 rfl (at_map (by omega)) rfl)) ?_
        refine op_v' (j_want rfl rfl h3r (j_move (evo rfl))) ?_
        refine op_v' (j_want rfl rfl h3r (j_ge rfl rfl)) ?_
        refine op_v' (j_want rfl rfl h2r (j_pick_t rfl h3r (evo rfl))) ?_
        refine op_v' (j_pick_f rfl h2r (evo rfl)) ?_
        refine op_nil ?_
        refine a_cond rfl (fun h4 => ?_) (fun h4 => ?_)
        ·
          have h4r := h4
          try simp only [Bool.not_eq_true', Bool.not_eq_false', Bool.not_not, bne_iff_ne, bne_eq_false_iff_eq, beq_eq_false_iff_ne, beq_iff_eq, ne_eq, decide_eq_true_eq, decide_eq_false_iff_not, Classical.not_not, List.length_map, List.length_take, Int.toNat_natCast] at h4
          refine a_seq ?_
          refine a_region (by kernel_rfl) ?_
          refine op_v' (j_assign (evo rfl)) ?_
          refine op_nil ?_
          refine a_ret ?_
          exact ⟨[.p _], .p _, [], [], [], ⟨rfl, trivial⟩, rfl, rfl, trivial, rfl, rfl, ⟨boolEq (by symm; rw [hpre.2, drop_getD (d := default) (by omega), (varsFrom_bad (by rintro ⟨a1, a2, a3⟩; first | omega | (rw [prevI_pos (by omega)] at a1; omega)))]), rfl, rfl⟩⟩
        ·
          have h4r := h4
          try simp only [Bool.not_eq_true', Bool.not_eq_false', Bool.not_not, bne_iff_ne, bne_eq_false_iff_eq, beq_eq_false_iff_ne, beq_iff_eq, ne_eq, decide_eq_true_eq, decide_eq_false_iff_not, Classical.not_not, List.length_map, List.length_take, Int.toNat_natCast] at h4
          refine a_skip ?_
          refine a_region (by kernel_rfl) ?_
          refine op_v' (j_add rfl rfl (by omega) (by omega)) ?_
          refine op_v' (j_move (evo rfl)) ?_
          refine op_nil ?_
          exact ⟨k + 1, ⟨by omega, by rw [hpre.2, drop_getD (d := default) (by omega), varsFrom_good (by first | (rw [prevI_pos (by omega)]; omega) | (rw [prevI_zero (by omega)]; omega)) (by omega) (by omega), prevI_succ]⟩, ⟨⟨rfl, rfl⟩, ⟨rfl, trivial⟩, trivial, ⟨rfl, rfl⟩, ⟨rfl, rfl⟩⟩, (by omega)⟩
      ·
        have h3r := h3
        try simp only [Bool.not_eq_true', Bool.not_eq_false', Bool.not_not, bne_iff_ne, bne_eq_false_iff_eq, beq_eq_false_iff_ne, beq_iff_eq, ne_eq, decide_eq_true_eq, decide_eq_false_iff_not, Classical.not_not, List.length_map, List.length_take, Int.toNat_natCast] at h3
        refine op_v' (j_unwantV rfl rfl h3r) ?_
        refine op_v' (j_unwantV rfl rfl h3r) ?_
        refine op_v' (j_unwantV rfl rfl h3r) ?_
        refine op_v' (j_unwantV rfl rfl h3r) ?_
        refine op_v' (j_unwantV rfl rfl h3r) ?_
        refine op_v' (j_unwantV rfl rfl h3r) ?_
        refine op_v' (j_unwantV rfl rfl h3r) ?_
        refine op_v' (j_want rfl rfl h2r (j_pick_f rfl h3r (evo rfl))) ?_
        refine op_v' (j_pick_f rfl h2r (evo rfl)) ?_
        refine op_nil ?_
        refine a_ff rfl ?_
        refine a_skip ?_
        refine a_region (by kernel_rfl) ?_
        refine op_v' (j_add rfl rfl (by omega) (by omega)) ?_
        refine op_v' (j_move (evo rfl)) ?_
        refine op_nil ?_
        exact ⟨k + 1, ⟨by omega, by rw [hpre.2, drop_getD (d := default) (by omega), varsFrom_good (by first | (rw [prevI_pos (by omega)]; omega) | (rw [prevI_zero (by omega)]; omega)) (by omega) (by omega), prevI_succ]⟩, ⟨⟨rfl, rfl⟩, ⟨rfl, trivial⟩, trivial, ⟨rfl, rfl⟩, ⟨rfl, rfl⟩⟩, (by omega)⟩
  ·
    have h1r := h1
    try simp only [Bool.not_eq_true', Bool.not_eq_false', Bool.not_not, bne_iff_ne, bne_eq_false_iff_eq, beq_eq_false_iff_ne, beq_iff_eq, ne_eq, decide_eq_true_eq, decide_eq_false_iff_not, Classical.not_not, List.length_map, List.length_take, Int.toNat_natCast] at h1
    refine a_exit ?_
    refine a_seq ?_
    refine a_region (by kernel_rfl) ?_
    refine op_v' (j_assign (evo rfl)) ?_
    refine op_nil ?_
    refine a_ret ?_
    exact ⟨[.p _], .p _, [], [], [], ⟨rfl, trivial⟩, rfl, rfl, trivial, rfl, rfl, ⟨boolEq (by symm; rw [hpre.2, List.drop_of_length_le (by omega)]; rfl), rfl, rfl⟩⟩


theorem f_l14Vars (vs : List Int) : Fn Try.prog 66 [.sl (vs.map dI)] [] (fun rr ii nn => rr = .p (.bool (varsFrom 0 vs)) ∧ ii = [] ∧ nn = []) := by
  refine fn_of Try.func66 rfl (Nat.le_of_ble_eq_true rfl) fun w X g => ?_
  show AWp _ _ _ ⟨[(0, .sl (vs.map dI))], []⟩
  refine a_len_map 0 rfl fun hlen => ?_
  refine a_seq ?_
  refine a_region (by kernel_rfl) ?_
  refine op_v' (j_assign (evo rfl)) ?_
  refine op_nil ?_
  refine a_seq ?_
  refine a_seq ?_
  refine a_region (by kernel_rfl) ?_
  refine op_v' (j_assign (evo rfl)) ?_
  refine op_nil ?_
  refine a_block ?_
  refine a_loopF' (ι := Nat) (fun k => k ≤ vs.length ∧ varsFrom 0 vs = varsFrom (prevI vs k) (vs.drop k)) (fun k r => (3, .p (.int .i64 ((k : Nat)))) :: r) (fun k r => r) (fun k => vs.length - k) (fun _ _ => rfl) (fun _ _ => rfl) 0 ⟨Nat.zero_le _, rfl⟩ ⟨⟨rfl, rfl⟩, ⟨rfl, trivial⟩, trivial, ⟨rfl, rfl⟩, ⟨rfl, rfl⟩⟩ ?_
  intro k hpre
  refine a_seq ?_
  refine a_seq ?_
  refine a_region (by kernel_rfl) ?_
  refine op_v' (j_move (evo rfl)) ?_
  refine op_v' (j_move (evo rfl)) ?_
  refine op_v' (j_len_map Try.underlying46 rfl) ?_
  refine op_v' (j_lt rfl rfl) ?_
  refine op_nil ?_
  refine a_cond rfl (fun h1 => ?_) (fun h1 => ?_)
  ·
    have h1r := h1
    try simp only [Bool.not_eq_true', Bool.not_eq_false', Bool.not_not, bne_iff_ne, bne_eq_false_iff_eq, beq_eq_false_iff_ne, beq_iff_eq, ne_eq, decide_eq_true_eq, decide_eq_false_iff_not, Classical.not_not, List.length_map, List.length_take, Int.toNat_natCast] at h1
    refine a_skip ?_
    refine a_seq ?_
    refine a_block ?_
    refine a_seq ?_
    refine a_draw mixed (by kernel_rfl) (by kernel_rfl) fun vf => ?_
    refine d_v' (j_move (evo rfl)) ?_
    refine d_v' (j_move (evo rfl)) ?_
    refine d_v' (j_elemN slt46 rfl rfl rfl (at_map (by omega)) rfl) ?_
    refine d_v' (j_load_el leaf3 rfl (at_map (by omega)) rfl) ?_
    refine d_v' (j_lt rfl rfl) ?_
    refine d_v' (j_move (evo rfl)) ?_
    refine d_split' 15 rfl (fun h2 => ?_) (fun h2 => ?_)
    ·
      have h2r := h2
      try simp only [Bool.not_eq_true', Bool.not_eq_false', Bool.not_not, bne_iff_ne, bne_eq_false_iff_eq, beq_eq_false_iff_ne, beq_iff_eq, ne_eq, decide_eq_true_eq, decide_eq_false_iff_not, Classical.not_not, List.length_map, List.length_take, Int.toNat_natCast] at h2
      refine d_v' (j_unwantV rfl rfl h2r) ?_
      refine d_v' (j_unwantV rfl rfl h2r) ?_
      refine d_v' (j_unwantV rfl rfl h2r) ?_
      refine d_v' (j_unwantV rfl rfl h2r) ?_
      refine d_v' (j_unwantV rfl rfl h2r) ?_
      refine d_v' (j_pick_t rfl h2r (evo rfl)) ?_
      refine d_v' (j_move (evo rfl)) ?_
      refine d_v' (j_unwantV rfl rfl rfl) ?_
      refine d_v' (j_unwantV rfl rfl rfl) ?_
      refine d_v' (j_unwantV rfl rfl rfl) ?_
      refine d_v' (j_unwantU rfl rfl) ?_
      refine d_v' (j_unwantU rfl rfl) ?_
      refine d_v' (j_unwantU rfl rfl) ?_
      refine d_v' (j_unwantU rfl rfl) ?_
      refine d_v' (j_unwantU rfl rfl) ?_
      refine d_v' (j_unwantU rfl rfl) ?_
      refine d_v' (j_unwantU rfl rfl) ?_
      refine d_v' (j_unwantU rfl rfl) ?_
      refine d_v' (j_unwantU rfl rfl) ?_
      refine d_v' (j_unwantU rfl rfl) ?_
      refine d_v' (j_unwantV rfl rfl rfl) ?_
      refine d_v' (j_pick_t rfl rfl (evo rfl)) ?_
      refine d_nil (by kernel_rfl) (by kernel_rfl) ?_
      refine a_tt rfl ?_
      refine a_seq ?_
      refine a_region (by kernel_rfl) ?_
      refine op_v' (j_assign (evo rfl)) ?_
      refine op_nil ?_
      refine a_ret ?_
      exact ⟨[.p _], .p _, [], [], [], ⟨rfl, trivial⟩, rfl, rfl, trivial, rfl, rfl, ⟨boolEq (by symm; rw [hpre.2, drop_getD (d := default) (by omega), (varsFrom_bad (by rintro ⟨a1, a2, a3⟩; first | omega | (rw [prevI_pos (by omega)] at a1; omega)))]), rfl, rfl⟩⟩
    ·
      have h2r := h2
      try simp only [Bool.not_eq_true', Bool.not_eq_false', Bool.not_not, bne_iff_ne, bne_eq_false_iff_eq, beq_eq_false_iff_ne, beq_iff_eq, ne_eq, decide_eq_true_eq, decide_eq_false_iff_not, Classical.not_not, List.length_map, List.length_take, Int.toNat_natCast] at h2
      refine d_v' (j_want rfl rfl h2r (j_move (evo rfl))) ?_
      refine d_v' (j_want rfl rfl h2r (j_move (evo rfl))) ?_
      refine d_v' (j_want rfl rfl h2r (j_elemN slt46 rfl rfl rfl (at_map (by omega)) rfl)) ?_
      refine d_v' (j_want rfl rfl h2r (j_load_el leaf3 rfl (at_map (by omega)) rfl)) ?_
      refine d_v' (j_want rfl rfl h2r (j_gt rfl rfl)) ?_
      refine d_v' (j_pick_f rfl h2r (evo rfl)) ?_
      refine d_v' (j_move (evo rfl)) ?_
      refine d_split' 22 rfl (fun h3 => ?_) (fun h3 => ?_)
      ·
        have h3r := h3
        try simp only [Bool.not_eq_true', Bool.not_eq_false', Bool.not_not, bne_iff_ne, bne_eq_false_iff_eq, beq_eq_false_iff_ne, beq_iff_eq, ne_eq, decide_eq_true_eq, decide_eq_false_iff_not, Classical.not_not, List.length_map, List.length_take, Int.toNat_natCast] at h3
        refine d_v' (j_unwantV rfl rfl h3r) ?_
        refine d_v' (j_unwantV rfl rfl h3r) ?_
        refine d_v' (j_unwantV rfl rfl h3r) ?_
        refine d_v' (j_unwantU rfl rfl) ?_
        refine d_v' (j_unwantU rfl rfl) ?_
        refine d_v' (j_unwantU rfl rfl) ?_
        refine d_v' (j_unwantU rfl rfl) ?_
        refine d_v' (j_unwantU rfl rfl) ?_
        refine d_v' (j_unwantU rfl rfl) ?_
        refine d_v' (j_unwantU rfl rfl) ?_
        refine d_v' (j_unwantU rfl rfl) ?_
        refine d_v' (j_unwantU rfl rfl) ?_
        refine d_v' (j_unwantU rfl rfl) ?_
        refine d_v' (j_unwantV rfl rfl h3r) ?_
        refine d_v' (j_pick_t rfl h3r (evo rfl)) ?_
        refine d_nil (by kernel_rfl) (by kernel_rfl) ?_
        refine a_tt rfl ?_
        refine a_seq ?_
        refine a_region (by kernel_rfl) ?_
        refine op_v' (j_assign (evo rfl)) ?_
        refine op_nil ?_
        refine a_ret ?_
        exact ⟨[.p _], .p _, [], [], [], ⟨rfl, trivial⟩, rfl, rfl, trivial, rfl, rfl, ⟨boolEq (by symm; rw [hpre.2, drop_getD (d := default) (by omega), (varsFrom_bad (by rintro ⟨a1, a2, a3⟩; first | omega | (rw [prevI_pos (by omega)] at a1; omega)))]), rfl, rfl⟩⟩
      ·
        have h3r := h3
        try simp only [Bool.not_eq_true', Bool.not_eq_false', Bool.not_not, bne_iff_ne, bne_eq_false_iff_eq, beq_eq_false_iff_ne, beq_iff_eq, ne_eq, decide_eq_true_eq, decide_eq_false_iff_not, Classical.not_not, List.length_map, List.length_take, Int.toNat_natCast] at h3
        refine d_v' (j_want rfl rfl h3r (j_move (evo rfl))) ?_
        refine d_v' (j_want rfl rfl h3r (j_gt rfl rfl)) ?_
        refine d_v' (j_want rfl rfl h3r (j_move (evo rfl))) ?_
        refine d_split' 25 rfl (fun h4 => ?_) (fun h4 => ?_)
        ·
          have h4r := h4
          try simp only [Bool.not_eq_true', Bool.not_eq_false', Bool.not_not, bne_iff_ne, bne_eq_false_iff_eq, beq_eq_false_iff_ne, beq_iff_eq, ne_eq, decide_eq_true_eq, decide_eq_false_iff_not, Classical.not_not, List.length_map, List.length_take, Int.toNat_natCast] at h4
          refine d_v' (j_want rfl rfl h4r (j_move (evo rfl))) ?_
          refine d_v' (j_want rfl rfl h4r (j_move (evo rfl))) ?_
          refine d_v' (j_want rfl rfl h4r (j_sub rfl rfl (by omega) (by omega))) ?_
          refine d_v' (j_want rfl rfl h4r (j_elemN (n := k - 1) slt46 rfl rfl (by omega) (at_map (by omega)) rfl)) ?_
          refine d_v' (j_want rfl rfl h4r (j_load_el leaf3 rfl (at_map (by omega)) rfl)) ?_
          refine d_v' (j_want rfl rfl h4r (j_move (evo rfl))) ?_
          refine d_v' (j_want rfl rfl h4r (j_move (evo rfl))) ?_
          refine d_v' (j_want rfl rfl h4r (j_elemN slt46 rfl rfl rfl (at_map (by omega)) rfl)) ?_
          refine d_v' (j_want rfl rfl h4r (j_load_el leaf3 rfl (at_map (by omega)) rfl)) ?_
          refine d_v' (j_want rfl rfl h4r (j_ge rfl rfl)) ?_
          refine d_v' (j_want rfl rfl h3r (j_pick_t rfl h4r (evo rfl))) ?_
          refine d_v' (j_pick_f rfl h3r (evo rfl)) ?_
          refine d_nil (by kernel_rfl) (by kernel_rfl) ?_
          refine a_cond rfl (fun h5 => ?_) (fun h5 => ?_)
          ·
            have h5r := h5
            try simp only [Bool.not_eq_true', Bool.not_eq_false', Bool.not_not, bne_iff_ne, bne_eq_false_iff_eq, beq_eq_false_iff_ne, beq_iff_eq, ne_eq, decide_eq_true_eq, decide_eq_false_iff_not, Classical.not_not, List.length_map, List.length_take, Int.toNat_natCast] at h5
            refine a_seq ?_
            refine a_region (by kernel_rfl) ?_
            refine op_v' (j_assign (evo rfl)) ?_
            refine op_nil ?_
            refine a_ret ?_
            exact ⟨[.p _], .p _, [], [], [], ⟨rfl, trivial⟩, rfl, rfl, trivial, rfl, rfl, ⟨boolEq (by symm; rw [hpre.2, drop_getD (d := default) (by omega), (varsFrom_bad (by rintro ⟨a1, a2, a3⟩; first | omega | (rw [prevI_pos (by omega)] at a1; omega)))]), rfl, rfl⟩⟩
          ·
            have h5r := h5
            try simp only [Bool.not_eq_true', Bool.not_eq_false', Bool.not_not, bne_iff_ne, bne_eq_false_iff_eq, beq_eq_false_iff_ne, beq_iff_eq, ne_eq, decide_eq_true_eq, decide_eq_false_iff_not, Classical.not_not, List.length_map, List.length_take, Int.toNat_natCast] at h5
            refine a_skip ?_
            refine a_region (by kernel_rfl) ?_
            refine op_v' (j_move (evo rfl)) ?_
            refine op_v' (j_add rfl rfl (by omega) (by omega)) ?_
            refine op_v' (j_assign (evo rfl)) ?_
            refine op_nil ?_
            exact ⟨k + 1, ⟨by omega, by rw [hpre.2, drop_getD (d := default) (by omega), varsFrom_good (by first | (rw [prevI_pos (by omega)]; omega) | (rw [prevI_zero (by omega)]; omega)) (by omega) (by omega), prevI_succ]⟩, ⟨⟨rfl, rfl⟩, ⟨rfl, trivial⟩, trivial, ⟨rfl, rfl⟩, ⟨rfl, rfl⟩⟩, (by omega)⟩
        ·
          have h4r := h4
          try simp only [Bool.not_eq_true', Bool.not_eq_false', Bool.not_not, bne_iff_ne, bne_eq_false_iff_eq, beq_eq_false_iff_ne, beq_iff_eq, ne_eq, decide_eq_true_eq, decide_eq_false_iff_not, Classical.not_not, List.length_map, List.length_take, Int.toNat_natCast] at h4
          refine d_v' (j_unwantV rfl rfl h4r) ?_
          refine d_v' (j_unwantV rfl rfl h4r) ?_
          refine d_v' (j_unwantV rfl rfl h4r) ?_
          refine d_v' (j_unwantV rfl rfl h4r) ?_
          refine d_v' (j_unwantV rfl rfl h4r) ?_
          refine d_v' (j_unwantV rfl rfl h4r) ?_
          refine d_v' (j_unwantV rfl rfl h4r) ?_
          refine d_v' (j_unwantV rfl rfl h4r) ?_
          refine d_v' (j_unwantV rfl rfl h4r) ?_
          refine d_v' (j_unwantV rfl rfl h4r) ?_
          refine d_v' (j_want rfl rfl h3r (j_pick_f rfl h4r (evo rfl))) ?_
          refine d_v' (j_pick_f rfl h3r (evo rfl)) ?_
          refine d_nil (by kernel_rfl) (by kernel_rfl) ?_
          refine a_ff rfl ?_
          refine a_skip ?_
          refine a_region (by kernel_rfl) ?_
          refine op_v' (j_move (evo rfl)) ?_
          refine op_v' (j_add rfl rfl (by omega) (by omega)) ?_
          refine op_v' (j_assign (evo rfl)) ?_
          refine op_nil ?_
          exact ⟨k + 1, ⟨by omega, by rw [hpre.2, drop_getD (d := default) (by omega), varsFrom_good (by first | (rw [prevI_pos (by omega)]; omega) | (rw [prevI_zero (by omega)]; omega)) (by omega) (by omega), prevI_succ]⟩, ⟨⟨rfl, rfl⟩, ⟨rfl, trivial⟩, trivial, ⟨rfl, rfl⟩, ⟨rfl, rfl⟩⟩, (by omega)⟩
  ·
    have h1r := h1
    try simp only [Bool.not_eq_true', Bool.not_eq_false', Bool.not_not, bne_iff_ne, bne_eq_false_iff_eq, beq_eq_false_iff_ne, beq_iff_eq, ne_eq, decide_eq_true_eq, decide_eq_false_iff_not, Classical.not_not, List.length_map, List.length_take, Int.toNat_natCast] at h1
    refine a_exit ?_
    refine a_seq ?_
    refine a_region (by kernel_rfl) ?_
    refine op_v' (j_assign (evo rfl)) ?_
    refine op_nil ?_
    refine a_ret ?_
    exact ⟨[.p _], .p _, [], [], [], ⟨rfl, trivial⟩, rfl, rfl, trivial, rfl, rfl, ⟨boolEq (by symm; rw [hpre.2, List.drop_of_length_le (by omega)]; rfl), rfl, rfl⟩⟩


theorem f_exclImpl (vs : List Int) (bs : List Bool) (hok : varsFrom 0 vs = true) (hb : bs.length = 12) : Fn Try.prog 65 [.sl (vs.map dI), .sl (bs.map dB)] [] (fun rr ii nn => rr = .agg [.own 0 0, .p (.int .i64 1)] ∧ ii = [] ∧ nn = [.row 73 2 ((exTs vs bs).map dT)]) := by
  refine fn_of Try.func65 rfl (Nat.le_of_ble_eq_true rfl) fun w X g => ?_
  show AWp _ _ _ ⟨[(0, .sl (vs.map dI)), (1, .sl (bs.map dB))], []⟩
  have hvl := vars_len hok
  refine a_seq ?_
  refine a_region (by kernel_rfl) ?_
  refine op_n' (fun ver => j_alloc elt42 rfl) fun v4x1 => ?_
  refine op_nil ?_
  refine a_seq ?_
  refine a_region (by kernel_rfl) ?_
  refine op_v' (j_build (parts := [(1, .const (.int .i64 1))]) str42 elt42 rfl rfl) ?_
  refine op_n' (fun ver => j_alloc elt42 rfl) fun v5x2 => ?_
  refine op_s' (j_storea_box0 agg42 rfl rfl rfl rfl rfl rfl) ?_
  refine op_nil ?_
  refine a_adopt_box' 0 1005 73 2 (by decide) (id := 5) rfl rfl fun v1005x3 => ?_
  refine a_seq ?_
  refine a_seq ?_
  refine a_region (by kernel_rfl) ?_
  refine op_v' (j_move (evo rfl)) ?_
  refine op_v' (j_len_map Try.underlying46 rfl) ?_
  refine op_v' (j_move (evo rfl)) ?_
  refine op_nil ?_
  refine a_block ?_
  refine a_loopF' (ι := Nat × Nat) (fun x => x.1 ≤ vs.length) (fun x r => (12, .p (.int .i64 ((x.1 : Nat)))) :: r) (fun x r => (5, some (v5x2, .box 42 [.own 1005 x.2, .p (.int .i64 1)])) :: (1005, some (x.2, .row 73 2 ((exTs (vs.take x.1) bs).map dT))) :: r) (fun x => vs.length - x.1) (fun _ _ => rfl) (fun _ _ => rfl) (0, v1005x3) (Nat.zero_le _) ⟨⟨rfl, rfl⟩, ⟨rfl, trivial⟩, ⟨rfl, rfl, trivial⟩, ⟨rfl, rfl⟩, ⟨rfl, rfl⟩⟩ ?_
  rintro ⟨k, v⟩ hpre; dsimp only at hpre ⊢
  refine a_seq ?_
  refine a_region (by kernel_rfl) ?_
  refine op_v' (j_lt rfl rfl) ?_
  refine op_nil ?_
  refine a_seq ?_
  refine a_cond rfl (fun h1 => ?_) (fun h1 => ?_)
  ·
    have h1r := h1
    try simp only [Bool.not_eq_true', Bool.not_eq_false', Bool.not_not, bne_iff_ne, bne_eq_false_iff_eq, beq_eq_false_iff_ne, beq_iff_eq, ne_eq, decide_eq_true_eq, decide_eq_false_iff_not, Classical.not_not, List.length_map, List.length_take, Int.toNat_natCast, exTs_length, List.length_append, List.length_cons, List.length_nil] at h1
    have hv := vars_at hok (k := k) (by omega)
    refine a_skip ?_
    refine a_seq ?_
    refine a_block ?_
    refine a_seq ?_
    refine a_region (by kernel_rfl) ?_
    refine op_v' (j_elemN slt46 rfl rfl rfl (at_map (by first | omega | (simp only [List.length_map, List.length_take, Int.toNat_natCast, exTs_length, List.length_append, List.length_cons, List.length_nil]; omega))) rfl) ?_
    refine op_v' (j_load_el leaf3 rfl (at_map (by first | omega | (simp only [List.length_map, List.length_take, Int.toNat_natCast, exTs_length, List.length_append, List.length_cons, List.length_nil]; omega))) rfl) ?_
    refine op_v' (j_assign (evo rfl)) ?_
    refine op_nil ?_
    refine a_seq ?_
    refine a_region (by kernel_rfl) ?_
    refine op_v' (j_move (evo rfl)) ?_
    refine op_v' (j_assign (evo rfl)) ?_
    refine op_nil ?_
    refine a_seq ?_
    refine a_seq ?_
    refine a_region (by kernel_rfl) ?_
    refine op_v' (j_move (evo rfl)) ?_
    refine op_v' (j_move (evo rfl)) ?_
    refine op_v' (j_sub rfl rfl (by first | omega | (simp only [List.length_map, List.length_take, Int.toNat_natCast, exTs_length, List.length_append, List.length_cons, List.length_nil]; omega)) (by first | omega | (simp only [List.length_map, List.length_take, Int.toNat_natCast, exTs_length, List.length_append, List.length_cons, List.length_nil]; omega))) ?_
    refine op_v' (j_elemN (n := (vs.getD k default - 1).toNat) slt22 rfl rfl (by first | omega | (simp only [List.length_map, List.length_take, Int.toNat_natCast, exTs_length, List.length_append, List.length_cons, List.length_nil]; omega)) (at_map (by first | omega | (simp only [List.length_map, List.length_take, Int.toNat_natCast, exTs_length, List.length_append, List.length_cons, List.length_nil]; omega))) rfl) ?_
    refine op_v' (j_load_el leaf4 rfl (at_map (by first | omega | (simp only [List.length_map, List.length_take, Int.toNat_natCast, exTs_length, List.length_append, List.length_cons, List.length_nil]; omega))) rfl) ?_
    refine op_nil ?_
    refine a_cond rfl (fun h2 => ?_) (fun h2 => ?_)
    ·
      have h2r := h2
      try simp only [Bool.not_eq_true', Bool.not_eq_false', Bool.not_not, bne_iff_ne, bne_eq_false_iff_eq, beq_eq_false_iff_ne, beq_iff_eq, ne_eq, decide_eq_true_eq, decide_eq_false_iff_not, Classical.not_not, List.length_map, List.length_take, Int.toNat_natCast, exTs_length, List.length_append, List.length_cons, List.length_nil] at h2
      refine a_region (by kernel_rfl) ?_
      refine op_v' (j_move (evo rfl)) ?_
      refine op_v' (j_neg rfl (by first | omega | (simp only [List.length_map, List.length_take, Int.toNat_natCast, exTs_length, List.length_append, List.length_cons, List.length_nil]; omega)) (by first | omega | (simp only [List.length_map, List.length_take, Int.toNat_natCast, exTs_length, List.length_append, List.length_cons, List.length_nil]; omega))) ?_
      refine op_v' (j_assign (evo rfl)) ?_
      refine op_nil ?_
      refine a_region (by kernel_rfl) ?_
      refine op_v' (j_fldp fld42f0 rfl rfl) ?_
      refine op_v' (j_load_box leaf40 rfl rfl rfl) ?_
      refine op_v' (j_move (evo rfl)) ?_
      refine op_v' (j_build (parts := [(0, .const (.int .i64 1)), (1, .tmp 26)]) str73 elt73 rfl rfl) ?_
      refine op_n' (fun ver => j_buildSlice (parts := [(0, .tmp 27)]) (es := [[_, _]]) slt40 elt73 rfl rfl (by decide) (by decide) rfl rfl (by simp) rfl) fun v28x4 => ?_
      refine op_n' (fun ver => j_append_own slt40 elt73 rfl rfl rfl rfl rfl rfl (by rw [maxLen_eq]; first | omega | (simp only [List.length_map, List.length_take, Int.toNat_natCast, exTs_length, List.length_append, List.length_cons, List.length_nil]; omega)) (by first | omega | (simp only [List.length_map, List.length_take, Int.toNat_natCast, exTs_length, List.length_append, List.length_cons, List.length_nil]; omega))) fun v1005x5 => ?_
      refine op_v' (j_fldp fld42f0 rfl rfl) ?_
      refine op_s' (j_store_box leaf40 rfl rfl (Nat.le_of_ble_eq_true rfl) (evo rfl) rfl) ?_
      refine op_nil ?_
      refine a_region (by kernel_rfl) ?_
      refine op_v' (j_add rfl rfl (by first | omega | (simp only [List.length_map, List.length_take, Int.toNat_natCast, exTs_length, List.length_append, List.length_cons, List.length_nil]; omega)) (by first | omega | (simp only [List.length_map, List.length_take, Int.toNat_natCast, exTs_length, List.length_append, List.length_cons, List.length_nil]; omega))) ?_
      refine op_v' (j_move (evo rfl)) ?_
      refine op_nil ?_
      exact ⟨(k + 1, v1005x5), (by first | exact (by first | omega | (simp only [List.length_map, List.length_take, Int.toNat_natCast, exTs_length, List.length_append, List.length_cons, List.length_nil]; omega)) | (dsimp only; exact (by first | omega | (simp only [List.length_map, List.length_take, Int.toNat_natCast, exTs_length, List.length_append, List.length_cons, List.length_nil]; omega)))), ⟨⟨rfl, rfl⟩, ⟨rfl, trivial⟩, ⟨rfl, rowEq (exTs_next (by omega) (exT_t h2r)), trivial⟩, ⟨rfl, rfl⟩, ⟨rfl, rfl⟩⟩, (by first | exact (by first | omega | (simp only [List.length_map, List.length_take, Int.toNat_natCast, exTs_length, List.length_append, List.length_cons, List.length_nil]; omega)) | (dsimp only; exact (by first | omega | (simp only [List.length_map, List.length_take, Int.toNat_natCast, exTs_length, List.length_append, List.length_cons, List.length_nil]; omega))))⟩
    ·
      have h2r := h2
      try simp only [Bool.not_eq_true', Bool.not_eq_false', Bool.not_not, bne_iff_ne, bne_eq_false_iff_eq, beq_eq_false_iff_ne, beq_iff_eq, ne_eq, decide_eq_true_eq, decide_eq_false_iff_not, Classical.not_not, List.length_map, List.length_take, Int.toNat_natCast, exTs_length, List.length_append, List.length_cons, List.length_nil] at h2
      refine a_skip ?_
      refine a_region (by kernel_rfl) ?_
      refine op_v' (j_fldp fld42f0 rfl rfl) ?_
      refine op_v' (j_load_box leaf40 rfl rfl rfl) ?_
      refine op_v' (j_move (evo rfl)) ?_
      refine op_v' (j_build (parts := [(0, .const (.int .i64 1)), (1, .tmp 26)]) str73 elt73 rfl rfl) ?_
      refine op_n' (fun ver => j_buildSlice (parts := [(0, .tmp 27)]) (es := [[_, _]]) slt40 elt73 rfl rfl (by decide) (by decide) rfl rfl (by simp) rfl) fun v28x6 => ?_
      refine op_n' (fun ver => j_append_own slt40 elt73 rfl rfl rfl rfl rfl rfl (by rw [maxLen_eq]; first | omega | (simp only [List.length_map, List.length_take, Int.toNat_natCast, exTs_length, List.length_append, List.length_cons, List.length_nil]; omega)) (by first | omega | (simp only [List.length_map, List.length_take, Int.toNat_natCast, exTs_length, List.length_append, List.length_cons, List.length_nil]; omega))) fun v1005x7 => ?_
      refine op_v' (j_fldp fld42f0 rfl rfl) ?_
      refine op_s' (j_store_box leaf40 rfl rfl (Nat.le_of_ble_eq_true rfl) (evo rfl) rfl) ?_
      refine op_nil ?_
      refine a_region (by kernel_rfl) ?_
      refine op_v' (j_add rfl rfl (by first | omega | (simp only [List.length_map, List.length_take, Int.toNat_natCast, exTs_length, List.length_append, List.length_cons, List.length_nil]; omega)) (by first | omega | (simp only [List.length_map, List.length_take, Int.toNat_natCast, exTs_length, List.length_append, List.length_cons, List.length_nil]; omega))) ?_
      refine op_v' (j_move (evo rfl)) ?_
      refine op_nil ?_
      exact ⟨(k + 1, v1005x7), (by first | exact (by first | omega | (simp only [List.length_map, List.length_take, Int.toNat_natCast, exTs_length, List.length_append, List.length_cons, List.length_nil]; omega)) | (dsimp only; exact (by first | omega | (simp only [List.length_map, List.length_take, Int.toNat_natCast, exTs_length, List.length_append, List.length_cons, List.length_nil]; omega)))), ⟨⟨rfl, rfl⟩, ⟨rfl, trivial⟩, ⟨rfl, rowEq (exTs_next (by omega) (exT_f h2r)), trivial⟩, ⟨rfl, rfl⟩, ⟨rfl, rfl⟩⟩, (by first | exact (by first | omega | (simp only [List.length_map, List.length_take, Int.toNat_natCast, exTs_length, List.length_append, List.length_cons, List.length_nil]; omega)) | (dsimp only; exact (by first | omega | (simp only [List.length_map, List.length_take, Int.toNat_natCast, exTs_length, List.length_append, List.length_cons, List.length_nil]; omega))))⟩
  ·
    have h1r := h1
    try simp only [Bool.not_eq_true', Bool.not_eq_false', Bool.not_not, bne_iff_ne, bne_eq_false_iff_eq, beq_eq_false_iff_ne, beq_iff_eq, ne_eq, decide_eq_true_eq, decide_eq_false_iff_not, Classical.not_not, List.length_map, List.length_take, Int.toNat_natCast, exTs_length, List.length_append, List.length_cons, List.length_nil] at h1
    refine a_exit ?_
    refine a_seq ?_
    refine a_region (by kernel_rfl) ?_
    refine op_v' (j_loada_box (ys := [.own 1005 v, .p _]) agg42 rfl rfl rfl (Nat.le_of_ble_eq_true rfl)) ?_
    refine op_s' (j_storea_box0 agg42 rfl rfl rfl rfl rfl rfl) ?_
    refine op_nil ?_
    refine a_ret ?_
    exact ⟨[.agg [.own 1005 v, .p _]], .agg [.own 0 0, .p _], [], [.row 73 2 _], [(1005, v)], ⟨⟨_, _, _, _, rfl, rfl, agg42, rfl⟩, trivial⟩, rfl, rfl, ⟨⟨rfl, rfl⟩, trivial⟩, rfl, rfl, ⟨rfl, rfl, congrArg (fun x => [Obj.row _ _ x]) (by rw [List.take_of_length_le (by omega)])⟩⟩


theorem f_exclSpec (vs : List Int) (bs : List Bool) (hok : varsFrom 0 vs = true) (hb : bs.length = 12) : Fn Try.prog 67 [.sl (vs.map dI), .sl (bs.map dB)] [] (fun rr ii nn => rr = .agg [.own 0 0, .p (.int .i64 1)] ∧ ii = [] ∧ nn = [.row 73 2 ((exTs vs bs).map dT)]) := by
  refine fn_of Try.func67 rfl (Nat.le_of_ble_eq_true rfl) fun w X g => ?_
  show AWp _ _ _ ⟨[(0, .sl (vs.map dI)), (1, .sl (bs.map dB))], []⟩
  have hvl := vars_len hok
  refine a_seq ?_
  refine a_region (by kernel_rfl) ?_
  refine op_n' (fun ver => j_alloc elt42 rfl) fun v4x1 => ?_
  refine op_nil ?_
  refine a_seq ?_
  refine a_region (by kernel_rfl) ?_
  refine op_v' (j_build (parts := [(1, .const (.int .i64 1))]) str42 elt42 rfl rfl) ?_
  refine op_n' (fun ver => j_alloc elt42 rfl) fun v5x2 => ?_
  refine op_s' (j_storea_box0 agg42 rfl rfl rfl rfl rfl rfl) ?_
  refine op_nil ?_
  refine a_adopt_box' 0 1005 73 2 (by decide) (id := 5) rfl rfl fun v1005x3 => ?_
  refine a_seq ?_
  refine a_seq ?_
  refine a_region (by kernel_rfl) ?_
  refine op_v' (j_assign (evo rfl)) ?_
  refine op_nil ?_
  refine a_block ?_
  refine a_loopF' (ι := Nat × Nat) (fun x => x.1 ≤ vs.length) (fun x r => (6, .p (.int .i64 ((x.1 : Nat)))) :: r) (fun x r => (5, some (v5x2, .box 42 [.own 1005 x.2, .p (.int .i64 1)])) :: (1005, some (x.2, .row 73 2 ((exTs (vs.take x.1) bs).map dT))) :: r) (fun x => vs.length - x.1) (fun _ _ => rfl) (fun _ _ => rfl) (0, v1005x3) (Nat.zero_le _) ⟨⟨rfl, rfl⟩, ⟨rfl, trivial⟩, ⟨rfl, rfl, trivial⟩, ⟨rfl, rfl⟩, ⟨rfl, rfl⟩⟩ ?_
  rintro ⟨k, v⟩ hpre; dsimp only at hpre ⊢
  refine a_seq ?_
  refine a_seq ?_
  refine a_region (by kernel_rfl) ?_
  refine op_v' (j_move (evo rfl)) ?_
  refine op_v' (j_move (evo rfl)) ?_
  refine op_v' (j_len_map Try.underlying46 rfl) ?_
  refine op_v' (j_lt rfl rfl) ?_
  refine op_nil ?_
  refine a_cond rfl (fun h1 => ?_) (fun h1 => ?_)
  ·
    have h1r := h1
    try simp only [Bool.not_eq_true', Bool.not_eq_false', Bool.not_not, bne_iff_ne, bne_eq_false_iff_eq, beq_eq_false_iff_ne, beq_iff_eq, ne_eq, decide_eq_true_eq, decide_eq_false_iff_not, Classical.not_not, List.length_map, List.length_take, Int.toNat_natCast, exTs_length, List.length_append, List.length_cons, List.length_nil] at h1
    have hv := vars_at hok (k := k) (by omega)
    refine a_skip ?_
    refine a_seq ?_
    refine a_block ?_
    refine a_seq ?_
    refine a_region (by kernel_rfl) ?_
    refine op_v' (j_move (evo rfl)) ?_
    refine op_v' (j_move (evo rfl)) ?_
    refine op_v' (j_elemN slt46 rfl rfl rfl (at_map (by first | omega | (simp only [List.length_map, List.length_take, Int.toNat_natCast, exTs_length, List.length_append, List.length_cons, List.length_nil]; omega))) rfl) ?_
    refine op_v' (j_load_el leaf3 rfl (at_map (by first | omega | (simp only [List.length_map, List.length_take, Int.toNat_natCast, exTs_length, List.length_append, List.length_cons, List.length_nil]; omega))) rfl) ?_
    refine op_v' (j_build (parts := [(0, .const (.int .i64 1)), (1, .tmp 18)]) str73 elt73 rfl rfl) ?_
    refine op_n' (fun ver => j_alloc elt73 rfl) fun v7x4 => ?_
    refine op_s' (j_storea_box0 agg73 rfl rfl rfl rfl rfl rfl) ?_
    refine op_nil ?_
    refine a_seq ?_
    refine a_seq ?_
    refine a_region (by kernel_rfl) ?_
    refine op_v' (j_move (evo rfl)) ?_
    refine op_v' (j_move (evo rfl)) ?_
    refine op_v' (j_move (evo rfl)) ?_
    refine op_v' (j_elemN slt46 rfl rfl rfl (at_map (by first | omega | (simp only [List.length_map, List.length_take, Int.toNat_natCast, exTs_length, List.length_append, List.length_cons, List.length_nil]; omega))) rfl) ?_
    refine op_v' (j_load_el leaf3 rfl (at_map (by first | omega | (simp only [List.length_map, List.length_take, Int.toNat_natCast, exTs_length, List.length_append, List.length_cons, List.length_nil]; omega))) rfl) ?_
    refine op_v' (j_sub rfl rfl (by first | omega | (simp only [List.length_map, List.length_take, Int.toNat_natCast, exTs_length, List.length_append, List.length_cons, List.length_nil]; omega)) (by first | omega | (simp only [List.length_map, List.length_take, Int.toNat_natCast, exTs_length, List.length_append, List.length_cons, List.length_nil]; omega))) ?_
    refine op_v' (j_elemN (n := (vs.getD k default - 1).toNat) slt22 rfl rfl (by first | omega | (simp only [List.length_map, List.length_take, Int.toNat_natCast, exTs_length, List.length_append, List.length_cons, List.length_nil]; omega)) (at_map (by first | omega | (simp only [List.length_map, List.length_take, Int.toNat_natCast, exTs_length, List.length_append, List.length_cons, List.length_nil]; omega))) rfl) ?_
    refine op_v' (j_load_el leaf4 rfl (at_map (by first | omega | (simp only [List.length_map, List.length_take, Int.toNat_natCast, exTs_length, List.length_append, List.length_cons, List.length_nil]; omega))) rfl) ?_
    refine op_nil ?_
    refine a_cond rfl (fun h2 => ?_) (fun h2 => ?_)
    ·
      have h2r := h2
      try simp only [Bool.not_eq_true', Bool.not_eq_false', Bool.not_not, bne_iff_ne, bne_eq_false_iff_eq, beq_eq_false_iff_ne, beq_iff_eq, ne_eq, decide_eq_true_eq, decide_eq_false_iff_not, Classical.not_not, List.length_map, List.length_take, Int.toNat_natCast, exTs_length, List.length_append, List.length_cons, List.length_nil] at h2
      refine a_region (by kernel_rfl) ?_
      refine op_v' (j_fldp fld73f1 rfl rfl) ?_
      refine op_v' (j_load_box leaf3 rfl rfl rfl) ?_
      refine op_v' (j_neg rfl (by first | omega | (simp only [List.length_map, List.length_take, Int.toNat_natCast, exTs_length, List.length_append, List.length_cons, List.length_nil]; omega)) (by first | omega | (simp only [List.length_map, List.length_take, Int.toNat_natCast, exTs_length, List.length_append, List.length_cons, List.length_nil]; omega))) ?_
      refine op_v' (j_fldp fld73f1 rfl rfl) ?_
      refine op_s' (j_store_box leaf3 rfl rfl (Nat.le_of_ble_eq_true rfl) (evo rfl) rfl) ?_
      refine op_nil ?_
      refine a_region (by kernel_rfl) ?_
      refine op_v' (j_fldp fld42f0 rfl rfl) ?_
      refine op_v' (j_load_box leaf40 rfl rfl rfl) ?_
      refine op_v' (j_loada_box (ys := [.p _, .p _]) agg73 rfl rfl rfl (Nat.le_of_ble_eq_true rfl)) ?_
      refine op_n' (fun ver => j_buildSlice (parts := [(0, .tmp 34)]) (es := [[_, _]]) slt40 elt73 rfl rfl (by decide) (by decide) rfl rfl (by simp) rfl) fun v35x5 => ?_
      refine op_n' (fun ver => j_append_own slt40 elt73 rfl rfl rfl rfl rfl rfl (by rw [maxLen_eq]; first | omega | (simp only [List.length_map, List.length_take, Int.toNat_natCast, exTs_length, List.length_append, List.length_cons, List.length_nil]; omega)) (by first | omega | (simp only [List.length_map, List.length_take, Int.toNat_natCast, exTs_length, List.length_append, List.length_cons, List.length_nil]; omega))) fun v1005x6 => ?_
      refine op_v' (j_fldp fld42f0 rfl rfl) ?_
      refine op_s' (j_store_box leaf40 rfl rfl (Nat.le_of_ble_eq_true rfl) (evo rfl) rfl) ?_
      refine op_nil ?_
      refine a_region (by kernel_rfl) ?_
      refine op_v' (j_move (evo rfl)) ?_
      refine op_v' (j_add rfl rfl (by first | omega | (simp only [List.length_map, List.length_take, Int.toNat_natCast, exTs_length, List.length_append, List.length_cons, List.length_nil]; omega)) (by first | omega | (simp only [List.length_map, List.length_take, Int.toNat_natCast, exTs_length, List.length_append, List.length_cons, List.length_nil]; omega))) ?_
      refine op_v' (j_assign (evo rfl)) ?_
      refine op_nil ?_
      exact ⟨(k + 1, v1005x6), (by first | exact (by first | omega | (simp only [List.length_map, List.length_take, Int.toNat_natCast, exTs_length, List.length_append, List.length_cons, List.length_nil]; omega)) | (dsimp only; exact (by first | omega | (simp only [List.length_map, List.length_take, Int.toNat_natCast, exTs_length, List.length_append, List.length_cons, List.length_nil]; omega)))), ⟨⟨rfl, rfl⟩, ⟨rfl, trivial⟩, ⟨rfl, rowEq (exTs_next (by omega) (exT_t h2r)), trivial⟩, ⟨rfl, rfl⟩, ⟨rfl, rfl⟩⟩, (by first | exact (by first | omega | (simp only [List.length_map, List.length_take, Int.toNat_natCast, exTs_length, List.length_append, List.length_cons, List.length_nil]; omega)) | (dsimp only; exact (by first | omega | (simp only [List.length_map, List.length_take, Int.toNat_natCast, exTs_length, List.length_append, List.length_cons, List.length_nil]; omega))))⟩
    ·
      have h2r := h2
      try simp only [Bool.not_eq_true', Bool.not_eq_false', Bool.not_not, bne_iff_ne, bne_eq_false_iff_eq, beq_eq_false_iff_ne, beq_iff_eq, ne_eq, decide_eq_true_eq, decide_eq_false_iff_not, Classical.not_not, List.length_map, List.length_take, Int.toNat_natCast, exTs_length, List.length_append, List.length_cons, List.length_nil] at h2
      refine a_skip ?_
      refine a_region (by kernel_rfl) ?_
      refine op_v' (j_fldp fld42f0 rfl rfl) ?_
      refine op_v' (j_load_box leaf40 rfl rfl rfl) ?_
      refine op_v' (j_loada_box (ys := [.p _, .p _]) agg73 rfl rfl rfl (Nat.le_of_ble_eq_true rfl)) ?_
      refine op_n' (fun ver => j_buildSlice (parts := [(0, .tmp 34)]) (es := [[_, _]]) slt40 elt73 rfl rfl (by decide) (by decide) rfl rfl (by simp) rfl) fun v35x7 => ?_
      refine op_n' (fun ver => j_append_own slt40 elt73 rfl rfl rfl rfl rfl rfl (by rw [maxLen_eq]; first | omega | (simp only [List.length_map, List.length_take, Int.toNat_natCast, exTs_length, List.length_append, List.length_cons, List.length_nil]; omega)) (by first | omega | (simp only [List.length_map, List.length_take, Int.toNat_natCast, exTs_length, List.length_append, List.length_cons, List.length_nil]; omega))) fun v1005x8 => ?_
      refine op_v' (j_fldp fld42f0 rfl rfl) ?_
      refine op_s' (j_store_box leaf40 rfl rfl (Nat.le_of_ble_eq_true rfl) (evo rfl) rfl) ?_
      refine op_nil ?_
      refine a_region (by kernel_rfl) ?_
      refine op_v' (j_move (evo rfl)) ?_
      refine op_v' (j_add rfl rfl (by first | omega | (simp only [List.length_map, List.length_take, Int.toNat_natCast, exTs_length, List.length_append, List.length_cons, List.length_nil]; omega)) (by first | omega | (simp only [List.length_map, List.length_take, Int.toNat_natCast, exTs_length, List.length_append, List.length_cons, List.length_nil]; omega))) ?_
      refine op_v' (j_assign (evo rfl)) ?_
      refine op_nil ?_
      exact ⟨(k + 1, v1005x8), (by first | exact (by first | omega | (simp only [List.length_map, List.length_take, Int.toNat_natCast, exTs_length, List.length_append, List.length_cons, List.length_nil]; omega)) | (dsimp only; exact (by first | omega | (simp only [List.length_map, List.length_take, Int.toNat_natCast, exTs_length, List.length_append, List.length_cons, List.length_nil]; omega)))), ⟨⟨rfl, rfl⟩, ⟨rfl, trivial⟩, ⟨rfl, rowEq (exTs_next (by omega) (exT_f h2r)), trivial⟩, ⟨rfl, rfl⟩, ⟨rfl, rfl⟩⟩, (by first | exact (by first | omega | (simp only [List.length_map, List.length_take, Int.toNat_natCast, exTs_length, List.length_append, List.length_cons, List.length_nil]; omega)) | (dsimp only; exact (by first | omega | (simp only [List.length_map, List.length_take, Int.toNat_natCast, exTs_length, List.length_append, List.length_cons, List.length_nil]; omega))))⟩
  ·
    have h1r := h1
    try simp only [Bool.not_eq_true', Bool.not_eq_false', Bool.not_not, bne_iff_ne, bne_eq_false_iff_eq, beq_eq_false_iff_ne, beq_iff_eq, ne_eq, decide_eq_true_eq, decide_eq_false_iff_not, Classical.not_not, List.length_map, List.length_take, Int.toNat_natCast, exTs_length, List.length_append, List.length_cons, List.length_nil] at h1
    refine a_exit ?_
    refine a_seq ?_
    refine a_region (by kernel_rfl) ?_
    refine op_v' (j_loada_box (ys := [.own 1005 v, .p _]) agg42 rfl rfl rfl (Nat.le_of_ble_eq_true rfl)) ?_
    refine op_s' (j_storea_box0 agg42 rfl rfl rfl rfl rfl rfl) ?_
    refine op_nil ?_
    refine a_ret ?_
    exact ⟨[.agg [.own 1005 v, .p _]], .agg [.own 0 0, .p _], [], [.row 73 2 _], [(1005, v)], ⟨⟨_, _, _, _, rfl, rfl, agg42, rfl⟩, trivial⟩, rfl, rfl, ⟨⟨rfl, rfl⟩, trivial⟩, rfl, rfl, ⟨rfl, rfl, congrArg (fun x => [Obj.row _ _ x]) (by rw [List.take_of_length_le (by omega)])⟩⟩


theorem f_exImpl (vs : List Int) (bs : List Bool) : Fn Try.prog 32 [.sl (vs.map dI), .sl (bs.map dB)] [] (fun rr ii nn => rr = .tup [.agg [.own 0 0, .p (.int .i64 (exC vs bs).2)], .p (.bool (exOk vs bs))] ∧ ii = [] ∧ nn = [.row 73 2 ((exC vs bs).1.map dT)]) := by
  refine fn_of Try.func32 rfl (Nat.le_of_ble_eq_true rfl) fun w X g => ?_
  show AWp _ _ _ ⟨[(0, .sl (vs.map dI)), (1, .sl (bs.map dB))], []⟩
  refine a_seq ?_
  refine a_region (by kernel_rfl) ?_
  refine op_n' (fun ver => j_alloc elt42 rfl) fun v4x1 => ?_
  refine op_v' (j_assign (evo rfl)) ?_
  refine op_nil ?_
  refine a_seq ?_
  refine a_seq ?_
  refine a_region (by kernel_rfl) ?_
  refine op_v' (j_move (evo rfl)) ?_
  refine op_v0' (j_call0 (v := .p _) (hp1 := []) [] false [] ent64 (f_areVars _) ⟨.inl ⟨rfl, rfl⟩, trivial⟩ trivial rfl rfl (fun h => by cases h) rfl (fun _ h => by cases h) (.inl rfl) rfl rfl) ?_
  refine op_v' (j_not rfl) ?_
  refine op_v' (j_move (evo rfl)) ?_
  refine op_split' 9 rfl (fun h1 => ?_) (fun h1 => ?_)
  ·
    have h1r := h1
    try simp only [Bool.not_eq_true', Bool.not_eq_false', Bool.not_not, bne_iff_ne, bne_eq_false_iff_eq, beq_eq_false_iff_ne, beq_iff_eq, ne_eq, decide_eq_true_eq, decide_eq_false_iff_not, Classical.not_not, List.length_map, List.length_take, Int.toNat_natCast] at h1
    refine op_v' (j_unwantV rfl rfl h1r) ?_
    refine op_v' (j_unwantV rfl rfl h1r) ?_
    refine op_v' (j_unwantV rfl rfl h1r) ?_
    refine op_v' (j_pick_t rfl h1r (evo rfl)) ?_
    refine op_nil ?_
    refine a_tt rfl ?_
    refine a_seq ?_
    refine a_region (by kernel_rfl) ?_
    refine op_v' (j_build (parts := []) str42 elt42 rfl rfl) ?_
    refine op_s' (j_storea_box0 agg42 rfl rfl rfl rfl rfl rfl) ?_
    refine op_v' (j_assign (evo rfl)) ?_
    refine op_nil ?_
    refine a_adopt_box' 0 1004 73 2 (by decide) (id := 4) rfl rfl fun v1004x2 => ?_
    refine a_ret ?_
    exact ⟨[.agg [.own 1004 v1004x2, .p _], .p _], .tup [.agg [.own 0 0, .p _], .p _], [], [.row 73 2 _], [(1004, v1004x2)], ⟨⟨_, _, _, _, rfl, rfl, agg42, rfl⟩, rfl, trivial⟩, rfl, rfl, ⟨⟨rfl, rfl⟩, trivial⟩, rfl, rfl, ⟨by rw [exC_bad (by first | exact .inl h1 | (right; omega)), exOk_bad (by first | exact .inl h1 | (right; omega))], rfl, by rw [exC_bad (by first | exact .inl h1 | (right; omega))]; rfl⟩⟩
  ·
    have h1r := h1
    try simp only [Bool.not_eq_true', Bool.not_eq_false', Bool.not_not, bne_iff_ne, bne_eq_false_iff_eq, beq_eq_false_iff_ne, beq_iff_eq, ne_eq, decide_eq_true_eq, decide_eq_false_iff_not, Classical.not_not, List.length_map, List.length_take, Int.toNat_natCast] at h1
    refine op_v' (j_want rfl rfl h1r (j_move (evo rfl))) ?_
    refine op_v' (j_want rfl rfl h1r (j_len_map Try.underlying22 rfl)) ?_
    refine op_v' (j_want rfl rfl h1r (j_ne rfl rfl)) ?_
    refine op_v' (j_pick_f rfl h1r (evo rfl)) ?_
    refine op_nil ?_
    refine a_cond rfl (fun h2 => ?_) (fun h2 => ?_)
    ·
      have h2r := h2
      try simp only [Bool.not_eq_true', Bool.not_eq_false', Bool.not_not, bne_iff_ne, bne_eq_false_iff_eq, beq_eq_false_iff_ne, beq_iff_eq, ne_eq, decide_eq_true_eq, decide_eq_false_iff_not, Classical.not_not, List.length_map, List.length_take, Int.toNat_natCast] at h2
      refine a_seq ?_
      refine a_region (by kernel_rfl) ?_
      refine op_v' (j_build (parts := []) str42 elt42 rfl rfl) ?_
      refine op_s' (j_storea_box0 agg42 rfl rfl rfl rfl rfl rfl) ?_
      refine op_v' (j_assign (evo rfl)) ?_
      refine op_nil ?_
      refine a_adopt_box' 0 1004 73 2 (by decide) (id := 4) rfl rfl fun v1004x3 => ?_
      refine a_ret ?_
      exact ⟨[.agg [.own 1004 v1004x3, .p _], .p _], .tup [.agg [.own 0 0, .p _], .p _], [], [.row 73 2 _], [(1004, v1004x3)], ⟨⟨_, _, _, _, rfl, rfl, agg42, rfl⟩, rfl, trivial⟩, rfl, rfl, ⟨⟨rfl, rfl⟩, trivial⟩, rfl, rfl, ⟨by rw [exC_bad (by first | exact .inl h1 | (right; omega)), exOk_bad (by first | exact .inl h1 | (right; omega))], rfl, by rw [exC_bad (by first | exact .inl h1 | (right; omega))]; rfl⟩⟩
    ·
      have h2r := h2
      try simp only [Bool.not_eq_true', Bool.not_eq_false', Bool.not_not, bne_iff_ne, bne_eq_false_iff_eq, beq_eq_false_iff_ne, beq_iff_eq, ne_eq, decide_eq_true_eq, decide_eq_false_iff_not, Classical.not_not, List.length_map, List.length_take, Int.toNat_natCast] at h2
      refine a_skip ?_
      refine a_seq ?_
      refine a_region (by kernel_rfl) ?_
      refine op_v' (j_move (evo rfl)) ?_
      refine op_v' (j_move (evo rfl)) ?_
      refine op_n1' (fun ver => j_call1 (v := .agg [.own 17 ver, .p _]) (hp1 := [(17, some (ver, .row 73 2 _))]) [] false [] ent65 (f_exclImpl _ _ h1 (by omega)) ⟨.inl ⟨rfl, rfl⟩, .inl ⟨rfl, rfl⟩, trivial⟩ trivial rfl rfl rfl (fun h => by cases h) rfl (List.all_eq_true.1 rfl) (.inl rfl) rfl rfl) fun v17x4 => ?_
      refine op_s' (j_storea_box0 agg42 rfl rfl rfl rfl rfl rfl) ?_
      refine op_v' (j_assign (evo rfl)) ?_
      refine op_nil ?_
      refine a_ret ?_
      exact ⟨[.agg [.own 17 v17x4, .p _], .p _], .tup [.agg [.own 0 0, .p _], .p _], [], [.row 73 2 _], [(17, v17x4)], ⟨⟨_, _, _, _, rfl, rfl, agg42, rfl⟩, rfl, trivial⟩, rfl, rfl, ⟨⟨rfl, rfl⟩, trivial⟩, rfl, rfl, ⟨by rw [exC_ok h1 (by omega), exOk_ok h1 (by omega)], rfl, by rw [exC_ok h1 (by omega)]⟩⟩


theorem f_exSpec (vs : List Int) (bs : List Bool) : Fn Try.prog 33 [.sl (vs.map dI), .sl (bs.map dB)] [] (fun rr ii nn => rr = .tup [.agg [.own 0 0, .p (.int .i64 (exC vs bs).2)], .p (.bool (exOk vs bs))] ∧ ii = [] ∧ nn = [.row 73 2 ((exC vs bs).1.map dT)]) := by
  refine fn_of Try.func33 rfl (Nat.le_of_ble_eq_true rfl) fun w X g => ?_
  show AWp _ _ _ ⟨[(0, .sl (vs.map dI)), (1, .sl (bs.map dB))], []⟩
  refine a_seq ?_
  refine a_region (by kernel_rfl) ?_
  refine op_n' (fun ver => j_alloc elt42 rfl) fun v4x1 => ?_
  refine op_v' (j_assign (evo rfl)) ?_
  refine op_nil ?_
  refine a_seq ?_
  refine a_seq ?_
  refine a_region (by kernel_rfl) ?_
  refine op_v' (j_move (evo rfl)) ?_
  refine op_v0' (j_call0 (v := .p _) (hp1 := []) [] false [] ent66 (f_l14Vars _) ⟨.inl ⟨rfl, rfl⟩, trivial⟩ trivial rfl rfl (fun h => by cases h) rfl (fun _ h => by cases h) (.inl rfl) rfl rfl) ?_
  refine op_v' (j_not rfl) ?_
  refine op_v' (j_move (evo rfl)) ?_
  refine op_split' 9 rfl (fun h1 => ?_) (fun h1 => ?_)
  ·
    have h1r := h1
    try simp only [Bool.not_eq_true', Bool.not_eq_false', Bool.not_not, bne_iff_ne, bne_eq_false_iff_eq, beq_eq_false_iff_ne, beq_iff_eq, ne_eq, decide_eq_true_eq, decide_eq_false_iff_not, Classical.not_not, List.length_map, List.length_take, Int.toNat_natCast] at h1
    refine op_v' (j_unwantV rfl rfl h1r) ?_
    refine op_v' (j_unwantV rfl rfl h1r) ?_
    refine op_v' (j_unwantV rfl rfl h1r) ?_
    refine op_v' (j_pick_t rfl h1r (evo rfl)) ?_
    refine op_nil ?_
    refine a_tt rfl ?_
    refine a_seq ?_
    refine a_region (by kernel_rfl) ?_
    refine op_v' (j_build (parts := []) str42 elt42 rfl rfl) ?_
    refine op_s' (j_storea_box0 agg42 rfl rfl rfl rfl rfl rfl) ?_
    refine op_v' (j_assign (evo rfl)) ?_
    refine op_nil ?_
    refine a_adopt_box' 0 1004 73 2 (by decide) (id := 4) rfl rfl fun v1004x2 => ?_
    refine a_ret ?_
    exact ⟨[.agg [.own 1004 v1004x2, .p _], .p _], .tup [.agg [.own 0 0, .p _], .p _], [], [.row 73 2 _], [(1004, v1004x2)], ⟨⟨_, _, _, _, rfl, rfl, agg42, rfl⟩, rfl, trivial⟩, rfl, rfl, ⟨⟨rfl, rfl⟩, trivial⟩, rfl, rfl, ⟨by rw [exC_bad (by first | exact .inl h1 | (right; omega)), exOk_bad (by first | exact .inl h1 | (right; omega))], rfl, by rw [exC_bad (by first | exact .inl h1 | (right; omega))]; rfl⟩⟩
  ·
    have h1r := h1
    try simp only [Bool.not_eq_true', Bool.not_eq_false', Bool.not_not, bne_iff_ne, bne_eq_false_iff_eq, beq_eq_false_iff_ne, beq_iff_eq, ne_eq, decide_eq_true_eq, decide_eq_false_iff_not, Classical.not_not, List.length_map, List.length_take, Int.toNat_natCast] at h1
    refine op_v' (j_want rfl rfl h1r (j_move (evo rfl))) ?_
    refine op_v' (j_want rfl rfl h1r (j_len_map Try.underlying22 rfl)) ?_
    refine op_v' (j_want rfl rfl h1r (j_ne rfl rfl)) ?_
    refine op_v' (j_pick_f rfl h1r (evo rfl)) ?_
    refine op_nil ?_
    refine a_cond rfl (fun h2 => ?_) (fun h2 => ?_)
    ·
      have h2r := h2
      try simp only [Bool.not_eq_true', Bool.not_eq_false', Bool.not_not, bne_iff_ne, bne_eq_false_iff_eq, beq_eq_false_iff_ne, beq_iff_eq, ne_eq, decide_eq_true_eq, decide_eq_false_iff_not, Classical.not_not, List.length_map, List.length_take, Int.toNat_natCast] at h2
      refine a_seq ?_
      refine a_region (by kernel_rfl) ?_
      refine op_v' (j_build (parts := []) str42 elt42 rfl rfl) ?_
      refine op_s' (j_storea_box0 agg42 rfl rfl rfl rfl rfl rfl) ?_
      refine op_v' (j_assign (evo rfl)) ?_
      refine op_nil ?_
      refine a_adopt_box' 0 1004 73 2 (by decide) (id := 4) rfl rfl fun v1004x3 => ?_
      refine a_ret ?_
      exact ⟨[.agg [.own 1004 v1004x3, .p _], .p _], .tup [.agg [.own 0 0, .p _], .p _], [], [.row 73 2 _], [(1004, v1004x3)], ⟨⟨_, _, _, _, rfl, rfl, agg42, rfl⟩, rfl, trivial⟩, rfl, rfl, ⟨⟨rfl, rfl⟩, trivial⟩, rfl, rfl, ⟨by rw [exC_bad (by first | exact .inl h1 | (right; omega)), exOk_bad (by first | exact .inl h1 | (right; omega))], rfl, by rw [exC_bad (by first | exact .inl h1 | (right; omega))]; rfl⟩⟩
    ·
      have h2r := h2
      try simp only [Bool.not_eq_true', Bool.not_eq_false', Bool.not_not, bne_iff_ne, bne_eq_false_iff_eq, beq_eq_false_iff_ne, beq_iff_eq, ne_eq, decide_eq_true_eq, decide_eq_false_iff_not, Classical.not_not, List.length_map, List.length_take, Int.toNat_natCast] at h2
      refine a_skip ?_
      refine a_seq ?_
      refine a_region (by kernel_rfl) ?_
      refine op_v' (j_move (evo rfl)) ?_
      refine op_v' (j_move (evo rfl)) ?_
      refine op_n1' (fun ver => j_call1 (v := .agg [.own 17 ver, .p _]) (hp1 := [(17, some (ver, .row 73 2 _))]) [] false [] ent67 (f_exclSpec _ _ h1 (by omega)) ⟨.inl ⟨rfl, rfl⟩, .inl ⟨rfl, rfl⟩, trivial⟩ trivial rfl rfl rfl (fun h => by cases h) rfl (List.all_eq_true.1 rfl) (.inl rfl) rfl rfl) fun v17x4 => ?_
      refine op_s' (j_storea_box0 agg42 rfl rfl rfl rfl rfl rfl) ?_
      refine op_v' (j_assign (evo rfl)) ?_
      refine op_nil ?_
      refine a_ret ?_
      exact ⟨[.agg [.own 17 v17x4, .p _], .p _], .tup [.agg [.own 0 0, .p _], .p _], [], [.row 73 2 _], [(17, v17x4)], ⟨⟨_, _, _, _, rfl, rfl, agg42, rfl⟩, rfl, trivial⟩, rfl, rfl, ⟨⟨rfl, rfl⟩, trivial⟩, rfl, rfl, ⟨by rw [exC_ok h1 (by omega), exOk_ok h1 (by omega)], rfl, by rw [exC_ok h1 (by omega)]⟩⟩


theorem f_law7 (vs : List Int) (bs : List Bool) : Fn Try.prog 9 [.sl (vs.map dI), .sl (bs.map dB)] [] (fun rr ii nn => rr = .p (.bool true) ∧ ii = [] ∧ nn = []) := by
  refine fn_of Try.func9 rfl (Nat.le_of_ble_eq_true rfl) fun w X g => ?_
  show AWp _ _ _ ⟨[(0, .sl (vs.map dI)), (1, .sl (bs.map dB))], []⟩
  refine a_seq ?_
  refine a_region (by kernel_rfl) ?_
  refine op_v' (j_assign (evo rfl)) ?_
  refine op_nil ?_
  refine a_seq ?_
  refine a_seq ?_
  refine a_region (by kernel_rfl) ?_
  refine op_v' (j_move (evo rfl)) ?_
  refine op_v' (j_len_map Try.underlying46 rfl) ?_
  refine op_v' (j_gt rfl rfl) ?_
  refine op_nil ?_
  refine a_cond rfl (fun h1 => ?_) (fun h1 => ?_)
  ·
    have h1r := h1
    try simp only [Bool.not_eq_true', Bool.not_eq_false', Bool.not_not, bne_iff_ne, bne_eq_false_iff_eq, beq_eq_false_iff_ne, beq_iff_eq, ne_eq, decide_eq_true_eq, decide_eq_false_iff_not, Classical.not_not, List.length_map, List.length_take, Int.toNat_natCast] at h1
    refine a_seq ?_
    refine a_region (by kernel_rfl) ?_
    refine op_v' (j_assign (evo rfl)) ?_
    refine op_nil ?_
    refine a_ret ?_
    exact ⟨[.p _], .p _, [], [], [], ⟨rfl, trivial⟩, rfl, rfl, trivial, rfl, rfl, ⟨rfl, rfl, rfl⟩⟩
  ·
    have h1r := h1
    try simp only [Bool.not_eq_true', Bool.not_eq_false', Bool.not_not, bne_iff_ne, bne_eq_false_iff_eq, beq_eq_false_iff_ne, beq_iff_eq, ne_eq, decide_eq_true_eq, decide_eq_false_iff_not, Classical.not_not, List.length_map, List.length_take, Int.toNat_natCast] at h1
    have hn1 : vs.length ≤ 1048576 := by omega
    refine a_skip ?_
    refine a_seq ?_
    refine a_seq ?_
    refine a_region (by kernel_rfl) ?_
    refine op_v' (j_move (evo rfl)) ?_
    refine op_v' (j_len_map Try.underlying22 rfl) ?_
    refine op_v' (j_gt rfl rfl) ?_
    refine op_nil ?_
    refine a_cond rfl (fun h2 => ?_) (fun h2 => ?_)
    ·
      have h2r := h2
      try simp only [Bool.not_eq_true', Bool.not_eq_false', Bool.not_not, bne_iff_ne, bne_eq_false_iff_eq, beq_eq_false_iff_ne, beq_iff_eq, ne_eq, decide_eq_true_eq, decide_eq_false_iff_not, Classical.not_not, List.length_map, List.length_take, Int.toNat_natCast] at h2
      refine a_seq ?_
      refine a_region (by kernel_rfl) ?_
      refine op_v' (j_assign (evo rfl)) ?_
      refine op_nil ?_
      refine a_ret ?_
      exact ⟨[.p _], .p _, [], [], [], ⟨rfl, trivial⟩, rfl, rfl, trivial, rfl, rfl, ⟨rfl, rfl, rfl⟩⟩
    ·
      have h2r := h2
      try simp only [Bool.not_eq_true', Bool.not_eq_false', Bool.not_not, bne_iff_ne, bne_eq_false_iff_eq, beq_eq_false_iff_ne, beq_iff_eq, ne_eq, decide_eq_true_eq, decide_eq_false_iff_not, Classical.not_not, List.length_map, List.length_take, Int.toNat_natCast] at h2
      have hn2 : bs.length ≤ 1048576 := by omega
      have hcl : 1 + 2 * (exC vs bs).1.length ≤ 4611686018427387904 := by have := exC_len (vs := vs) (bs := bs); omega
      refine a_skip ?_
      refine a_seq ?_
      refine a_region (by kernel_rfl) ?_
      refine op_v' (j_move (evo rfl)) ?_
      refine op_n1' (fun ver => j_call1 (v := .own 24 ver) (hp1 := [(24, some (ver, .row 3 1 _))]) [] false [] ent39 (f_toIntS vs hn1) ⟨.inl ⟨rfl, rfl⟩, trivial⟩ trivial rfl rfl rfl (fun h => by cases h) rfl (List.all_eq_true.1 rfl) (.inl rfl) rfl rfl) fun v24x1 => ?_
      refine op_v' (j_move (evo rfl)) ?_
      refine op_n1' (fun ver => j_call1 (v := .own 26 ver) (hp1 := [(26, some (ver, .row 4 1 _))]) [] false [] ent16 (f_toBoolS bs hn2) ⟨.inl ⟨rfl, rfl⟩, trivial⟩ trivial rfl rfl rfl (fun h => by cases h) rfl (List.all_eq_true.1 rfl) (.inl rfl) rfl rfl) fun v26x2 => ?_
      refine op_n1' (fun ver => j_call1 (v := .tup [.agg [.own 27 ver, .p _], .p _]) (hp1 := [(27, some (ver, .row 73 2 _))]) [] true [24, 26] ent33 (f_exSpec vs bs) ⟨.inr ⟨rfl, view_own rfl rfl, rfl⟩, .inr ⟨rfl, view_own rfl rfl, rfl⟩, trivial⟩ trivial rfl rfl rfl (fun _ => rfl) rfl (List.all_eq_true.1 rfl) (.inr ⟨rfl, by first | exact pl_new1 (fun _ => rfl) | (simp [plO, plV, plV.plL]; done)⟩) rfl rfl) fun v27x3 => ?_
      refine op_v' (j_move (evo rfl)) ?_
      refine op_v' (j_extract rfl rfl) ?_
      refine op_v' (j_extract rfl rfl) ?_
      refine op_n' (fun ver => j_alloc elt42 rfl) fun v5x4 => ?_
      refine op_s' (j_storea_box0 agg42 rfl rfl rfl rfl rfl rfl) ?_
      refine op_v' (j_assign (evo rfl)) ?_
      refine op_nil ?_
      refine a_seq ?_
      refine a_region (by kernel_rfl) ?_
      refine op_v' (j_move (evo rfl)) ?_
      refine op_n1' (fun ver => j_call1 (v := .own 31 ver) (hp1 := [(31, some (ver, .row 3 1 _))]) [] false [] ent39 (f_toIntS vs hn1) ⟨.inl ⟨rfl, rfl⟩, trivial⟩ trivial rfl rfl rfl (fun h => by cases h) rfl (List.all_eq_true.1 rfl) (.inl rfl) rfl rfl) fun v31x5 => ?_
      refine op_v' (j_assign (evo rfl)) ?_
      refine op_nil ?_
      refine a_seq ?_
      refine a_region (by kernel_rfl) ?_
      refine op_v' (j_move (evo rfl)) ?_
      refine op_n1' (fun ver => j_call1 (v := .own 33 ver) (hp1 := [(33, some (ver, .row 4 1 _))]) [] false [] ent16 (f_toBoolS bs hn2) ⟨.inl ⟨rfl, rfl⟩, trivial⟩ trivial rfl rfl rfl (fun h => by cases h) rfl (List.all_eq_true.1 rfl) (.inl rfl) rfl rfl) fun v33x6 => ?_
      refine op_v' (j_assign (evo rfl)) ?_
      refine op_nil ?_
      refine a_seq ?_
      refine a_region (by kernel_rfl) ?_
      refine op_v' (j_move (evo rfl)) ?_
      refine op_v' (j_move (evo rfl)) ?_
      refine op_n1' (fun ver => j_call1 (v := .tup [.agg [.own 37 ver, .p _], .p _]) (hp1 := [(37, some (ver, .row 73 2 _))]) [] true [31, 33] ent32 (f_exImpl vs bs) ⟨.inr ⟨rfl, view_own rfl rfl, rfl⟩, .inr ⟨rfl, view_own rfl rfl, rfl⟩, trivial⟩ trivial rfl rfl rfl (fun _ => rfl) rfl (List.all_eq_true.1 rfl) (.inr ⟨rfl, by first | exact pl_new1 (fun _ => rfl) | (simp [plO, plV, plV.plL]; done)⟩) rfl rfl) fun v37x7 => ?_
      refine op_v' (j_move (evo rfl)) ?_
      refine op_v' (j_extract rfl rfl) ?_
      refine op_v' (j_extract rfl rfl) ?_
      refine op_n' (fun ver => j_alloc elt42 rfl) fun v9x8 => ?_
      refine op_s' (j_storea_box0 agg42 rfl rfl rfl rfl rfl rfl) ?_
      refine op_v' (j_assign (evo rfl)) ?_
      refine op_nil ?_
      refine a_seq ?_
      refine a_seq ?_
      refine a_region (by kernel_rfl) ?_
      refine op_v' (j_loada_box (ys := [.own 37 v37x7, .p _]) agg42 rfl rfl rfl (Nat.le_of_ble_eq_true rfl)) ?_
      refine op_v' (j_loada_box (ys := [.own 27 v27x3, .p _]) agg42 rfl rfl rfl (Nat.le_of_ble_eq_true rfl)) ?_
      refine op_v0' (j_call0 (v := .p _) (hp1 := []) [] true [37, 27] ent30 (f_eqCon (exC vs bs) (exC vs bs)) ⟨.inr ⟨rfl, view_agg rfl (view_cons (view_own rfl rfl) (view_cons rfl rfl)), rfl⟩, .inr ⟨rfl, view_agg rfl (view_cons (view_own rfl rfl) (view_cons rfl rfl)), rfl⟩, trivial⟩ trivial rfl rfl (fun _ => rfl) rfl (fun _ h => by cases h) (.inr ⟨rfl, by first | exact pl_new1 (fun _ => rfl) | (simp [plO, plV, plV.plL]; done)⟩) rfl rfl) ?_
      refine op_v' (j_not rfl) ?_
      refine op_v' (j_move (evo rfl)) ?_
      refine op_split' 44 rfl (fun h3 => ?_) (fun h3 => ?_)
      ·
        have h3r := h3
        try simp only [Bool.not_eq_true', Bool.not_eq_false', Bool.not_not, bne_iff_ne, bne_eq_false_iff_eq, beq_eq_false_iff_ne, beq_iff_eq, ne_eq, decide_eq_true_eq, decide_eq_false_iff_not, Classical.not_not, List.length_map, List.length_take, Int.toNat_natCast] at h3
        exact absurd h3r (by simp)
      ·
        have h3r := h3
        try simp only [Bool.not_eq_true', Bool.not_eq_false', Bool.not_not, bne_iff_ne, bne_eq_false_iff_eq, beq_eq_false_iff_ne, beq_iff_eq, ne_eq, decide_eq_true_eq, decide_eq_false_iff_not, Classical.not_not, List.length_map, List.length_take, Int.toNat_natCast] at h3
        refine op_v' (j_want rfl rfl h3r (j_move (evo rfl))) ?_
        refine op_v' (j_want rfl rfl h3r (j_move (evo rfl))) ?_
        refine op_v' (j_want rfl rfl h3r (j_neb Try.underlying4 rfl rfl)) ?_
        refine op_v' (j_pick_f rfl h3r (evo rfl)) ?_
        refine op_nil ?_
        refine a_cond rfl (fun h4 => ?_) (fun h4 => ?_)
        ·
          have h4r := h4
          try simp only [Bool.not_eq_true', Bool.not_eq_false', Bool.not_not, bne_iff_ne, bne_eq_false_iff_eq, beq_eq_false_iff_ne, beq_iff_eq, ne_eq, decide_eq_true_eq, decide_eq_false_iff_not, Classical.not_not, List.length_map, List.length_take, Int.toNat_natCast] at h4
          exact absurd h4r (by simp)
        ·
          have h4r := h4
          try simp only [Bool.not_eq_true', Bool.not_eq_false', Bool.not_not, bne_iff_ne, bne_eq_false_iff_eq, beq_eq_false_iff_ne, beq_iff_eq, ne_eq, decide_eq_true_eq, decide_eq_false_iff_not, Classical.not_not, List.length_map, List.length_take, Int.toNat_natCast] at h4
          refine a_skip ?_
          refine a_seq ?_
          refine a_seq ?_
          refine a_region (by kernel_rfl) ?_
          refine op_v' (j_move (evo rfl)) ?_
          refine op_v' (j_move (evo rfl)) ?_
          refine op_n1' (fun ver => j_call1 (v := .own 51 ver) (hp1 := [(51, some (ver, .row 3 1 _))]) [] false [] ent39 (f_toIntS vs hn1) ⟨.inl ⟨rfl, rfl⟩, trivial⟩ trivial rfl rfl rfl (fun h => by cases h) rfl (List.all_eq_true.1 rfl) (.inl rfl) rfl rfl) fun v51x9 => ?_
          refine op_v0' (j_call0 (v := .p _) (hp1 := []) [] true [31, 51] ent40 (f_eqIntS _ _) ⟨.inr ⟨rfl, view_own rfl rfl, rfl⟩, .inr ⟨rfl, view_own rfl rfl, rfl⟩, trivial⟩ trivial rfl rfl (fun _ => rfl) rfl (fun _ h => by cases h) (.inr ⟨rfl, by first | exact pl_new1 (fun _ => rfl) | (simp [plO, plV, plV.plL]; done)⟩) rfl rfl) ?_
          refine op_v' (j_not rfl) ?_
          refine op_nil ?_
          refine a_cond rfl (fun h5 => ?_) (fun h5 => ?_)
          ·
            have h5r := h5
            try simp only [Bool.not_eq_true', Bool.not_eq_false', Bool.not_not, bne_iff_ne, bne_eq_false_iff_eq, beq_eq_false_iff_ne, beq_iff_eq, ne_eq, decide_eq_true_eq, decide_eq_false_iff_not, Classical.not_not, List.length_map, List.length_take, Int.toNat_natCast] at h5
            exact absurd h5r (by simp)
          ·
            have h5r := h5
            try simp only [Bool.not_eq_true', Bool.not_eq_false', Bool.not_not, bne_iff_ne, bne_eq_false_iff_eq, beq_eq_false_iff_ne, beq_iff_eq, ne_eq, decide_eq_true_eq, decide_eq_false_iff_not, Classical.not_not, List.length_map, List.length_take, Int.toNat_natCast] at h5
            refine a_skip ?_
            refine a_seq ?_
            refine a_seq ?_
            refine a_region (by kernel_rfl) ?_
            refine op_v' (j_move (evo rfl)) ?_
            refine op_v' (j_move (evo rfl)) ?_
            refine op_n1' (fun ver => j_call1 (v := .own 56 ver) (hp1 := [(56, some (ver, .row 4 1 _))]) [] false [] ent16 (f_toBoolS bs hn2) ⟨.inl ⟨rfl, rfl⟩, trivial⟩ trivial rfl rfl rfl (fun h => by cases h) rfl (List.all_eq_true.1 rfl) (.inl rfl) rfl rfl) fun v56x10 => ?_
            refine op_v0' (j_call0 (v := .p _) (hp1 := []) [] true [33, 56] ent18 (f_eqBoolS _ _) ⟨.inr ⟨rfl, view_own rfl rfl, rfl⟩, .inr ⟨rfl, view_own rfl rfl, rfl⟩, trivial⟩ trivial rfl rfl (fun _ => rfl) rfl (fun _ h => by cases h) (.inr ⟨rfl, by first | exact pl_new1 (fun _ => rfl) | (simp [plO, plV, plV.plL]; done)⟩) rfl rfl) ?_
            refine op_v' (j_not rfl) ?_
            refine op_nil ?_
            refine a_cond rfl (fun h6 => ?_) (fun h6 => ?_)
            ·
              have h6r := h6
              try simp only [Bool.not_eq_true', Bool.not_eq_false', Bool.not_not, bne_iff_ne, bne_eq_false_iff_eq, beq_eq_false_iff_ne, beq_iff_eq, ne_eq, decide_eq_true_eq, decide_eq_false_iff_not, Classical.not_not, List.length_map, List.length_take, Int.toNat_natCast] at h6
              exact absurd h6r (by simp)
            ·
              have h6r := h6
              try simp only [Bool.not_eq_true', Bool.not_eq_false', Bool.not_not, bne_iff_ne, bne_eq_false_iff_eq, beq_eq_false_iff_ne, beq_iff_eq, ne_eq, decide_eq_true_eq, decide_eq_false_iff_not, Classical.not_not, List.length_map, List.length_take, Int.toNat_natCast] at h6
              refine a_skip ?_
              refine a_seq ?_
              refine a_region (by kernel_rfl) ?_
              refine op_v' (j_assign (evo rfl)) ?_
              refine op_nil ?_
              refine a_seq ?_
              refine a_region (by kernel_rfl) ?_
              refine op_v' (j_move (evo rfl)) ?_
              refine op_v' (j_move (evo rfl)) ?_
              refine op_v0' (j_call0 (v := .p _) (hp1 := [(31, some (v31x5, .row 3 1 _))]) [(31, v31x5)] false [31] ent41 (f_markIntS 1 _ (by omega)) ⟨.inl ⟨rfl, rfl⟩, .inl ⟨rfl, rfl⟩, trivial⟩ ⟨⟨rfl, rfl⟩, trivial⟩ rfl rfl (fun h => by cases h) rfl (List.all_eq_true.1 rfl) (.inl rfl) rfl rfl) ?_
              refine op_v' (j_assign (evo rfl)) ?_
              refine op_nil ?_
              refine a_seq ?_
              refine a_region (by kernel_rfl) ?_
              refine op_v' (j_move (evo rfl)) ?_
              refine op_v' (j_move (evo rfl)) ?_
              refine op_v0' (j_call0 (v := .p _) (hp1 := [(33, some (v33x6, .row 4 1 _))]) [(33, v33x6)] false [33] ent21 (f_markBoolS (1 + vs.length) _ (by omega)) ⟨.inl ⟨rfl, rfl⟩, .inl ⟨rfl, rfl⟩, trivial⟩ ⟨⟨rfl, rfl⟩, trivial⟩ rfl rfl (fun h => by cases h) rfl (List.all_eq_true.1 rfl) (.inl rfl) rfl rfl) ?_
              refine op_v' (j_assign (evo rfl)) ?_
              refine op_nil ?_
              refine a_seq ?_
              refine a_seq ?_
              refine a_region (by kernel_rfl) ?_
              refine op_v' (j_move (evo rfl)) ?_
              refine op_v' (j_lt rfl rfl) ?_
              refine op_v' (j_move (evo rfl)) ?_
              refine op_split' 67 rfl (fun h7 => ?_) (fun h7 => ?_)
              ·
                have h7r := h7
                try simp only [Bool.not_eq_true', Bool.not_eq_false', Bool.not_not, bne_iff_ne, bne_eq_false_iff_eq, beq_eq_false_iff_ne, beq_iff_eq, ne_eq, decide_eq_true_eq, decide_eq_false_iff_not, Classical.not_not, List.length_map, List.length_take, Int.toNat_natCast] at h7
                exact absurd (of_decide_eq_true h7r) (by omega)
              ·
                have h7r := h7
                try simp only [Bool.not_eq_true', Bool.not_eq_false', Bool.not_not, bne_iff_ne, bne_eq_false_iff_eq, beq_eq_false_iff_ne, beq_iff_eq, ne_eq, decide_eq_true_eq, decide_eq_false_iff_not, Classical.not_not, List.length_map, List.length_take, Int.toNat_natCast] at h7
                refine op_v' (j_want rfl rfl h7r (j_loada_box (ys := [.own 37 v37x7, .p _]) agg42 rfl rfl rfl (Nat.le_of_ble_eq_true rfl))) ?_
                refine op_v' (j_want rfl rfl h7r (j_loada_box (ys := [.own 27 v27x3, .p _]) agg42 rfl rfl rfl (Nat.le_of_ble_eq_true rfl))) ?_
                refine op_v0' (j_want rfl rfl h7r (j_call0 (v := .p _) (hp1 := []) [] true [37, 27] ent30 (f_eqCon (exC vs bs) (exC vs bs)) ⟨.inr ⟨rfl, view_agg rfl (view_cons (view_own rfl rfl) (view_cons rfl rfl)), rfl⟩, .inr ⟨rfl, view_agg rfl (view_cons (view_own rfl rfl) (view_cons rfl rfl)), rfl⟩, trivial⟩ trivial rfl rfl (fun _ => rfl) rfl (fun _ h => by cases h) (.inr ⟨rfl, by first | exact pl_new1 (fun _ => rfl) | (simp [plO, plV, plV.plL]; done)⟩) rfl rfl)) ?_
                refine op_v' (j_want rfl rfl h7r (j_not rfl)) ?_
                refine op_v' (j_pick_f rfl h7r (evo rfl)) ?_
                refine op_v' (j_move (evo rfl)) ?_
                refine op_split' 73 rfl (fun h8 => ?_) (fun h8 => ?_)
                ·
                  have h8r := h8
                  try simp only [Bool.not_eq_true', Bool.not_eq_false', Bool.not_not, bne_iff_ne, bne_eq_false_iff_eq, beq_eq_false_iff_ne, beq_iff_eq, ne_eq, decide_eq_true_eq, decide_eq_false_iff_not, Classical.not_not, List.length_map, List.length_take, Int.toNat_natCast] at h8
                  exact absurd h8r (by simp)
                ·
                  have h8r := h8
                  try simp only [Bool.not_eq_true', Bool.not_eq_false', Bool.not_not, bne_iff_ne, bne_eq_false_iff_eq, beq_eq_false_iff_ne, beq_iff_eq, ne_eq, decide_eq_true_eq, decide_eq_false_iff_not, Classical.not_not, List.length_map, List.length_take, Int.toNat_natCast] at h8
                  refine op_v' (j_want rfl rfl h8r (j_move (evo rfl))) ?_
                  refine op_v' (j_want rfl rfl h8r (j_move (evo rfl))) ?_
                  refine op_v' (j_want rfl rfl h8r (j_neb Try.underlying4 rfl rfl)) ?_
                  refine op_v' (j_pick_f rfl h8r (evo rfl)) ?_
                  refine op_nil ?_
                  refine a_cond rfl (fun h9 => ?_) (fun h9 => ?_)
                  ·
                    have h9r := h9
                    try simp only [Bool.not_eq_true', Bool.not_eq_false', Bool.not_not, bne_iff_ne, bne_eq_false_iff_eq, beq_eq_false_iff_ne, beq_iff_eq, ne_eq, decide_eq_true_eq, decide_eq_false_iff_not, Classical.not_not, List.length_map, List.length_take, Int.toNat_natCast] at h9
                    exact absurd h9r (by simp)
                  ·
                    have h9r := h9
                    try simp only [Bool.not_eq_true', Bool.not_eq_false', Bool.not_not, bne_iff_ne, bne_eq_false_iff_eq, beq_eq_false_iff_ne, beq_iff_eq, ne_eq, decide_eq_true_eq, decide_eq_false_iff_not, Classical.not_not, List.length_map, List.length_take, Int.toNat_natCast] at h9
                    refine a_skip ?_
                    refine a_seq ?_
                    refine a_region (by kernel_rfl) ?_
                    refine op_v' (j_assign (evo rfl)) ?_
                    refine op_nil ?_
                    refine a_seq ?_
                    refine a_region (by kernel_rfl) ?_
                    refine op_v' (j_loada_box (ys := [.own 37 v37x7, .p _]) agg42 rfl rfl rfl (Nat.le_of_ble_eq_true rfl)) ?_
                    refine op_v' (j_move (evo rfl)) ?_
                    refine op_v0' (j_call0 (v := .p _) (hp1 := [(37, some (v37x7, .row 73 2 _))]) [(37, v37x7)] false [37] ent42 (f_markCon 1 _ _ hcl) ⟨.inl ⟨rfl, rfl⟩, .inl ⟨rfl, rfl⟩, trivial⟩ ⟨⟨rfl, rfl⟩, trivial⟩ rfl rfl (fun h => by cases h) rfl (List.all_eq_true.1 rfl) (.inl rfl) rfl rfl) ?_
                    refine op_v' (j_assign (evo rfl)) ?_
                    refine op_nil ?_
                    refine a_seq ?_
                    refine a_region (by kernel_rfl) ?_
                    refine op_v' (j_assign (evo rfl)) ?_
                    refine op_nil ?_
                    refine a_seq ?_
                    refine a_region (by kernel_rfl) ?_
                    refine op_v' (j_loada_box (ys := [.own 37 v37x7, .p _]) agg42 rfl rfl rfl (Nat.le_of_ble_eq_true rfl)) ?_
                    refine op_v' (j_move (evo rfl)) ?_
                    refine op_v0' (j_call0 (v := .p _) (hp1 := []) [] true [37] ent43 (f_heldCon 1 (exC vs bs).1.length _ hcl) ⟨.inr ⟨rfl, view_agg rfl (view_cons (view_own rfl rfl) (view_cons rfl rfl)), rfl⟩, .inl ⟨rfl, rfl⟩, trivial⟩ trivial rfl rfl (fun _ => rfl) rfl (fun _ h => by cases h) (.inr ⟨rfl, by first | exact pl_new1 (fun _ => rfl) | (simp [plO, plV, plV.plL]; done)⟩) rfl rfl) ?_
                    refine op_v' (j_assign (evo rfl)) ?_
                    refine op_nil ?_
                    refine a_seq ?_
                    refine a_seq ?_
                    refine a_region (by kernel_rfl) ?_
                    refine op_v' (j_move (evo rfl)) ?_
                    refine op_v' (j_lt rfl rfl) ?_
                    refine op_nil ?_
                    refine a_cond rfl (fun h10 => ?_) (fun h10 => ?_)
                    ·
                      have h10r := h10
                      try simp only [Bool.not_eq_true', Bool.not_eq_false', Bool.not_not, bne_iff_ne, bne_eq_false_iff_eq, beq_eq_false_iff_ne, beq_iff_eq, ne_eq, decide_eq_true_eq, decide_eq_false_iff_not, Classical.not_not, List.length_map, List.length_take, Int.toNat_natCast] at h10
                      exact absurd (of_decide_eq_true h10r) (by omega)
                    ·
                      have h10r := h10
                      try simp only [Bool.not_eq_true', Bool.not_eq_false', Bool.not_not, bne_iff_ne, bne_eq_false_iff_eq, beq_eq_false_iff_ne, beq_iff_eq, ne_eq, decide_eq_true_eq, decide_eq_false_iff_not, Classical.not_not, List.length_map, List.length_take, Int.toNat_natCast] at h10
                      refine a_skip ?_
                      refine a_seq ?_
                      refine a_seq ?_
                      refine a_region (by kernel_rfl) ?_
                      refine op_v' (j_move (evo rfl)) ?_
                      refine op_v' (j_move (evo rfl)) ?_
                      refine op_v' (j_ne rfl rfl) ?_
                      refine op_nil ?_
                      refine a_cond rfl (fun h11 => ?_) (fun h11 => ?_)
                      ·
                        have h11r := h11
                        try simp only [Bool.not_eq_true', Bool.not_eq_false', Bool.not_not, bne_iff_ne, bne_eq_false_iff_eq, beq_eq_false_iff_ne, beq_iff_eq, ne_eq, decide_eq_true_eq, decide_eq_false_iff_not, Classical.not_not, List.length_map, List.length_take, Int.toNat_natCast] at h11
                        exact absurd h11r (by simp)
                      ·
                        have h11r := h11
                        try simp only [Bool.not_eq_true', Bool.not_eq_false', Bool.not_not, bne_iff_ne, bne_eq_false_iff_eq, beq_eq_false_iff_ne, beq_iff_eq, ne_eq, decide_eq_true_eq, decide_eq_false_iff_not, Classical.not_not, List.length_map, List.length_take, Int.toNat_natCast] at h11
                        refine a_skip ?_
                        refine a_seq ?_
                        refine a_region (by kernel_rfl) ?_
                        refine op_v' (j_move (evo rfl)) ?_
                        refine op_n1' (fun ver => j_call1 (v := .own 91 ver) (hp1 := [(91, some (ver, .row 3 1 _))]) [] false [] ent39 (f_toIntS vs hn1) ⟨.inl ⟨rfl, rfl⟩, trivial⟩ trivial rfl rfl rfl (fun h => by cases h) rfl (List.all_eq_true.1 rfl) (.inl rfl) rfl rfl) fun v91x11 => ?_
                        refine op_v' (j_move (evo rfl)) ?_
                        refine op_n1' (fun ver => j_call1 (v := .own 93 ver) (hp1 := [(93, some (ver, .row 4 1 _))]) [] false [] ent16 (f_toBoolS bs hn2) ⟨.inl ⟨rfl, rfl⟩, trivial⟩ trivial rfl rfl rfl (fun h => by cases h) rfl (List.all_eq_true.1 rfl) (.inl rfl) rfl rfl) fun v93x12 => ?_
                        refine op_n1' (fun ver => j_call1 (v := .tup [.agg [.own 94 ver, .p _], .p _]) (hp1 := [(94, some (ver, .row 73 2 _))]) [] true [91, 93] ent32 (f_exImpl vs bs) ⟨.inr ⟨rfl, view_own rfl rfl, rfl⟩, .inr ⟨rfl, view_own rfl rfl, rfl⟩, trivial⟩ trivial rfl rfl rfl (fun _ => rfl) rfl (List.all_eq_true.1 rfl) (.inr ⟨rfl, by first | exact pl_new1 (fun _ => rfl) | (simp [plO, plV, plV.plL]; done)⟩) rfl rfl) fun v94x13 => ?_
                        refine op_v' (j_move (evo rfl)) ?_
                        refine op_v' (j_extract rfl rfl) ?_
                        refine op_v' (j_extract rfl rfl) ?_
                        refine op_n' (fun ver => j_alloc elt42 rfl) fun v14x14 => ?_
                        refine op_s' (j_storea_box0 agg42 rfl rfl rfl rfl rfl rfl) ?_
                        refine op_v' (j_assign (evo rfl)) ?_
                        refine op_nil ?_
                        refine a_seq ?_
                        refine a_seq ?_
                        refine a_region (by kernel_rfl) ?_
                        refine op_v' (j_loada_box (ys := [.own 94 v94x13, .p _]) agg42 rfl rfl rfl (Nat.le_of_ble_eq_true rfl)) ?_
                        refine op_v' (j_loada_box (ys := [.own 27 v27x3, .p _]) agg42 rfl rfl rfl (Nat.le_of_ble_eq_true rfl)) ?_
                        refine op_v0' (j_call0 (v := .p _) (hp1 := []) [] true [94, 27] ent30 (f_eqCon (exC vs bs) (exC vs bs)) ⟨.inr ⟨rfl, view_agg rfl (view_cons (view_own rfl rfl) (view_cons rfl rfl)), rfl⟩, .inr ⟨rfl, view_agg rfl (view_cons (view_own rfl rfl) (view_cons rfl rfl)), rfl⟩, trivial⟩ trivial rfl rfl (fun _ => rfl) rfl (fun _ h => by cases h) (.inr ⟨rfl, by first | exact pl_new1 (fun _ => rfl) | (simp [plO, plV, plV.plL]; done)⟩) rfl rfl) ?_
                        refine op_v' (j_not rfl) ?_
                        refine op_v' (j_move (evo rfl)) ?_
                        refine op_split' 101 rfl (fun h12 => ?_) (fun h12 => ?_)
                        ·
                          have h12r := h12
                          try simp only [Bool.not_eq_true', Bool.not_eq_false', Bool.not_not, bne_iff_ne, bne_eq_false_iff_eq, beq_eq_false_iff_ne, beq_iff_eq, ne_eq, decide_eq_true_eq, decide_eq_false_iff_not, Classical.not_not, List.length_map, List.length_take, Int.toNat_natCast] at h12
                          exact absurd h12r (by simp)
                        ·
                          have h12r := h12
                          try simp only [Bool.not_eq_true', Bool.not_eq_false', Bool.not_not, bne_iff_ne, bne_eq_false_iff_eq, beq_eq_false_iff_ne, beq_iff_eq, ne_eq, decide_eq_true_eq, decide_eq_false_iff_not, Classical.not_not, List.length_map, List.length_take, Int.toNat_natCast] at h12
                          refine op_v' (j_want rfl rfl h12r (j_move (evo rfl))) ?_
                          refine op_v' (j_want rfl rfl h12r (j_move (evo rfl))) ?_
                          refine op_v' (j_want rfl rfl h12r (j_neb Try.underlying4 rfl rfl)) ?_
                          refine op_v' (j_pick_f rfl h12r (evo rfl)) ?_
                          refine op_nil ?_
                          refine a_cond rfl (fun h13 => ?_) (fun h13 => ?_)
                          ·
                            have h13r := h13
                            try simp only [Bool.not_eq_true', Bool.not_eq_false', Bool.not_not, bne_iff_ne, bne_eq_false_iff_eq, beq_eq_false_iff_ne, beq_iff_eq, ne_eq, decide_eq_true_eq, decide_eq_false_iff_not, Classical.not_not, List.length_map, List.length_take, Int.toNat_natCast] at h13
                            exact absurd h13r (by simp)
                          ·
                            have h13r := h13
                            try simp only [Bool.not_eq_true', Bool.not_eq_false', Bool.not_not, bne_iff_ne, bne_eq_false_iff_eq, beq_eq_false_iff_ne, beq_iff_eq, ne_eq, decide_eq_true_eq, decide_eq_false_iff_not, Classical.not_not, List.length_map, List.length_take, Int.toNat_natCast] at h13
                            refine a_skip ?_
                            refine a_seq ?_
                            refine a_region (by kernel_rfl) ?_
                            refine op_v' (j_assign (evo rfl)) ?_
                            refine op_nil ?_
                            refine a_seq ?_
                            refine a_region (by kernel_rfl) ?_
                            refine op_v' (j_loada_box (ys := [.own 37 v37x7, .p _]) agg42 rfl rfl rfl (Nat.le_of_ble_eq_true rfl)) ?_
                            refine op_v' (j_move (evo rfl)) ?_
                            refine op_v0' (j_call0 (v := .p _) (hp1 := []) [] true [37] ent43 (f_heldCon 1 (exC vs bs).1.length _ hcl) ⟨.inr ⟨rfl, view_agg rfl (view_cons (view_own rfl rfl) (view_cons rfl rfl)), rfl⟩, .inl ⟨rfl, rfl⟩, trivial⟩ trivial rfl rfl (fun _ => rfl) rfl (fun _ h => by cases h) (.inr ⟨rfl, by first | exact pl_new1 (fun _ => rfl) | (simp [plO, plV, plV.plL]; done)⟩) rfl rfl) ?_
                            refine op_v' (j_assign (evo rfl)) ?_
                            refine op_nil ?_
                            refine a_seq ?_
                            refine a_seq ?_
                            refine a_region (by kernel_rfl) ?_
                            refine op_v' (j_move (evo rfl)) ?_
                            refine op_v' (j_lt rfl rfl) ?_
                            refine op_nil ?_
                            refine a_cond rfl (fun h14 => ?_) (fun h14 => ?_)
                            ·
                              have h14r := h14
                              try simp only [Bool.not_eq_true', Bool.not_eq_false', Bool.not_not, bne_iff_ne, bne_eq_false_iff_eq, beq_eq_false_iff_ne, beq_iff_eq, ne_eq, decide_eq_true_eq, decide_eq_false_iff_not, Classical.not_not, List.length_map, List.length_take, Int.toNat_natCast] at h14
                              exact absurd (of_decide_eq_true h14r) (by omega)
                            ·
                              have h14r := h14
                              try simp only [Bool.not_eq_true', Bool.not_eq_false', Bool.not_not, bne_iff_ne, bne_eq_false_iff_eq, beq_eq_false_iff_ne, beq_iff_eq, ne_eq, decide_eq_true_eq, decide_eq_false_iff_not, Classical.not_not, List.length_map, List.length_take, Int.toNat_natCast] at h14
                              refine a_skip ?_
                              refine a_seq ?_
                              refine a_seq ?_
                              refine a_region (by kernel_rfl) ?_
                              refine op_v' (j_move (evo rfl)) ?_
                              refine op_v' (j_move (evo rfl)) ?_
                              refine op_v' (j_ne rfl rfl) ?_
                              refine op_nil ?_
                              refine a_cond rfl (fun h15 => ?_) (fun h15 => ?_)
                              ·
                                have h15r := h15
                                try simp only [Bool.not_eq_true', Bool.not_eq_false', Bool.not_not, bne_iff_ne, bne_eq_false_iff_eq, beq_eq_false_iff_ne, beq_iff_eq, ne_eq, decide_eq_true_eq, decide_eq_false_iff_not, Classical.not_not, List.length_map, List.length_take, Int.toNat_natCast] at h15
                                exact absurd h15r (by simp)
                              ·
                                have h15r := h15
                                try simp only [Bool.not_eq_true', Bool.not_eq_false', Bool.not_not, bne_iff_ne, bne_eq_false_iff_eq, beq_eq_false_iff_ne, beq_iff_eq, ne_eq, decide_eq_true_eq, decide_eq_false_iff_not, Classical.not_not, List.length_map, List.length_take, Int.toNat_natCast] at h15
                                refine a_skip ?_
                                refine a_seq ?_
                                refine a_region (by kernel_rfl) ?_
                                refine op_v' (j_assign (evo rfl)) ?_
                                refine op_nil ?_
                                refine a_ret ?_
                                exact ⟨[.p _], .p _, [], [], [], ⟨rfl, trivial⟩, rfl, rfl, trivial, rfl, rfl, ⟨rfl, rfl, rfl⟩⟩


end Go.Ab

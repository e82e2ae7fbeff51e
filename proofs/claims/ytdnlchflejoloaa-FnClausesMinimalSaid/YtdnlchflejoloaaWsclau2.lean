/- Walks. -/
import Derived.Test.YtdnlchflejoloaaBase
import Derived.Test.YtdnlchflejoloaaWsclau
import Derived.Test.YtdnlchflejoloaaProb
import Derived.Test.YtdnlchflejoloaaWsdrawd
import Derived.Test.YtdnlchflejoloaaWsdrawc
namespace Go.Ab
open Go.Proofs
set_option maxRecDepth 100000
set_option maxHeartbeats 8000000
set_option linter.unusedSimpArgs false
set_option linter.unusedVariables false
theorem f_l13Max (c : Con) (hc : cOk c = true) : Fn Try.prog 76 [.agg [.sl (c.1.map dT), .p (.int .i64 c.2)]] [] (fun rr ii nn => rr = .sl ((clA c).map dC) ∧ ii = [] ∧ nn = []) := by
  refine fn_of Try.func76 rfl (Nat.le_of_ble_eq_true rfl) fun w X g => ?_
  show AWp _ _ _ ⟨[(0, .agg [.sl (c.1.map dT), .p (.int .i64 c.2)])], []⟩
  have hlc := cOk_len hc
  have hbc := cOk_bound hc
  have htt := totV_bounds (cOk_coefs hc)
  have hp12 := pow12 hc
  refine a_seq ?_
  refine a_region (by kernel_rfl) ?_
  refine op_n' (fun ver => j_boxa rfl) fun v1x1 => ?_
  refine op_v' (j_assign (evo rfl)) ?_
  refine op_nil ?_
  refine a_seq ?_
  refine a_region (by kernel_rfl) ?_
  refine op_n' (fun ver => j_buildSlice (parts := []) (es := []) slt27 elt25 rfl rfl (by decide) (by decide) rfl rfl (by simp) rfl) fun v12x2 => ?_
  refine op_v' (j_assign (evo rfl)) ?_
  refine op_nil ?_
  refine a_seq ?_
  refine a_region (by kernel_rfl) ?_
  refine op_v' (j_loada_box (ys := [.sl _, .p _]) agg25 rfl rfl rfl (Nat.le_of_ble_eq_true rfl)) ?_
  refine op_v0' (j_call0 (v := .p _) (hp1 := []) [] false [] ent142 (f_l1Total c hc) ⟨.inl ⟨rfl, rfl⟩, trivial⟩ trivial rfl rfl (fun h => by cases h) rfl (fun _ h => by cases h) (.inl rfl) rfl rfl) ?_
  refine op_v' (j_assign (evo rfl)) ?_
  refine op_nil ?_
  refine a_seq ?_
  refine a_seq ?_
  refine a_region (by kernel_rfl) ?_
  refine op_v' (j_assign (evo rfl)) ?_
  refine op_nil ?_
  refine a_block ?_
  refine a_loopF' (ι := Nat × Nat) (fun x => x.1 ≤ 2 ^ c.1.length) (fun x r => (5, .p (.int .i64 ((x.1 : Nat)))) :: (3, .own 12 x.2) :: r) (fun x r => (12, some (x.2, .row 25 2 ((clN c x.1).map dC))) :: r) (fun x => 2 ^ c.1.length - x.1) (fun _ _ => rfl) (fun _ _ => rfl) (0, v12x2) (by first | exact (Nat.zero_le _) | (dsimp only; exact (Nat.zero_le _))) ⟨⟨rfl, rfl⟩, ⟨rfl, rfl, trivial⟩, ⟨rfl, trivial⟩, ⟨rfl, rfl⟩, ⟨rfl, rfl⟩⟩ ?_
  rintro ⟨s, v⟩ hpre; dsimp only at hpre ⊢
  refine a_seq ?_
  refine a_seq ?_
  refine a_region (by kernel_rfl) ?_
  refine op_v' (j_move (evo rfl)) ?_
  refine op_v' (j_fldp fld25f0 rfl rfl) ?_
  refine op_v' (j_load_box leaf23 rfl rfl rfl) ?_
  refine op_v' (j_len_map Try.underlying23 rfl) ?_
  refine op_v' (j_bits rfl rfl (fun w => run_shl1 (b := c.1.length) (by omega) (by omega) w)) ?_
  refine op_v' (j_lt rfl rfl) ?_
  refine op_nil ?_
  refine a_cond rfl (fun h1 => ?_) (fun h1 => ?_)
  ·
    have h1r := h1
    try simp only [Bool.not_eq_true', Bool.not_eq_false', Bool.not_not, bne_iff_ne, bne_eq_false_iff_eq, beq_eq_false_iff_ne, beq_iff_eq, ne_eq, decide_eq_true_eq, decide_eq_false_iff_not, Classical.not_not, List.length_map, List.length_take, Int.toNat_natCast, List.length_map, List.length_append, List.length_cons, List.length_nil, List.length_set, List.length_take, rowS_len] at h1
    refine a_skip ?_
    refine a_seq ?_
    refine a_block ?_
    refine a_seq ?_
    refine a_region (by kernel_rfl) ?_
    refine op_n' (fun ver => j_buildSlice (parts := []) (es := []) slt36 elt3 rfl rfl (by decide) (by decide) rfl rfl (by simp) rfl) fun v23x3 => ?_
    refine op_v' (j_assign (evo rfl)) ?_
    refine op_nil ?_
    refine a_seq ?_
    refine a_region (by kernel_rfl) ?_
    refine op_v' (j_assign (evo rfl)) ?_
    refine op_nil ?_
    refine a_seq ?_
    refine a_region (by kernel_rfl) ?_
    refine op_v' (j_assign (evo rfl)) ?_
    refine op_nil ?_
    refine a_seq ?_
    refine a_seq ?_
    refine a_region (by kernel_rfl) ?_
    refine op_v' (j_assign (evo rfl)) ?_
    refine op_nil ?_
    refine a_block ?_
    refine a_loopF' (ι := Nat × Nat) (fun x => x.1 ≤ c.1.length) (fun x r => (9, .p (.int .i64 ((x.1 : Nat)))) :: (6, .own 23 x.2) :: (7, .p (.int .i64 (totV (selF (c.1.take x.1) s)))) :: (8, .p (.int .i64 (mnV 1000 (selF (c.1.take x.1) s)))) :: r) (fun x r => (23, some (x.2, .row 3 1 (((selF (c.1.take x.1) s).map (·.2)).map dI))) :: r) (fun x => c.1.length - x.1) (fun _ _ => rfl) (fun _ _ => rfl) (0, v23x3) (by first | exact (Nat.zero_le _) | (dsimp only; exact (Nat.zero_le _))) ⟨⟨rfl, rfl⟩, ⟨rfl, rfl, rfl, rfl, trivial⟩, ⟨rfl, trivial⟩, ⟨rfl, rfl⟩, ⟨rfl, rfl⟩⟩ ?_
    rintro ⟨k, vk⟩ hpk; dsimp only at hpk ⊢
    refine a_seq ?_
    refine a_seq ?_
    refine a_region (by kernel_rfl) ?_
    refine op_v' (j_move (evo rfl)) ?_
    refine op_v' (j_fldp fld25f0 rfl rfl) ?_
    refine op_v' (j_load_box leaf23 rfl rfl rfl) ?_
    refine op_v' (j_len_map Try.underlying23 rfl) ?_
    refine op_v' (j_lt rfl rfl) ?_
    refine op_nil ?_
    refine a_cond rfl (fun h2 => ?_) (fun h2 => ?_)
    ·
      have h2r := h2
      try simp only [Bool.not_eq_true', Bool.not_eq_false', Bool.not_not, bne_iff_ne, bne_eq_false_iff_eq, beq_eq_false_iff_ne, beq_iff_eq, ne_eq, decide_eq_true_eq, decide_eq_false_iff_not, Classical.not_not, List.length_map, List.length_take, Int.toNat_natCast, List.length_map, List.length_append, List.length_cons, List.length_nil, List.length_set, List.length_take, rowS_len] at h2
      refine a_skip ?_
      refine a_seq ?_
      refine a_block ?_
      refine a_seq ?_
      have htm := cOk_terms hc (k := k) (by omega)
      have hst := sel_tot_rng hc (k := k) (s := s)
      have hmr := mnV_rng hc (k := k) (s := s) (b := 1000) (by decide)
      have hsl := selF_len (ts := c.1.take k) (s := s)
      rw [List.length_take] at hsl
      refine a_region (by kernel_rfl) ?_
      refine op_v' (j_move (evo rfl)) ?_
      refine op_v' (j_move (evo rfl)) ?_
      refine op_v' (j_bits rfl rfl (fun w => run_shr (a := s) (b := k) (by omega) (by omega) w)) ?_
      refine op_v' (j_bits rfl rfl (fun w => run_and1 (a := s / 2 ^ k) (Nat.lt_of_le_of_lt (Nat.div_le_self _ _) (by omega)) w)) ?_
      refine op_v' (j_eq rfl rfl) ?_
      refine op_nil ?_
      refine a_cond rfl (fun h3 => ?_) (fun h3 => ?_)
      ·
        have h3r := h3
        try simp only [Bool.not_eq_true', Bool.not_eq_false', Bool.not_not, bne_iff_ne, bne_eq_false_iff_eq, beq_eq_false_iff_ne, beq_iff_eq, ne_eq, decide_eq_true_eq, decide_eq_false_iff_not, Classical.not_not, List.length_map, List.length_take, Int.toNat_natCast, List.length_map, List.length_append, List.length_cons, List.length_nil, List.length_set, List.length_take, rowS_len] at h3
        refine a_seq ?_
        refine a_region (by kernel_rfl) ?_
        refine op_v' (j_move (evo rfl)) ?_
        refine op_v' (j_fldp fld25f0 rfl rfl) ?_
        refine op_v' (j_load_box leaf23 rfl rfl rfl) ?_
        refine op_v' (j_move (evo rfl)) ?_
        refine op_v' (j_elemN slt23 rfl rfl rfl (at_map (by first | omega | (simp only [List.length_map, List.length_take, Int.toNat_natCast, List.length_map, List.length_append, List.length_cons, List.length_nil, List.length_set, List.length_take, rowS_len]; omega))) rfl) ?_
        refine op_v' (j_fldel fld99f1 rfl) ?_
        refine op_v' (j_load_el leaf3 rfl (at_map (by first | omega | (simp only [List.length_map, List.length_take, Int.toNat_natCast, List.length_map, List.length_append, List.length_cons, List.length_nil, List.length_set, List.length_take, rowS_len]; omega))) rfl) ?_
        refine op_n' (fun ver => j_buildSlice (parts := [(0, .tmp 42)]) (es := [[_]]) slt36 elt3 rfl rfl (by decide) (by decide) rfl rfl (by simp) rfl) fun v43x4 => ?_
        refine op_n' (fun ver => j_append_own slt36 elt3 rfl rfl rfl rfl rfl rfl (by rw [maxLen_eq]; first | omega | (simp only [List.length_map, List.length_take, Int.toNat_natCast, List.length_map, List.length_append, List.length_cons, List.length_nil, List.length_set, List.length_take, rowS_len]; omega)) (by first | omega | (simp only [List.length_map, List.length_take, Int.toNat_natCast, List.length_map, List.length_append, List.length_cons, List.length_nil, List.length_set, List.length_take, rowS_len]; omega))) fun v23x5 => ?_
        refine op_v' (j_assign (evo rfl)) ?_
        refine op_nil ?_
        refine a_seq ?_
        refine a_region (by kernel_rfl) ?_
        refine op_v' (j_move (evo rfl)) ?_
        refine op_v' (j_fldp fld25f0 rfl rfl) ?_
        refine op_v' (j_load_box leaf23 rfl rfl rfl) ?_
        refine op_v' (j_move (evo rfl)) ?_
        refine op_v' (j_elemN slt23 rfl rfl rfl (at_map (by first | omega | (simp only [List.length_map, List.length_take, Int.toNat_natCast, List.length_map, List.length_append, List.length_cons, List.length_nil, List.length_set, List.length_take, rowS_len]; omega))) rfl) ?_
        refine op_v' (j_fldel fld99f0 rfl) ?_
        refine op_v' (j_load_el leaf3 rfl (at_map (by first | omega | (simp only [List.length_map, List.length_take, Int.toNat_natCast, List.length_map, List.length_append, List.length_cons, List.length_nil, List.length_set, List.length_take, rowS_len]; omega))) rfl) ?_
        refine op_v' (j_add rfl rfl (by first | omega | (simp only [List.length_map, List.length_take, Int.toNat_natCast, List.length_map, List.length_append, List.length_cons, List.length_nil, List.length_set, List.length_take, rowS_len]; omega)) (by first | omega | (simp only [List.length_map, List.length_take, Int.toNat_natCast, List.length_map, List.length_append, List.length_cons, List.length_nil, List.length_set, List.length_take, rowS_len]; omega))) ?_
        refine op_v' (j_assign (evo rfl)) ?_
        refine op_nil ?_
        refine a_seq ?_
        refine a_region (by kernel_rfl) ?_
        refine op_v' (j_fldp fld25f0 rfl rfl) ?_
        refine op_v' (j_load_box leaf23 rfl rfl rfl) ?_
        refine op_v' (j_move (evo rfl)) ?_
        refine op_v' (j_elemN slt23 rfl rfl rfl (at_map (by first | omega | (simp only [List.length_map, List.length_take, Int.toNat_natCast, List.length_map, List.length_append, List.length_cons, List.length_nil, List.length_set, List.length_take, rowS_len]; omega))) rfl) ?_
        refine op_v' (j_fldel fld99f0 rfl) ?_
        refine op_v' (j_load_el leaf3 rfl (at_map (by first | omega | (simp only [List.length_map, List.length_take, Int.toNat_natCast, List.length_map, List.length_append, List.length_cons, List.length_nil, List.length_set, List.length_take, rowS_len]; omega))) rfl) ?_
        refine op_v' (j_move (evo rfl)) ?_
        refine op_v' (j_lt rfl rfl) ?_
        refine op_nil ?_
        refine a_cond rfl (fun h4 => ?_) (fun h4 => ?_)
        ·
          have h4r := h4
          try simp only [Bool.not_eq_true', Bool.not_eq_false', Bool.not_not, bne_iff_ne, bne_eq_false_iff_eq, beq_eq_false_iff_ne, beq_iff_eq, ne_eq, decide_eq_true_eq, decide_eq_false_iff_not, Classical.not_not, List.length_map, List.length_take, Int.toNat_natCast, List.length_map, List.length_append, List.length_cons, List.length_nil, List.length_set, List.length_take, rowS_len] at h4
          refine a_region (by kernel_rfl) ?_
          refine op_v' (j_fldp fld25f0 rfl rfl) ?_
          refine op_v' (j_load_box leaf23 rfl rfl rfl) ?_
          refine op_v' (j_move (evo rfl)) ?_
          refine op_v' (j_elemN slt23 rfl rfl rfl (at_map (by first | omega | (simp only [List.length_map, List.length_take, Int.toNat_natCast, List.length_map, List.length_append, List.length_cons, List.length_nil, List.length_set, List.length_take, rowS_len]; omega))) rfl) ?_
          refine op_v' (j_fldel fld99f0 rfl) ?_
          refine op_v' (j_load_el leaf3 rfl (at_map (by first | omega | (simp only [List.length_map, List.length_take, Int.toNat_natCast, List.length_map, List.length_append, List.length_cons, List.length_nil, List.length_set, List.length_take, rowS_len]; omega))) rfl) ?_
          refine op_v' (j_assign (evo rfl)) ?_
          refine op_nil ?_
          refine a_region (by kernel_rfl) ?_
          refine op_v' (j_move (evo rfl)) ?_
          refine op_v' (j_add rfl rfl (by first | omega | (simp only [List.length_map, List.length_take, Int.toNat_natCast, List.length_map, List.length_append, List.length_cons, List.length_nil, List.length_set, List.length_take, rowS_len]; omega)) (by first | omega | (simp only [List.length_map, List.length_take, Int.toNat_natCast, List.length_map, List.length_append, List.length_cons, List.length_nil, List.length_set, List.length_take, rowS_len]; omega))) ?_
          refine op_v' (j_assign (evo rfl)) ?_
          refine op_nil ?_
          exact ⟨(k + 1, v23x5), (by first | exact (by first | omega | (simp only [List.length_map, List.length_take, Int.toNat_natCast, List.length_map, List.length_append, List.length_cons, List.length_nil, List.length_set, List.length_take, rowS_len]; omega)) | (dsimp only; exact (by first | omega | (simp only [List.length_map, List.length_take, Int.toNat_natCast, List.length_map, List.length_append, List.length_cons, List.length_nil, List.length_set, List.length_take, rowS_len]; omega)))), ⟨⟨rfl, rfl⟩, ⟨rfl, rfl, intEq (by rw [sel_y (by omega) (by assumption), totV_snoc]), intEq (by rw [sel_y (by omega) (by assumption), mnV_snoc]; omega), trivial⟩, ⟨rowEq (by rw [sel_y (by omega) (by assumption), List.map_append, List.map_append]; rfl), trivial⟩, ⟨rfl, rfl⟩, ⟨rfl, rfl⟩⟩, (by first | exact (by first | omega | (simp only [List.length_map, List.length_take, Int.toNat_natCast, List.length_map, List.length_append, List.length_cons, List.length_nil, List.length_set, List.length_take, rowS_len]; omega)) | (dsimp only; exact (by first | omega | (simp only [List.length_map, List.length_take, Int.toNat_natCast, List.length_map, List.length_append, List.length_cons, List.length_nil, List.length_set, List.length_take, rowS_len]; omega))))⟩
        ·
          have h4r := h4
          try simp only [Bool.not_eq_true', Bool.not_eq_false', Bool.not_not, bne_iff_ne, bne_eq_false_iff_eq, beq_eq_false_iff_ne, beq_iff_eq, ne_eq, decide_eq_true_eq, decide_eq_false_iff_not, Classical.not_not, List.length_map, List.length_take, Int.toNat_natCast, List.length_map, List.length_append, List.length_cons, List.length_nil, List.length_set, List.length_take, rowS_len] at h4
          refine a_skip ?_
          refine a_region (by kernel_rfl) ?_
          refine op_v' (j_move (evo rfl)) ?_
          refine op_v' (j_add rfl rfl (by first | omega | (simp only [List.length_map, List.length_take, Int.toNat_natCast, List.length_map, List.length_append, List.length_cons, List.length_nil, List.length_set, List.length_take, rowS_len]; omega)) (by first | omega | (simp only [List.length_map, List.length_take, Int.toNat_natCast, List.length_map, List.length_append, List.length_cons, List.length_nil, List.length_set, List.length_take, rowS_len]; omega))) ?_
          refine op_v' (j_assign (evo rfl)) ?_
          refine op_nil ?_
          exact ⟨(k + 1, v23x5), (by first | exact (by first | omega | (simp only [List.length_map, List.length_take, Int.toNat_natCast, List.length_map, List.length_append, List.length_cons, List.length_nil, List.length_set, List.length_take, rowS_len]; omega)) | (dsimp only; exact (by first | omega | (simp only [List.length_map, List.length_take, Int.toNat_natCast, List.length_map, List.length_append, List.length_cons, List.length_nil, List.length_set, List.length_take, rowS_len]; omega)))), ⟨⟨rfl, rfl⟩, ⟨rfl, rfl, intEq (by rw [sel_y (by omega) (by assumption), totV_snoc]), intEq (by rw [sel_y (by omega) (by assumption), mnV_snoc]; omega), trivial⟩, ⟨rowEq (by rw [sel_y (by omega) (by assumption), List.map_append, List.map_append]; rfl), trivial⟩, ⟨rfl, rfl⟩, ⟨rfl, rfl⟩⟩, (by first | exact (by first | omega | (simp only [List.length_map, List.length_take, Int.toNat_natCast, List.length_map, List.length_append, List.length_cons, List.length_nil, List.length_set, List.length_take, rowS_len]; omega)) | (dsimp only; exact (by first | omega | (simp only [List.length_map, List.length_take, Int.toNat_natCast, List.length_map, List.length_append, List.length_cons, List.length_nil, List.length_set, List.length_take, rowS_len]; omega))))⟩
      ·
        have h3r := h3
        try simp only [Bool.not_eq_true', Bool.not_eq_false', Bool.not_not, bne_iff_ne, bne_eq_false_iff_eq, beq_eq_false_iff_ne, beq_iff_eq, ne_eq, decide_eq_true_eq, decide_eq_false_iff_not, Classical.not_not, List.length_map, List.length_take, Int.toNat_natCast, List.length_map, List.length_append, List.length_cons, List.length_nil, List.length_set, List.length_take, rowS_len] at h3
        refine a_skip ?_
        refine a_region (by kernel_rfl) ?_
        refine op_v' (j_move (evo rfl)) ?_
        refine op_v' (j_add rfl rfl (by first | omega | (simp only [List.length_map, List.length_take, Int.toNat_natCast, List.length_map, List.length_append, List.length_cons, List.length_nil, List.length_set, List.length_take, rowS_len]; omega)) (by first | omega | (simp only [List.length_map, List.length_take, Int.toNat_natCast, List.length_map, List.length_append, List.length_cons, List.length_nil, List.length_set, List.length_take, rowS_len]; omega))) ?_
        refine op_v' (j_assign (evo rfl)) ?_
        refine op_nil ?_
        exact ⟨(k + 1, vk), (by first | exact (by first | omega | (simp only [List.length_map, List.length_take, Int.toNat_natCast, List.length_map, List.length_append, List.length_cons, List.length_nil, List.length_set, List.length_take, rowS_len]; omega)) | (dsimp only; exact (by first | omega | (simp only [List.length_map, List.length_take, Int.toNat_natCast, List.length_map, List.length_append, List.length_cons, List.length_nil, List.length_set, List.length_take, rowS_len]; omega)))), ⟨⟨rfl, rfl⟩, ⟨rfl, rfl, intEq (by rw [sel_n (by omega) (by assumption)]), intEq (by rw [sel_n (by omega) (by assumption)]), trivial⟩, ⟨rowEq (by rw [sel_n (by omega) (by assumption)]), trivial⟩, ⟨rfl, rfl⟩, ⟨rfl, rfl⟩⟩, (by first | exact (by first | omega | (simp only [List.length_map, List.length_take, Int.toNat_natCast, List.length_map, List.length_append, List.length_cons, List.length_nil, List.length_set, List.length_take, rowS_len]; omega)) | (dsimp only; exact (by first | omega | (simp only [List.length_map, List.length_take, Int.toNat_natCast, List.length_map, List.length_append, List.length_cons, List.length_nil, List.length_set, List.length_take, rowS_len]; omega))))⟩
    ·
      have h2r := h2
      try simp only [Bool.not_eq_true', Bool.not_eq_false', Bool.not_not, bne_iff_ne, bne_eq_false_iff_eq, beq_eq_false_iff_ne, beq_iff_eq, ne_eq, decide_eq_true_eq, decide_eq_false_iff_not, Classical.not_not, List.length_map, List.length_take, Int.toNat_natCast, List.length_map, List.length_append, List.length_cons, List.length_nil, List.length_set, List.length_take, rowS_len] at h2
      refine a_exit ?_
      refine a_seq ?_
      obtain rfl : k = c.1.length := by omega
      rw [List.take_length]
      have hst := sel_tot_rng hc (k := c.1.length) (s := s)
      have hmr := mnV_rng hc (k := c.1.length) (s := s) (b := 1000) (by decide)
      rw [List.take_length] at hst hmr
      have hlv : leftV c s = totV c.1 - totV (selF c.1 s) := rfl
      have hcn := clN_len (c := c) (s := s)
      have hsz := selF_nil (ts := c.1) (s := s) (by omega)
      have hz : ((selF c.1 s).length : Int) = 0 ↔ s = 0 := by rw [← hsz, ← List.length_eq_zero_iff]; omega
      have hmn : s ≠ 0 → mnV 20000 (selF c.1 s) = mnV 1000 (selF c.1 s) := fun q => mnV_eq (fun t ht => (cOk_coefs hc t (selF_mem ht)).2) (fun e => q (hsz.1 e))
      refine a_region (by kernel_rfl) ?_
      refine op_v' (j_move (evo rfl)) ?_
      refine op_v' (j_move (evo rfl)) ?_
      refine op_v' (j_sub rfl rfl (by first | omega | (simp only [List.length_map, List.length_take, Int.toNat_natCast, List.length_map, List.length_append, List.length_cons, List.length_nil, List.length_set, List.length_take, rowS_len]; omega)) (by first | omega | (simp only [List.length_map, List.length_take, Int.toNat_natCast, List.length_map, List.length_append, List.length_cons, List.length_nil, List.length_set, List.length_take, rowS_len]; omega))) ?_
      refine op_v' (j_fldp fld25f1 rfl rfl) ?_
      refine op_v' (j_load_box leaf3 rfl rfl rfl) ?_
      refine op_v' (j_lt rfl rfl) ?_
      refine op_v' (j_move (evo rfl)) ?_
      refine op_split' 73 rfl (fun h5 => ?_) (fun h5 => ?_)
      ·
        have h5r := h5
        try simp only [Bool.not_eq_true', Bool.not_eq_false', Bool.not_not, bne_iff_ne, bne_eq_false_iff_eq, beq_eq_false_iff_ne, beq_iff_eq, ne_eq, decide_eq_true_eq, decide_eq_false_iff_not, Classical.not_not, List.length_map, List.length_take, Int.toNat_natCast, List.length_map, List.length_append, List.length_cons, List.length_nil, List.length_set, List.length_take, rowS_len] at h5
        refine op_v' (j_want rfl rfl h5r (j_move (evo rfl))) ?_
        refine op_v' (j_want rfl rfl h5r (j_len_own_map Try.underlying36 rfl rfl)) ?_
        refine op_v' (j_want rfl rfl h5r (j_eq rfl rfl)) ?_
        refine op_v' (j_want rfl rfl h5r (j_move (evo rfl))) ?_
        refine op_split' 77 rfl (fun h6 => ?_) (fun h6 => ?_)
        ·
          have h6r := h6
          try simp only [Bool.not_eq_true', Bool.not_eq_false', Bool.not_not, bne_iff_ne, bne_eq_false_iff_eq, beq_eq_false_iff_ne, beq_iff_eq, ne_eq, decide_eq_true_eq, decide_eq_false_iff_not, Classical.not_not, List.length_map, List.length_take, Int.toNat_natCast, List.length_map, List.length_append, List.length_cons, List.length_nil, List.length_set, List.length_take, rowS_len] at h6
          refine op_v' (j_unwantV rfl rfl h6r) ?_
          refine op_v' (j_unwantV rfl rfl h6r) ?_
          refine op_v' (j_unwantV rfl rfl h6r) ?_
          refine op_v' (j_unwantV rfl rfl h6r) ?_
          refine op_v' (j_unwantV rfl rfl h6r) ?_
          refine op_v' (j_unwantV rfl rfl h6r) ?_
          refine op_v' (j_unwantV rfl rfl h6r) ?_
          refine op_v' (j_unwantV rfl rfl h6r) ?_
          refine op_v' (j_want rfl rfl h5r (j_pick_t rfl h6r (evo rfl))) ?_
          refine op_v' (j_pick_t rfl h5r (evo rfl)) ?_
          refine op_nil ?_
          refine a_tt rfl ?_
          refine a_seq ?_
          have hinc : incV c s = true := by unfold incV; rw [hlv, decide_eq_true (by omega), Bool.true_and, Bool.or_eq_true, decide_eq_true_eq, decide_eq_true_eq]; by_cases q0 : s = 0; (· exact .inl q0); (· right; rw [hmn q0]; omega)
          refine a_region (by kernel_rfl) ?_
          refine op_v' (j_move (evo rfl)) ?_
          refine op_freezeK 89 trivial rfl rfl rfl ?_
          refine op_v0' (j_call0 (v := .tup [.agg [.sl _, .p _], .p _]) (hp1 := []) [] false [] ent145 (f_clauseSpec ((selF c.1 s).map (·.2)) (by rw [sel_lits]; exact okFrom_one (okFrom_sel (cOk_ok hc)))) ⟨.inl ⟨rfl, rfl⟩, trivial⟩ trivial rfl rfl (fun h => by cases h) rfl (fun _ h => by cases h) (.inl rfl) rfl rfl) ?_
          refine op_v' (j_move (evo rfl)) ?_
          refine op_v' (j_extract rfl rfl) ?_
          refine op_v' (j_extract rfl rfl) ?_
          refine op_n' (fun ver => j_alloc elt25 rfl) fun v10x6 => ?_
          refine op_s' (j_storea_box0 agg25 rfl rfl rfl rfl rfl rfl) ?_
          refine op_v' (j_assign (evo rfl)) ?_
          refine op_nil ?_
          refine a_region (by kernel_rfl) ?_
          refine op_v' (j_move (evo rfl)) ?_
          refine op_v' (j_loada_box (ys := [.sl _, .p _]) agg25 rfl rfl rfl (Nat.le_of_ble_eq_true rfl)) ?_
          refine op_n' (fun ver => j_buildSlice (parts := [(0, .tmp 94)]) (es := [[_, _]]) slt27 elt25 rfl rfl (by decide) (by decide) rfl rfl (by simp) rfl) fun v95x7 => ?_
          refine op_n' (fun ver => j_append_own slt27 elt25 rfl rfl rfl rfl rfl rfl (by rw [maxLen_eq]; first | omega | (simp only [List.length_map, List.length_take, Int.toNat_natCast, List.length_map, List.length_append, List.length_cons, List.length_nil, List.length_set, List.length_take, rowS_len]; omega)) (by first | omega | (simp only [List.length_map, List.length_take, Int.toNat_natCast, List.length_map, List.length_append, List.length_cons, List.length_nil, List.length_set, List.length_take, rowS_len]; omega))) fun v12x8 => ?_
          refine op_v' (j_assign (evo rfl)) ?_
          refine op_nil ?_
          refine a_region (by kernel_rfl) ?_
          refine op_v' (j_move (evo rfl)) ?_
          refine op_v' (j_add rfl rfl (by first | omega | (simp only [List.length_map, List.length_take, Int.toNat_natCast, List.length_map, List.length_append, List.length_cons, List.length_nil, List.length_set, List.length_take, rowS_len]; omega)) (by first | omega | (simp only [List.length_map, List.length_take, Int.toNat_natCast, List.length_map, List.length_append, List.length_cons, List.length_nil, List.length_set, List.length_take, rowS_len]; omega))) ?_
          refine op_v' (j_assign (evo rfl)) ?_
          refine op_nil ?_
          exact ⟨(s + 1, v12x8), (by first | exact (by first | omega | (simp only [List.length_map, List.length_take, Int.toNat_natCast, List.length_map, List.length_append, List.length_cons, List.length_nil, List.length_set, List.length_take, rowS_len]; omega)) | (dsimp only; exact (by first | omega | (simp only [List.length_map, List.length_take, Int.toNat_natCast, List.length_map, List.length_append, List.length_cons, List.length_nil, List.length_set, List.length_take, rowS_len]; omega)))), ⟨⟨rfl, rfl⟩, ⟨rfl, rfl, trivial⟩, ⟨rowEq (by first | exact (by rw [sel_lits, clN_yes hinc, List.map_append]; rfl) | exact (by rw [clN_no (show incV c s = false from by unfold incV; rw [hlv, Bool.and_eq_false_iff, Bool.or_eq_false_iff, decide_eq_false_iff_not, decide_eq_false_iff_not, decide_eq_false_iff_not]; first | (left; omega) | (right; have q0 : s ≠ 0 := (fun e => by have := hz.2 e; omega); rw [hmn q0]; omega))])), trivial⟩, ⟨rfl, rfl⟩, ⟨rfl, rfl⟩⟩, (by first | exact (by first | omega | (simp only [List.length_map, List.length_take, Int.toNat_natCast, List.length_map, List.length_append, List.length_cons, List.length_nil, List.length_set, List.length_take, rowS_len]; omega)) | (dsimp only; exact (by first | omega | (simp only [List.length_map, List.length_take, Int.toNat_natCast, List.length_map, List.length_append, List.length_cons, List.length_nil, List.length_set, List.length_take, rowS_len]; omega))))⟩
        ·
          have h6r := h6
          try simp only [Bool.not_eq_true', Bool.not_eq_false', Bool.not_not, bne_iff_ne, bne_eq_false_iff_eq, beq_eq_false_iff_ne, beq_iff_eq, ne_eq, decide_eq_true_eq, decide_eq_false_iff_not, Classical.not_not, List.length_map, List.length_take, Int.toNat_natCast, List.length_map, List.length_append, List.length_cons, List.length_nil, List.length_set, List.length_take, rowS_len] at h6
          refine op_v' (j_want rfl rfl h6r (j_move (evo rfl))) ?_
          refine op_v' (j_want rfl rfl h6r (j_move (evo rfl))) ?_
          refine op_v' (j_want rfl rfl h6r (j_sub rfl rfl (by first | omega | (simp only [List.length_map, List.length_take, Int.toNat_natCast, List.length_map, List.length_append, List.length_cons, List.length_nil, List.length_set, List.length_take, rowS_len]; omega)) (by first | omega | (simp only [List.length_map, List.length_take, Int.toNat_natCast, List.length_map, List.length_append, List.length_cons, List.length_nil, List.length_set, List.length_take, rowS_len]; omega)))) ?_
          refine op_v' (j_want rfl rfl h6r (j_move (evo rfl))) ?_
          refine op_v' (j_want rfl rfl h6r (j_add rfl rfl (by first | omega | (simp only [List.length_map, List.length_take, Int.toNat_natCast, List.length_map, List.length_append, List.length_cons, List.length_nil, List.length_set, List.length_take, rowS_len]; omega)) (by first | omega | (simp only [List.length_map, List.length_take, Int.toNat_natCast, List.length_map, List.length_append, List.length_cons, List.length_nil, List.length_set, List.length_take, rowS_len]; omega)))) ?_
          refine op_v' (j_want rfl rfl h6r (j_fldp fld25f1 rfl rfl)) ?_
          refine op_v' (j_want rfl rfl h6r (j_load_box leaf3 rfl rfl rfl)) ?_
          refine op_v' (j_want rfl rfl h6r (j_ge rfl rfl)) ?_
          refine op_v' (j_want rfl rfl h5r (j_pick_f rfl h6r (evo rfl))) ?_
          refine op_v' (j_pick_t rfl h5r (evo rfl)) ?_
          refine op_nil ?_
          refine a_cond rfl (fun h7 => ?_) (fun h7 => ?_)
          ·
            have h7r := h7
            try simp only [Bool.not_eq_true', Bool.not_eq_false', Bool.not_not, bne_iff_ne, bne_eq_false_iff_eq, beq_eq_false_iff_ne, beq_iff_eq, ne_eq, decide_eq_true_eq, decide_eq_false_iff_not, Classical.not_not, List.length_map, List.length_take, Int.toNat_natCast, List.length_map, List.length_append, List.length_cons, List.length_nil, List.length_set, List.length_take, rowS_len] at h7
            refine a_seq ?_
            have hinc : incV c s = true := by unfold incV; rw [hlv, decide_eq_true (by omega), Bool.true_and, Bool.or_eq_true, decide_eq_true_eq, decide_eq_true_eq]; by_cases q0 : s = 0; (· exact .inl q0); (· right; rw [hmn q0]; omega)
            refine a_region (by kernel_rfl) ?_
            refine op_v' (j_move (evo rfl)) ?_
            refine op_freezeK 89 trivial rfl rfl rfl ?_
            refine op_v0' (j_call0 (v := .tup [.agg [.sl _, .p _], .p _]) (hp1 := []) [] false [] ent145 (f_clauseSpec ((selF c.1 s).map (·.2)) (by rw [sel_lits]; exact okFrom_one (okFrom_sel (cOk_ok hc)))) ⟨.inl ⟨rfl, rfl⟩, trivial⟩ trivial rfl rfl (fun h => by cases h) rfl (fun _ h => by cases h) (.inl rfl) rfl rfl) ?_
            refine op_v' (j_move (evo rfl)) ?_
            refine op_v' (j_extract rfl rfl) ?_
            refine op_v' (j_extract rfl rfl) ?_
            refine op_n' (fun ver => j_alloc elt25 rfl) fun v10x9 => ?_
            refine op_s' (j_storea_box0 agg25 rfl rfl rfl rfl rfl rfl) ?_
            refine op_v' (j_assign (evo rfl)) ?_
            refine op_nil ?_
            refine a_region (by kernel_rfl) ?_
            refine op_v' (j_move (evo rfl)) ?_
            refine op_v' (j_loada_box (ys := [.sl _, .p _]) agg25 rfl rfl rfl (Nat.le_of_ble_eq_true rfl)) ?_
            refine op_n' (fun ver => j_buildSlice (parts := [(0, .tmp 94)]) (es := [[_, _]]) slt27 elt25 rfl rfl (by decide) (by decide) rfl rfl (by simp) rfl) fun v95x10 => ?_
            refine op_n' (fun ver => j_append_own slt27 elt25 rfl rfl rfl rfl rfl rfl (by rw [maxLen_eq]; first | omega | (simp only [List.length_map, List.length_take, Int.toNat_natCast, List.length_map, List.length_append, List.length_cons, List.length_nil, List.length_set, List.length_take, rowS_len]; omega)) (by first | omega | (simp only [List.length_map, List.length_take, Int.toNat_natCast, List.length_map, List.length_append, List.length_cons, List.length_nil, List.length_set, List.length_take, rowS_len]; omega))) fun v12x11 => ?_
            refine op_v' (j_assign (evo rfl)) ?_
            refine op_nil ?_
            refine a_region (by kernel_rfl) ?_
            refine op_v' (j_move (evo rfl)) ?_
            refine op_v' (j_add rfl rfl (by first | omega | (simp only [List.length_map, List.length_take, Int.toNat_natCast, List.length_map, List.length_append, List.length_cons, List.length_nil, List.length_set, List.length_take, rowS_len]; omega)) (by first | omega | (simp only [List.length_map, List.length_take, Int.toNat_natCast, List.length_map, List.length_append, List.length_cons, List.length_nil, List.length_set, List.length_take, rowS_len]; omega))) ?_
            refine op_v' (j_assign (evo rfl)) ?_
            refine op_nil ?_
            exact ⟨(s + 1, v12x11), (by first | exact (by first | omega | (simp only [List.length_map, List.length_take, Int.toNat_natCast, List.length_map, List.length_append, List.length_cons, List.length_nil, List.length_set, List.length_take, rowS_len]; omega)) | (dsimp only; exact (by first | omega | (simp only [List.length_map, List.length_take, Int.toNat_natCast, List.length_map, List.length_append, List.length_cons, List.length_nil, List.length_set, List.length_take, rowS_len]; omega)))), ⟨⟨rfl, rfl⟩, ⟨rfl, rfl, trivial⟩, ⟨rowEq (by first | exact (by rw [sel_lits, clN_yes hinc, List.map_append]; rfl) | exact (by rw [clN_no (show incV c s = false from by unfold incV; rw [hlv, Bool.and_eq_false_iff, Bool.or_eq_false_iff, decide_eq_false_iff_not, decide_eq_false_iff_not, decide_eq_false_iff_not]; first | (left; omega) | (right; have q0 : s ≠ 0 := (fun e => by have := hz.2 e; omega); rw [hmn q0]; omega))])), trivial⟩, ⟨rfl, rfl⟩, ⟨rfl, rfl⟩⟩, (by first | exact (by first | omega | (simp only [List.length_map, List.length_take, Int.toNat_natCast, List.length_map, List.length_append, List.length_cons, List.length_nil, List.length_set, List.length_take, rowS_len]; omega)) | (dsimp only; exact (by first | omega | (simp only [List.length_map, List.length_take, Int.toNat_natCast, List.length_map, List.length_append, List.length_cons, List.length_nil, List.length_set, List.length_take, rowS_len]; omega))))⟩
          ·
            have h7r := h7
            try simp only [Bool.not_eq_true', Bool.not_eq_false', Bool.not_not, bne_iff_ne, bne_eq_false_iff_eq, beq_eq_false_iff_ne, beq_iff_eq, ne_eq, decide_eq_true_eq, decide_eq_false_iff_not, Classical.not_not, List.length_map, List.length_take, Int.toNat_natCast, List.length_map, List.length_append, List.length_cons, List.length_nil, List.length_set, List.length_take, rowS_len] at h7
            refine a_skip ?_
            refine a_region (by kernel_rfl) ?_
            refine op_v' (j_move (evo rfl)) ?_
            refine op_v' (j_add rfl rfl (by first | omega | (simp only [List.length_map, List.length_take, Int.toNat_natCast, List.length_map, List.length_append, List.length_cons, List.length_nil, List.length_set, List.length_take, rowS_len]; omega)) (by first | omega | (simp only [List.length_map, List.length_take, Int.toNat_natCast, List.length_map, List.length_append, List.length_cons, List.length_nil, List.length_set, List.length_take, rowS_len]; omega))) ?_
            refine op_v' (j_assign (evo rfl)) ?_
            refine op_nil ?_
            exact ⟨(s + 1, v), (by first | exact (by first | omega | (simp only [List.length_map, List.length_take, Int.toNat_natCast, List.length_map, List.length_append, List.length_cons, List.length_nil, List.length_set, List.length_take, rowS_len]; omega)) | (dsimp only; exact (by first | omega | (simp only [List.length_map, List.length_take, Int.toNat_natCast, List.length_map, List.length_append, List.length_cons, List.length_nil, List.length_set, List.length_take, rowS_len]; omega)))), ⟨⟨rfl, rfl⟩, ⟨rfl, rfl, trivial⟩, ⟨rowEq (by first | exact (by rw [sel_lits, clN_yes hinc, List.map_append]; rfl) | exact (by rw [clN_no (show incV c s = false from by unfold incV; rw [hlv, Bool.and_eq_false_iff, Bool.or_eq_false_iff, decide_eq_false_iff_not, decide_eq_false_iff_not, decide_eq_false_iff_not]; first | (left; omega) | (right; have q0 : s ≠ 0 := (fun e => by have := hz.2 e; omega); rw [hmn q0]; omega))])), trivial⟩, ⟨rfl, rfl⟩, ⟨rfl, rfl⟩⟩, (by first | exact (by first | omega | (simp only [List.length_map, List.length_take, Int.toNat_natCast, List.length_map, List.length_append, List.length_cons, List.length_nil, List.length_set, List.length_take, rowS_len]; omega)) | (dsimp only; exact (by first | omega | (simp only [List.length_map, List.length_take, Int.toNat_natCast, List.length_map, List.length_append, List.length_cons, List.length_nil, List.length_set, List.length_take, rowS_len]; omega))))⟩
      ·
        have h5r := h5
        try simp only [Bool.not_eq_true', Bool.not_eq_false', Bool.not_not, bne_iff_ne, bne_eq_false_iff_eq, beq_eq_false_iff_ne, beq_iff_eq, ne_eq, decide_eq_true_eq, decide_eq_false_iff_not, Classical.not_not, List.length_map, List.length_take, Int.toNat_natCast, List.length_map, List.length_append, List.length_cons, List.length_nil, List.length_set, List.length_take, rowS_len] at h5
        refine op_v' (j_unwantV rfl rfl h5r) ?_
        refine op_v' (j_unwantV rfl rfl h5r) ?_
        refine op_v' (j_unwantV rfl rfl h5r) ?_
        refine op_v' (j_unwantV rfl rfl h5r) ?_
        refine op_v' (j_unwantU rfl rfl) ?_
        refine op_v' (j_unwantU rfl rfl) ?_
        refine op_v' (j_unwantU rfl rfl) ?_
        refine op_v' (j_unwantU rfl rfl) ?_
        refine op_v' (j_unwantU rfl rfl) ?_
        refine op_v' (j_unwantU rfl rfl) ?_
        refine op_v' (j_unwantU rfl rfl) ?_
        refine op_v' (j_unwantU rfl rfl) ?_
        refine op_v' (j_unwantV rfl rfl h5r) ?_
        refine op_v' (j_pick_f rfl h5r (evo rfl)) ?_
        refine op_nil ?_
        refine a_ff rfl ?_
        refine a_skip ?_
        refine a_region (by kernel_rfl) ?_
        refine op_v' (j_move (evo rfl)) ?_
        refine op_v' (j_add rfl rfl (by first | omega | (simp only [List.length_map, List.length_take, Int.toNat_natCast, List.length_map, List.length_append, List.length_cons, List.length_nil, List.length_set, List.length_take, rowS_len]; omega)) (by first | omega | (simp only [List.length_map, List.length_take, Int.toNat_natCast, List.length_map, List.length_append, List.length_cons, List.length_nil, List.length_set, List.length_take, rowS_len]; omega))) ?_
        refine op_v' (j_assign (evo rfl)) ?_
        refine op_nil ?_
        exact ⟨(s + 1, v), (by first | exact (by first | omega | (simp only [List.length_map, List.length_take, Int.toNat_natCast, List.length_map, List.length_append, List.length_cons, List.length_nil, List.length_set, List.length_take, rowS_len]; omega)) | (dsimp only; exact (by first | omega | (simp only [List.length_map, List.length_take, Int.toNat_natCast, List.length_map, List.length_append, List.length_cons, List.length_nil, List.length_set, List.length_take, rowS_len]; omega)))), ⟨⟨rfl, rfl⟩, ⟨rfl, rfl, trivial⟩, ⟨rowEq (by first | exact (by rw [sel_lits, clN_yes hinc, List.map_append]; rfl) | exact (by rw [clN_no (show incV c s = false from by unfold incV; rw [hlv, Bool.and_eq_false_iff, Bool.or_eq_false_iff, decide_eq_false_iff_not, decide_eq_false_iff_not, decide_eq_false_iff_not]; first | (left; omega) | (right; have q0 : s ≠ 0 := (fun e => by have := hz.2 e; omega); rw [hmn q0]; omega))])), trivial⟩, ⟨rfl, rfl⟩, ⟨rfl, rfl⟩⟩, (by first | exact (by first | omega | (simp only [List.length_map, List.length_take, Int.toNat_natCast, List.length_map, List.length_append, List.length_cons, List.length_nil, List.length_set, List.length_take, rowS_len]; omega)) | (dsimp only; exact (by first | omega | (simp only [List.length_map, List.length_take, Int.toNat_natCast, List.length_map, List.length_append, List.length_cons, List.length_nil, List.length_set, List.length_take, rowS_len]; omega))))⟩
  ·
    have h1r := h1
    try simp only [Bool.not_eq_true', Bool.not_eq_false', Bool.not_not, bne_iff_ne, bne_eq_false_iff_eq, beq_eq_false_iff_ne, beq_iff_eq, ne_eq, decide_eq_true_eq, decide_eq_false_iff_not, Classical.not_not, List.length_map, List.length_take, Int.toNat_natCast, List.length_map, List.length_append, List.length_cons, List.length_nil, List.length_set, List.length_take, rowS_len] at h1
    refine a_exit ?_
    refine a_seq ?_
    refine a_region (by kernel_rfl) ?_
    refine op_v' (j_move (evo rfl)) ?_
    refine op_v' (j_assign (evo rfl)) ?_
    refine op_nil ?_
    refine a_freeze' 2 (noA _ _ _ _ _) rfl rfl ?_
    refine a_ret ?_
    exact ⟨[.sl _], .sl _, [], [], [], ⟨rfl, trivial⟩, rfl, rfl, trivial, rfl, rfl, ⟨slEq (by rw [show s = 2 ^ c.1.length by omega]; rfl), rfl, rfl⟩⟩


theorem f_clSpec (c : Con) : Fn Try.prog 17 [.agg [.sl (c.1.map dT), .p (.int .i64 c.2)]] [] (fun rr ii nn => rr = .tup [.sl ((clL c).map dC), .p (.bool (clB c))] ∧ ii = [] ∧ nn = []) := by
  refine fn_of Try.func17 rfl (Nat.le_of_ble_eq_true rfl) fun w X g => ?_
  show AWp _ _ _ ⟨[(0, .agg [.sl (c.1.map dT), .p (.int .i64 c.2)])], []⟩
  refine a_seq ?_
  refine a_region (by kernel_rfl) ?_
  refine op_n' (fun ver => j_boxa rfl) fun v1x1 => ?_
  refine op_v' (j_assign (evo rfl)) ?_
  refine op_v' (j_assign (evo rfl)) ?_
  refine op_nil ?_
  refine a_seq ?_
  refine a_seq ?_
  refine a_region (by kernel_rfl) ?_
  refine op_v' (j_loada_box (ys := [.sl _, .p _]) agg25 rfl rfl rfl (Nat.le_of_ble_eq_true rfl)) ?_
  refine op_v0' (j_call0 (v := .p _) (hp1 := []) [] false [] ent75 (f_cvSpec _) ⟨.inl ⟨rfl, rfl⟩, trivial⟩ trivial rfl rfl (fun h => by cases h) rfl (fun _ h => by cases h) (.inl rfl) rfl rfl) ?_
  refine op_v' (j_not rfl) ?_
  refine op_nil ?_
  refine a_cond rfl (fun h1 => ?_) (fun h1 => ?_)
  ·
    have h1r := h1
    try simp only [Bool.not_eq_true', Bool.not_eq_false', Bool.not_not, bne_iff_ne, bne_eq_false_iff_eq, beq_eq_false_iff_ne, beq_iff_eq, ne_eq, decide_eq_true_eq, decide_eq_false_iff_not, Classical.not_not, List.length_map, List.length_take, Int.toNat_natCast, List.length_map] at h1
    refine a_seq ?_
    refine a_region (by kernel_rfl) ?_
    refine op_n' (fun ver => j_buildSlice (parts := []) (es := []) slt27 elt25 rfl rfl (by decide) (by decide) rfl rfl (by simp) rfl) fun v8x2 => ?_
    refine op_v' (j_assign (evo rfl)) ?_
    refine op_v' (j_assign (evo rfl)) ?_
    refine op_nil ?_
    refine a_freeze' 2 (noA _ _ _ _ _) rfl rfl ?_
    refine a_ret ?_
    exact ⟨[.sl _, .p _], .tup [.sl _, .p _], [], [], [], ⟨rfl, rfl, trivial⟩, rfl, rfl, trivial, rfl, rfl, ⟨by rw [clL_bad (clB_no (.inl h1)), clB_no (.inl h1)]; rfl, rfl, rfl⟩⟩
  ·
    have h1r := h1
    try simp only [Bool.not_eq_true', Bool.not_eq_false', Bool.not_not, bne_iff_ne, bne_eq_false_iff_eq, beq_eq_false_iff_ne, beq_iff_eq, ne_eq, decide_eq_true_eq, decide_eq_false_iff_not, Classical.not_not, List.length_map, List.length_take, Int.toNat_natCast, List.length_map] at h1
    refine a_skip ?_
    refine a_seq ?_
    refine a_region (by kernel_rfl) ?_
    refine op_v' (j_loada_box (ys := [.sl _, .p _]) agg25 rfl rfl rfl (Nat.le_of_ble_eq_true rfl)) ?_
    refine op_v0' (j_call0 (v := .sl _) (hp1 := []) [] false [] ent76 (f_l13Max c h1) ⟨.inl ⟨rfl, rfl⟩, trivial⟩ trivial rfl rfl (fun h => by cases h) rfl (fun _ h => by cases h) (.inl rfl) rfl rfl) ?_
    refine op_v' (j_assign (evo rfl)) ?_
    refine op_nil ?_
    refine a_seq ?_
    refine a_seq ?_
    refine a_region (by kernel_rfl) ?_
    refine op_v' (j_move (evo rfl)) ?_
    refine op_v' (j_len_map Try.underlying27 rfl) ?_
    refine op_v' (j_gt rfl rfl) ?_
    refine op_nil ?_
    refine a_cond rfl (fun h2 => ?_) (fun h2 => ?_)
    ·
      have h2r := h2
      try simp only [Bool.not_eq_true', Bool.not_eq_false', Bool.not_not, bne_iff_ne, bne_eq_false_iff_eq, beq_eq_false_iff_ne, beq_iff_eq, ne_eq, decide_eq_true_eq, decide_eq_false_iff_not, Classical.not_not, List.length_map, List.length_take, Int.toNat_natCast, List.length_map] at h2
      refine a_seq ?_
      refine a_region (by kernel_rfl) ?_
      refine op_n' (fun ver => j_buildSlice (parts := []) (es := []) slt27 elt25 rfl rfl (by decide) (by decide) rfl rfl (by simp) rfl) fun v14x3 => ?_
      refine op_v' (j_assign (evo rfl)) ?_
      refine op_v' (j_assign (evo rfl)) ?_
      refine op_nil ?_
      refine a_freeze' 2 (noA _ _ _ _ _) rfl rfl ?_
      refine a_ret ?_
      exact ⟨[.sl _, .p _], .tup [.sl _, .p _], [], [], [], ⟨rfl, rfl, trivial⟩, rfl, rfl, trivial, rfl, rfl, ⟨by have hq : clB c = false := clB_no (.inr (by omega)); rw [clL_bad hq, hq]; rfl, rfl, rfl⟩⟩
    ·
      have h2r := h2
      try simp only [Bool.not_eq_true', Bool.not_eq_false', Bool.not_not, bne_iff_ne, bne_eq_false_iff_eq, beq_eq_false_iff_ne, beq_iff_eq, ne_eq, decide_eq_true_eq, decide_eq_false_iff_not, Classical.not_not, List.length_map, List.length_take, Int.toNat_natCast, List.length_map] at h2
      refine a_skip ?_
      refine a_seq ?_
      refine a_region (by kernel_rfl) ?_
      refine op_v' (j_move (evo rfl)) ?_
      refine op_v' (j_assign (evo rfl)) ?_
      refine op_v' (j_assign (evo rfl)) ?_
      refine op_nil ?_
      refine a_ret ?_
      exact ⟨[.sl _, .p _], .tup [.sl _, .p _], [], [], [], ⟨rfl, rfl, trivial⟩, rfl, rfl, trivial, rfl, rfl, ⟨by have hb : clB c = true := clB_of h1 (by omega); rw [clL_ok hb, hb], rfl, rfl⟩⟩


theorem f_dCl (b : List Int) (hb : ∀ a ∈ b, 0 ≤ a ∧ a ≤ 255) : Fn Try.prog 15 [.sl (b.map dU)] [] (fun rr ii nn => ∃ x : Con, (x.1.length ≤ 13) ∧ rr = .agg [.sl (x.1.map dT), .p (.int .i64 x.2)] ∧ ii = [] ∧ nn = []) := by
  refine fn_of Try.func15 rfl (Nat.le_of_ble_eq_true rfl) fun w X g => ?_
  show AWp _ _ _ ⟨[(0, .sl (b.map dU))], []⟩
  refine a_seq ?_
  refine a_region (by kernel_rfl) ?_
  refine op_n' (fun ver => j_alloc elt25 rfl) fun v2x1 => ?_
  refine op_nil ?_
  refine a_seq ?_
  refine a_region (by kernel_rfl) ?_
  refine op_v' (j_move (evo rfl)) ?_
  refine op_n1' (fun ver => j_call1 (v := .ptr 5 ver 0) (hp1 := [(5, some (ver, .box 144 [.sl _, .p _]))]) [] false [] ent69 (f_open _) ⟨.inl ⟨rfl, rfl⟩, trivial⟩ trivial rfl rfl rfl (fun h => by cases h) rfl (List.all_eq_true.1 rfl) (.inl rfl) rfl rfl) fun v5x2 => ?_
  refine op_v' (j_assign (evo rfl)) ?_
  refine op_nil ?_
  refine a_seq ?_
  have hbt := okB_take (Nat.le_refl _) hb
  have hm : (0 : Int) ≤ (ofV (b.take 2000) 0 ([4, 5, 6, 8, 12] : List Int)) ∧ (ofV (b.take 2000) 0 ([4, 5, 6, 8, 12] : List Int)) ≤ 12 := ofV_in (l := [4, 5, 6, 8, 12]) (lo := 0) (hi := 12) (by decide) (by decide)
  obtain ⟨hc8, hl8, hq8⟩ := l1C_ok (b.take 2000) 1 (ofV (b.take 2000) 0 ([4, 5, 6, 8, 12] : List Int)) hm
  have hm9 := mutC_ok (b.take 2000) (l1C (b.take 2000) 1 (ofV (b.take 2000) 0 ([4, 5, 6, 8, 12] : List Int))).2 (l1C (b.take 2000) 1 (ofV (b.take 2000) 0 ([4, 5, 6, 8, 12] : List Int))).1
  refine a_region (by kernel_rfl) ?_
  refine op_v' (j_move (evo rfl)) ?_
  refine op_v' (j_move (evo rfl)) ?_
  refine op_v' (j_move (evo rfl)) ?_
  refine op_n' (fun ver => j_buildSlice (parts := [(0, .const (.int .i64 4)), (1, .const (.int .i64 5)), (2, .const (.int .i64 6)), (3, .const (.int .i64 8)), (4, .const (.int .i64 12))]) (es := [[_], [_], [_], [_], [_]]) slt36 elt3 rfl rfl (by decide) (by decide) rfl rfl (by simp) rfl) fun v9x3 => ?_
  refine op_v0' (j_call0 (v := .p _) (hp1 := [(5, some (v5x2, .box 144 [.sl _, .p _])), (9, some (v9x3, .row 3 1 _))]) [(5, v5x2), (9, v9x3)] false [5, 9] ent72 (f_num (b.take 2000) 0 [4, 5, 6, 8, 12] hbt (by omega) (by decide) (by decide)) ⟨.inl ⟨rfl, rfl⟩, .inl ⟨rfl, rfl⟩, trivial⟩ ⟨⟨rfl, rfl⟩, ⟨rfl, rfl⟩, trivial⟩ rfl rfl (fun h => by cases h) rfl (List.all_eq_true.1 rfl) (.inl rfl) rfl rfl) ?_
  refine op_n1' (fun ver => j_call1 (v := .agg [.own 11 ver, .p _]) (hp1 := [(5, some (v5x2, .box 144 [.sl _, .p _])), (11, some (ver, .row 99 2 _))]) [(5, v5x2)] false [5] ent71 (f_l1Draw (b.take 2000) 1 (ofV (b.take 2000) 0 ([4, 5, 6, 8, 12] : List Int)) hbt (by omega) hm) ⟨.inl ⟨rfl, rfl⟩, .inl ⟨rfl, rfl⟩, trivial⟩ ⟨⟨rfl, rfl⟩, trivial⟩ rfl rfl rfl (fun h => by cases h) rfl (List.all_eq_true.1 rfl) (.inl rfl) rfl rfl) fun v11x4 => ?_
  refine op_freezeaK 11 0 trivial rfl rfl rfl rfl ?_
  try dsimp only [List.set]
  refine op_v0' (j_call0 (v := .agg [.sl _, .p _]) (hp1 := [(5, some (v5x2, .box 144 [.sl _, .p _]))]) [(5, v5x2)] false [5] ent70 (f_l1Mutate (b.take 2000) (l1C (b.take 2000) 1 (ofV (b.take 2000) 0 ([4, 5, 6, 8, 12] : List Int))).2 (l1C (b.take 2000) 1 (ofV (b.take 2000) 0 ([4, 5, 6, 8, 12] : List Int))).1 hbt (by omega) (by omega)) ⟨.inl ⟨rfl, rfl⟩, .inl ⟨rfl, rfl⟩, trivial⟩ ⟨⟨rfl, rfl⟩, trivial⟩ rfl rfl (fun h => by cases h) rfl (List.all_eq_true.1 rfl) (.inl rfl) rfl rfl) ?_
  refine op_s' (j_storea_box0 agg25 rfl rfl rfl rfl rfl rfl) ?_
  refine op_nil ?_
  refine a_ret ?_
  exact ⟨[.agg [.sl _, .p _]], .agg [.sl _, .p _], [], [], [], ⟨⟨_, _, _, _, rfl, rfl, agg25, rfl⟩, trivial⟩, rfl, rfl, trivial, rfl, rfl, ⟨(mutC (b.take 2000) (l1C (b.take 2000) 1 (ofV (b.take 2000) 0 ([4, 5, 6, 8, 12] : List Int))).2 (l1C (b.take 2000) 1 (ofV (b.take 2000) 0 ([4, 5, 6, 8, 12] : List Int))).1).1, by omega, rfl, rfl, rfl⟩⟩


end Go.Ab

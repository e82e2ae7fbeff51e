/- Walks. -/
import Derived.Test.YtfpikioibojoeaaBase
import Derived.Test.YtfpikioibojoeaaTabs
import Derived.Test.YtfpikioibojoeaaWsenum
import Derived.Test.YtfpikioibojoeaaWsexcl
namespace Go.Ab
open Go.Proofs
set_option maxRecDepth 100000
set_option maxHeartbeats 8000000
set_option linter.unusedSimpArgs false
set_option linter.unusedVariables false
theorem f_totImpl (c : Con) (hc : cOk c = true) : Fn Try.prog 81 [.agg [.sl (c.1.map dT), .p (.int .i64 c.2)]] [] (fun rr ii nn => rr = .p (.int .i64 (totV c.1)) ∧ ii = [] ∧ nn = []) := by
  refine fn_of Try.func81 rfl (Nat.le_of_ble_eq_true rfl) fun w X g => ?_
  show AWp _ _ _ ⟨[(0, .agg [.sl (c.1.map dT), .p (.int .i64 c.2)])], []⟩
  refine a_len_map2 0 rfl fun hlen => ?_
  have hln := cOk_len hc
  refine a_seq ?_
  refine a_region (by kernel_rfl) ?_
  refine op_n' (fun ver => j_boxa rfl) fun v1x1 => ?_
  refine op_v' (j_assign (evo rfl)) ?_
  refine op_nil ?_
  refine a_seq ?_
  refine a_region (by kernel_rfl) ?_
  refine op_v' (j_assign (evo rfl)) ?_
  refine op_nil ?_
  refine a_seq ?_
  refine a_seq ?_
  refine a_region (by kernel_rfl) ?_
  refine op_v' (j_fldp fld25f0 rfl rfl) ?_
  refine op_v' (j_load_box leaf23 rfl rfl rfl) ?_
  refine op_v' (j_len_map Try.underlying23 rfl) ?_
  refine op_v' (j_move (evo rfl)) ?_
  refine op_nil ?_
  refine a_block ?_
  refine a_loopF' (ι := Nat) (fun k => k ≤ c.1.length) (fun k r => (9, .p (.int .i64 ((k : Nat)))) :: (3, .p (.int .i64 (totV (c.1.take k)))) :: r) (fun k r => r) (fun k => c.1.length - k) (fun _ _ => rfl) (fun _ _ => rfl) 0 (by omega) ⟨⟨rfl, rfl⟩, ⟨rfl, rfl, trivial⟩, trivial, ⟨rfl, rfl⟩, ⟨rfl, rfl⟩⟩ ?_
  intro k hpre0
  refine a_seq ?_
  refine a_region (by kernel_rfl) ?_
  refine op_v' (j_lt rfl rfl) ?_
  refine op_nil ?_
  refine a_seq ?_
  refine a_cond rfl (fun h1 => ?_) (fun h1 => ?_)
  ·
    have h1r := h1
    try simp only [Bool.not_eq_true', Bool.not_eq_false', Bool.not_not, bne_iff_ne, bne_eq_false_iff_eq, beq_eq_false_iff_ne, beq_iff_eq, ne_eq, decide_eq_true_eq, decide_eq_false_iff_not, Classical.not_not, List.length_map, List.length_take, Int.toNat_natCast] at h1
    have hsm := tot_take hc (k := k) (by omega); have htm := cOk_terms hc (k := k) (by omega)
    refine a_skip ?_
    refine a_seq ?_
    refine a_block ?_
    refine a_seq ?_
    refine a_region (by kernel_rfl) ?_
    refine op_v' (j_elemN slt23 rfl rfl rfl (at_map (by omega)) rfl) ?_
    refine op_v' (j_loada_el (ys := [.p _, .p _]) agg88 rfl (at_map (by omega)) rfl (Nat.le_refl _)) ?_
    refine op_n' (fun ver => j_alloc elt88 rfl) fun v5x2 => ?_
    refine op_s' (j_storea_box0 agg88 rfl rfl rfl rfl rfl rfl) ?_
    refine op_nil ?_
    refine a_region (by kernel_rfl) ?_
    refine op_v' (j_move (evo rfl)) ?_
    refine op_v' (j_fldp fld88f0 rfl rfl) ?_
    refine op_v' (j_load_box leaf3 rfl rfl rfl) ?_
    refine op_v' (j_add rfl rfl (by omega) (by omega)) ?_
    refine op_v' (j_assign (evo rfl)) ?_
    refine op_nil ?_
    refine a_region (by kernel_rfl) ?_
    refine op_v' (j_add rfl rfl (by omega) (by omega)) ?_
    refine op_v' (j_move (evo rfl)) ?_
    refine op_nil ?_
    exact ⟨k + 1, (by omega), ⟨⟨rfl, rfl⟩, ⟨rfl, intEq (by rw [totV_next (by omega)]), trivial⟩, trivial, ⟨rfl, rfl⟩, ⟨rfl, rfl⟩⟩, (by omega)⟩
  ·
    have h1r := h1
    try simp only [Bool.not_eq_true', Bool.not_eq_false', Bool.not_not, bne_iff_ne, bne_eq_false_iff_eq, beq_eq_false_iff_ne, beq_iff_eq, ne_eq, decide_eq_true_eq, decide_eq_false_iff_not, Classical.not_not, List.length_map, List.length_take, Int.toNat_natCast] at h1
    refine a_exit ?_
    refine a_seq ?_
    refine a_region (by kernel_rfl) ?_
    refine op_v' (j_move (evo rfl)) ?_
    refine op_v' (j_assign (evo rfl)) ?_
    refine op_nil ?_
    refine a_ret ?_
    exact ⟨[.p _], .p _, [], [], [], ⟨rfl, trivial⟩, rfl, rfl, trivial, rfl, rfl, ⟨intEq (by rw [List.take_of_length_le (by omega)]), rfl, rfl⟩⟩


theorem f_sums (c : Con) (hc : cOk c = true) : Fn Try.prog 67 [.agg [.sl (c.1.map dT), .p (.int .i64 c.2)]] [] (fun rr ii nn => rr = .own 0 0 ∧ ii = [] ∧ nn = [.row 3 1 ((cntRow c.1 4096).map dI)]) := by
  refine fn_of Try.func67 rfl (Nat.le_of_ble_eq_true rfl) fun w X g => ?_
  show AWp _ _ _ ⟨[(0, .agg [.sl (c.1.map dT), .p (.int .i64 c.2)])], []⟩
  have hln := cOk_len hc
  have htt := totV_bounds (cOk_coefs hc)
  have hnn : ((totN c.1 : Nat) : Int) = totV c.1 := Int.toNat_of_nonneg htt.1
  refine a_seq ?_
  refine a_region (by kernel_rfl) ?_
  refine op_n' (fun ver => j_boxa rfl) fun v1x1 => ?_
  refine op_v' (j_assign (evo rfl)) ?_
  refine op_nil ?_
  refine a_seq ?_
  refine a_region (by kernel_rfl) ?_
  refine op_v' (j_loada_box (ys := [.sl _, .p _]) agg25 rfl rfl rfl (Nat.le_of_ble_eq_true rfl)) ?_
  refine op_v0' (j_call0 (v := .p _) (hp1 := []) [] false [] ent81 (f_totImpl _ hc) ⟨.inl ⟨rfl, rfl⟩, trivial⟩ trivial rfl rfl (fun h => by cases h) rfl (fun _ h => by cases h) (.inl rfl) rfl rfl) ?_
  refine op_v' (j_add rfl rfl (by first | omega | (simp only [List.length_map, List.length_take, Int.toNat_natCast, cntRow, rowI_length, List.length_map]; omega)) (by first | omega | (simp only [List.length_map, List.length_take, Int.toNat_natCast, cntRow, rowI_length, List.length_map]; omega))) ?_
  refine op_n' (fun ver => j_make (n := totN c.1 + 1) slt27 elt3 rfl rfl (by decide) rfl rfl (by omega) (by omega) (by first | omega | (simp only [List.length_map, List.length_take, Int.toNat_natCast, cntRow, rowI_length, List.length_map]; omega)) (by rw [maxLen_eq]; first | omega | (simp only [List.length_map, List.length_take, Int.toNat_natCast, cntRow, rowI_length, List.length_map]; omega))) fun v8x2 => ?_
  refine op_v' (j_assign (evo rfl)) ?_
  refine op_nil ?_
  refine a_seq ?_
  refine a_seq ?_
  refine a_region (by kernel_rfl) ?_
  refine op_v' (j_move (evo rfl)) ?_
  refine op_nil ?_
  refine a_block ?_
  refine a_loopF' (ι := Nat) (fun k => k ≤ 4096) (fun k r => (9, .p (.int .i64 ((k : Nat)))) :: r) (fun k r => (8, some (v8x2, .row 3 1 ((cntRow c.1 k).map dI))) :: r) (fun k => 4096 - k) (fun _ _ => rfl) (fun _ _ => rfl) 0 (by first | omega | (simp only [List.length_map, List.length_take, Int.toNat_natCast, cntRow, rowI_length, List.length_map]; omega)) ⟨⟨rfl, rfl⟩, ⟨rfl, trivial⟩, ⟨rowEq (rowI_zero (fun _ _ => rfl)), trivial⟩, ⟨rfl, rfl⟩, ⟨rfl, rfl⟩⟩ ?_
  intro k hpre0
  refine a_seq ?_
  refine a_region (by kernel_rfl) ?_
  refine op_v' (j_lt rfl rfl) ?_
  refine op_nil ?_
  refine a_seq ?_
  refine a_cond rfl (fun h1 => ?_) (fun h1 => ?_)
  ·
    have h1r := h1
    try simp only [Bool.not_eq_true', Bool.not_eq_false', Bool.not_not, bne_iff_ne, bne_eq_false_iff_eq, beq_eq_false_iff_ne, beq_iff_eq, ne_eq, decide_eq_true_eq, decide_eq_false_iff_not, Classical.not_not, List.length_map, List.length_take, Int.toNat_natCast, cntRow, rowI_length, List.length_map] at h1
    have hsm := sumV_bounds (bs := assn k) (cOk_coefs hc); have hst := sum_le_tot (bs := assn k) (cOk_coefs hc); have hcl := cnt_le (ts := c.1) (k := k) (s := sumV c.1 (assn k))
    have hge : (cntRow c.1 k).getD (sumV c.1 (assn k)).toNat default = ((cnt c.1 k (sumV c.1 (assn k)) : Nat) : Int) := by unfold cntRow; rw [rowI_at (by omega), Int.toNat_of_nonneg hsm.1]
    refine a_skip ?_
    refine a_seq ?_
    refine a_block ?_
    refine a_seq ?_
    refine a_region (by kernel_rfl) ?_
    refine op_v' (j_move (evo rfl)) ?_
    refine op_v' (j_assign (evo rfl)) ?_
    refine op_nil ?_
    refine a_draw mixed (by kernel_rfl) (by kernel_rfl) fun vf => ?_
    refine d_v' (j_move (evo rfl)) ?_
    refine d_v' (j_loada_box (ys := [.sl _, .p _]) agg25 rfl rfl rfl (Nat.le_of_ble_eq_true rfl)) ?_
    refine d_v' (j_move (evo rfl)) ?_
    refine d_n1' (fun ver => j_call1 (v := .own 15 ver) (hp1 := [(15, some (ver, .row 4 1 _))]) [] false [] ent75 (f_numbered _ (by first | omega | (simp only [List.length_map, List.length_take, Int.toNat_natCast, cntRow, rowI_length, List.length_map]; omega))) ⟨.inl ⟨rfl, rfl⟩, trivial⟩ trivial rfl rfl rfl (fun h => by cases h) rfl (List.all_eq_true.1 rfl) (.inl rfl) rfl rfl) ?_
    refine d_v0' (j_call0 (v := .p _) (hp1 := []) [] true [15] ent77 (f_sumC c (assn k) hc assn_length) ⟨.inl ⟨rfl, rfl⟩, .inr ⟨rfl, view_own rfl rfl, rfl⟩, trivial⟩ trivial rfl rfl (fun _ => rfl) rfl (fun _ h => by cases h) (.inr ⟨rfl, by first | exact pl_new1 (fun _ => rfl) | (simp [plO, plV, plV.plL]; done)⟩) rfl rfl) ?_
    refine d_v' (j_elem_ownN (n := (sumV c.1 (assn k)).toNat) slt27 rfl rfl rfl (by first | omega | (simp only [List.length_map, List.length_take, Int.toNat_natCast, cntRow, rowI_length, List.length_map]; omega)) (by first | omega | (simp only [List.length_map, List.length_take, Int.toNat_natCast, cntRow, rowI_length, List.length_map]; omega))) ?_
    refine d_v' (j_load_pel leaf3 rfl rfl (at_map (by first | omega | (simp only [List.length_map, List.length_take, Int.toNat_natCast, cntRow, rowI_length, List.length_map]; omega))) rfl) ?_
    refine d_v' (j_add rfl rfl (by rw [hge]; omega) (by rw [hge]; omega)) ?_
    refine d_v' (j_elem_ownN (n := (sumV c.1 (assn k)).toNat) slt27 rfl rfl rfl (by first | omega | (simp only [List.length_map, List.length_take, Int.toNat_natCast, cntRow, rowI_length, List.length_map]; omega)) (by first | omega | (simp only [List.length_map, List.length_take, Int.toNat_natCast, cntRow, rowI_length, List.length_map]; omega))) ?_
    refine d_s' (j_store_row leaf3 rfl rfl (by first | omega | (simp only [List.length_map, List.length_take, Int.toNat_natCast, cntRow, rowI_length, List.length_map]; omega)) (evo rfl) rfl rfl) ?_
    refine d_nil (by kernel_rfl) (by kernel_rfl) ?_
    refine a_region (by kernel_rfl) ?_
    refine op_v' (j_add rfl rfl (by first | omega | (simp only [List.length_map, List.length_take, Int.toNat_natCast, cntRow, rowI_length, List.length_map]; omega)) (by first | omega | (simp only [List.length_map, List.length_take, Int.toNat_natCast, cntRow, rowI_length, List.length_map]; omega))) ?_
    refine op_v' (j_move (evo rfl)) ?_
    refine op_nil ?_
    exact ⟨k + 1, (by first | omega | (simp only [List.length_map, List.length_take, Int.toNat_natCast, cntRow, rowI_length, List.length_map]; omega)), ⟨⟨rfl, rfl⟩, ⟨rfl, trivial⟩, ⟨rowEq (cntRow_next hsm.1 (by rw [hge])), trivial⟩, ⟨rfl, rfl⟩, ⟨rfl, rfl⟩⟩, (by first | omega | (simp only [List.length_map, List.length_take, Int.toNat_natCast, cntRow, rowI_length, List.length_map]; omega))⟩
  ·
    have h1r := h1
    try simp only [Bool.not_eq_true', Bool.not_eq_false', Bool.not_not, bne_iff_ne, bne_eq_false_iff_eq, beq_eq_false_iff_ne, beq_iff_eq, ne_eq, decide_eq_true_eq, decide_eq_false_iff_not, Classical.not_not, List.length_map, List.length_take, Int.toNat_natCast, cntRow, rowI_length, List.length_map] at h1
    refine a_exit ?_
    refine a_seq ?_
    refine a_region (by kernel_rfl) ?_
    refine op_v' (j_move (evo rfl)) ?_
    refine op_v' (j_assign (evo rfl)) ?_
    refine op_nil ?_
    refine a_ret ?_
    exact ⟨[.own 8 v8x2], .own 0 0, [], [.row 3 1 _], [(8, v8x2)], ⟨rfl, trivial⟩, rfl, rfl, ⟨⟨rfl, rfl⟩, trivial⟩, rfl, rfl, ⟨rfl, rfl, by rw [show k = 4096 by omega]⟩⟩


theorem f_table (c : Con) (hc : cOk c = true) : Fn Try.prog 72 [.agg [.sl (c.1.map dT), .p (.int .i64 c.2)]] [] (fun rr ii nn => rr = .own 0 0 ∧ ii = [] ∧ nn = [.row 3 1 ((rowI (totN c.1 + 1) (fun s => tabF c.1 s * 2 ^ (12 - c.1.length))).map dI)]) := by
  refine fn_of Try.func72 rfl (Nat.le_of_ble_eq_true rfl) fun w X g => ?_
  show AWp _ _ _ ⟨[(0, .agg [.sl (c.1.map dT), .p (.int .i64 c.2)])], []⟩
  have hln := cOk_len hc
  refine a_seq ?_
  refine a_region (by kernel_rfl) ?_
  refine op_n' (fun ver => j_boxa rfl) fun v1x1 => ?_
  refine op_v' (j_assign (evo rfl)) ?_
  refine op_nil ?_
  refine a_seq ?_
  refine a_region (by kernel_rfl) ?_
  refine op_n' (fun ver => j_buildSlice (parts := [(0, .const (.int .i64 1))]) (es := [[_]]) slt27 elt3 rfl rfl (by decide) (by decide) rfl rfl (by simp) rfl) fun v10x2 => ?_
  refine op_v' (j_assign (evo rfl)) ?_
  refine op_nil ?_
  refine a_rename 3 1003 (by decide) rfl rfl fun v1003x3 => ?_
  refine a_seq ?_
  refine a_seq ?_
  refine a_region (by kernel_rfl) ?_
  refine op_v' (j_assign (evo rfl)) ?_
  refine op_nil ?_
  refine a_block ?_
  refine a_loopF' (ι := Nat × Nat) (fun x => x.1 ≤ c.1.length) (fun x r => (4, .p (.int .i64 ((x.1 : Nat)))) :: (3, .own 1003 x.2) :: r) (fun x r => (1003, some (x.2, .row 3 1 ((rowT c.1 x.1).map dI))) :: r) (fun x => c.1.length - x.1) (fun _ _ => rfl) (fun _ _ => rfl) (0, v1003x3) (by first | exact (Nat.zero_le _) | (dsimp only; exact (Nat.zero_le _))) ⟨⟨rfl, rfl⟩, ⟨rfl, rfl, trivial⟩, ⟨rfl, trivial⟩, ⟨rfl, rfl⟩, ⟨rfl, rfl⟩⟩ ?_
  rintro ⟨k, v⟩ hpre; dsimp only at hpre ⊢
  refine a_seq ?_
  refine a_seq ?_
  refine a_region (by kernel_rfl) ?_
  refine op_v' (j_move (evo rfl)) ?_
  refine op_v' (j_fldp fld25f0 rfl rfl) ?_
  refine op_v' (j_load_box leaf23 rfl rfl rfl) ?_
  refine op_v' (j_len_map Try.underlying23 rfl) ?_
  refine op_v' (j_lt rfl rfl) ?_
  refine op_nil ?_
  refine a_cond rfl (fun h1 => ?_) (fun h1 => ?_)
  ·
    have h1r := h1
    try simp only [Bool.not_eq_true', Bool.not_eq_false', Bool.not_not, bne_iff_ne, bne_eq_false_iff_eq, beq_eq_false_iff_ne, beq_iff_eq, ne_eq, decide_eq_true_eq, decide_eq_false_iff_not, Classical.not_not, List.length_map, List.length_take, Int.toNat_natCast, rowT, rowI_length, List.length_map, wo_length] at h1
    have htm := cOk_terms hc (k := k) (by omega)
    have htt := tot_take hc (k := k) (by omega)
    have hF : ∀ s, (tabS c.1 k) s ≤ 4096 := fun s => Nat.le_trans (tabF_le (by omega) _) (Nat.le_trans (Nat.pow_le_pow_right (by decide) (show k ≤ 12 by omega)) (by decide))
    have hRl : (rowT c.1 k).length = totN (c.1.take k) + 1 := rowI_length
    have hTN : ((totN (c.1.take k) : Nat) : Int) = totV (c.1.take k) := Int.toNat_of_nonneg htt.1
    refine a_skip ?_
    refine a_seq ?_
    refine a_block ?_
    refine a_seq ?_
    refine a_region (by kernel_rfl) ?_
    refine op_v' (j_fldp fld25f0 rfl rfl) ?_
    refine op_v' (j_load_box leaf23 rfl rfl rfl) ?_
    refine op_v' (j_move (evo rfl)) ?_
    refine op_v' (j_elemN slt23 rfl rfl rfl (at_map (by first | omega | (simp only [List.length_map, List.length_take, Int.toNat_natCast, rowT, rowI_length, List.length_map, wo_length]; omega))) rfl) ?_
    refine op_v' (j_fldel fld88f0 rfl) ?_
    refine op_v' (j_load_el leaf3 rfl (at_map (by first | omega | (simp only [List.length_map, List.length_take, Int.toNat_natCast, rowT, rowI_length, List.length_map, wo_length]; omega))) rfl) ?_
    refine op_v' (j_assign (evo rfl)) ?_
    refine op_nil ?_
    refine a_seq ?_
    refine a_region (by kernel_rfl) ?_
    refine op_v' (j_move (evo rfl)) ?_
    refine op_v' (j_len_own_map Try.underlying27 rfl rfl) ?_
    refine op_v' (j_move (evo rfl)) ?_
    refine op_v' (j_add rfl rfl (by rw [hRl]; omega) (by rw [hRl]; omega)) ?_
    refine op_n' (fun ver => j_make (n := (totN (c.1.take k) + 1) + (c.1.getD k default).1.toNat) slt27 elt3 rfl rfl (by decide) rfl rfl (by rw [hRl]; omega) (by rw [hRl]; omega) (by first | omega | (simp only [List.length_map, List.length_take, Int.toNat_natCast, rowT, rowI_length, List.length_map, wo_length]; omega)) (by rw [maxLen_eq]; first | omega | (simp only [List.length_map, List.length_take, Int.toNat_natCast, rowT, rowI_length, List.length_map, wo_length]; omega))) fun v28x4 => ?_
    refine op_v' (j_assign (evo rfl)) ?_
    refine op_nil ?_
    refine a_seq ?_
    refine a_seq ?_
    refine a_region (by kernel_rfl) ?_
    refine op_v' (j_assign (evo rfl)) ?_
    refine op_nil ?_
    refine a_block ?_
    refine a_loopF' (ι := Nat) (fun j => j ≤ totN (c.1.take k) + 1) (fun j r => (7, .p (.int .i64 ((j : Nat)))) :: r) (fun j r => (28, some (v28x4, .row 3 1 (((rowI ((totN (c.1.take k) + 1) + (c.1.getD k default).1.toNat) (nx (tabS c.1 k) (c.1.getD k default).1.toNat j j))).map dI))) :: r) (fun j => totN (c.1.take k) + 1 - j) (fun _ _ => rfl) (fun _ _ => rfl) 0 (by first | omega | (simp only [List.length_map, List.length_take, Int.toNat_natCast, rowT, rowI_length, List.length_map, wo_length]; omega)) ⟨⟨rfl, rfl⟩, ⟨rfl, trivial⟩, ⟨rowEq (rowI_zero (fun _ _ => nx_zero)), trivial⟩, ⟨rfl, rfl⟩, ⟨rfl, rfl⟩⟩ ?_
    intro j hpre1
    refine a_seq ?_
    refine a_seq ?_
    refine a_region (by kernel_rfl) ?_
    refine op_v' (j_move (evo rfl)) ?_
    refine op_v' (j_move (evo rfl)) ?_
    refine op_v' (j_len_own_map Try.underlying27 rfl rfl) ?_
    refine op_v' (j_lt rfl rfl) ?_
    refine op_nil ?_
    refine a_cond rfl (fun h2 => ?_) (fun h2 => ?_)
    ·
      have h2r := h2
      try simp only [Bool.not_eq_true', Bool.not_eq_false', Bool.not_not, bne_iff_ne, bne_eq_false_iff_eq, beq_eq_false_iff_ne, beq_iff_eq, ne_eq, decide_eq_true_eq, decide_eq_false_iff_not, Classical.not_not, List.length_map, List.length_take, Int.toNat_natCast, rowT, rowI_length, List.length_map, wo_length] at h2
      have q1 : (rowI ((totN (c.1.take k) + 1) + (c.1.getD k default).1.toNat) (nx (tabS c.1 k) (c.1.getD k default).1.toNat j j)).getD j default = ((nx (tabS c.1 k) (c.1.getD k default).1.toNat j j j : Nat) : Int) := rowI_at (by omega)
      have q2 : (rowT c.1 k).getD j default = (((tabS c.1 k) j : Nat) : Int) := rowI_at (by omega)
      have q3 : (rowI ((totN (c.1.take k) + 1) + (c.1.getD k default).1.toNat) (nx (tabS c.1 k) (c.1.getD k default).1.toNat (j + 1) j)).getD (j + (c.1.getD k default).1.toNat) default = ((nx (tabS c.1 k) (c.1.getD k default).1.toNat (j + 1) j (j + (c.1.getD k default).1.toNat) : Nat) : Int) := rowI_at (by omega)
      have b1 : nx (tabS c.1 k) (c.1.getD k default).1.toNat j j j ≤ 8192 := nx_le hF
      have b2 := hF j
      have b3 : nx (tabS c.1 k) (c.1.getD k default).1.toNat (j + 1) j (j + (c.1.getD k default).1.toNat) ≤ 8192 := nx_le hF
      refine a_skip ?_
      refine a_seq ?_
      refine a_block ?_
      refine a_seq ?_
      refine a_draw mixed (by kernel_rfl) (by kernel_rfl) fun vf => ?_
      refine d_v' (j_move (evo rfl)) ?_
      refine d_v' (j_move (evo rfl)) ?_
      refine d_v' (j_move (evo rfl)) ?_
      refine d_v' (j_move (evo rfl)) ?_
      refine d_v' (j_elem_ownN slt27 rfl rfl rfl rfl (by first | omega | (simp only [List.length_map, List.length_take, Int.toNat_natCast, rowT, rowI_length, List.length_map, wo_length]; omega))) ?_
      refine d_v' (j_load_pel leaf3 rfl rfl (at_map (by first | omega | (simp only [List.length_map, List.length_take, Int.toNat_natCast, rowT, rowI_length, List.length_map, wo_length]; omega))) rfl) ?_
      refine d_v' (j_move (evo rfl)) ?_
      refine d_v' (j_move (evo rfl)) ?_
      refine d_v' (j_elem_ownN slt27 rfl rfl rfl rfl (by first | omega | (simp only [List.length_map, List.length_take, Int.toNat_natCast, rowT, rowI_length, List.length_map, wo_length]; omega))) ?_
      refine d_v' (j_load_pel leaf3 rfl rfl (at_map (by first | omega | (simp only [List.length_map, List.length_take, Int.toNat_natCast, rowT, rowI_length, List.length_map, wo_length]; omega))) rfl) ?_
      refine d_v' (j_add rfl rfl (by rw [q1, q2]; omega) (by rw [q1, q2]; omega)) ?_
      refine d_v' (j_elem_ownN slt27 rfl rfl rfl rfl (by first | omega | (simp only [List.length_map, List.length_take, Int.toNat_natCast, rowT, rowI_length, List.length_map, wo_length]; omega))) ?_
      refine d_s' (j_store_row leaf3 rfl rfl (by first | omega | (simp only [List.length_map, List.length_take, Int.toNat_natCast, rowT, rowI_length, List.length_map, wo_length]; omega)) (evo rfl) rfl rfl) ?_
      refine d_nil (by kernel_rfl) (by kernel_rfl) ?_
      refine a_row 28 (es' := ((rowI ((totN (c.1.take k) + 1) + (c.1.getD k default).1.toNat) (nx (tabS c.1 k) (c.1.getD k default).1.toNat (j + 1) j))).map dI) rfl (rowI_set (by rw [q1, q2, nx_val1]; omega) (fun s _ => nx_set1)) ?_
      refine a_draw mixed (by kernel_rfl) (by kernel_rfl) fun vf => ?_
      refine d_v' (j_move (evo rfl)) ?_
      refine d_v' (j_move (evo rfl)) ?_
      refine d_v' (j_move (evo rfl)) ?_
      refine d_v' (j_add rfl rfl (by first | omega | (simp only [List.length_map, List.length_take, Int.toNat_natCast, rowT, rowI_length, List.length_map, wo_length]; omega)) (by first | omega | (simp only [List.length_map, List.length_take, Int.toNat_natCast, rowT, rowI_length, List.length_map, wo_length]; omega))) ?_
      refine d_v' (j_move (evo rfl)) ?_
      refine d_v' (j_move (evo rfl)) ?_
      refine d_v' (j_move (evo rfl)) ?_
      refine d_v' (j_add rfl rfl (by first | omega | (simp only [List.length_map, List.length_take, Int.toNat_natCast, rowT, rowI_length, List.length_map, wo_length]; omega)) (by first | omega | (simp only [List.length_map, List.length_take, Int.toNat_natCast, rowT, rowI_length, List.length_map, wo_length]; omega))) ?_
      refine d_v' (j_elem_ownN (n := j + (c.1.getD k default).1.toNat) slt27 rfl rfl rfl (by first | omega | (simp only [List.length_map, List.length_take, Int.toNat_natCast, rowT, rowI_length, List.length_map, wo_length]; omega)) (by first | omega | (simp only [List.length_map, List.length_take, Int.toNat_natCast, rowT, rowI_length, List.length_map, wo_length]; omega))) ?_
      refine d_v' (j_load_pel leaf3 rfl rfl (at_map (by first | omega | (simp only [List.length_map, List.length_take, Int.toNat_natCast, rowT, rowI_length, List.length_map, wo_length]; omega))) rfl) ?_
      refine d_v' (j_move (evo rfl)) ?_
      refine d_v' (j_move (evo rfl)) ?_
      refine d_v' (j_elem_ownN slt27 rfl rfl rfl rfl (by first | omega | (simp only [List.length_map, List.length_take, Int.toNat_natCast, rowT, rowI_length, List.length_map, wo_length]; omega))) ?_
      refine d_v' (j_load_pel leaf3 rfl rfl (at_map (by first | omega | (simp only [List.length_map, List.length_take, Int.toNat_natCast, rowT, rowI_length, List.length_map, wo_length]; omega))) rfl) ?_
      refine d_v' (j_add rfl rfl (by rw [q2]; rw [q3]; omega) (by rw [q2]; rw [q3]; omega)) ?_
      refine d_v' (j_elem_ownN (n := j + (c.1.getD k default).1.toNat) slt27 rfl rfl rfl (by first | omega | (simp only [List.length_map, List.length_take, Int.toNat_natCast, rowT, rowI_length, List.length_map, wo_length]; omega)) (by first | omega | (simp only [List.length_map, List.length_take, Int.toNat_natCast, rowT, rowI_length, List.length_map, wo_length]; omega))) ?_
      refine d_s' (j_store_row leaf3 rfl rfl (by first | omega | (simp only [List.length_map, List.length_take, Int.toNat_natCast, rowT, rowI_length, List.length_map, wo_length]; omega)) (evo rfl) rfl rfl) ?_
      refine d_nil (by kernel_rfl) (by kernel_rfl) ?_
      refine a_row 28 (es' := ((rowI ((totN (c.1.take k) + 1) + (c.1.getD k default).1.toNat) (nx (tabS c.1 k) (c.1.getD k default).1.toNat (j + 1) (j + 1)))).map dI) rfl (rowI_set (by rw [q2, q3, nx_val2]; omega) (fun s _ => nx_set2)) ?_
      refine a_region (by kernel_rfl) ?_
      refine op_v' (j_move (evo rfl)) ?_
      refine op_v' (j_add rfl rfl (by first | omega | (simp only [List.length_map, List.length_take, Int.toNat_natCast, rowT, rowI_length, List.length_map, wo_length]; omega)) (by first | omega | (simp only [List.length_map, List.length_take, Int.toNat_natCast, rowT, rowI_length, List.length_map, wo_length]; omega))) ?_
      refine op_v' (j_assign (evo rfl)) ?_
      refine op_nil ?_
      exact ⟨j + 1, (by first | omega | (simp only [List.length_map, List.length_take, Int.toNat_natCast, rowT, rowI_length, List.length_map, wo_length]; omega)), ⟨⟨rfl, rfl⟩, ⟨rfl, trivial⟩, ⟨rfl, trivial⟩, ⟨rfl, rfl⟩, ⟨rfl, rfl⟩⟩, (by first | omega | (simp only [List.length_map, List.length_take, Int.toNat_natCast, rowT, rowI_length, List.length_map, wo_length]; omega))⟩
    ·
      have h2r := h2
      try simp only [Bool.not_eq_true', Bool.not_eq_false', Bool.not_not, bne_iff_ne, bne_eq_false_iff_eq, beq_eq_false_iff_ne, beq_iff_eq, ne_eq, decide_eq_true_eq, decide_eq_false_iff_not, Classical.not_not, List.length_map, List.length_take, Int.toNat_natCast, rowT, rowI_length, List.length_map, wo_length] at h2
      refine a_exit ?_
      refine a_region (by kernel_rfl) ?_
      refine op_v' (j_move (evo rfl)) ?_
      refine op_v' (j_assign (evo rfl)) ?_
      refine op_nil ?_
      refine a_row 28 (es' := (rowT c.1 (k + 1)).map dI) rfl (by rw [show j = totN (c.1.take k) + 1 by omega, nx_done hc (by omega)]) ?_
      refine a_rename 3 1003 (by decide) rfl rfl fun v1003x5 => ?_
      refine a_region (by kernel_rfl) ?_
      refine op_v' (j_move (evo rfl)) ?_
      refine op_v' (j_add rfl rfl (by first | omega | (simp only [List.length_map, List.length_take, Int.toNat_natCast, rowT, rowI_length, List.length_map, wo_length]; omega)) (by first | omega | (simp only [List.length_map, List.length_take, Int.toNat_natCast, rowT, rowI_length, List.length_map, wo_length]; omega))) ?_
      refine op_v' (j_assign (evo rfl)) ?_
      refine op_nil ?_
      exact ⟨(k + 1, v1003x5), (by first | exact (by first | omega | (simp only [List.length_map, List.length_take, Int.toNat_natCast, rowT, rowI_length, List.length_map, wo_length]; omega)) | (dsimp only; exact (by first | omega | (simp only [List.length_map, List.length_take, Int.toNat_natCast, rowT, rowI_length, List.length_map, wo_length]; omega)))), ⟨⟨rfl, rfl⟩, ⟨rfl, rfl, trivial⟩, ⟨rfl, trivial⟩, ⟨rfl, rfl⟩, ⟨rfl, rfl⟩⟩, (by first | exact (by first | omega | (simp only [List.length_map, List.length_take, Int.toNat_natCast, rowT, rowI_length, List.length_map, wo_length]; omega)) | (dsimp only; exact (by first | omega | (simp only [List.length_map, List.length_take, Int.toNat_natCast, rowT, rowI_length, List.length_map, wo_length]; omega))))⟩
  ·
    have h1r := h1
    try simp only [Bool.not_eq_true', Bool.not_eq_false', Bool.not_not, bne_iff_ne, bne_eq_false_iff_eq, beq_eq_false_iff_ne, beq_iff_eq, ne_eq, decide_eq_true_eq, decide_eq_false_iff_not, Classical.not_not, List.length_map, List.length_take, Int.toNat_natCast, rowT, rowI_length, List.length_map, wo_length] at h1
    obtain rfl : k = c.1.length := by omega
    have hTB : totN c.1 ≤ 12000 := by have := totV_bounds (cOk_coefs hc); unfold totN; omega
    have hN0 : totN (c.1.take c.1.length) = totN c.1 := by rw [List.take_length]
    have hR0 : (rowT c.1 c.1.length).length = totN c.1 + 1 := by rw [← hN0]; exact rowI_length
    refine a_exit ?_
    refine a_seq ?_
    refine a_region (by kernel_rfl) ?_
    refine op_v' (j_fldp fld25f0 rfl rfl) ?_
    refine op_v' (j_load_box leaf23 rfl rfl rfl) ?_
    refine op_v' (j_len_map Try.underlying23 rfl) ?_
    refine op_v' (j_sub rfl rfl (by first | omega | (simp only [List.length_map, List.length_take, Int.toNat_natCast, rowT, rowI_length, List.length_map, wo_length]; omega)) (by first | omega | (simp only [List.length_map, List.length_take, Int.toNat_natCast, rowT, rowI_length, List.length_map, wo_length]; omega))) ?_
    refine op_v' (j_bits rfl rfl (fun w => run_shl1 (b := 12 - c.1.length) (by omega) (by omega) w)) ?_
    refine op_v' (j_assign (evo rfl)) ?_
    refine op_nil ?_
    refine a_seq ?_
    refine a_seq ?_
    refine a_region (by kernel_rfl) ?_
    refine op_v' (j_assign (evo rfl)) ?_
    refine op_nil ?_
    refine a_block ?_
    refine a_loopF' (ι := Nat) (fun i => i ≤ totN c.1 + 1) (fun i r => (9, .p (.int .i64 ((i : Nat)))) :: r) (fun i r => (1003, some (v, .row 3 1 (wo dI (rowI (totN c.1 + 1) (fun s => tabF c.1 s * 2 ^ (12 - c.1.length))) (rowT c.1 c.1.length) i))) :: r) (fun i => totN c.1 + 1 - i) (fun _ _ => rfl) (fun _ _ => rfl) 0 (by first | omega | (simp only [List.length_map, List.length_take, Int.toNat_natCast, rowT, rowI_length, List.length_map, wo_length]; omega)) ⟨⟨rfl, rfl⟩, ⟨rfl, trivial⟩, ⟨rowEq wo_zero.symm, trivial⟩, ⟨rfl, rfl⟩, ⟨rfl, rfl⟩⟩ ?_
    intro i hpre2
    refine a_seq ?_
    refine a_seq ?_
    refine a_region (by kernel_rfl) ?_
    refine op_v' (j_move (evo rfl)) ?_
    refine op_v' (j_move (evo rfl)) ?_
    refine op_v' (j_len_own Try.underlying27 rfl rfl) ?_
    refine op_v' (j_lt rfl rfl) ?_
    refine op_nil ?_
    refine a_cond rfl (fun h3 => ?_) (fun h3 => ?_)
    ·
      have h3r := h3
      try simp only [Bool.not_eq_true', Bool.not_eq_false', Bool.not_not, bne_iff_ne, bne_eq_false_iff_eq, beq_eq_false_iff_ne, beq_iff_eq, ne_eq, decide_eq_true_eq, decide_eq_false_iff_not, Classical.not_not, List.length_map, List.length_take, Int.toNat_natCast, rowT, rowI_length, List.length_map, wo_length] at h3
      obtain ⟨p1, p2, p3⟩ := tab_last hln (i := i) (by simp only [wo_length, rowI_length] at *; omega)
      refine a_skip ?_
      refine a_seq ?_
      refine a_block ?_
      refine a_region (by kernel_rfl) ?_
      refine op_v' (j_move (evo rfl)) ?_
      refine op_v' (j_move (evo rfl)) ?_
      refine op_v' (j_move (evo rfl)) ?_
      refine op_v' (j_move (evo rfl)) ?_
      refine op_v' (j_elem_ownN slt27 rfl rfl rfl rfl (by simp only [wo_length, rowI_length]; omega)) ?_
      refine op_v' (j_load_pel leaf3 rfl rfl (wo_at (by simp only [rowI_length]; omega) (by omega)) rfl) ?_
      refine op_v' (j_move (evo rfl)) ?_
      refine op_v' (j_mul rfl rfl p2 p3) ?_
      refine op_v' (j_elem_ownN slt27 rfl rfl rfl rfl (by simp only [wo_length, rowI_length]; omega)) ?_
      refine op_s' (j_store_row leaf3 rfl rfl (by simp only [wo_length, rowI_length]; omega) (evo rfl) rfl rfl) ?_
      refine op_nil ?_
      refine a_region (by kernel_rfl) ?_
      refine op_v' (j_move (evo rfl)) ?_
      refine op_v' (j_add rfl rfl (by first | omega | (simp only [List.length_map, List.length_take, Int.toNat_natCast, rowT, rowI_length, List.length_map, wo_length]; omega)) (by first | omega | (simp only [List.length_map, List.length_take, Int.toNat_natCast, rowT, rowI_length, List.length_map, wo_length]; omega))) ?_
      refine op_v' (j_assign (evo rfl)) ?_
      refine op_nil ?_
      exact ⟨i + 1, (by first | omega | (simp only [wo_length, rowI_length] at *; omega)), ⟨⟨rfl, rfl⟩, ⟨rfl, trivial⟩, ⟨rowEq (wo_set (d := default) (by simp only [rowI_length]; omega) (by omega) p1), trivial⟩, ⟨rfl, rfl⟩, ⟨rfl, rfl⟩⟩, (by first | omega | (simp only [wo_length, rowI_length] at *; omega))⟩
    ·
      have h3r := h3
      try simp only [Bool.not_eq_true', Bool.not_eq_false', Bool.not_not, bne_iff_ne, bne_eq_false_iff_eq, beq_eq_false_iff_ne, beq_iff_eq, ne_eq, decide_eq_true_eq, decide_eq_false_iff_not, Classical.not_not, List.length_map, List.length_take, Int.toNat_natCast, rowT, rowI_length, List.length_map, wo_length] at h3
      refine a_exit ?_
      refine a_seq ?_
      refine a_region (by kernel_rfl) ?_
      refine op_v' (j_move (evo rfl)) ?_
      refine op_v' (j_assign (evo rfl)) ?_
      refine op_nil ?_
      refine a_ret ?_
      exact ⟨[.own 1003 v], .own 0 0, [], [.row 3 1 _], [(1003, v)], ⟨rfl, trivial⟩, rfl, rfl, ⟨⟨rfl, rfl⟩, trivial⟩, rfl, rfl, ⟨rfl, rfl, congrArg (fun x => [Obj.row _ _ x]) (wo_all (by first | (simp only [wo_length, rowI_length] at *; omega)) (by first | omega | (simp only [wo_length, rowI_length] at *; omega)))⟩⟩


theorem f_stSpec (c : Con) : Fn Try.prog 19 [.agg [.sl (c.1.map dT), .p (.int .i64 c.2)]] [] (fun rr ii nn => rr = .own 0 0 ∧ ii = [] ∧ nn = [.row 3 1 ((sumTab c).map dI)]) := by
  refine fn_of Try.func19 rfl (Nat.le_of_ble_eq_true rfl) fun w X g => ?_
  show AWp _ _ _ ⟨[(0, .agg [.sl (c.1.map dT), .p (.int .i64 c.2)])], []⟩
  refine a_seq ?_
  refine a_region (by kernel_rfl) ?_
  refine op_n' (fun ver => j_boxa rfl) fun v1x1 => ?_
  refine op_v' (j_assign (evo rfl)) ?_
  refine op_nil ?_
  refine a_seq ?_
  refine a_seq ?_
  refine a_region (by kernel_rfl) ?_
  refine op_v' (j_loada_box (ys := [.sl _, .p _]) agg25 rfl rfl rfl (Nat.le_of_ble_eq_true rfl)) ?_
  refine op_v0' (j_call0 (v := .p _) (hp1 := []) [] false [] ent71 (f_cvSpec _) ⟨.inl ⟨rfl, rfl⟩, trivial⟩ trivial rfl rfl (fun h => by cases h) rfl (fun _ h => by cases h) (.inl rfl) rfl rfl) ?_
  refine op_v' (j_not rfl) ?_
  refine op_nil ?_
  refine a_cond rfl (fun h1 => ?_) (fun h1 => ?_)
  ·
    have h1r := h1
    try simp only [Bool.not_eq_true', Bool.not_eq_false', Bool.not_not, bne_iff_ne, bne_eq_false_iff_eq, beq_eq_false_iff_ne, beq_iff_eq, ne_eq, decide_eq_true_eq, decide_eq_false_iff_not, Classical.not_not, List.length_map, List.length_take, Int.toNat_natCast] at h1
    refine a_seq ?_
    refine a_region (by kernel_rfl) ?_
    refine op_n' (fun ver => j_buildSlice (parts := []) (es := []) slt27 elt3 rfl rfl (by decide) (by decide) rfl rfl (by simp) rfl) fun v6x2 => ?_
    refine op_v' (j_assign (evo rfl)) ?_
    refine op_nil ?_
    refine a_ret ?_
    exact ⟨[.own 6 v6x2], .own 0 0, [], [.row 3 1 _], [(6, v6x2)], ⟨rfl, trivial⟩, rfl, rfl, ⟨⟨rfl, rfl⟩, trivial⟩, rfl, rfl, ⟨rfl, rfl, by rw [sumTab_bad h1]; rfl⟩⟩
  ·
    have h1r := h1
    try simp only [Bool.not_eq_true', Bool.not_eq_false', Bool.not_not, bne_iff_ne, bne_eq_false_iff_eq, beq_eq_false_iff_ne, beq_iff_eq, ne_eq, decide_eq_true_eq, decide_eq_false_iff_not, Classical.not_not, List.length_map, List.length_take, Int.toNat_natCast] at h1
    refine a_skip ?_
    refine a_seq ?_
    refine a_region (by kernel_rfl) ?_
    refine op_v' (j_loada_box (ys := [.sl _, .p _]) agg25 rfl rfl rfl (Nat.le_of_ble_eq_true rfl)) ?_
    refine op_n1' (fun ver => j_call1 (v := .own 8 ver) (hp1 := [(8, some (ver, .row 3 1 _))]) [] false [] ent72 (f_table _ h1) ⟨.inl ⟨rfl, rfl⟩, trivial⟩ trivial rfl rfl rfl (fun h => by cases h) rfl (List.all_eq_true.1 rfl) (.inl rfl) rfl rfl) fun v8x3 => ?_
    refine op_v' (j_assign (evo rfl)) ?_
    refine op_nil ?_
    refine a_ret ?_
    exact ⟨[.own 8 v8x3], .own 0 0, [], [.row 3 1 _], [(8, v8x3)], ⟨rfl, trivial⟩, rfl, rfl, ⟨⟨rfl, rfl⟩, trivial⟩, rfl, rfl, ⟨rfl, rfl, by rw [sumTab_ok h1, table_eq h1]⟩⟩


theorem f_stImpl (c : Con) : Fn Try.prog 16 [.agg [.sl (c.1.map dT), .p (.int .i64 c.2)]] [] (fun rr ii nn => rr = .own 0 0 ∧ ii = [] ∧ nn = [.row 3 1 ((sumTab c).map dI)]) := by
  refine fn_of Try.func16 rfl (Nat.le_of_ble_eq_true rfl) fun w X g => ?_
  show AWp _ _ _ ⟨[(0, .agg [.sl (c.1.map dT), .p (.int .i64 c.2)])], []⟩
  refine a_seq ?_
  refine a_region (by kernel_rfl) ?_
  refine op_n' (fun ver => j_boxa rfl) fun v1x1 => ?_
  refine op_v' (j_assign (evo rfl)) ?_
  refine op_nil ?_
  refine a_seq ?_
  refine a_seq ?_
  refine a_region (by kernel_rfl) ?_
  refine op_v' (j_loada_box (ys := [.sl _, .p _]) agg25 rfl rfl rfl (Nat.le_of_ble_eq_true rfl)) ?_
  refine op_v0' (j_call0 (v := .p _) (hp1 := []) [] false [] ent66 (f_cvImpl _) ⟨.inl ⟨rfl, rfl⟩, trivial⟩ trivial rfl rfl (fun h => by cases h) rfl (fun _ h => by cases h) (.inl rfl) rfl rfl) ?_
  refine op_v' (j_not rfl) ?_
  refine op_nil ?_
  refine a_cond rfl (fun h1 => ?_) (fun h1 => ?_)
  ·
    have h1r := h1
    try simp only [Bool.not_eq_true', Bool.not_eq_false', Bool.not_not, bne_iff_ne, bne_eq_false_iff_eq, beq_eq_false_iff_ne, beq_iff_eq, ne_eq, decide_eq_true_eq, decide_eq_false_iff_not, Classical.not_not, List.length_map, List.length_take, Int.toNat_natCast] at h1
    refine a_seq ?_
    refine a_region (by kernel_rfl) ?_
    refine op_v' (j_assign (evo rfl)) ?_
    refine op_nil ?_
    refine a_adopt' 2 2 3 1 rfl fun v2 => ?_
    refine a_ret ?_
    exact ⟨[.own 2 v2], .own 0 0, [], [.row 3 1 _], [(2, v2)], ⟨rfl, trivial⟩, rfl, rfl, ⟨⟨rfl, rfl⟩, trivial⟩, rfl, rfl, ⟨rfl, rfl, by rw [sumTab_bad h1]; rfl⟩⟩
  ·
    have h1r := h1
    try simp only [Bool.not_eq_true', Bool.not_eq_false', Bool.not_not, bne_iff_ne, bne_eq_false_iff_eq, beq_eq_false_iff_ne, beq_iff_eq, ne_eq, decide_eq_true_eq, decide_eq_false_iff_not, Classical.not_not, List.length_map, List.length_take, Int.toNat_natCast] at h1
    refine a_skip ?_
    refine a_seq ?_
    refine a_region (by kernel_rfl) ?_
    refine op_v' (j_loada_box (ys := [.sl _, .p _]) agg25 rfl rfl rfl (Nat.le_of_ble_eq_true rfl)) ?_
    refine op_n1' (fun ver => j_call1 (v := .own 7 ver) (hp1 := [(7, some (ver, .row 3 1 _))]) [] false [] ent67 (f_sums _ h1) ⟨.inl ⟨rfl, rfl⟩, trivial⟩ trivial rfl rfl rfl (fun h => by cases h) rfl (List.all_eq_true.1 rfl) (.inl rfl) rfl rfl) fun v7x2 => ?_
    refine op_v' (j_assign (evo rfl)) ?_
    refine op_nil ?_
    refine a_ret ?_
    exact ⟨[.own 7 v7x2], .own 0 0, [], [.row 3 1 _], [(7, v7x2)], ⟨rfl, trivial⟩, rfl, rfl, ⟨⟨rfl, rfl⟩, trivial⟩, rfl, rfl, ⟨rfl, rfl, by rw [sumTab_ok h1]⟩⟩


end Go.Ab

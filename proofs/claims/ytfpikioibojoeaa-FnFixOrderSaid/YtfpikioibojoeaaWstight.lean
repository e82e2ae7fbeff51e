/- Walks. -/
import Derived.Test.YtfpikioibojoeaaBase
import Derived.Test.YtfpikioibojoeaaTabs2
import Derived.Test.YtfpikioibojoeaaWstab
namespace Go.Ab
open Go.Proofs
set_option maxRecDepth 100000
set_option maxHeartbeats 8000000
set_option linter.unusedSimpArgs false
set_option linter.unusedVariables false
theorem f_clone (ts : List Term) (hts : ts.length ≤ 1048576) : Fn Try.prog 119 [.sl (ts.map dT)] [] (fun rr ii nn => rr = .own 0 0 ∧ ii = [] ∧ nn = [.row 88 2 (ts.map dT)]) := by
  refine fn_of Try.func119 rfl (Nat.le_of_ble_eq_true rfl) fun w X g => ?_
  show AWp _ _ _ ⟨[(0, .sl (ts.map dT))], []⟩
  refine a_seq ?_
  refine a_region (by kernel_rfl) ?_
  refine op_v' (j_assign (evo rfl)) ?_
  refine op_nil ?_
  refine a_seq ?_
  refine a_seq ?_
  refine a_region (by kernel_rfl) ?_
  refine op_v' (j_move (evo rfl)) ?_
  refine op_eqnil Try.underlying23 rfl fun b1 hb1 => ?_
  refine op_nil ?_
  refine a_cond rfl (fun h2 => ?_) (fun h2 => ?_)
  ·
    have h2r := h2
    try simp only [Bool.not_eq_true', Bool.not_eq_false', Bool.not_not, bne_iff_ne, bne_eq_false_iff_eq, beq_eq_false_iff_ne, beq_iff_eq, ne_eq, decide_eq_true_eq, decide_eq_false_iff_not, Classical.not_not, List.length_map, List.length_take, Int.toNat_natCast, List.length_map, List.length_nil] at h2
    refine a_seq ?_
    refine a_region (by kernel_rfl) ?_
    refine op_v' (j_assign (evo rfl)) ?_
    refine op_nil ?_
    refine a_adopt' 2 2 88 2 rfl fun v2 => ?_
    refine a_ret ?_
    exact ⟨[.own 2 v2], .own 0 0, [], [.row 88 2 _], [(2, v2)], ⟨rfl, trivial⟩, rfl, rfl, ⟨⟨rfl, rfl⟩, trivial⟩, rfl, rfl, ⟨rfl, rfl, by rw [hb1 h2]⟩⟩
  ·
    have h2r := h2
    try simp only [Bool.not_eq_true', Bool.not_eq_false', Bool.not_not, bne_iff_ne, bne_eq_false_iff_eq, beq_eq_false_iff_ne, beq_iff_eq, ne_eq, decide_eq_true_eq, decide_eq_false_iff_not, Classical.not_not, List.length_map, List.length_take, Int.toNat_natCast, List.length_map, List.length_nil] at h2
    refine a_skip ?_
    refine a_seq ?_
    refine a_region (by kernel_rfl) ?_
    refine op_n' (fun ver => j_buildSlice (parts := []) (es := []) slt23 elt88 rfl rfl (by decide) (by decide) rfl rfl (by simp) rfl) fun v5x1 => ?_
    refine op_v' (j_move (evo rfl)) ?_
    refine op_n' (fun ver => j_append_sl slt23 elt88 rfl rfl rfl rfl (by intro x hx; obtain ⟨t, _, rfl⟩ := List.mem_map.1 hx; rfl) (all_lf_dT ts) (by rw [maxLen_eq]; first | omega | (simp only [List.length_map, List.length_take, Int.toNat_natCast, List.length_map, List.length_nil]; omega)) (by first | omega | (simp only [List.length_map, List.length_take, Int.toNat_natCast, List.length_map, List.length_nil]; omega))) fun v5x2 => ?_
    refine op_v' (j_assign (evo rfl)) ?_
    refine op_nil ?_
    refine a_ret ?_
    exact ⟨[.own 5 v5x2], .own 0 0, [], [.row 88 2 _], [(5, v5x2)], ⟨rfl, trivial⟩, rfl, rfl, ⟨⟨rfl, rfl⟩, trivial⟩, rfl, rfl, ⟨rfl, rfl, rfl⟩⟩


theorem f_own (c : Con) (hc : c.1.length ≤ 1048576) : Fn Try.prog 73 [.agg [.sl (c.1.map dT), .p (.int .i64 c.2)]] [] (fun rr ii nn => rr = .agg [.own 0 0, .p (.int .i64 c.2)] ∧ ii = [] ∧ nn = [.row 88 2 (c.1.map dT)]) := by
  refine fn_of Try.func73 rfl (Nat.le_of_ble_eq_true rfl) fun w X g => ?_
  show AWp _ _ _ ⟨[(0, .agg [.sl (c.1.map dT), .p (.int .i64 c.2)])], []⟩
  refine a_seq ?_
  refine a_region (by kernel_rfl) ?_
  refine op_n' (fun ver => j_boxa rfl) fun v1x1 => ?_
  refine op_n' (fun ver => j_alloc elt25 rfl) fun v2x2 => ?_
  refine op_nil ?_
  refine a_seq ?_
  refine a_region (by kernel_rfl) ?_
  refine op_v' (j_fldp fld25f0 rfl rfl) ?_
  refine op_v' (j_load_box leaf23 rfl rfl rfl) ?_
  refine op_n1' (fun ver => j_call1 (v := .own 5 ver) (hp1 := [(5, some (ver, .row 88 2 _))]) [] false [] ent119 (f_clone c.1 hc) ⟨.inl ⟨rfl, rfl⟩, trivial⟩ trivial rfl rfl rfl (fun h => by cases h) rfl (List.all_eq_true.1 rfl) (.inl rfl) rfl rfl) fun v5x3 => ?_
  refine op_v' (j_fldp fld25f0 rfl rfl) ?_
  refine op_s' (j_store_box leaf23 rfl rfl (Nat.le_of_ble_eq_true rfl) (evo rfl) rfl) ?_
  refine op_nil ?_
  refine a_seq ?_
  refine a_region (by kernel_rfl) ?_
  refine op_v' (j_loada_box (ys := [.own 5 v5x3, .p _]) agg25 rfl rfl rfl (Nat.le_of_ble_eq_true rfl)) ?_
  refine op_s' (j_storea_box0 agg25 rfl rfl rfl rfl rfl rfl) ?_
  refine op_nil ?_
  refine a_ret ?_
  exact ⟨[.agg [.own 5 v5x3, .p _]], .agg [.own 0 0, .p _], [], [.row 88 2 _], [(5, v5x3)], ⟨⟨_, _, _, _, rfl, rfl, agg25, rfl⟩, trivial⟩, rfl, rfl, ⟨⟨rfl, rfl⟩, trivial⟩, rfl, rfl, ⟨rfl, rfl, rfl⟩⟩


theorem f_copy (c : Con) (hc : c.1.length ≤ 1048576) : Fn Try.prog 74 [.agg [.sl (c.1.map dT), .p (.int .i64 c.2)]] [] (fun rr ii nn => rr = .agg [.own 0 0, .p (.int .i64 c.2)] ∧ ii = [] ∧ nn = [.row 88 2 (c.1.map dT)]) := by
  refine fn_of Try.func74 rfl (Nat.le_of_ble_eq_true rfl) fun w X g => ?_
  show AWp _ _ _ ⟨[(0, .agg [.sl (c.1.map dT), .p (.int .i64 c.2)])], []⟩
  refine a_seq ?_
  refine a_region (by kernel_rfl) ?_
  refine op_n' (fun ver => j_boxa rfl) fun v1x1 => ?_
  refine op_n' (fun ver => j_alloc elt25 rfl) fun v2x2 => ?_
  refine op_nil ?_
  refine a_seq ?_
  refine a_draw mixed (by kernel_rfl) (by kernel_rfl) fun vf => ?_
  refine d_n' (fun ver => j_buildSlice (parts := []) (es := []) slt23 elt88 rfl rfl (by decide) (by decide) rfl rfl (by simp) rfl) ?_
  refine d_v' (j_fldp fld25f0 rfl rfl) ?_
  refine d_v' (j_load_box leaf23 rfl rfl rfl) ?_
  refine d_n1' (fun ver => j_append_slN (by decide) slt23 elt88 rfl rfl rfl rfl (by intro x hx; obtain ⟨t, _, rfl⟩ := List.mem_map.1 hx; rfl) (all_lf_dT _) (by rw [maxLen_eq]; first | omega | (simp only [List.length_map, List.length_take, Int.toNat_natCast, List.length_map, List.length_nil]; omega)) (by first | omega | (simp only [List.length_map, List.length_take, Int.toNat_natCast, List.length_map, List.length_nil]; omega))) ?_
  refine d_v' (j_fldp fld25f1 rfl rfl) ?_
  refine d_v' (j_load_box leaf3 rfl rfl rfl) ?_
  refine d_v' (j_build (parts := [(0, .tmp 6), (1, .tmp 8)]) str25 elt25 rfl rfl) ?_
  refine d_s' (j_storea_box0 agg25 rfl rfl rfl rfl rfl rfl) ?_
  refine d_nil (by kernel_rfl) (by kernel_rfl) ?_
  refine a_ret ?_
  exact ⟨[.agg [.own 6 (vf 6), .p _]], .agg [.own 0 0, .p _], [], [.row 88 2 _], [(6, (vf 6))], ⟨⟨_, _, _, _, rfl, rfl, agg25, rfl⟩, trivial⟩, rfl, rfl, ⟨⟨rfl, rfl⟩, trivial⟩, rfl, rfl, ⟨rfl, rfl, rfl⟩⟩


theorem f_tbImpl (c : Con) (hsz : c.1.length ≤ 1048576) : Fn Try.prog 21 [.agg [.sl (c.1.map dT), .p (.int .i64 c.2)]] [] (fun rr ii nn => rr = .tup [.agg [.own 0 0, .p (.int .i64 (tbC c).2)], .p (.bool (cOk c))] ∧ ii = [] ∧ nn = [.row 88 2 ((tbC c).1.map dT)]) := by
  refine fn_of Try.func21 rfl (Nat.le_of_ble_eq_true rfl) fun w X g => ?_
  show AWp _ _ _ ⟨[(0, .agg [.sl (c.1.map dT), .p (.int .i64 c.2)])], []⟩
  refine a_seq ?_
  refine a_region (by kernel_rfl) ?_
  refine op_n' (fun ver => j_boxa rfl) fun v1x1 => ?_
  refine op_n' (fun ver => j_alloc elt25 rfl) fun v2x2 => ?_
  refine op_v' (j_assign (evo rfl)) ?_
  refine op_nil ?_
  refine a_seq ?_
  refine a_seq ?_
  refine a_region (by kernel_rfl) ?_
  refine op_v' (j_loada_box (ys := [.sl _, .p _]) agg25 rfl rfl rfl (Nat.le_of_ble_eq_true rfl)) ?_
  refine op_v0' (j_call0 (v := .p _) (hp1 := []) [] false [] ent66 (f_cvImpl _) ⟨.inl ⟨rfl, rfl⟩, trivial⟩ trivial rfl rfl (fun h => by cases h) rfl (fun _ h => by cases h) (.inl rfl) rfl rfl) ?_
  refine op_v' (j_not rfl) ?_
  refine op_nil ?_
  refine a_cond rfl (fun h1 => ?_) (fun h1 => ?_)
  ·
    have h1r := h1
    try simp only [Bool.not_eq_true', Bool.not_eq_false', Bool.not_not, bne_iff_ne, bne_eq_false_iff_eq, beq_eq_false_iff_ne, beq_iff_eq, ne_eq, decide_eq_true_eq, decide_eq_false_iff_not, Classical.not_not, List.length_map, List.length_take, Int.toNat_natCast, cntRow, rowI_length, List.length_map] at h1
    refine a_seq ?_
    refine a_region (by kernel_rfl) ?_
    refine op_v' (j_build (parts := []) str25 elt25 rfl rfl) ?_
    refine op_s' (j_storea_box0 agg25 rfl rfl rfl rfl rfl rfl) ?_
    refine op_v' (j_assign (evo rfl)) ?_
    refine op_nil ?_
    refine a_adopt_box' 0 1002 88 2 (by decide) (id := 2) rfl rfl fun v1002x3 => ?_
    refine a_ret ?_
    exact ⟨[.agg [.own 1002 v1002x3, .p _], .p _], .tup [.agg [.own 0 0, .p _], .p _], [], [.row 88 2 _], [(1002, v1002x3)], ⟨⟨_, _, _, _, rfl, rfl, agg25, rfl⟩, rfl, trivial⟩, rfl, rfl, ⟨⟨rfl, rfl⟩, trivial⟩, rfl, rfl, ⟨by rw [tbC_bad h1, h1], rfl, by rw [tbC_bad h1]; rfl⟩⟩
  ·
    have h1r := h1
    try simp only [Bool.not_eq_true', Bool.not_eq_false', Bool.not_not, bne_iff_ne, bne_eq_false_iff_eq, beq_eq_false_iff_ne, beq_iff_eq, ne_eq, decide_eq_true_eq, decide_eq_false_iff_not, Classical.not_not, List.length_map, List.length_take, Int.toNat_natCast, cntRow, rowI_length, List.length_map] at h1
    have hcb := cOk_bound h1
    have hln := totN_le h1
    refine a_skip ?_
    refine a_seq ?_
    refine a_region (by kernel_rfl) ?_
    refine op_v' (j_loada_box (ys := [.sl _, .p _]) agg25 rfl rfl rfl (Nat.le_of_ble_eq_true rfl)) ?_
    refine op_n1' (fun ver => j_call1 (v := .agg [.own 11 ver, .p _]) (hp1 := [(11, some (ver, .row 88 2 _))]) [] false [] ent73 (f_own c hsz) ⟨.inl ⟨rfl, rfl⟩, trivial⟩ trivial rfl rfl rfl (fun h => by cases h) rfl (List.all_eq_true.1 rfl) (.inl rfl) rfl rfl) fun v11x4 => ?_
    refine op_n' (fun ver => j_alloc elt25 rfl) fun v4x5 => ?_
    refine op_s' (j_storea_box0 agg25 rfl rfl rfl rfl rfl rfl) ?_
    refine op_nil ?_
    refine a_seq ?_
    refine a_region (by kernel_rfl) ?_
    refine op_v' (j_loada_box (ys := [.sl _, .p _]) agg25 rfl rfl rfl (Nat.le_of_ble_eq_true rfl)) ?_
    refine op_n1' (fun ver => j_call1 (v := .own 13 ver) (hp1 := [(13, some (ver, .row 3 1 _))]) [] false [] ent67 (f_sums c h1) ⟨.inl ⟨rfl, rfl⟩, trivial⟩ trivial rfl rfl rfl (fun h => by cases h) rfl (List.all_eq_true.1 rfl) (.inl rfl) rfl rfl) fun v13x6 => ?_
    refine op_v' (j_assign (evo rfl)) ?_
    refine op_nil ?_
    refine a_seq ?_
    refine a_block ?_
    refine a_loopF' (ι := Nat) (fun b => b ≤ 20001 ∧ raise (fun s => cnt c.1 4096 s) (totN c.1 + 1) (totN c.1 + 1) b = tbB c) (fun b r => r) (fun b r => (4, some (v4x5, .box 25 [.own 11 v11x4, .p (.int .i64 (b : Nat))])) :: r) (fun b => (totN c.1 + 1) - b) (fun _ _ => rfl) (fun _ _ => rfl) c.2.toNat ⟨by omega, rfl⟩ ⟨⟨rfl, rfl⟩, trivial, ⟨box2Eq (by omega), trivial⟩, ⟨rfl, rfl⟩, ⟨rfl, rfl⟩⟩ ?_
    intro b hpre
    refine a_seq ?_
    refine a_seq ?_
    refine a_region (by kernel_rfl) ?_
    refine op_v' (j_fldp fld25f1 rfl rfl) ?_
    refine op_v' (j_load_box leaf3 rfl rfl rfl) ?_
    refine op_v' (j_move (evo rfl)) ?_
    refine op_v' (j_len_own_map Try.underlying27 rfl rfl) ?_
    refine op_v' (j_lt rfl rfl) ?_
    refine op_v' (j_move (evo rfl)) ?_
    refine op_split' 19 rfl (fun h2 => ?_) (fun h2 => ?_)
    ·
      have h2r := h2
      try simp only [Bool.not_eq_true', Bool.not_eq_false', Bool.not_not, bne_iff_ne, bne_eq_false_iff_eq, beq_eq_false_iff_ne, beq_iff_eq, ne_eq, decide_eq_true_eq, decide_eq_false_iff_not, Classical.not_not, List.length_map, List.length_take, Int.toNat_natCast, cntRow, rowI_length, List.length_map] at h2
      have hat : (cntRow c.1 4096).getD b default = ((cnt c.1 4096 b : Nat) : Int) := by unfold cntRow; exact rowI_at (by omega)
      refine op_v' (j_want rfl rfl h2r (j_move (evo rfl))) ?_
      refine op_v' (j_want rfl rfl h2r (j_fldp fld25f1 rfl rfl)) ?_
      refine op_v' (j_want rfl rfl h2r (j_load_box leaf3 rfl rfl rfl)) ?_
      refine op_v' (j_want rfl rfl h2r (j_elem_ownN (n := b) slt27 rfl rfl rfl (by first | omega | (simp only [List.length_map, List.length_take, Int.toNat_natCast, cntRow, rowI_length, List.length_map]; omega)) (by first | omega | (simp only [List.length_map, List.length_take, Int.toNat_natCast, cntRow, rowI_length, List.length_map]; omega)))) ?_
      refine op_v' (j_want rfl rfl h2r (j_load_pel leaf3 rfl rfl (at_map (by first | omega | (simp only [List.length_map, List.length_take, Int.toNat_natCast, cntRow, rowI_length, List.length_map]; omega))) rfl)) ?_
      refine op_v' (j_want rfl rfl h2r (j_eq rfl rfl)) ?_
      refine op_v' (j_pick_t rfl h2r (evo rfl)) ?_
      refine op_nil ?_
      refine a_cond rfl (fun h3 => ?_) (fun h3 => ?_)
      ·
        have h3r := h3
        try simp only [Bool.not_eq_true', Bool.not_eq_false', Bool.not_not, bne_iff_ne, bne_eq_false_iff_eq, beq_eq_false_iff_ne, beq_iff_eq, ne_eq, decide_eq_true_eq, decide_eq_false_iff_not, Classical.not_not, List.length_map, List.length_take, Int.toNat_natCast, cntRow, rowI_length, List.length_map] at h3
        have hz : cnt c.1 4096 (b : Int) = 0 := by have := of_decide_eq_true h3r; rw [hat] at this; omega
        refine a_skip ?_
        refine a_block ?_
        refine a_region (by kernel_rfl) ?_
        refine op_v' (j_fldp fld25f1 rfl rfl) ?_
        refine op_v' (j_load_box leaf3 rfl rfl rfl) ?_
        refine op_v' (j_add rfl rfl (by first | omega | (simp only [List.length_map, List.length_take, Int.toNat_natCast, cntRow, rowI_length, List.length_map]; omega)) (by first | omega | (simp only [List.length_map, List.length_take, Int.toNat_natCast, cntRow, rowI_length, List.length_map]; omega))) ?_
        refine op_v' (j_fldp fld25f1 rfl rfl) ?_
        refine op_s' (j_store_box leaf3 rfl rfl (Nat.le_of_ble_eq_true rfl) (evo rfl) rfl) ?_
        refine op_nil ?_
        exact ⟨b + 1, ⟨by omega, (raise_step (f := fun s => cnt c.1 4096 s) (N := totN c.1 + 1) (k := totN c.1 + 1) (b := b) (by omega) ⟨by omega, hz⟩).symm.trans hpre.2⟩, ⟨⟨rfl, rfl⟩, trivial, ⟨rfl, trivial⟩, ⟨rfl, rfl⟩, ⟨rfl, rfl⟩⟩, (by first | omega | (simp only [List.length_map, List.length_take, Int.toNat_natCast, cntRow, rowI_length, List.length_map]; omega))⟩
      ·
        have h3r := h3
        try simp only [Bool.not_eq_true', Bool.not_eq_false', Bool.not_not, bne_iff_ne, bne_eq_false_iff_eq, beq_eq_false_iff_ne, beq_iff_eq, ne_eq, decide_eq_true_eq, decide_eq_false_iff_not, Classical.not_not, List.length_map, List.length_take, Int.toNat_natCast, cntRow, rowI_length, List.length_map] at h3
        have hz : cnt c.1 4096 (b : Int) ≠ 0 := by have := of_decide_eq_false h3r; rw [hat] at this; omega
        refine a_exit ?_
        refine a_seq ?_
        refine a_region (by kernel_rfl) ?_
        refine op_v' (j_loada_box (ys := [.own 11 v11x4, .p _]) agg25 rfl rfl rfl (Nat.le_of_ble_eq_true rfl)) ?_
        refine op_s' (j_storea_box0 agg25 rfl rfl rfl rfl rfl rfl) ?_
        refine op_v' (j_assign (evo rfl)) ?_
        refine op_nil ?_
        refine a_ret ?_
        exact ⟨[.agg [.own 11 v11x4, .p _], .p _], .tup [.agg [.own 0 0, .p _], .p _], [], [.row 88 2 _], [(11, v11x4)], ⟨⟨_, _, _, _, rfl, rfl, agg25, rfl⟩, rfl, trivial⟩, rfl, rfl, ⟨⟨rfl, rfl⟩, trivial⟩, rfl, rfl, ⟨by rw [tbC_ok h1, h1, ← hpre.2, raise_stop (by rintro ⟨p1, p2⟩; first | exact hz p2 | (have := of_decide_eq_false h2; simp only [cntRow, rowI_length] at this; omega) | (simp only [cntRow, rowI_length] at h2; omega) | (have := of_decide_eq_false h2r; simp only [cntRow, rowI_length] at this; omega))], rfl, by rw [tbC_ok h1]⟩⟩
    ·
      have h2r := h2
      try simp only [Bool.not_eq_true', Bool.not_eq_false', Bool.not_not, bne_iff_ne, bne_eq_false_iff_eq, beq_eq_false_iff_ne, beq_iff_eq, ne_eq, decide_eq_true_eq, decide_eq_false_iff_not, Classical.not_not, List.length_map, List.length_take, Int.toNat_natCast, cntRow, rowI_length, List.length_map] at h2
      refine op_v' (j_unwantV rfl rfl h2r) ?_
      refine op_v' (j_unwantV rfl rfl h2r) ?_
      refine op_v' (j_unwantV rfl rfl h2r) ?_
      refine op_v' (j_unwantV rfl rfl h2r) ?_
      refine op_v' (j_unwantV rfl rfl h2r) ?_
      refine op_v' (j_unwantV rfl rfl h2r) ?_
      refine op_v' (j_pick_f rfl h2r (evo rfl)) ?_
      refine op_nil ?_
      refine a_ff rfl ?_
      refine a_exit ?_
      refine a_seq ?_
      refine a_region (by kernel_rfl) ?_
      refine op_v' (j_loada_box (ys := [.own 11 v11x4, .p _]) agg25 rfl rfl rfl (Nat.le_of_ble_eq_true rfl)) ?_
      refine op_s' (j_storea_box0 agg25 rfl rfl rfl rfl rfl rfl) ?_
      refine op_v' (j_assign (evo rfl)) ?_
      refine op_nil ?_
      refine a_ret ?_
      exact ⟨[.agg [.own 11 v11x4, .p _], .p _], .tup [.agg [.own 0 0, .p _], .p _], [], [.row 88 2 _], [(11, v11x4)], ⟨⟨_, _, _, _, rfl, rfl, agg25, rfl⟩, rfl, trivial⟩, rfl, rfl, ⟨⟨rfl, rfl⟩, trivial⟩, rfl, rfl, ⟨by rw [tbC_ok h1, h1, ← hpre.2, raise_stop (by rintro ⟨p1, p2⟩; first | exact hz p2 | (have := of_decide_eq_false h2; simp only [cntRow, rowI_length] at this; omega) | (simp only [cntRow, rowI_length] at h2; omega) | (have := of_decide_eq_false h2r; simp only [cntRow, rowI_length] at this; omega))], rfl, by rw [tbC_ok h1]⟩⟩


theorem f_tbSpec (c : Con) (hsz : c.1.length ≤ 1048576) : Fn Try.prog 22 [.agg [.sl (c.1.map dT), .p (.int .i64 c.2)]] [] (fun rr ii nn => rr = .tup [.agg [.own 0 0, .p (.int .i64 (tbC c).2)], .p (.bool (cOk c))] ∧ ii = [] ∧ nn = [.row 88 2 ((tbC c).1.map dT)]) := by
  refine fn_of Try.func22 rfl (Nat.le_of_ble_eq_true rfl) fun w X g => ?_
  show AWp _ _ _ ⟨[(0, .agg [.sl (c.1.map dT), .p (.int .i64 c.2)])], []⟩
  refine a_seq ?_
  refine a_region (by kernel_rfl) ?_
  refine op_n' (fun ver => j_boxa rfl) fun v1x1 => ?_
  refine op_n' (fun ver => j_alloc elt25 rfl) fun v2x2 => ?_
  refine op_v' (j_assign (evo rfl)) ?_
  refine op_nil ?_
  refine a_seq ?_
  refine a_seq ?_
  refine a_region (by kernel_rfl) ?_
  refine op_v' (j_loada_box (ys := [.sl _, .p _]) agg25 rfl rfl rfl (Nat.le_of_ble_eq_true rfl)) ?_
  refine op_v0' (j_call0 (v := .p _) (hp1 := []) [] false [] ent71 (f_cvSpec _) ⟨.inl ⟨rfl, rfl⟩, trivial⟩ trivial rfl rfl (fun h => by cases h) rfl (fun _ h => by cases h) (.inl rfl) rfl rfl) ?_
  refine op_v' (j_not rfl) ?_
  refine op_nil ?_
  refine a_cond rfl (fun h1 => ?_) (fun h1 => ?_)
  ·
    have h1r := h1
    try simp only [Bool.not_eq_true', Bool.not_eq_false', Bool.not_not, bne_iff_ne, bne_eq_false_iff_eq, beq_eq_false_iff_ne, beq_iff_eq, ne_eq, decide_eq_true_eq, decide_eq_false_iff_not, Classical.not_not, List.length_map, List.length_take, Int.toNat_natCast, cntRow, rowI_length, List.length_map] at h1
    refine a_seq ?_
    refine a_region (by kernel_rfl) ?_
    refine op_v' (j_build (parts := []) str25 elt25 rfl rfl) ?_
    refine op_s' (j_storea_box0 agg25 rfl rfl rfl rfl rfl rfl) ?_
    refine op_v' (j_assign (evo rfl)) ?_
    refine op_nil ?_
    refine a_adopt_box' 0 1002 88 2 (by decide) (id := 2) rfl rfl fun v1002x3 => ?_
    refine a_ret ?_
    exact ⟨[.agg [.own 1002 v1002x3, .p _], .p _], .tup [.agg [.own 0 0, .p _], .p _], [], [.row 88 2 _], [(1002, v1002x3)], ⟨⟨_, _, _, _, rfl, rfl, agg25, rfl⟩, rfl, trivial⟩, rfl, rfl, ⟨⟨rfl, rfl⟩, trivial⟩, rfl, rfl, ⟨by rw [tbC_bad h1, h1], rfl, by rw [tbC_bad h1]; rfl⟩⟩
  ·
    have h1r := h1
    try simp only [Bool.not_eq_true', Bool.not_eq_false', Bool.not_not, bne_iff_ne, bne_eq_false_iff_eq, beq_eq_false_iff_ne, beq_iff_eq, ne_eq, decide_eq_true_eq, decide_eq_false_iff_not, Classical.not_not, List.length_map, List.length_take, Int.toNat_natCast, cntRow, rowI_length, List.length_map] at h1
    have hcb := cOk_bound h1
    have hln := totN_le h1
    refine a_skip ?_
    refine a_seq ?_
    refine a_region (by kernel_rfl) ?_
    refine op_v' (j_loada_box (ys := [.sl _, .p _]) agg25 rfl rfl rfl (Nat.le_of_ble_eq_true rfl)) ?_
    refine op_n1' (fun ver => j_call1 (v := .agg [.own 11 ver, .p _]) (hp1 := [(11, some (ver, .row 88 2 _))]) [] false [] ent74 (f_copy c hsz) ⟨.inl ⟨rfl, rfl⟩, trivial⟩ trivial rfl rfl rfl (fun h => by cases h) rfl (List.all_eq_true.1 rfl) (.inl rfl) rfl rfl) fun v11x4 => ?_
    refine op_n' (fun ver => j_alloc elt25 rfl) fun v4x5 => ?_
    refine op_s' (j_storea_box0 agg25 rfl rfl rfl rfl rfl rfl) ?_
    refine op_nil ?_
    refine a_seq ?_
    refine a_region (by kernel_rfl) ?_
    refine op_v' (j_loada_box (ys := [.sl _, .p _]) agg25 rfl rfl rfl (Nat.le_of_ble_eq_true rfl)) ?_
    refine op_n1' (fun ver => j_call1 (v := .own 13 ver) (hp1 := [(13, some (ver, .row 3 1 _))]) [] false [] ent72 (f_table c h1) ⟨.inl ⟨rfl, rfl⟩, trivial⟩ trivial rfl rfl rfl (fun h => by cases h) rfl (List.all_eq_true.1 rfl) (.inl rfl) rfl rfl) fun v13x6 => ?_
    refine op_v' (j_assign (evo rfl)) ?_
    refine op_nil ?_
    refine a_row 13 (es' := (cntRow c.1 4096).map dI) rfl (by rw [table_eq h1]) ?_
    refine a_seq ?_
    refine a_block ?_
    refine a_loopF' (ι := Nat) (fun b => b ≤ 20001 ∧ raise (fun s => cnt c.1 4096 s) (totN c.1 + 1) (totN c.1 + 1) b = tbB c) (fun b r => r) (fun b r => (4, some (v4x5, .box 25 [.own 11 v11x4, .p (.int .i64 (b : Nat))])) :: r) (fun b => (totN c.1 + 1) - b) (fun _ _ => rfl) (fun _ _ => rfl) c.2.toNat ⟨by omega, rfl⟩ ⟨⟨rfl, rfl⟩, trivial, ⟨box2Eq (by omega), trivial⟩, ⟨rfl, rfl⟩, ⟨rfl, rfl⟩⟩ ?_
    intro b hpre
    refine a_seq ?_
    refine a_seq ?_
    refine a_region (by kernel_rfl) ?_
    refine op_v' (j_fldp fld25f1 rfl rfl) ?_
    refine op_v' (j_load_box leaf3 rfl rfl rfl) ?_
    refine op_v' (j_move (evo rfl)) ?_
    refine op_v' (j_len_own_map Try.underlying27 rfl rfl) ?_
    refine op_v' (j_lt rfl rfl) ?_
    refine op_v' (j_move (evo rfl)) ?_
    refine op_split' 19 rfl (fun h2 => ?_) (fun h2 => ?_)
    ·
      have h2r := h2
      try simp only [Bool.not_eq_true', Bool.not_eq_false', Bool.not_not, bne_iff_ne, bne_eq_false_iff_eq, beq_eq_false_iff_ne, beq_iff_eq, ne_eq, decide_eq_true_eq, decide_eq_false_iff_not, Classical.not_not, List.length_map, List.length_take, Int.toNat_natCast, cntRow, rowI_length, List.length_map] at h2
      have hat : (cntRow c.1 4096).getD b default = ((cnt c.1 4096 b : Nat) : Int) := by unfold cntRow; exact rowI_at (by omega)
      refine op_v' (j_want rfl rfl h2r (j_move (evo rfl))) ?_
      refine op_v' (j_want rfl rfl h2r (j_fldp fld25f1 rfl rfl)) ?_
      refine op_v' (j_want rfl rfl h2r (j_load_box leaf3 rfl rfl rfl)) ?_
      refine op_v' (j_want rfl rfl h2r (j_elem_ownN (n := b) slt27 rfl rfl rfl (by first | omega | (simp only [List.length_map, List.length_take, Int.toNat_natCast, cntRow, rowI_length, List.length_map]; omega)) (by first | omega | (simp only [List.length_map, List.length_take, Int.toNat_natCast, cntRow, rowI_length, List.length_map]; omega)))) ?_
      refine op_v' (j_want rfl rfl h2r (j_load_pel leaf3 rfl rfl (at_map (by first | omega | (simp only [List.length_map, List.length_take, Int.toNat_natCast, cntRow, rowI_length, List.length_map]; omega))) rfl)) ?_
      refine op_v' (j_want rfl rfl h2r (j_eq rfl rfl)) ?_
      refine op_v' (j_pick_t rfl h2r (evo rfl)) ?_
      refine op_nil ?_
      refine a_cond rfl (fun h3 => ?_) (fun h3 => ?_)
      ·
        have h3r := h3
        try simp only [Bool.not_eq_true', Bool.not_eq_false', Bool.not_not, bne_iff_ne, bne_eq_false_iff_eq, beq_eq_false_iff_ne, beq_iff_eq, ne_eq, decide_eq_true_eq, decide_eq_false_iff_not, Classical.not_not, List.length_map, List.length_take, Int.toNat_natCast, cntRow, rowI_length, List.length_map] at h3
        have hz : cnt c.1 4096 (b : Int) = 0 := by have := of_decide_eq_true h3r; rw [hat] at this; omega
        refine a_skip ?_
        refine a_block ?_
        refine a_region (by kernel_rfl) ?_
        refine op_v' (j_fldp fld25f1 rfl rfl) ?_
        refine op_v' (j_load_box leaf3 rfl rfl rfl) ?_
        refine op_v' (j_add rfl rfl (by first | omega | (simp only [List.length_map, List.length_take, Int.toNat_natCast, cntRow, rowI_length, List.length_map]; omega)) (by first | omega | (simp only [List.length_map, List.length_take, Int.toNat_natCast, cntRow, rowI_length, List.length_map]; omega))) ?_
        refine op_v' (j_fldp fld25f1 rfl rfl) ?_
        refine op_s' (j_store_box leaf3 rfl rfl (Nat.le_of_ble_eq_true rfl) (evo rfl) rfl) ?_
        refine op_nil ?_
        exact ⟨b + 1, ⟨by omega, (raise_step (f := fun s => cnt c.1 4096 s) (N := totN c.1 + 1) (k := totN c.1 + 1) (b := b) (by omega) ⟨by omega, hz⟩).symm.trans hpre.2⟩, ⟨⟨rfl, rfl⟩, trivial, ⟨rfl, trivial⟩, ⟨rfl, rfl⟩, ⟨rfl, rfl⟩⟩, (by first | omega | (simp only [List.length_map, List.length_take, Int.toNat_natCast, cntRow, rowI_length, List.length_map]; omega))⟩
      ·
        have h3r := h3
        try simp only [Bool.not_eq_true', Bool.not_eq_false', Bool.not_not, bne_iff_ne, bne_eq_false_iff_eq, beq_eq_false_iff_ne, beq_iff_eq, ne_eq, decide_eq_true_eq, decide_eq_false_iff_not, Classical.not_not, List.length_map, List.length_take, Int.toNat_natCast, cntRow, rowI_length, List.length_map] at h3
        have hz : cnt c.1 4096 (b : Int) ≠ 0 := by have := of_decide_eq_false h3r; rw [hat] at this; omega
        refine a_exit ?_
        refine a_seq ?_
        refine a_region (by kernel_rfl) ?_
        refine op_v' (j_loada_box (ys := [.own 11 v11x4, .p _]) agg25 rfl rfl rfl (Nat.le_of_ble_eq_true rfl)) ?_
        refine op_s' (j_storea_box0 agg25 rfl rfl rfl rfl rfl rfl) ?_
        refine op_v' (j_assign (evo rfl)) ?_
        refine op_nil ?_
        refine a_ret ?_
        exact ⟨[.agg [.own 11 v11x4, .p _], .p _], .tup [.agg [.own 0 0, .p _], .p _], [], [.row 88 2 _], [(11, v11x4)], ⟨⟨_, _, _, _, rfl, rfl, agg25, rfl⟩, rfl, trivial⟩, rfl, rfl, ⟨⟨rfl, rfl⟩, trivial⟩, rfl, rfl, ⟨by rw [tbC_ok h1, h1, ← hpre.2, raise_stop (by rintro ⟨p1, p2⟩; first | exact hz p2 | (have := of_decide_eq_false h2; simp only [cntRow, rowI_length] at this; omega) | (simp only [cntRow, rowI_length] at h2; omega) | (have := of_decide_eq_false h2r; simp only [cntRow, rowI_length] at this; omega))], rfl, by rw [tbC_ok h1]⟩⟩
    ·
      have h2r := h2
      try simp only [Bool.not_eq_true', Bool.not_eq_false', Bool.not_not, bne_iff_ne, bne_eq_false_iff_eq, beq_eq_false_iff_ne, beq_iff_eq, ne_eq, decide_eq_true_eq, decide_eq_false_iff_not, Classical.not_not, List.length_map, List.length_take, Int.toNat_natCast, cntRow, rowI_length, List.length_map] at h2
      refine op_v' (j_unwantV rfl rfl h2r) ?_
      refine op_v' (j_unwantV rfl rfl h2r) ?_
      refine op_v' (j_unwantV rfl rfl h2r) ?_
      refine op_v' (j_unwantV rfl rfl h2r) ?_
      refine op_v' (j_unwantV rfl rfl h2r) ?_
      refine op_v' (j_unwantV rfl rfl h2r) ?_
      refine op_v' (j_pick_f rfl h2r (evo rfl)) ?_
      refine op_nil ?_
      refine a_ff rfl ?_
      refine a_exit ?_
      refine a_seq ?_
      refine a_region (by kernel_rfl) ?_
      refine op_v' (j_loada_box (ys := [.own 11 v11x4, .p _]) agg25 rfl rfl rfl (Nat.le_of_ble_eq_true rfl)) ?_
      refine op_s' (j_storea_box0 agg25 rfl rfl rfl rfl rfl rfl) ?_
      refine op_v' (j_assign (evo rfl)) ?_
      refine op_nil ?_
      refine a_ret ?_
      exact ⟨[.agg [.own 11 v11x4, .p _], .p _], .tup [.agg [.own 0 0, .p _], .p _], [], [.row 88 2 _], [(11, v11x4)], ⟨⟨_, _, _, _, rfl, rfl, agg25, rfl⟩, rfl, trivial⟩, rfl, rfl, ⟨⟨rfl, rfl⟩, trivial⟩, rfl, rfl, ⟨by rw [tbC_ok h1, h1, ← hpre.2, raise_stop (by rintro ⟨p1, p2⟩; first | exact hz p2 | (have := of_decide_eq_false h2; simp only [cntRow, rowI_length] at this; omega) | (simp only [cntRow, rowI_length] at h2; omega) | (have := of_decide_eq_false h2r; simp only [cntRow, rowI_length] at this; omega))], rfl, by rw [tbC_ok h1]⟩⟩


end Go.Ab

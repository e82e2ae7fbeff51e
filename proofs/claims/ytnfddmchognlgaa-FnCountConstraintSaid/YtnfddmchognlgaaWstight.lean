/- Walks. -/
import Derived.Test.YtnfddmchognlgaaBase
import Derived.Test.YtnfddmchognlgaaTabs2
import Derived.Test.YtnfddmchognlgaaWstab
namespace Go.Ab
open Go.Proofs
set_option maxRecDepth 100000
set_option maxHeartbeats 8000000
set_option linter.unusedSimpArgs false
set_option linter.unusedVariables false
theorem f_clone (ts : List Term) (hts : ts.length ≤ 1048576) : Fn Try.prog 99 [.sl (ts.map dT)] [] (fun rr ii nn => rr = .own 0 0 ∧ ii = [] ∧ nn = [.row 73 2 (ts.map dT)]) := by
  refine fn_of Try.func99 rfl (Nat.le_of_ble_eq_true rfl) fun w X g => ?_
  show AWp _ _ _ ⟨[(0, .sl (ts.map dT))], []⟩
  refine a_seq ?_
  refine a_region (by kernel_rfl) ?_
  refine op_v' (j_assign (evo rfl)) ?_
  refine op_nil ?_
  refine a_seq ?_
  refine a_seq ?_
  refine a_region (by kernel_rfl) ?_
  refine op_v' (j_move (evo rfl)) ?_
  refine op_eqnil Try.underlying40 rfl fun b1 hb1 => ?_
  refine op_nil ?_
  refine a_cond rfl (fun h2 => ?_) (fun h2 => ?_)
  ·
    have h2r := h2
    try simp only [Bool.not_eq_true', Bool.not_eq_false', Bool.not_not, bne_iff_ne, bne_eq_false_iff_eq, beq_eq_false_iff_ne, beq_iff_eq, ne_eq, decide_eq_true_eq, decide_eq_false_iff_not, Classical.not_not, List.length_map, List.length_take, Int.toNat_natCast, List.length_map, List.length_nil] at h2
    refine a_seq ?_
    refine a_region (by kernel_rfl) ?_
    refine op_v' (j_assign (evo rfl)) ?_
    refine op_nil ?_
    refine a_adopt' 2 2 73 2 rfl fun v2 => ?_
    refine a_ret ?_
    exact ⟨[.own 2 v2], .own 0 0, [], [.row 73 2 _], [(2, v2)], ⟨rfl, trivial⟩, rfl, rfl, ⟨⟨rfl, rfl⟩, trivial⟩, rfl, rfl, ⟨rfl, rfl, by rw [hb1 h2]⟩⟩
  ·
    have h2r := h2
    try simp only [Bool.not_eq_true', Bool.not_eq_false', Bool.not_not, bne_iff_ne, bne_eq_false_iff_eq, beq_eq_false_iff_ne, beq_iff_eq, ne_eq, decide_eq_true_eq, decide_eq_false_iff_not, Classical.not_not, List.length_map, List.length_take, Int.toNat_natCast, List.length_map, List.length_nil] at h2
    refine a_skip ?_
    refine a_seq ?_
    refine a_region (by kernel_rfl) ?_
    refine op_n' (fun ver => j_buildSlice (parts := []) (es := []) slt40 elt73 rfl rfl (by decide) (by decide) rfl rfl (by simp) rfl) fun v5x1 => ?_
    refine op_v' (j_move (evo rfl)) ?_
    refine op_n' (fun ver => j_append_sl slt40 elt73 rfl rfl rfl rfl (by intro x hx; obtain ⟨t, _, rfl⟩ := List.mem_map.1 hx; rfl) (all_lf_dT ts) (by rw [maxLen_eq]; first | omega | (simp only [List.length_map, List.length_take, Int.toNat_natCast, List.length_map, List.length_nil]; omega)) (by first | omega | (simp only [List.length_map, List.length_take, Int.toNat_natCast, List.length_map, List.length_nil]; omega))) fun v5x2 => ?_
    refine op_v' (j_assign (evo rfl)) ?_
    refine op_nil ?_
    refine a_ret ?_
    exact ⟨[.own 5 v5x2], .own 0 0, [], [.row 73 2 _], [(5, v5x2)], ⟨rfl, trivial⟩, rfl, rfl, ⟨⟨rfl, rfl⟩, trivial⟩, rfl, rfl, ⟨rfl, rfl, rfl⟩⟩


theorem f_own (c : Con) (hc : c.1.length ≤ 1048576) : Fn Try.prog 84 [.agg [.sl (c.1.map dT), .p (.int .i64 c.2)]] [] (fun rr ii nn => rr = .agg [.own 0 0, .p (.int .i64 c.2)] ∧ ii = [] ∧ nn = [.row 73 2 (c.1.map dT)]) := by
  refine fn_of Try.func84 rfl (Nat.le_of_ble_eq_true rfl) fun w X g => ?_
  show AWp _ _ _ ⟨[(0, .agg [.sl (c.1.map dT), .p (.int .i64 c.2)])], []⟩
  refine a_seq ?_
  refine a_region (by kernel_rfl) ?_
  refine op_n' (fun ver => j_boxa rfl) fun v1x1 => ?_
  refine op_n' (fun ver => j_alloc elt42 rfl) fun v2x2 => ?_
  refine op_nil ?_
  refine a_seq ?_
  refine a_region (by kernel_rfl) ?_
  refine op_v' (j_fldp fld42f0 rfl rfl) ?_
  refine op_v' (j_load_box leaf40 rfl rfl rfl) ?_
  refine op_n1' (fun ver => j_call1 (v := .own 5 ver) (hp1 := [(5, some (ver, .row 73 2 _))]) [] false [] ent99 (f_clone c.1 hc) ⟨.inl ⟨rfl, rfl⟩, trivial⟩ trivial rfl rfl rfl (fun h => by cases h) rfl (List.all_eq_true.1 rfl) (.inl rfl) rfl rfl) fun v5x3 => ?_
  refine op_v' (j_fldp fld42f0 rfl rfl) ?_
  refine op_s' (j_store_box leaf40 rfl rfl (Nat.le_of_ble_eq_true rfl) (evo rfl) rfl) ?_
  refine op_nil ?_
  refine a_seq ?_
  refine a_region (by kernel_rfl) ?_
  refine op_v' (j_loada_box (ys := [.own 5 v5x3, .p _]) agg42 rfl rfl rfl (Nat.le_of_ble_eq_true rfl)) ?_
  refine op_s' (j_storea_box0 agg42 rfl rfl rfl rfl rfl rfl) ?_
  refine op_nil ?_
  refine a_ret ?_
  exact ⟨[.agg [.own 5 v5x3, .p _]], .agg [.own 0 0, .p _], [], [.row 73 2 _], [(5, v5x3)], ⟨⟨_, _, _, _, rfl, rfl, agg42, rfl⟩, trivial⟩, rfl, rfl, ⟨⟨rfl, rfl⟩, trivial⟩, rfl, rfl, ⟨rfl, rfl, rfl⟩⟩


theorem f_copy (c : Con) (hc : c.1.length ≤ 1048576) : Fn Try.prog 83 [.agg [.sl (c.1.map dT), .p (.int .i64 c.2)]] [] (fun rr ii nn => rr = .agg [.own 0 0, .p (.int .i64 c.2)] ∧ ii = [] ∧ nn = [.row 73 2 (c.1.map dT)]) := by
  refine fn_of Try.func83 rfl (Nat.le_of_ble_eq_true rfl) fun w X g => ?_
  show AWp _ _ _ ⟨[(0, .agg [.sl (c.1.map dT), .p (.int .i64 c.2)])], []⟩
  refine a_seq ?_
  refine a_region (by kernel_rfl) ?_
  refine op_n' (fun ver => j_boxa rfl) fun v1x1 => ?_
  refine op_n' (fun ver => j_alloc elt42 rfl) fun v2x2 => ?_
  refine op_nil ?_
  refine a_seq ?_
  refine a_draw mixed (by kernel_rfl) (by kernel_rfl) fun vf => ?_
  refine d_n' (fun ver => j_buildSlice (parts := []) (es := []) slt40 elt73 rfl rfl (by decide) (by decide) rfl rfl (by simp) rfl) ?_
  refine d_v' (j_fldp fld42f0 rfl rfl) ?_
  refine d_v' (j_load_box leaf40 rfl rfl rfl) ?_
  refine d_n1' (fun ver => j_append_slN (by decide) slt40 elt73 rfl rfl rfl rfl (by intro x hx; obtain ⟨t, _, rfl⟩ := List.mem_map.1 hx; rfl) (all_lf_dT _) (by rw [maxLen_eq]; first | omega | (simp only [List.length_map, List.length_take, Int.toNat_natCast, List.length_map, List.length_nil]; omega)) (by first | omega | (simp only [List.length_map, List.length_take, Int.toNat_natCast, List.length_map, List.length_nil]; omega))) ?_
  refine d_v' (j_fldp fld42f1 rfl rfl) ?_
  refine d_v' (j_load_box leaf3 rfl rfl rfl) ?_
  refine d_v' (j_build (parts := [(0, .tmp 6), (1, .tmp 8)]) str42 elt42 rfl rfl) ?_
  refine d_s' (j_storea_box0 agg42 rfl rfl rfl rfl rfl rfl) ?_
  refine d_nil (by kernel_rfl) (by kernel_rfl) ?_
  refine a_ret ?_
  exact ⟨[.agg [.own 6 (vf 6), .p _]], .agg [.own 0 0, .p _], [], [.row 73 2 _], [(6, (vf 6))], ⟨⟨_, _, _, _, rfl, rfl, agg42, rfl⟩, trivial⟩, rfl, rfl, ⟨⟨rfl, rfl⟩, trivial⟩, rfl, rfl, ⟨rfl, rfl, rfl⟩⟩


theorem f_tbImpl (c : Con) (hsz : c.1.length ≤ 1048576) : Fn Try.prog 54 [.agg [.sl (c.1.map dT), .p (.int .i64 c.2)]] [] (fun rr ii nn => rr = .tup [.agg [.own 0 0, .p (.int .i64 (tbC c).2)], .p (.bool (cOk c))] ∧ ii = [] ∧ nn = [.row 73 2 ((tbC c).1.map dT)]) := by
  refine fn_of Try.func54 rfl (Nat.le_of_ble_eq_true rfl) fun w X g => ?_
  show AWp _ _ _ ⟨[(0, .agg [.sl (c.1.map dT), .p (.int .i64 c.2)])], []⟩
  refine a_seq ?_
  refine a_region (by kernel_rfl) ?_
  refine op_n' (fun ver => j_boxa rfl) fun v1x1 => ?_
  refine op_n' (fun ver => j_alloc elt42 rfl) fun v2x2 => ?_
  refine op_v' (j_assign (evo rfl)) ?_
  refine op_nil ?_
  refine a_seq ?_
  refine a_seq ?_
  refine a_region (by kernel_rfl) ?_
  refine op_v' (j_loada_box (ys := [.sl _, .p _]) agg42 rfl rfl rfl (Nat.le_of_ble_eq_true rfl)) ?_
  refine op_v0' (j_call0 (v := .p _) (hp1 := []) [] false [] ent35 (f_cvImpl _) ⟨.inl ⟨rfl, rfl⟩, trivial⟩ trivial rfl rfl (fun h => by cases h) rfl (fun _ h => by cases h) (.inl rfl) rfl rfl) ?_
  refine op_v' (j_not rfl) ?_
  refine op_nil ?_
  refine a_cond rfl (fun h1 => ?_) (fun h1 => ?_)
  ·
    have h1r := h1
    try simp only [Bool.not_eq_true', Bool.not_eq_false', Bool.not_not, bne_iff_ne, bne_eq_false_iff_eq, beq_eq_false_iff_ne, beq_iff_eq, ne_eq, decide_eq_true_eq, decide_eq_false_iff_not, Classical.not_not, List.length_map, List.length_take, Int.toNat_natCast, cntRow, rowI_length, List.length_map] at h1
    refine a_seq ?_
    refine a_region (by kernel_rfl) ?_
    refine op_v' (j_build (parts := []) str42 elt42 rfl rfl) ?_
    refine op_s' (j_storea_box0 agg42 rfl rfl rfl rfl rfl rfl) ?_
    refine op_v' (j_assign (evo rfl)) ?_
    refine op_nil ?_
    refine a_adopt_box' 0 1002 73 2 (by decide) (id := 2) rfl rfl fun v1002x3 => ?_
    refine a_ret ?_
    exact ⟨[.agg [.own 1002 v1002x3, .p _], .p _], .tup [.agg [.own 0 0, .p _], .p _], [], [.row 73 2 _], [(1002, v1002x3)], ⟨⟨_, _, _, _, rfl, rfl, agg42, rfl⟩, rfl, trivial⟩, rfl, rfl, ⟨⟨rfl, rfl⟩, trivial⟩, rfl, rfl, ⟨by rw [tbC_bad h1, h1], rfl, by rw [tbC_bad h1]; rfl⟩⟩
  ·
    have h1r := h1
    try simp only [Bool.not_eq_true', Bool.not_eq_false', Bool.not_not, bne_iff_ne, bne_eq_false_iff_eq, beq_eq_false_iff_ne, beq_iff_eq, ne_eq, decide_eq_true_eq, decide_eq_false_iff_not, Classical.not_not, List.length_map, List.length_take, Int.toNat_natCast, cntRow, rowI_length, List.length_map] at h1
    have hcb := cOk_bound h1
    have hln := totN_le h1
    refine a_skip ?_
    refine a_seq ?_
    refine a_region (by kernel_rfl) ?_
    refine op_v' (j_loada_box (ys := [.sl _, .p _]) agg42 rfl rfl rfl (Nat.le_of_ble_eq_true rfl)) ?_
    refine op_n1' (fun ver => j_call1 (v := .agg [.own 11 ver, .p _]) (hp1 := [(11, some (ver, .row 73 2 _))]) [] false [] ent84 (f_own c hsz) ⟨.inl ⟨rfl, rfl⟩, trivial⟩ trivial rfl rfl rfl (fun h => by cases h) rfl (List.all_eq_true.1 rfl) (.inl rfl) rfl rfl) fun v11x4 => ?_
    refine op_n' (fun ver => j_alloc elt42 rfl) fun v4x5 => ?_
    refine op_s' (j_storea_box0 agg42 rfl rfl rfl rfl rfl rfl) ?_
    refine op_nil ?_
    refine a_seq ?_
    refine a_region (by kernel_rfl) ?_
    refine op_v' (j_loada_box (ys := [.sl _, .p _]) agg42 rfl rfl rfl (Nat.le_of_ble_eq_true rfl)) ?_
    refine op_n1' (fun ver => j_call1 (v := .own 13 ver) (hp1 := [(13, some (ver, .row 3 1 _))]) [] false [] ent80 (f_sums c h1) ⟨.inl ⟨rfl, rfl⟩, trivial⟩ trivial rfl rfl rfl (fun h => by cases h) rfl (List.all_eq_true.1 rfl) (.inl rfl) rfl rfl) fun v13x6 => ?_
    refine op_v' (j_assign (evo rfl)) ?_
    refine op_nil ?_
    refine a_seq ?_
    refine a_block ?_
    refine a_loopF' (ι := Nat) (fun b => b ≤ 20001 ∧ raise (fun s => cnt c.1 4096 s) (totN c.1 + 1) (totN c.1 + 1) b = tbB c) (fun b r => r) (fun b r => (4, some (v4x5, .box 42 [.own 11 v11x4, .p (.int .i64 (b : Nat))])) :: r) (fun b => (totN c.1 + 1) - b) (fun _ _ => rfl) (fun _ _ => rfl) c.2.toNat ⟨by omega, rfl⟩ ⟨⟨rfl, rfl⟩, trivial, ⟨box2Eq (by omega), trivial⟩, ⟨rfl, rfl⟩, ⟨rfl, rfl⟩⟩ ?_
    intro b hpre
    refine a_seq ?_
    refine a_seq ?_
    refine a_region (by kernel_rfl) ?_
    refine op_v' (j_fldp fld42f1 rfl rfl) ?_
    refine op_v' (j_load_box leaf3 rfl rfl rfl) ?_
    refine op_v' (j_move (evo rfl)) ?_
    refine op_v' (j_len_own_map Try.underlying46 rfl rfl) ?_
    refine op_v' (j_lt rfl rfl) ?_
    refine op_v' (j_move (evo rfl)) ?_
    refine op_split' 19 rfl (fun h2 => ?_) (fun h2 => ?_)
    ·
      have h2r := h2
      try simp only [Bool.not_eq_true', Bool.not_eq_false', Bool.not_not, bne_iff_ne, bne_eq_false_iff_eq, beq_eq_false_iff_ne, beq_iff_eq, ne_eq, decide_eq_true_eq, decide_eq_false_iff_not, Classical.not_not, List.length_map, List.length_take, Int.toNat_natCast, cntRow, rowI_length, List.length_map] at h2
      have hat : (cntRow c.1 4096).getD b default = ((cnt c.1 4096 b : Nat) : Int) := by unfold cntRow; exact rowI_at (by omega)
      refine op_v' (j_want rfl rfl h2r (j_move (evo rfl))) ?_
      refine op_v' (j_want rfl rfl h2r (j_fldp fld42f1 rfl rfl)) ?_
      refine op_v' (j_want rfl rfl h2r (j_load_box leaf3 rfl rfl rfl)) ?_
      refine op_v' (j_want rfl rfl h2r (j_elem_ownN (n := b) slt46 rfl rfl rfl (by first | omega | (simp only [List.length_map, List.length_take, Int.toNat_natCast, cntRow, rowI_length, List.length_map]; omega)) (by first | omega | (simp only [List.length_map, List.length_take, Int.toNat_natCast, cntRow, rowI_length, List.length_map]; omega)))) ?_
      refine op_v' (j_want rfl rfl h2r (j_load_pel leaf3 rfl rfl (at_map (by first | omega | (simp only [List.length_map, List.length_take, Int.toNat_natCast, cntRow, rowI_length, List.length_map]; omega))) rfl)) ?_
      refine op_v' (j_want rfl rfl h2r (j_eq rfl rfl)) ?_
      refine op_v' (j_pick_t rfl h2r (evo rfl)) ?_
      refine op_nil ?_
      refine a_cond rfl (fun h3 => ?_) (fun h3 => ?_)
      ·
        have h3r := h3
        try simp only [Bool.not_eq_true', Bool.not_eq_false', Bool.not_not, bne_iff_ne, bne_eq_false_iff_eq, beq_eq_false_iff_ne, beq_iff_eq, ne_eq, decide_eq_true_eq, decide_eq_false_iff_not, Classical.not_not, List.length_map, List.length_take, Int.toNat_natCast, cntRow, rowI_length, List.length_map] at h3
        have hz : cnt c.1 4096 (b : Int) = 0 := by have := of_decide_eq_true h3r; rw [hat] at this; omega
        refine a_skip ?_
        refine a_block ?_
        refine a_region (by kernel_rfl) ?_
        refine op_v' (j_fldp fld42f1 rfl rfl) ?_
        refine op_v' (j_load_box leaf3 rfl rfl rfl) ?_
        refine op_v' (j_add rfl rfl (by first | omega | (simp only [List.length_map, List.length_take, Int.toNat_natCast, cntRow, rowI_length, List.length_map]; omega)) (by first | omega | (simp only [List.length_map, List.length_take, Int.toNat_natCast, cntRow, rowI_length, List.length_map]; omega))) ?_
        refine op_v' (j_fldp fld42f1 rfl rfl) ?_
        refine op_s' (j_store_box leaf3 rfl rfl (Nat.le_of_ble_eq_true rfl) (evo rfl) rfl) ?_
        refine op_nil ?_
        exact ⟨b + 1, ⟨by omega, (raise_step (f := fun s => cnt c.1 4096 s) (N := totN c.1 + 1) (k := totN c.1 + 1) (b := b) (by omega) ⟨by omega, hz⟩).symm.trans hpre.2⟩, ⟨⟨rfl, rfl⟩, trivial, ⟨rfl, trivial⟩, ⟨rfl, rfl⟩, ⟨rfl, rfl⟩⟩, (by first | omega | (simp only [List.length_map, List.length_take, Int.toNat_natCast, cntRow, rowI_length, List.length_map]; omega))⟩
      ·
        have h3r := h3
        try simp only [Bool.not_eq_true', Bool.not_eq_false', Bool.not_not, bne_iff_ne, bne_eq_false_iff_eq, beq_eq_false_iff_ne, beq_iff_eq, ne_eq, decide_eq_true_eq, decide_eq_false_iff_not, Classical.not_not, List.length_map, List.length_take, Int.toNat_natCast, cntRow, rowI_length, List.length_map] at h3
        have hz : cnt c.1 4096 (b : Int) ≠ 0 := by have := of_decide_eq_false h3r; rw [hat] at this; omega
        refine a_exit ?_
        refine a_seq ?_
        refine a_region (by kernel_rfl) ?_
        refine op_v' (j_loada_box (ys := [.own 11 v11x4, .p _]) agg42 rfl rfl rfl (Nat.le_of_ble_eq_true rfl)) ?_
        refine op_s' (j_storea_box0 agg42 rfl rfl rfl rfl rfl rfl) ?_
        refine op_v' (j_assign (evo rfl)) ?_
        refine op_nil ?_
        refine a_ret ?_
        exact ⟨[.agg [.own 11 v11x4, .p _], .p _], .tup [.agg [.own 0 0, .p _], .p _], [], [.row 73 2 _], [(11, v11x4)], ⟨⟨_, _, _, _, rfl, rfl, agg42, rfl⟩, rfl, trivial⟩, rfl, rfl, ⟨⟨rfl, rfl⟩, trivial⟩, rfl, rfl, ⟨by rw [tbC_ok h1, h1, ← hpre.2, raise_stop (by rintro ⟨p1, p2⟩; first | exact hz p2 | (have := of_decide_eq_false h2; simp only [cntRow, rowI_length] at this; omega) | (simp only [cntRow, rowI_length] at h2; omega) | (have := of_decide_eq_false h2r; simp only [cntRow, rowI_length] at this; omega))], rfl, by rw [tbC_ok h1]⟩⟩
    ·
      have h2r := h2
      try simp only [Bool.not_eq_true', Bool.not_eq_false', Bool.not_not, bne_iff_ne, bne_eq_false_iff_eq, beq_eq_false_iff_ne, beq_iff_eq, ne_eq, decide_eq_true_eq, decide_eq_false_iff_not, Classical.not_not, List.length_map, List.length_take, Int.toNat_natCast, cntRow, rowI_length, List.length_map] at h2
      refine op_v' (j_unwantV rfl rfl h2r) ?_
      refine op_v' (j_unwantV rfl rfl h2r) ?_
      refine op_v' (j_unwantV rfl rfl h2r) ?_
      refine op_v' (j_unwantV rfl rfl h2r) ?_
      refine op_v' (j_unwantV rfl rfl h2r) ?_
      refine op_v' (j_unwantV rfl rfl h2r) ?_
      refine op_v' (j_pick_f rfl h2r (evo rfl)) ?_
      refine op_nil ?_
      refine a_ff rfl ?_
      refine a_exit ?_
      refine a_seq ?_
      refine a_region (by kernel_rfl) ?_
      refine op_v' (j_loada_box (ys := [.own 11 v11x4, .p _]) agg42 rfl rfl rfl (Nat.le_of_ble_eq_true rfl)) ?_
      refine op_s' (j_storea_box0 agg42 rfl rfl rfl rfl rfl rfl) ?_
      refine op_v' (j_assign (evo rfl)) ?_
      refine op_nil ?_
      refine a_ret ?_
      exact ⟨[.agg [.own 11 v11x4, .p _], .p _], .tup [.agg [.own 0 0, .p _], .p _], [], [.row 73 2 _], [(11, v11x4)], ⟨⟨_, _, _, _, rfl, rfl, agg42, rfl⟩, rfl, trivial⟩, rfl, rfl, ⟨⟨rfl, rfl⟩, trivial⟩, rfl, rfl, ⟨by rw [tbC_ok h1, h1, ← hpre.2, raise_stop (by rintro ⟨p1, p2⟩; first | exact hz p2 | (have := of_decide_eq_false h2; simp only [cntRow, rowI_length] at this; omega) | (simp only [cntRow, rowI_length] at h2; omega) | (have := of_decide_eq_false h2r; simp only [cntRow, rowI_length] at this; omega))], rfl, by rw [tbC_ok h1]⟩⟩


theorem f_tbSpec (c : Con) (hsz : c.1.length ≤ 1048576) : Fn Try.prog 53 [.agg [.sl (c.1.map dT), .p (.int .i64 c.2)]] [] (fun rr ii nn => rr = .tup [.agg [.own 0 0, .p (.int .i64 (tbC c).2)], .p (.bool (cOk c))] ∧ ii = [] ∧ nn = [.row 73 2 ((tbC c).1.map dT)]) := by
  refine fn_of Try.func53 rfl (Nat.le_of_ble_eq_true rfl) fun w X g => ?_
  show AWp _ _ _ ⟨[(0, .agg [.sl (c.1.map dT), .p (.int .i64 c.2)])], []⟩
  refine a_seq ?_
  refine a_region (by kernel_rfl) ?_
  refine op_n' (fun ver => j_boxa rfl) fun v1x1 => ?_
  refine op_n' (fun ver => j_alloc elt42 rfl) fun v2x2 => ?_
  refine op_v' (j_assign (evo rfl)) ?_
  refine op_nil ?_
  refine a_seq ?_
  refine a_seq ?_
  refine a_region (by kernel_rfl) ?_
  refine op_v' (j_loada_box (ys := [.sl _, .p _]) agg42 rfl rfl rfl (Nat.le_of_ble_eq_true rfl)) ?_
  refine op_v0' (j_call0 (v := .p _) (hp1 := []) [] false [] ent59 (f_cvSpec _) ⟨.inl ⟨rfl, rfl⟩, trivial⟩ trivial rfl rfl (fun h => by cases h) rfl (fun _ h => by cases h) (.inl rfl) rfl rfl) ?_
  refine op_v' (j_not rfl) ?_
  refine op_nil ?_
  refine a_cond rfl (fun h1 => ?_) (fun h1 => ?_)
  ·
    have h1r := h1
    try simp only [Bool.not_eq_true', Bool.not_eq_false', Bool.not_not, bne_iff_ne, bne_eq_false_iff_eq, beq_eq_false_iff_ne, beq_iff_eq, ne_eq, decide_eq_true_eq, decide_eq_false_iff_not, Classical.not_not, List.length_map, List.length_take, Int.toNat_natCast, cntRow, rowI_length, List.length_map] at h1
    refine a_seq ?_
    refine a_region (by kernel_rfl) ?_
    refine op_v' (j_build (parts := []) str42 elt42 rfl rfl) ?_
    refine op_s' (j_storea_box0 agg42 rfl rfl rfl rfl rfl rfl) ?_
    refine op_v' (j_assign (evo rfl)) ?_
    refine op_nil ?_
    refine a_adopt_box' 0 1002 73 2 (by decide) (id := 2) rfl rfl fun v1002x3 => ?_
    refine a_ret ?_
    exact ⟨[.agg [.own 1002 v1002x3, .p _], .p _], .tup [.agg [.own 0 0, .p _], .p _], [], [.row 73 2 _], [(1002, v1002x3)], ⟨⟨_, _, _, _, rfl, rfl, agg42, rfl⟩, rfl, trivial⟩, rfl, rfl, ⟨⟨rfl, rfl⟩, trivial⟩, rfl, rfl, ⟨by rw [tbC_bad h1, h1], rfl, by rw [tbC_bad h1]; rfl⟩⟩
  ·
    have h1r := h1
    try simp only [Bool.not_eq_true', Bool.not_eq_false', Bool.not_not, bne_iff_ne, bne_eq_false_iff_eq, beq_eq_false_iff_ne, beq_iff_eq, ne_eq, decide_eq_true_eq, decide_eq_false_iff_not, Classical.not_not, List.length_map, List.length_take, Int.toNat_natCast, cntRow, rowI_length, List.length_map] at h1
    have hcb := cOk_bound h1
    have hln := totN_le h1
    refine a_skip ?_
    refine a_seq ?_
    refine a_region (by kernel_rfl) ?_
    refine op_v' (j_loada_box (ys := [.sl _, .p _]) agg42 rfl rfl rfl (Nat.le_of_ble_eq_true rfl)) ?_
    refine op_n1' (fun ver => j_call1 (v := .agg [.own 11 ver, .p _]) (hp1 := [(11, some (ver, .row 73 2 _))]) [] false [] ent83 (f_copy c hsz) ⟨.inl ⟨rfl, rfl⟩, trivial⟩ trivial rfl rfl rfl (fun h => by cases h) rfl (List.all_eq_true.1 rfl) (.inl rfl) rfl rfl) fun v11x4 => ?_
    refine op_n' (fun ver => j_alloc elt42 rfl) fun v4x5 => ?_
    refine op_s' (j_storea_box0 agg42 rfl rfl rfl rfl rfl rfl) ?_
    refine op_nil ?_
    refine a_seq ?_
    refine a_region (by kernel_rfl) ?_
    refine op_v' (j_loada_box (ys := [.sl _, .p _]) agg42 rfl rfl rfl (Nat.le_of_ble_eq_true rfl)) ?_
    refine op_n1' (fun ver => j_call1 (v := .own 13 ver) (hp1 := [(13, some (ver, .row 3 1 _))]) [] false [] ent79 (f_table c h1) ⟨.inl ⟨rfl, rfl⟩, trivial⟩ trivial rfl rfl rfl (fun h => by cases h) rfl (List.all_eq_true.1 rfl) (.inl rfl) rfl rfl) fun v13x6 => ?_
    refine op_v' (j_assign (evo rfl)) ?_
    refine op_nil ?_
    refine a_row 13 (es' := (cntRow c.1 4096).map dI) rfl (by rw [table_eq h1]) ?_
    refine a_seq ?_
    refine a_block ?_
    refine a_loopF' (ι := Nat) (fun b => b ≤ 20001 ∧ raise (fun s => cnt c.1 4096 s) (totN c.1 + 1) (totN c.1 + 1) b = tbB c) (fun b r => r) (fun b r => (4, some (v4x5, .box 42 [.own 11 v11x4, .p (.int .i64 (b : Nat))])) :: r) (fun b => (totN c.1 + 1) - b) (fun _ _ => rfl) (fun _ _ => rfl) c.2.toNat ⟨by omega, rfl⟩ ⟨⟨rfl, rfl⟩, trivial, ⟨box2Eq (by omega), trivial⟩, ⟨rfl, rfl⟩, ⟨rfl, rfl⟩⟩ ?_
    intro b hpre
    refine a_seq ?_
    refine a_seq ?_
    refine a_region (by kernel_rfl) ?_
    refine op_v' (j_fldp fld42f1 rfl rfl) ?_
    refine op_v' (j_load_box leaf3 rfl rfl rfl) ?_
    refine op_v' (j_move (evo rfl)) ?_
    refine op_v' (j_len_own_map Try.underlying46 rfl rfl) ?_
    refine op_v' (j_lt rfl rfl) ?_
    refine op_v' (j_move (evo rfl)) ?_
    refine op_split' 19 rfl (fun h2 => ?_) (fun h2 => ?_)
    ·
      have h2r := h2
      try simp only [Bool.not_eq_true', Bool.not_eq_false', Bool.not_not, bne_iff_ne, bne_eq_false_iff_eq, beq_eq_false_iff_ne, beq_iff_eq, ne_eq, decide_eq_true_eq, decide_eq_false_iff_not, Classical.not_not, List.length_map, List.length_take, Int.toNat_natCast, cntRow, rowI_length, List.length_map] at h2
      have hat : (cntRow c.1 4096).getD b default = ((cnt c.1 4096 b : Nat) : Int) := by unfold cntRow; exact rowI_at (by omega)
      refine op_v' (j_want rfl rfl h2r (j_move (evo rfl))) ?_
      refine op_v' (j_want rfl rfl h2r (j_fldp fld42f1 rfl rfl)) ?_
      refine op_v' (j_want rfl rfl h2r (j_load_box leaf3 rfl rfl rfl)) ?_
      refine op_v' (j_want rfl rfl h2r (j_elem_ownN (n := b) slt46 rfl rfl rfl (by first | omega | (simp only [List.length_map, List.length_take, Int.toNat_natCast, cntRow, rowI_length, List.length_map]; omega)) (by first | omega | (simp only [List.length_map, List.length_take, Int.toNat_natCast, cntRow, rowI_length, List.length_map]; omega)))) ?_
      refine op_v' (j_want rfl rfl h2r (j_load_pel leaf3 rfl rfl (at_map (by first | omega | (simp only [List.length_map, List.length_take, Int.toNat_natCast, cntRow, rowI_length, List.length_map]; omega))) rfl)) ?_
      refine op_v' (j_want rfl rfl h2r (j_eq rfl rfl)) ?_
      refine op_v' (j_pick_t rfl h2r (evo rfl)) ?_
      refine op_nil ?_
      refine a_cond rfl (fun h3 => ?_) (fun h3 => ?_)
      ·
        have h3r := h3
        try simp only [Bool.not_eq_true', Bool.not_eq_false', Bool.not_not, bne_iff_ne, bne_eq_false_iff_eq, beq_eq_false_iff_ne, beq_iff_eq, ne_eq, decide_eq_true_eq, decide_eq_false_iff_not, Classical.not_not, List.length_map, List.length_take, Int.toNat_natCast, cntRow, rowI_length, List.length_map] at h3
        have hz : cnt c.1 4096 (b : Int) = 0 := by have := of_decide_eq_true h3r; rw [hat] at this; omega
        refine a_skip ?_
        refine a_block ?_
        refine a_region (by kernel_rfl) ?_
        refine op_v' (j_fldp fld42f1 rfl rfl) ?_
        refine op_v' (j_load_box leaf3 rfl rfl rfl) ?_
        refine op_v' (j_add rfl rfl (by first | omega | (simp only [List.length_map, List.length_take, Int.toNat_natCast, cntRow, rowI_length, List.length_map]; omega)) (by first | omega | (simp only [List.length_map, List.length_take, Int.toNat_natCast, cntRow, rowI_length, List.length_map]; omega))) ?_
        refine op_v' (j_fldp fld42f1 rfl rfl) ?_
        refine op_s' (j_store_box leaf3 rfl rfl (Nat.le_of_ble_eq_true rfl) (evo rfl) rfl) ?_
        refine op_nil ?_
        exact ⟨b + 1, ⟨by omega, (raise_step (f := fun s => cnt c.1 4096 s) (N := totN c.1 + 1) (k := totN c.1 + 1) (b := b) (by omega) ⟨by omega, hz⟩).symm.trans hpre.2⟩, ⟨⟨rfl, rfl⟩, trivial, ⟨rfl, trivial⟩, ⟨rfl, rfl⟩, ⟨rfl, rfl⟩⟩, (by first | omega | (simp only [List.length_map, List.length_take, Int.toNat_natCast, cntRow, rowI_length, List.length_map]; omega))⟩
      ·
        have h3r := h3
        try simp only [Bool.not_eq_true', Bool.not_eq_false', Bool.not_not, bne_iff_ne, bne_eq_false_iff_eq, beq_eq_false_iff_ne, beq_iff_eq, ne_eq, decide_eq_true_eq, decide_eq_false_iff_not, Classical.not_not, List.length_map, List.length_take, Int.toNat_natCast, cntRow, rowI_length, List.length_map] at h3
        have hz : cnt c.1 4096 (b : Int) ≠ 0 := by have := of_decide_eq_false h3r; rw [hat] at this; omega
        refine a_exit ?_
        refine a_seq ?_
        refine a_region (by kernel_rfl) ?_
        refine op_v' (j_loada_box (ys := [.own 11 v11x4, .p _]) agg42 rfl rfl rfl (Nat.le_of_ble_eq_true rfl)) ?_
        refine op_s' (j_storea_box0 agg42 rfl rfl rfl rfl rfl rfl) ?_
        refine op_v' (j_assign (evo rfl)) ?_
        refine op_nil ?_
        refine a_ret ?_
        exact ⟨[.agg [.own 11 v11x4, .p _], .p _], .tup [.agg [.own 0 0, .p _], .p _], [], [.row 73 2 _], [(11, v11x4)], ⟨⟨_, _, _, _, rfl, rfl, agg42, rfl⟩, rfl, trivial⟩, rfl, rfl, ⟨⟨rfl, rfl⟩, trivial⟩, rfl, rfl, ⟨by rw [tbC_ok h1, h1, ← hpre.2, raise_stop (by rintro ⟨p1, p2⟩; first | exact hz p2 | (have := of_decide_eq_false h2; simp only [cntRow, rowI_length] at this; omega) | (simp only [cntRow, rowI_length] at h2; omega) | (have := of_decide_eq_false h2r; simp only [cntRow, rowI_length] at this; omega))], rfl, by rw [tbC_ok h1]⟩⟩
    ·
      have h2r := h2
      try simp only [Bool.not_eq_true', Bool.not_eq_false', Bool.not_not, bne_iff_ne, bne_eq_false_iff_eq, beq_eq_false_iff_ne, beq_iff_eq, ne_eq, decide_eq_true_eq, decide_eq_false_iff_not, Classical.not_not, List.length_map, List.length_take, Int.toNat_natCast, cntRow, rowI_length, List.length_map] at h2
      refine op_v' (j_unwantV rfl rfl h2r) ?_
      refine op_v' (j_unwantV rfl rfl h2r) ?_
      refine op_v' (j_unwantV rfl rfl h2r) ?_
      refine op_v' (j_unwantV rfl rfl h2r) ?_
      refine op_v' (j_unwantV rfl rfl h2r) ?_
      refine op_v' (j_unwantV rfl rfl h2r) ?_
      refine op_v' (j_pick_f rfl h2r (evo rfl)) ?_
      refine op_nil ?_
      refine a_ff rfl ?_
      refine a_exit ?_
      refine a_seq ?_
      refine a_region (by kernel_rfl) ?_
      refine op_v' (j_loada_box (ys := [.own 11 v11x4, .p _]) agg42 rfl rfl rfl (Nat.le_of_ble_eq_true rfl)) ?_
      refine op_s' (j_storea_box0 agg42 rfl rfl rfl rfl rfl rfl) ?_
      refine op_v' (j_assign (evo rfl)) ?_
      refine op_nil ?_
      refine a_ret ?_
      exact ⟨[.agg [.own 11 v11x4, .p _], .p _], .tup [.agg [.own 0 0, .p _], .p _], [], [.row 73 2 _], [(11, v11x4)], ⟨⟨_, _, _, _, rfl, rfl, agg42, rfl⟩, rfl, trivial⟩, rfl, rfl, ⟨⟨rfl, rfl⟩, trivial⟩, rfl, rfl, ⟨by rw [tbC_ok h1, h1, ← hpre.2, raise_stop (by rintro ⟨p1, p2⟩; first | exact hz p2 | (have := of_decide_eq_false h2; simp only [cntRow, rowI_length] at this; omega) | (simp only [cntRow, rowI_length] at h2; omega) | (have := of_decide_eq_false h2r; simp only [cntRow, rowI_length] at this; omega))], rfl, by rw [tbC_ok h1]⟩⟩


theorem f_law14 (c : Con) : Fn Try.prog 14 [.agg [.sl (c.1.map dT), .p (.int .i64 c.2)]] [] (fun rr ii nn => rr = .p (.bool true) ∧ ii = [] ∧ nn = []) := by
  refine fn_of Try.func14 rfl (Nat.le_of_ble_eq_true rfl) fun w X g => ?_
  show AWp _ _ _ ⟨[(0, .agg [.sl (c.1.map dT), .p (.int .i64 c.2)])], []⟩
  refine a_seq ?_
  refine a_region (by kernel_rfl) ?_
  refine op_n' (fun ver => j_boxa rfl) fun v1x1 => ?_
  refine op_v' (j_assign (evo rfl)) ?_
  refine op_nil ?_
  refine a_seq ?_
  refine a_region (by kernel_rfl) ?_
  refine op_v' (j_assign (evo rfl)) ?_
  refine op_nil ?_
  refine a_seq ?_
  refine a_region (by kernel_rfl) ?_
  refine op_v' (j_loada_box (ys := [.sl _, .p _]) agg37 rfl rfl rfl (Nat.le_of_ble_eq_true rfl)) ?_
  refine op_v' (j_move (evo rfl)) ?_
  refine op_v0' (j_call0 (v := .p _) (hp1 := []) [] false [] ent26 (f_szCon c _ (by omega)) ⟨.inl ⟨rfl, rfl⟩, .inl ⟨rfl, rfl⟩, trivial⟩ trivial rfl rfl (fun h => by cases h) rfl (fun _ h => by cases h) (.inl rfl) rfl rfl) ?_
  refine op_v' (j_assign (evo rfl)) ?_
  refine op_nil ?_
  refine a_seq ?_
  refine a_seq ?_
  refine a_region (by kernel_rfl) ?_
  refine op_v' (j_move (evo rfl)) ?_
  refine op_v' (j_lt rfl rfl) ?_
  refine op_nil ?_
  refine a_cond rfl (fun h1 => ?_) (fun h1 => ?_)
  ·
    have h1r := h1
    try simp only [Bool.not_eq_true', Bool.not_eq_false', Bool.not_not, bne_iff_ne, bne_eq_false_iff_eq, beq_eq_false_iff_ne, beq_iff_eq, ne_eq, decide_eq_true_eq, decide_eq_false_iff_not, Classical.not_not, List.length_map, List.length_take, Int.toNat_natCast] at h1
    refine a_seq ?_
    refine a_region (by kernel_rfl) ?_
    refine op_v' (j_assign (evo rfl)) ?_
    refine op_nil ?_
    refine a_ret ?_
    exact ⟨[.p _], .p _, [], [], [], ⟨rfl, trivial⟩, rfl, rfl, trivial, rfl, rfl, ⟨rfl, rfl, rfl⟩⟩
  ·
    have h1r := h1
    try simp only [Bool.not_eq_true', Bool.not_eq_false', Bool.not_not, bne_iff_ne, bne_eq_false_iff_eq, beq_eq_false_iff_ne, beq_iff_eq, ne_eq, decide_eq_true_eq, decide_eq_false_iff_not, Classical.not_not, List.length_map, List.length_take, Int.toNat_natCast] at h1
    have hsz := szv_le h1
    have hcl : 1 + 2 * (tbC c).1.length ≤ 4611686018427387904 := by have := tbC_len (c := c); omega
    refine a_skip ?_
    refine a_seq ?_
    refine a_region (by kernel_rfl) ?_
    refine op_v' (j_loada_box (ys := [.sl _, .p _]) agg37 rfl rfl rfl (Nat.le_of_ble_eq_true rfl)) ?_
    refine op_n1' (fun ver => j_call1 (v := .agg [.own 21 ver, .p _]) (hp1 := [(21, some (ver, .row 73 2 _))]) [] false [] ent28 (f_toCon c hsz) ⟨.inl ⟨rfl, rfl⟩, trivial⟩ trivial rfl rfl rfl (fun h => by cases h) rfl (List.all_eq_true.1 rfl) (.inl rfl) rfl rfl) fun v21x2 => ?_
    refine op_n1' (fun ver => j_call1 (v := .tup [.agg [.own 22 ver, .p _], .p _]) (hp1 := [(22, some (ver, .row 73 2 _))]) [] true [21] ent53 (f_tbSpec c hsz) ⟨.inr ⟨rfl, view_agg rfl (view_cons (view_own rfl rfl) (view_cons rfl rfl)), rfl⟩, trivial⟩ trivial rfl rfl rfl (fun _ => rfl) rfl (List.all_eq_true.1 rfl) (.inr ⟨rfl, by first | exact pl_new1 (fun _ => rfl) | (simp [plO, plV, plV.plL]; done)⟩) rfl rfl) fun v22x3 => ?_
    refine op_v' (j_move (evo rfl)) ?_
    refine op_v' (j_extract rfl rfl) ?_
    refine op_v' (j_extract rfl rfl) ?_
    refine op_n' (fun ver => j_alloc elt42 rfl) fun v4x4 => ?_
    refine op_s' (j_storea_box0 agg42 rfl rfl rfl rfl rfl rfl) ?_
    refine op_v' (j_assign (evo rfl)) ?_
    refine op_nil ?_
    refine a_seq ?_
    refine a_region (by kernel_rfl) ?_
    refine op_v' (j_loada_box (ys := [.sl _, .p _]) agg37 rfl rfl rfl (Nat.le_of_ble_eq_true rfl)) ?_
    refine op_n1' (fun ver => j_call1 (v := .agg [.own 26 ver, .p _]) (hp1 := [(26, some (ver, .row 73 2 _))]) [] false [] ent28 (f_toCon c hsz) ⟨.inl ⟨rfl, rfl⟩, trivial⟩ trivial rfl rfl rfl (fun h => by cases h) rfl (List.all_eq_true.1 rfl) (.inl rfl) rfl rfl) fun v26x5 => ?_
    refine op_n' (fun ver => j_alloc elt42 rfl) fun v6x6 => ?_
    refine op_s' (j_storea_box0 agg42 rfl rfl rfl rfl rfl rfl) ?_
    refine op_nil ?_
    refine a_seq ?_
    refine a_region (by kernel_rfl) ?_
    refine op_v' (j_loada_box (ys := [.own 26 v26x5, .p _]) agg42 rfl rfl rfl (Nat.le_of_ble_eq_true rfl)) ?_
    refine op_n1' (fun ver => j_call1 (v := .tup [.agg [.own 29 ver, .p _], .p _]) (hp1 := [(29, some (ver, .row 73 2 _))]) [] true [26] ent54 (f_tbImpl c hsz) ⟨.inr ⟨rfl, view_agg rfl (view_cons (view_own rfl rfl) (view_cons rfl rfl)), rfl⟩, trivial⟩ trivial rfl rfl rfl (fun _ => rfl) rfl (List.all_eq_true.1 rfl) (.inr ⟨rfl, by first | exact pl_new1 (fun _ => rfl) | (simp [plO, plV, plV.plL]; done)⟩) rfl rfl) fun v29x7 => ?_
    refine op_v' (j_move (evo rfl)) ?_
    refine op_v' (j_extract rfl rfl) ?_
    refine op_v' (j_extract rfl rfl) ?_
    refine op_n' (fun ver => j_alloc elt42 rfl) fun v7x8 => ?_
    refine op_s' (j_storea_box0 agg42 rfl rfl rfl rfl rfl rfl) ?_
    refine op_v' (j_assign (evo rfl)) ?_
    refine op_nil ?_
    refine a_seq ?_
    refine a_seq ?_
    refine a_region (by kernel_rfl) ?_
    refine op_v' (j_loada_box (ys := [.own 29 v29x7, .p _]) agg42 rfl rfl rfl (Nat.le_of_ble_eq_true rfl)) ?_
    refine op_v' (j_loada_box (ys := [.own 22 v22x3, .p _]) agg42 rfl rfl rfl (Nat.le_of_ble_eq_true rfl)) ?_
    refine op_v0' (j_call0 (v := .p _) (hp1 := []) [] true [29, 22] ent30 (f_eqCon (tbC c) (tbC c)) ⟨.inr ⟨rfl, view_agg rfl (view_cons (view_own rfl rfl) (view_cons rfl rfl)), rfl⟩, .inr ⟨rfl, view_agg rfl (view_cons (view_own rfl rfl) (view_cons rfl rfl)), rfl⟩, trivial⟩ trivial rfl rfl (fun _ => rfl) rfl (fun _ h => by cases h) (.inr ⟨rfl, by first | exact pl_new1 (fun _ => rfl) | (simp [plO, plV, plV.plL]; done)⟩) rfl rfl) ?_
    refine op_v' (j_not rfl) ?_
    refine op_v' (j_move (evo rfl)) ?_
    refine op_split' 36 rfl (fun h2 => ?_) (fun h2 => ?_)
    ·
      have h2r := h2
      try simp only [Bool.not_eq_true', Bool.not_eq_false', Bool.not_not, bne_iff_ne, bne_eq_false_iff_eq, beq_eq_false_iff_ne, beq_iff_eq, ne_eq, decide_eq_true_eq, decide_eq_false_iff_not, Classical.not_not, List.length_map, List.length_take, Int.toNat_natCast] at h2
      exact absurd h2r (by simp)
    ·
      have h2r := h2
      try simp only [Bool.not_eq_true', Bool.not_eq_false', Bool.not_not, bne_iff_ne, bne_eq_false_iff_eq, beq_eq_false_iff_ne, beq_iff_eq, ne_eq, decide_eq_true_eq, decide_eq_false_iff_not, Classical.not_not, List.length_map, List.length_take, Int.toNat_natCast] at h2
      refine op_v' (j_want rfl rfl h2r (j_move (evo rfl))) ?_
      refine op_v' (j_want rfl rfl h2r (j_move (evo rfl))) ?_
      refine op_v' (j_want rfl rfl h2r (j_neb Try.underlying4 rfl rfl)) ?_
      refine op_v' (j_pick_f rfl h2r (evo rfl)) ?_
      refine op_nil ?_
      refine a_cond rfl (fun h3 => ?_) (fun h3 => ?_)
      ·
        have h3r := h3
        try simp only [Bool.not_eq_true', Bool.not_eq_false', Bool.not_not, bne_iff_ne, bne_eq_false_iff_eq, beq_eq_false_iff_ne, beq_iff_eq, ne_eq, decide_eq_true_eq, decide_eq_false_iff_not, Classical.not_not, List.length_map, List.length_take, Int.toNat_natCast] at h3
        exact absurd h3r (by simp)
      ·
        have h3r := h3
        try simp only [Bool.not_eq_true', Bool.not_eq_false', Bool.not_not, bne_iff_ne, bne_eq_false_iff_eq, beq_eq_false_iff_ne, beq_iff_eq, ne_eq, decide_eq_true_eq, decide_eq_false_iff_not, Classical.not_not, List.length_map, List.length_take, Int.toNat_natCast] at h3
        refine a_skip ?_
        refine a_seq ?_
        refine a_seq ?_
        refine a_draw mixed (by kernel_rfl) (by kernel_rfl) fun vf => ?_
        refine d_v' (j_loada_box (ys := [.own 26 v26x5, .p _]) agg42 rfl rfl rfl (Nat.le_of_ble_eq_true rfl)) ?_
        refine d_v' (j_loada_box (ys := [.sl _, .p _]) agg37 rfl rfl rfl (Nat.le_of_ble_eq_true rfl)) ?_
        refine d_n1' (fun ver => j_call1 (v := .agg [.own 43 ver, .p _]) (hp1 := [(43, some (ver, .row 73 2 _))]) [] false [] ent28 (f_toCon c hsz) ⟨.inl ⟨rfl, rfl⟩, trivial⟩ trivial rfl rfl rfl (fun h => by cases h) rfl (List.all_eq_true.1 rfl) (.inl rfl) rfl rfl) ?_
        refine d_v0' (j_call0 (v := .p _) (hp1 := []) [] true [26, 43] ent30 (f_eqCon c c) ⟨.inr ⟨rfl, view_agg rfl (view_cons (view_own rfl rfl) (view_cons rfl rfl)), rfl⟩, .inr ⟨rfl, view_agg rfl (view_cons (view_own rfl rfl) (view_cons rfl rfl)), rfl⟩, trivial⟩ trivial rfl rfl (fun _ => rfl) rfl (fun _ h => by cases h) (.inr ⟨rfl, by first | exact pl_new1 (fun _ => rfl) | (simp [plO, plV, plV.plL]; done)⟩) rfl rfl) ?_
        refine d_v' (j_not rfl) ?_
        refine d_nil (by kernel_rfl) (by kernel_rfl) ?_
        refine a_cond rfl (fun h4 => ?_) (fun h4 => ?_)
        ·
          have h4r := h4
          try simp only [Bool.not_eq_true', Bool.not_eq_false', Bool.not_not, bne_iff_ne, bne_eq_false_iff_eq, beq_eq_false_iff_ne, beq_iff_eq, ne_eq, decide_eq_true_eq, decide_eq_false_iff_not, Classical.not_not, List.length_map, List.length_take, Int.toNat_natCast] at h4
          exact absurd h4r (by simp)
        ·
          have h4r := h4
          try simp only [Bool.not_eq_true', Bool.not_eq_false', Bool.not_not, bne_iff_ne, bne_eq_false_iff_eq, beq_eq_false_iff_ne, beq_iff_eq, ne_eq, decide_eq_true_eq, decide_eq_false_iff_not, Classical.not_not, List.length_map, List.length_take, Int.toNat_natCast] at h4
          refine a_skip ?_
          refine a_seq ?_
          refine a_region (by kernel_rfl) ?_
          refine op_v' (j_assign (evo rfl)) ?_
          refine op_nil ?_
          refine a_seq ?_
          refine a_region (by kernel_rfl) ?_
          refine op_v' (j_loada_box (ys := [.own 26 v26x5, .p _]) agg42 rfl rfl rfl (Nat.le_of_ble_eq_true rfl)) ?_
          refine op_v' (j_move (evo rfl)) ?_
          refine op_v0' (j_call0 (v := .p _) (hp1 := [(26, some (v26x5, .row 73 2 _))]) [(26, v26x5)] false [26] ent42 (f_markCon 1 _ _ (by omega)) ⟨.inl ⟨rfl, rfl⟩, .inl ⟨rfl, rfl⟩, trivial⟩ ⟨⟨rfl, rfl⟩, trivial⟩ rfl rfl (fun h => by cases h) rfl (List.all_eq_true.1 rfl) (.inl rfl) rfl rfl) ?_
          refine op_v' (j_assign (evo rfl)) ?_
          refine op_nil ?_
          refine a_seq ?_
          refine a_seq ?_
          refine a_region (by kernel_rfl) ?_
          refine op_v' (j_move (evo rfl)) ?_
          refine op_v' (j_lt rfl rfl) ?_
          refine op_v' (j_move (evo rfl)) ?_
          refine op_split' 51 rfl (fun h5 => ?_) (fun h5 => ?_)
          ·
            have h5r := h5
            try simp only [Bool.not_eq_true', Bool.not_eq_false', Bool.not_not, bne_iff_ne, bne_eq_false_iff_eq, beq_eq_false_iff_ne, beq_iff_eq, ne_eq, decide_eq_true_eq, decide_eq_false_iff_not, Classical.not_not, List.length_map, List.length_take, Int.toNat_natCast] at h5
            exact absurd (of_decide_eq_true h5r) (by omega)
          ·
            have h5r := h5
            try simp only [Bool.not_eq_true', Bool.not_eq_false', Bool.not_not, bne_iff_ne, bne_eq_false_iff_eq, beq_eq_false_iff_ne, beq_iff_eq, ne_eq, decide_eq_true_eq, decide_eq_false_iff_not, Classical.not_not, List.length_map, List.length_take, Int.toNat_natCast] at h5
            refine op_v' (j_want rfl rfl h5r (j_loada_box (ys := [.own 29 v29x7, .p _]) agg42 rfl rfl rfl (Nat.le_of_ble_eq_true rfl))) ?_
            refine op_v' (j_want rfl rfl h5r (j_loada_box (ys := [.own 22 v22x3, .p _]) agg42 rfl rfl rfl (Nat.le_of_ble_eq_true rfl))) ?_
            refine op_v0' (j_want rfl rfl h5r (j_call0 (v := .p _) (hp1 := []) [] true [29, 22] ent30 (f_eqCon (tbC c) (tbC c)) ⟨.inr ⟨rfl, view_agg rfl (view_cons (view_own rfl rfl) (view_cons rfl rfl)), rfl⟩, .inr ⟨rfl, view_agg rfl (view_cons (view_own rfl rfl) (view_cons rfl rfl)), rfl⟩, trivial⟩ trivial rfl rfl (fun _ => rfl) rfl (fun _ h => by cases h) (.inr ⟨rfl, by first | exact pl_new1 (fun _ => rfl) | (simp [plO, plV, plV.plL]; done)⟩) rfl rfl)) ?_
            refine op_v' (j_want rfl rfl h5r (j_not rfl)) ?_
            refine op_v' (j_pick_f rfl h5r (evo rfl)) ?_
            refine op_v' (j_move (evo rfl)) ?_
            refine op_split' 57 rfl (fun h6 => ?_) (fun h6 => ?_)
            ·
              have h6r := h6
              try simp only [Bool.not_eq_true', Bool.not_eq_false', Bool.not_not, bne_iff_ne, bne_eq_false_iff_eq, beq_eq_false_iff_ne, beq_iff_eq, ne_eq, decide_eq_true_eq, decide_eq_false_iff_not, Classical.not_not, List.length_map, List.length_take, Int.toNat_natCast] at h6
              exact absurd h6r (by simp)
            ·
              have h6r := h6
              try simp only [Bool.not_eq_true', Bool.not_eq_false', Bool.not_not, bne_iff_ne, bne_eq_false_iff_eq, beq_eq_false_iff_ne, beq_iff_eq, ne_eq, decide_eq_true_eq, decide_eq_false_iff_not, Classical.not_not, List.length_map, List.length_take, Int.toNat_natCast] at h6
              refine op_v' (j_want rfl rfl h6r (j_move (evo rfl))) ?_
              refine op_v' (j_want rfl rfl h6r (j_move (evo rfl))) ?_
              refine op_v' (j_want rfl rfl h6r (j_neb Try.underlying4 rfl rfl)) ?_
              refine op_v' (j_pick_f rfl h6r (evo rfl)) ?_
              refine op_nil ?_
              refine a_cond rfl (fun h7 => ?_) (fun h7 => ?_)
              ·
                have h7r := h7
                try simp only [Bool.not_eq_true', Bool.not_eq_false', Bool.not_not, bne_iff_ne, bne_eq_false_iff_eq, beq_eq_false_iff_ne, beq_iff_eq, ne_eq, decide_eq_true_eq, decide_eq_false_iff_not, Classical.not_not, List.length_map, List.length_take, Int.toNat_natCast] at h7
                exact absurd h7r (by simp)
              ·
                have h7r := h7
                try simp only [Bool.not_eq_true', Bool.not_eq_false', Bool.not_not, bne_iff_ne, bne_eq_false_iff_eq, beq_eq_false_iff_ne, beq_iff_eq, ne_eq, decide_eq_true_eq, decide_eq_false_iff_not, Classical.not_not, List.length_map, List.length_take, Int.toNat_natCast] at h7
                refine a_skip ?_
                refine a_seq ?_
                refine a_region (by kernel_rfl) ?_
                refine op_v' (j_assign (evo rfl)) ?_
                refine op_nil ?_
                refine a_seq ?_
                refine a_region (by kernel_rfl) ?_
                refine op_v' (j_loada_box (ys := [.own 29 v29x7, .p _]) agg42 rfl rfl rfl (Nat.le_of_ble_eq_true rfl)) ?_
                refine op_v' (j_move (evo rfl)) ?_
                refine op_v0' (j_call0 (v := .p _) (hp1 := [(29, some (v29x7, .row 73 2 _))]) [(29, v29x7)] false [29] ent42 (f_markCon 1 _ _ hcl) ⟨.inl ⟨rfl, rfl⟩, .inl ⟨rfl, rfl⟩, trivial⟩ ⟨⟨rfl, rfl⟩, trivial⟩ rfl rfl (fun h => by cases h) rfl (List.all_eq_true.1 rfl) (.inl rfl) rfl rfl) ?_
                refine op_v' (j_assign (evo rfl)) ?_
                refine op_nil ?_
                refine a_seq ?_
                refine a_region (by kernel_rfl) ?_
                refine op_v' (j_assign (evo rfl)) ?_
                refine op_nil ?_
                refine a_seq ?_
                refine a_region (by kernel_rfl) ?_
                refine op_v' (j_loada_box (ys := [.own 29 v29x7, .p _]) agg42 rfl rfl rfl (Nat.le_of_ble_eq_true rfl)) ?_
                refine op_v' (j_move (evo rfl)) ?_
                refine op_v0' (j_call0 (v := .p _) (hp1 := []) [] true [29] ent43 (f_heldCon 1 (tbC c).1.length _ hcl) ⟨.inr ⟨rfl, view_agg rfl (view_cons (view_own rfl rfl) (view_cons rfl rfl)), rfl⟩, .inl ⟨rfl, rfl⟩, trivial⟩ trivial rfl rfl (fun _ => rfl) rfl (fun _ h => by cases h) (.inr ⟨rfl, by first | exact pl_new1 (fun _ => rfl) | (simp [plO, plV, plV.plL]; done)⟩) rfl rfl) ?_
                refine op_v' (j_assign (evo rfl)) ?_
                refine op_nil ?_
                refine a_seq ?_
                refine a_seq ?_
                refine a_region (by kernel_rfl) ?_
                refine op_v' (j_move (evo rfl)) ?_
                refine op_v' (j_lt rfl rfl) ?_
                refine op_nil ?_
                refine a_cond rfl (fun h8 => ?_) (fun h8 => ?_)
                ·
                  have h8r := h8
                  try simp only [Bool.not_eq_true', Bool.not_eq_false', Bool.not_not, bne_iff_ne, bne_eq_false_iff_eq, beq_eq_false_iff_ne, beq_iff_eq, ne_eq, decide_eq_true_eq, decide_eq_false_iff_not, Classical.not_not, List.length_map, List.length_take, Int.toNat_natCast] at h8
                  exact absurd (of_decide_eq_true h8r) (by omega)
                ·
                  have h8r := h8
                  try simp only [Bool.not_eq_true', Bool.not_eq_false', Bool.not_not, bne_iff_ne, bne_eq_false_iff_eq, beq_eq_false_iff_ne, beq_iff_eq, ne_eq, decide_eq_true_eq, decide_eq_false_iff_not, Classical.not_not, List.length_map, List.length_take, Int.toNat_natCast] at h8
                  refine a_skip ?_
                  refine a_seq ?_
                  refine a_seq ?_
                  refine a_region (by kernel_rfl) ?_
                  refine op_v' (j_move (evo rfl)) ?_
                  refine op_v' (j_move (evo rfl)) ?_
                  refine op_v' (j_ne rfl rfl) ?_
                  refine op_nil ?_
                  refine a_cond rfl (fun h9 => ?_) (fun h9 => ?_)
                  ·
                    have h9r := h9
                    try simp only [Bool.not_eq_true', Bool.not_eq_false', Bool.not_not, bne_iff_ne, bne_eq_false_iff_eq, beq_eq_false_iff_ne, beq_iff_eq, ne_eq, decide_eq_true_eq, decide_eq_false_iff_not, Classical.not_not, List.length_map, List.length_take, Int.toNat_natCast] at h9
                    exact absurd h9r (by simp)
                  ·
                    have h9r := h9
                    try simp only [Bool.not_eq_true', Bool.not_eq_false', Bool.not_not, bne_iff_ne, bne_eq_false_iff_eq, beq_eq_false_iff_ne, beq_iff_eq, ne_eq, decide_eq_true_eq, decide_eq_false_iff_not, Classical.not_not, List.length_map, List.length_take, Int.toNat_natCast] at h9
                    refine a_skip ?_
                    refine a_seq ?_
                    refine a_region (by kernel_rfl) ?_
                    refine op_v' (j_loada_box (ys := [.sl _, .p _]) agg37 rfl rfl rfl (Nat.le_of_ble_eq_true rfl)) ?_
                    refine op_n1' (fun ver => j_call1 (v := .agg [.own 75 ver, .p _]) (hp1 := [(75, some (ver, .row 73 2 _))]) [] false [] ent28 (f_toCon c hsz) ⟨.inl ⟨rfl, rfl⟩, trivial⟩ trivial rfl rfl rfl (fun h => by cases h) rfl (List.all_eq_true.1 rfl) (.inl rfl) rfl rfl) fun v75x9 => ?_
                    refine op_n1' (fun ver => j_call1 (v := .tup [.agg [.own 76 ver, .p _], .p _]) (hp1 := [(76, some (ver, .row 73 2 _))]) [] true [75] ent54 (f_tbImpl c hsz) ⟨.inr ⟨rfl, view_agg rfl (view_cons (view_own rfl rfl) (view_cons rfl rfl)), rfl⟩, trivial⟩ trivial rfl rfl rfl (fun _ => rfl) rfl (List.all_eq_true.1 rfl) (.inr ⟨rfl, by first | exact pl_new1 (fun _ => rfl) | (simp [plO, plV, plV.plL]; done)⟩) rfl rfl) fun v76x10 => ?_
                    refine op_v' (j_move (evo rfl)) ?_
                    refine op_v' (j_extract rfl rfl) ?_
                    refine op_v' (j_extract rfl rfl) ?_
                    refine op_n' (fun ver => j_alloc elt42 rfl) fun v12x11 => ?_
                    refine op_s' (j_storea_box0 agg42 rfl rfl rfl rfl rfl rfl) ?_
                    refine op_v' (j_assign (evo rfl)) ?_
                    refine op_nil ?_
                    refine a_seq ?_
                    refine a_seq ?_
                    refine a_region (by kernel_rfl) ?_
                    refine op_v' (j_loada_box (ys := [.own 76 v76x10, .p _]) agg42 rfl rfl rfl (Nat.le_of_ble_eq_true rfl)) ?_
                    refine op_v' (j_loada_box (ys := [.own 22 v22x3, .p _]) agg42 rfl rfl rfl (Nat.le_of_ble_eq_true rfl)) ?_
                    refine op_v0' (j_call0 (v := .p _) (hp1 := []) [] true [76, 22] ent30 (f_eqCon (tbC c) (tbC c)) ⟨.inr ⟨rfl, view_agg rfl (view_cons (view_own rfl rfl) (view_cons rfl rfl)), rfl⟩, .inr ⟨rfl, view_agg rfl (view_cons (view_own rfl rfl) (view_cons rfl rfl)), rfl⟩, trivial⟩ trivial rfl rfl (fun _ => rfl) rfl (fun _ h => by cases h) (.inr ⟨rfl, by first | exact pl_new1 (fun _ => rfl) | (simp [plO, plV, plV.plL]; done)⟩) rfl rfl) ?_
                    refine op_v' (j_not rfl) ?_
                    refine op_v' (j_move (evo rfl)) ?_
                    refine op_split' 83 rfl (fun h10 => ?_) (fun h10 => ?_)
                    ·
                      have h10r := h10
                      try simp only [Bool.not_eq_true', Bool.not_eq_false', Bool.not_not, bne_iff_ne, bne_eq_false_iff_eq, beq_eq_false_iff_ne, beq_iff_eq, ne_eq, decide_eq_true_eq, decide_eq_false_iff_not, Classical.not_not, List.length_map, List.length_take, Int.toNat_natCast] at h10
                      exact absurd h10r (by simp)
                    ·
                      have h10r := h10
                      try simp only [Bool.not_eq_true', Bool.not_eq_false', Bool.not_not, bne_iff_ne, bne_eq_false_iff_eq, beq_eq_false_iff_ne, beq_iff_eq, ne_eq, decide_eq_true_eq, decide_eq_false_iff_not, Classical.not_not, List.length_map, List.length_take, Int.toNat_natCast] at h10
                      refine op_v' (j_want rfl rfl h10r (j_move (evo rfl))) ?_
                      refine op_v' (j_want rfl rfl h10r (j_move (evo rfl))) ?_
                      refine op_v' (j_want rfl rfl h10r (j_neb Try.underlying4 rfl rfl)) ?_
                      refine op_v' (j_pick_f rfl h10r (evo rfl)) ?_
                      refine op_nil ?_
                      refine a_cond rfl (fun h11 => ?_) (fun h11 => ?_)
                      ·
                        have h11r := h11
                        try simp only [Bool.not_eq_true', Bool.not_eq_false', Bool.not_not, bne_iff_ne, bne_eq_false_iff_eq, beq_eq_false_iff_ne, beq_iff_eq, ne_eq, decide_eq_true_eq, decide_eq_false_iff_not, Classical.not_not, List.length_map, List.length_take, Int.toNat_natCast] at h11
                        exact absurd h11r (by simp)
                      ·
                        have h11r := h11
                        try simp only [Bool.not_eq_true', Bool.not_eq_false', Bool.not_not, bne_iff_ne, bne_eq_false_iff_eq, beq_eq_false_iff_ne, beq_iff_eq, ne_eq, decide_eq_true_eq, decide_eq_false_iff_not, Classical.not_not, List.length_map, List.length_take, Int.toNat_natCast] at h11
                        refine a_skip ?_
                        refine a_seq ?_
                        refine a_region (by kernel_rfl) ?_
                        refine op_v' (j_assign (evo rfl)) ?_
                        refine op_nil ?_
                        refine a_seq ?_
                        refine a_region (by kernel_rfl) ?_
                        refine op_v' (j_loada_box (ys := [.own 29 v29x7, .p _]) agg42 rfl rfl rfl (Nat.le_of_ble_eq_true rfl)) ?_
                        refine op_v' (j_move (evo rfl)) ?_
                        refine op_v0' (j_call0 (v := .p _) (hp1 := []) [] true [29] ent43 (f_heldCon 1 (tbC c).1.length _ hcl) ⟨.inr ⟨rfl, view_agg rfl (view_cons (view_own rfl rfl) (view_cons rfl rfl)), rfl⟩, .inl ⟨rfl, rfl⟩, trivial⟩ trivial rfl rfl (fun _ => rfl) rfl (fun _ h => by cases h) (.inr ⟨rfl, by first | exact pl_new1 (fun _ => rfl) | (simp [plO, plV, plV.plL]; done)⟩) rfl rfl) ?_
                        refine op_v' (j_assign (evo rfl)) ?_
                        refine op_nil ?_
                        refine a_seq ?_
                        refine a_seq ?_
                        refine a_region (by kernel_rfl) ?_
                        refine op_v' (j_move (evo rfl)) ?_
                        refine op_v' (j_lt rfl rfl) ?_
                        refine op_nil ?_
                        refine a_cond rfl (fun h12 => ?_) (fun h12 => ?_)
                        ·
                          have h12r := h12
                          try simp only [Bool.not_eq_true', Bool.not_eq_false', Bool.not_not, bne_iff_ne, bne_eq_false_iff_eq, beq_eq_false_iff_ne, beq_iff_eq, ne_eq, decide_eq_true_eq, decide_eq_false_iff_not, Classical.not_not, List.length_map, List.length_take, Int.toNat_natCast] at h12
                          exact absurd (of_decide_eq_true h12r) (by omega)
                        ·
                          have h12r := h12
                          try simp only [Bool.not_eq_true', Bool.not_eq_false', Bool.not_not, bne_iff_ne, bne_eq_false_iff_eq, beq_eq_false_iff_ne, beq_iff_eq, ne_eq, decide_eq_true_eq, decide_eq_false_iff_not, Classical.not_not, List.length_map, List.length_take, Int.toNat_natCast] at h12
                          refine a_skip ?_
                          refine a_seq ?_
                          refine a_seq ?_
                          refine a_region (by kernel_rfl) ?_
                          refine op_v' (j_move (evo rfl)) ?_
                          refine op_v' (j_move (evo rfl)) ?_
                          refine op_v' (j_ne rfl rfl) ?_
                          refine op_nil ?_
                          refine a_cond rfl (fun h13 => ?_) (fun h13 => ?_)
                          ·
                            have h13r := h13
                            try simp only [Bool.not_eq_true', Bool.not_eq_false', Bool.not_not, bne_iff_ne, bne_eq_false_iff_eq, beq_eq_false_iff_ne, beq_iff_eq, ne_eq, decide_eq_true_eq, decide_eq_false_iff_not, Classical.not_not, List.length_map, List.length_take, Int.toNat_natCast] at h13
                            exact absurd h13r (by simp)
                          ·
                            have h13r := h13
                            try simp only [Bool.not_eq_true', Bool.not_eq_false', Bool.not_not, bne_iff_ne, bne_eq_false_iff_eq, beq_eq_false_iff_ne, beq_iff_eq, ne_eq, decide_eq_true_eq, decide_eq_false_iff_not, Classical.not_not, List.length_map, List.length_take, Int.toNat_natCast] at h13
                            refine a_skip ?_
                            refine a_seq ?_
                            refine a_region (by kernel_rfl) ?_
                            refine op_v' (j_assign (evo rfl)) ?_
                            refine op_nil ?_
                            refine a_ret ?_
                            exact ⟨[.p _], .p _, [], [], [], ⟨rfl, trivial⟩, rfl, rfl, trivial, rfl, rfl, ⟨rfl, rfl, rfl⟩⟩


end Go.Ab

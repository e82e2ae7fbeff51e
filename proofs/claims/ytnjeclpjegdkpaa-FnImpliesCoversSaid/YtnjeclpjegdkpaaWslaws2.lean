/- Walks. -/
import Derived.Test.YtnjeclpjegdkpaaBase
import Derived.Test.YtnjeclpjegdkpaaLaws2
import Derived.Test.YtnjeclpjegdkpaaWsmul
namespace Go.Ab
open Go.Proofs
set_option maxRecDepth 100000
set_option maxHeartbeats 8000000
set_option linter.unusedSimpArgs false
set_option linter.unusedVariables false
theorem f_dIC (b : List Int) (hb : ∀ a ∈ b, 0 ≤ a ∧ a ≤ 255) : Fn Try.prog 43 [.sl (b.map dU)] [] (fun rr ii nn => ∃ x : Con × Con, (x.1.1.length ≤ 14 ∧ x.2.1.length ≤ 14) ∧ rr = .tup [.agg [.sl (x.1.1.map dT), .p (.int .i64 x.1.2)], .agg [.sl (x.2.1.map dT), .p (.int .i64 x.2.2)]] ∧ ii = [] ∧ nn = []) := by
  refine fn_of Try.func43 rfl (Nat.le_of_ble_eq_true rfl) fun w X g => ?_
  show AWp _ _ _ ⟨[(0, .sl (b.map dU))], []⟩
  refine a_seq ?_
  refine a_region (by kernel_rfl) ?_
  refine op_n' (fun ver => j_alloc elt59 rfl) fun v2x1 => ?_
  refine op_n' (fun ver => j_alloc elt59 rfl) fun v3x2 => ?_
  refine op_nil ?_
  refine a_seq ?_
  refine a_region (by kernel_rfl) ?_
  refine op_v' (j_move (evo rfl)) ?_
  refine op_n1' (fun ver => j_call1 (v := .ptr 11 ver 0) (hp1 := [(11, some (ver, .box 118 [.sl _, .p _]))]) [] false [] ent84 (f_open _) ⟨.inl ⟨rfl, rfl⟩, trivial⟩ trivial rfl rfl rfl (fun h => by cases h) rfl (List.all_eq_true.1 rfl) (.inl rfl) rfl rfl) fun v11x3 => ?_
  refine op_v' (j_assign (evo rfl)) ?_
  refine op_nil ?_
  refine a_seq ?_
  have hbt := okB_take (Nat.le_refl _) hb
  obtain ⟨_, hl8, hq8⟩ := l15C_ok (b.take 2000) 0
  have hm9 := mutC_ok (b.take 2000) (l15C (b.take 2000) 0).2 (l15C (b.take 2000) 0).1
  refine a_region (by kernel_rfl) ?_
  refine op_v' (j_move (evo rfl)) ?_
  refine op_v' (j_move (evo rfl)) ?_
  refine op_v0' (j_call0 (v := .agg [.sl _, .p _]) (hp1 := [(11, some (v11x3, .box 118 [.sl _, .p _]))]) [(11, v11x3)] false [11] ent99 (f_l15Draw (b.take 2000) 0 hbt (by decide)) ⟨.inl ⟨rfl, rfl⟩, trivial⟩ ⟨⟨rfl, rfl⟩, trivial⟩ rfl rfl (fun h => by cases h) rfl (List.all_eq_true.1 rfl) (.inl rfl) rfl rfl) ?_
  refine op_v0' (j_call0 (v := .agg [.sl _, .p _]) (hp1 := [(11, some (v11x3, .box 118 [.sl _, .p _]))]) [(11, v11x3)] false [11] ent98 (f_l1Mutate (b.take 2000) (l15C (b.take 2000) 0).2 (l15C (b.take 2000) 0).1 hbt (by omega) (by omega)) ⟨.inl ⟨rfl, rfl⟩, .inl ⟨rfl, rfl⟩, trivial⟩ ⟨⟨rfl, rfl⟩, trivial⟩ rfl rfl (fun h => by cases h) rfl (List.all_eq_true.1 rfl) (.inl rfl) rfl rfl) ?_
  refine op_n' (fun ver => j_alloc elt59 rfl) fun v5x4 => ?_
  refine op_s' (j_storea_box0 agg59 rfl rfl rfl rfl rfl rfl) ?_
  refine op_nil ?_
  refine a_seq ?_
  refine a_seq ?_
  refine a_region (by kernel_rfl) ?_
  refine op_v' (j_move (evo rfl)) ?_
  refine op_v0' (j_call0 (v := .p _) (hp1 := [(11, some (v11x3, .box 118 [.sl _, .p _]))]) [(11, v11x3)] false [11] ent87 (f_pick _ _ _ (by assumption) (by omega)) ⟨.inl ⟨rfl, rfl⟩, .inl ⟨rfl, rfl⟩, trivial⟩ ⟨⟨rfl, rfl⟩, trivial⟩ rfl rfl (fun h => by cases h) rfl (List.all_eq_true.1 rfl) (.inl rfl) rfl rfl) ?_
  refine op_nil ?_
  refine a_block ?_
  refine a_seq ?_
  refine a_region (by kernel_rfl) ?_
  refine op_v' (j_eq rfl rfl) ?_
  refine op_v' (j_assign (evo rfl)) ?_
  refine op_nil ?_
  refine a_cond rfl (fun h1 => ?_) (fun h1 => ?_)
  ·
    have h1r := h1
    try simp only [Bool.not_eq_true', Bool.not_eq_false', Bool.not_not, bne_iff_ne, bne_eq_false_iff_eq, beq_eq_false_iff_ne, beq_iff_eq, ne_eq, decide_eq_true_eq, decide_eq_false_iff_not, Classical.not_not, List.length_map, List.length_take, Int.toNat_natCast] at h1
    refine a_seq ?_
    obtain ⟨_, hl6, hq6⟩ := l15C_ok (b.take 2000) ((mutC (b.take 2000) (l15C (b.take 2000) 0).2 (l15C (b.take 2000) 0).1).2 + 1)
    have hm6 := mutC_ok (b.take 2000) (l15C (b.take 2000) ((mutC (b.take 2000) (l15C (b.take 2000) 0).2 (l15C (b.take 2000) 0).1).2 + 1)).2 (l15C (b.take 2000) ((mutC (b.take 2000) (l15C (b.take 2000) 0).2 (l15C (b.take 2000) 0).1).2 + 1)).1
    refine a_draw mixed (by kernel_rfl) (by kernel_rfl) fun vf => ?_
    refine d_v' (j_loada_box (ys := [.sl _, .p _]) agg59 rfl rfl rfl (Nat.le_of_ble_eq_true rfl)) ?_
    refine d_v' (j_move (evo rfl)) ?_
    refine d_v' (j_move (evo rfl)) ?_
    refine d_v0' (j_call0 (v := .agg [.sl _, .p _]) (hp1 := [(11, some (v11x3, .box 118 [.sl _, .p _]))]) [(11, v11x3)] false [11] ent99 (f_l15Draw (b.take 2000) ((mutC (b.take 2000) (l15C (b.take 2000) 0).2 (l15C (b.take 2000) 0).1).2 + 1) hbt (by omega)) ⟨.inl ⟨rfl, rfl⟩, trivial⟩ ⟨⟨rfl, rfl⟩, trivial⟩ rfl rfl (fun h => by cases h) rfl (List.all_eq_true.1 rfl) (.inl rfl) rfl rfl) ?_
    refine d_v0' (j_call0 (v := .agg [.sl _, .p _]) (hp1 := [(11, some (v11x3, .box 118 [.sl _, .p _]))]) [(11, v11x3)] false [11] ent98 (f_l1Mutate (b.take 2000) (l15C (b.take 2000) ((mutC (b.take 2000) (l15C (b.take 2000) 0).2 (l15C (b.take 2000) 0).1).2 + 1)).2 (l15C (b.take 2000) ((mutC (b.take 2000) (l15C (b.take 2000) 0).2 (l15C (b.take 2000) 0).1).2 + 1)).1 hbt (by omega) (by omega)) ⟨.inl ⟨rfl, rfl⟩, .inl ⟨rfl, rfl⟩, trivial⟩ ⟨⟨rfl, rfl⟩, trivial⟩ rfl rfl (fun h => by cases h) rfl (List.all_eq_true.1 rfl) (.inl rfl) rfl rfl) ?_
    refine d_s' (j_storea_box0 agg59 rfl rfl rfl rfl rfl rfl) ?_
    refine d_s' (j_storea_box0 agg59 rfl rfl rfl rfl rfl rfl) ?_
    refine d_nil (by kernel_rfl) (by kernel_rfl) ?_
    refine a_ret ?_
    exact ⟨[.agg [.sl _, .p _], .agg [.sl _, .p _]], .tup [.agg [.sl _, .p _], .agg [.sl _, .p _]], [], [], [], ⟨⟨_, _, _, _, rfl, rfl, agg59, rfl⟩, ⟨_, _, _, _, rfl, rfl, agg59, rfl⟩, trivial⟩, rfl, rfl, trivial, rfl, rfl, ⟨((mutC (b.take 2000) (l15C (b.take 2000) 0).2 (l15C (b.take 2000) 0).1).1, (mutC (b.take 2000) (l15C (b.take 2000) ((mutC (b.take 2000) (l15C (b.take 2000) 0).2 (l15C (b.take 2000) 0).1).2 + 1)).2 (l15C (b.take 2000) ((mutC (b.take 2000) (l15C (b.take 2000) 0).2 (l15C (b.take 2000) 0).1).2 + 1)).1).1), ⟨by dsimp only; omega, by dsimp only; omega⟩, rfl, rfl, rfl⟩⟩
  ·
    have h1r := h1
    try simp only [Bool.not_eq_true', Bool.not_eq_false', Bool.not_not, bne_iff_ne, bne_eq_false_iff_eq, beq_eq_false_iff_ne, beq_iff_eq, ne_eq, decide_eq_true_eq, decide_eq_false_iff_not, Classical.not_not, List.length_map, List.length_take, Int.toNat_natCast] at h1
    refine a_seq ?_
    refine a_region (by kernel_rfl) ?_
    refine op_v' (j_eq rfl rfl) ?_
    refine op_v' (j_assign (evo rfl)) ?_
    refine op_nil ?_
    refine a_cond rfl (fun h2 => ?_) (fun h2 => ?_)
    ·
      have h2r := h2
      try simp only [Bool.not_eq_true', Bool.not_eq_false', Bool.not_not, bne_iff_ne, bne_eq_false_iff_eq, beq_eq_false_iff_ne, beq_iff_eq, ne_eq, decide_eq_true_eq, decide_eq_false_iff_not, Classical.not_not, List.length_map, List.length_take, Int.toNat_natCast] at h2
      refine a_seq ?_
      have hpk := pickV_lt (b := b.take 2000) (p := (mutC (b.take 2000) (l15C (b.take 2000) 0).2 (l15C (b.take 2000) 0).1).2 + 1) (n := 3) (by omega)
      have hwl := weakC_len (c := (mutC (b.take 2000) (l15C (b.take 2000) 0).2 (l15C (b.take 2000) 0).1).1) (v := 1 + pickV (b.take 2000) ((mutC (b.take 2000) (l15C (b.take 2000) 0).2 (l15C (b.take 2000) 0).1).2 + 1) 3)
      refine a_draw mixed (by kernel_rfl) (by kernel_rfl) fun vf => ?_
      refine d_v' (j_loada_box (ys := [.sl _, .p _]) agg59 rfl rfl rfl (Nat.le_of_ble_eq_true rfl)) ?_
      refine d_v' (j_move (evo rfl)) ?_
      refine d_v0' (j_call0 (v := .p _) (hp1 := [(11, some (v11x3, .box 118 [.sl _, .p _]))]) [(11, v11x3)] false [11] ent87 (f_pick _ _ _ (by assumption) (by omega)) ⟨.inl ⟨rfl, rfl⟩, .inl ⟨rfl, rfl⟩, trivial⟩ ⟨⟨rfl, rfl⟩, trivial⟩ rfl rfl (fun h => by cases h) rfl (List.all_eq_true.1 rfl) (.inl rfl) rfl rfl) ?_
      refine d_v' (j_add rfl rfl (by omega) (by omega)) ?_
      refine d_v0' (j_call0 (v := .tup [.agg [.sl _, .p _], .p _]) (hp1 := []) [] false [] ent100 (f_weakSpec (mutC (b.take 2000) (l15C (b.take 2000) 0).2 (l15C (b.take 2000) 0).1).1 (1 + pickV (b.take 2000) ((mutC (b.take 2000) (l15C (b.take 2000) 0).2 (l15C (b.take 2000) 0).1).2 + 1) 3)) ⟨.inl ⟨rfl, rfl⟩, .inl ⟨rfl, rfl⟩, trivial⟩ trivial rfl rfl (fun h => by cases h) rfl (fun _ h => by cases h) (.inl rfl) rfl rfl) ?_
      refine d_v' (j_move (evo rfl)) ?_
      refine d_v' (j_extract rfl rfl) ?_
      refine d_v' (j_extract rfl rfl) ?_
      refine d_n' (fun ver => j_alloc elt59 rfl) ?_
      refine d_s' (j_storea_box0 agg59 rfl rfl rfl rfl rfl rfl) ?_
      refine d_v' (j_assign (evo rfl)) ?_
      refine d_nil (by kernel_rfl) (by kernel_rfl) ?_
      refine a_seq ?_
      refine a_draw mixed (by kernel_rfl) (by kernel_rfl) fun vf => ?_
      refine d_v' (j_loada_box (ys := [.sl _, .p _]) agg59 rfl rfl rfl (Nat.le_of_ble_eq_true rfl)) ?_
      refine d_v' (j_loada_box (ys := [.sl _, .p _]) agg59 rfl rfl rfl (Nat.le_of_ble_eq_true rfl)) ?_
      refine d_s' (j_storea_box0 agg59 rfl rfl rfl rfl rfl rfl) ?_
      refine d_s' (j_storea_box0 agg59 rfl rfl rfl rfl rfl rfl) ?_
      refine d_nil (by kernel_rfl) (by kernel_rfl) ?_
      refine a_ret ?_
      exact ⟨[.agg [.sl _, .p _], .agg [.sl _, .p _]], .tup [.agg [.sl _, .p _], .agg [.sl _, .p _]], [], [], [], ⟨⟨_, _, _, _, rfl, rfl, agg59, rfl⟩, ⟨_, _, _, _, rfl, rfl, agg59, rfl⟩, trivial⟩, rfl, rfl, trivial, rfl, rfl, ⟨((mutC (b.take 2000) (l15C (b.take 2000) 0).2 (l15C (b.take 2000) 0).1).1, weakC (mutC (b.take 2000) (l15C (b.take 2000) 0).2 (l15C (b.take 2000) 0).1).1 (1 + pickV (b.take 2000) ((mutC (b.take 2000) (l15C (b.take 2000) 0).2 (l15C (b.take 2000) 0).1).2 + 1) 3)), ⟨by dsimp only; omega, by dsimp only; omega⟩, rfl, rfl, rfl⟩⟩
    ·
      have h2r := h2
      try simp only [Bool.not_eq_true', Bool.not_eq_false', Bool.not_not, bne_iff_ne, bne_eq_false_iff_eq, beq_eq_false_iff_ne, beq_iff_eq, ne_eq, decide_eq_true_eq, decide_eq_false_iff_not, Classical.not_not, List.length_map, List.length_take, Int.toNat_natCast] at h2
      refine a_skip ?_
      refine a_seq ?_
      have hdl := divR_len (c := (mutC (b.take 2000) (l15C (b.take 2000) 0).2 (l15C (b.take 2000) 0).1).1) (k := 2)
      refine a_region (by kernel_rfl) ?_
      refine op_v' (j_loada_box (ys := [.sl _, .p _]) agg59 rfl rfl rfl (Nat.le_of_ble_eq_true rfl)) ?_
      refine op_v0' (j_call0 (v := .tup [.agg [.sl _, .p _], .p _]) (hp1 := []) [] false [] ent101 (f_divSpec (mutC (b.take 2000) (l15C (b.take 2000) 0).2 (l15C (b.take 2000) 0).1).1 2) ⟨.inl ⟨rfl, rfl⟩, .inl ⟨rfl, rfl⟩, trivial⟩ trivial rfl rfl (fun h => by cases h) rfl (fun _ h => by cases h) (.inl rfl) rfl rfl) ?_
      refine op_v' (j_move (evo rfl)) ?_
      refine op_v' (j_extract rfl rfl) ?_
      refine op_v' (j_extract rfl rfl) ?_
      refine op_n' (fun ver => j_alloc elt59 rfl) fun v8x5 => ?_
      refine op_s' (j_storea_box0 agg59 rfl rfl rfl rfl rfl rfl) ?_
      refine op_v' (j_assign (evo rfl)) ?_
      refine op_nil ?_
      refine a_seq ?_
      refine a_seq ?_
      refine a_region (by kernel_rfl) ?_
      refine op_v' (j_move (evo rfl)) ?_
      refine op_v0' (j_call0 (v := .p _) (hp1 := [(11, some (v11x3, .box 118 [.sl _, .p _]))]) [(11, v11x3)] false [11] ent87 (f_pick _ _ _ (by assumption) (by omega)) ⟨.inl ⟨rfl, rfl⟩, .inl ⟨rfl, rfl⟩, trivial⟩ ⟨⟨rfl, rfl⟩, trivial⟩ rfl rfl (fun h => by cases h) rfl (List.all_eq_true.1 rfl) (.inl rfl) rfl rfl) ?_
      refine op_v' (j_eq rfl rfl) ?_
      refine op_nil ?_
      refine a_cond rfl (fun h3 => ?_) (fun h3 => ?_)
      ·
        have h3r := h3
        try simp only [Bool.not_eq_true', Bool.not_eq_false', Bool.not_not, bne_iff_ne, bne_eq_false_iff_eq, beq_eq_false_iff_ne, beq_iff_eq, ne_eq, decide_eq_true_eq, decide_eq_false_iff_not, Classical.not_not, List.length_map, List.length_take, Int.toNat_natCast] at h3
        refine a_seq ?_
        refine a_draw mixed (by kernel_rfl) (by kernel_rfl) fun vf => ?_
        refine d_v' (j_loada_box (ys := [.sl _, .p _]) agg59 rfl rfl rfl (Nat.le_of_ble_eq_true rfl)) ?_
        refine d_v' (j_loada_box (ys := [.sl _, .p _]) agg59 rfl rfl rfl (Nat.le_of_ble_eq_true rfl)) ?_
        refine d_s' (j_storea_box0 agg59 rfl rfl rfl rfl rfl rfl) ?_
        refine d_s' (j_storea_box0 agg59 rfl rfl rfl rfl rfl rfl) ?_
        refine d_nil (by kernel_rfl) (by kernel_rfl) ?_
        refine a_ret ?_
        exact ⟨[.agg [.sl _, .p _], .agg [.sl _, .p _]], .tup [.agg [.sl _, .p _], .agg [.sl _, .p _]], [], [], [], ⟨⟨_, _, _, _, rfl, rfl, agg59, rfl⟩, ⟨_, _, _, _, rfl, rfl, agg59, rfl⟩, trivial⟩, rfl, rfl, trivial, rfl, rfl, ⟨(divR (mutC (b.take 2000) (l15C (b.take 2000) 0).2 (l15C (b.take 2000) 0).1).1 2, (mutC (b.take 2000) (l15C (b.take 2000) 0).2 (l15C (b.take 2000) 0).1).1), ⟨by dsimp only; omega, by dsimp only; omega⟩, rfl, rfl, rfl⟩⟩
      ·
        have h3r := h3
        try simp only [Bool.not_eq_true', Bool.not_eq_false', Bool.not_not, bne_iff_ne, bne_eq_false_iff_eq, beq_eq_false_iff_ne, beq_iff_eq, ne_eq, decide_eq_true_eq, decide_eq_false_iff_not, Classical.not_not, List.length_map, List.length_take, Int.toNat_natCast] at h3
        refine a_skip ?_
        refine a_seq ?_
        refine a_draw mixed (by kernel_rfl) (by kernel_rfl) fun vf => ?_
        refine d_v' (j_loada_box (ys := [.sl _, .p _]) agg59 rfl rfl rfl (Nat.le_of_ble_eq_true rfl)) ?_
        refine d_v' (j_loada_box (ys := [.sl _, .p _]) agg59 rfl rfl rfl (Nat.le_of_ble_eq_true rfl)) ?_
        refine d_s' (j_storea_box0 agg59 rfl rfl rfl rfl rfl rfl) ?_
        refine d_s' (j_storea_box0 agg59 rfl rfl rfl rfl rfl rfl) ?_
        refine d_nil (by kernel_rfl) (by kernel_rfl) ?_
        refine a_ret ?_
        exact ⟨[.agg [.sl _, .p _], .agg [.sl _, .p _]], .tup [.agg [.sl _, .p _], .agg [.sl _, .p _]], [], [], [], ⟨⟨_, _, _, _, rfl, rfl, agg59, rfl⟩, ⟨_, _, _, _, rfl, rfl, agg59, rfl⟩, trivial⟩, rfl, rfl, trivial, rfl, rfl, ⟨((mutC (b.take 2000) (l15C (b.take 2000) 0).2 (l15C (b.take 2000) 0).1).1, divR (mutC (b.take 2000) (l15C (b.take 2000) 0).2 (l15C (b.take 2000) 0).1).1 2), ⟨by dsimp only; omega, by dsimp only; omega⟩, rfl, rfl, rfl⟩⟩


end Go.Ab

/- Walks. -/
import Derived.Test.YtliampibpeokmaaBase
import Derived.Test.YtliampibpeokmaaProb
import Derived.Test.YtliampibpeokmaaWsprob
namespace Go.Ab
open Go.Proofs
set_option maxRecDepth 100000
set_option maxHeartbeats 8000000
set_option linter.unusedSimpArgs false
set_option linter.unusedVariables false
theorem f_weakSpec (c : Con) (v : Int) : Fn Try.prog 152 [.agg [.sl (c.1.map dT), .p (.int .i64 c.2)], .p (.int .i64 (v))] [] (fun rr ii nn => rr = .tup [.agg [.sl ((weakC c v).1.map dT), .p (.int .i64 (weakC c v).2)], .p (.bool (wOk c v))] ∧ ii = [] ∧ nn = []) := by
  refine fn_of Try.func152 rfl (Nat.le_of_ble_eq_true rfl) fun w X g => ?_
  show AWp _ _ _ ⟨[(0, .agg [.sl (c.1.map dT), .p (.int .i64 c.2)]), (1, .p (.int .i64 (v)))], []⟩
  refine a_seq ?_
  refine a_region (by kernel_rfl) ?_
  refine op_n' (fun ver => j_boxa rfl) fun v2x1 => ?_
  refine op_n' (fun ver => j_alloc elt99 rfl) fun v4x2 => ?_
  refine op_v' (j_assign (evo rfl)) ?_
  refine op_nil ?_
  refine a_seq ?_
  refine a_seq ?_
  refine a_region (by kernel_rfl) ?_
  refine op_v' (j_loada_box (ys := [.sl _, .p _]) agg99 rfl rfl rfl (Nat.le_of_ble_eq_true rfl)) ?_
  refine op_v0' (j_call0 (v := .p _) (hp1 := []) [] false [] ent162 (f_cvSpec _) ⟨.inl ⟨rfl, rfl⟩, trivial⟩ trivial rfl rfl (fun h => by cases h) rfl (fun _ h => by cases h) (.inl rfl) rfl rfl) ?_
  refine op_v' (j_not rfl) ?_
  refine op_v' (j_move (evo rfl)) ?_
  refine op_split' 11 rfl (fun h1 => ?_) (fun h1 => ?_)
  ·
    have h1r := h1
    try simp only [Bool.not_eq_true', Bool.not_eq_false', Bool.not_not, bne_iff_ne, bne_eq_false_iff_eq, beq_eq_false_iff_ne, beq_iff_eq, ne_eq, decide_eq_true_eq, decide_eq_false_iff_not, Classical.not_not, List.length_map, List.length_take, Int.toNat_natCast, List.length_map, List.length_append, List.length_cons, List.length_nil, List.length_take] at h1
    refine op_v' (j_unwantV rfl rfl h1r) ?_
    refine op_v' (j_unwantV rfl rfl h1r) ?_
    refine op_v' (j_pick_t rfl h1r (evo rfl)) ?_
    refine op_v' (j_move (evo rfl)) ?_
    refine op_v' (j_unwantV rfl rfl rfl) ?_
    refine op_v' (j_unwantV rfl rfl rfl) ?_
    refine op_v' (j_pick_t rfl rfl (evo rfl)) ?_
    refine op_nil ?_
    refine a_tt rfl ?_
    refine a_seq ?_
    refine a_region (by kernel_rfl) ?_
    refine op_v' (j_build (parts := []) str99 elt99 rfl rfl) ?_
    refine op_s' (j_storea_box0 agg99 rfl rfl rfl rfl rfl rfl) ?_
    refine op_v' (j_assign (evo rfl)) ?_
    refine op_nil ?_
    refine a_adopt_box' 0 1004 146 2 (by decide) (id := 4) rfl rfl fun v1004x3 => ?_
    refine a_freezeboxK 0 4 (by decide) trivial rfl rfl rfl rfl ?_
    try dsimp only [List.set]
    refine a_ret ?_
    exact ⟨[.agg [.sl _, .p _], .p _], .tup [.agg [.sl _, .p _], .p _], [], [], [], ⟨⟨_, _, _, _, rfl, rfl, agg99, rfl⟩, rfl, trivial⟩, rfl, rfl, trivial, rfl, rfl, ⟨by have hq : wOk c v = false := wOk_no (by first | exact .inl h1 | exact .inr (by omega)); unfold weakC; rw [hq]; rfl, rfl, rfl⟩⟩
  ·
    have h1r := h1
    try simp only [Bool.not_eq_true', Bool.not_eq_false', Bool.not_not, bne_iff_ne, bne_eq_false_iff_eq, beq_eq_false_iff_ne, beq_iff_eq, ne_eq, decide_eq_true_eq, decide_eq_false_iff_not, Classical.not_not, List.length_map, List.length_take, Int.toNat_natCast, List.length_map, List.length_append, List.length_cons, List.length_nil, List.length_take] at h1
    refine op_v' (j_want rfl rfl h1r (j_move (evo rfl))) ?_
    refine op_v' (j_want rfl rfl h1r (j_lt rfl rfl)) ?_
    refine op_v' (j_pick_f rfl h1r (evo rfl)) ?_
    refine op_v' (j_move (evo rfl)) ?_
    refine op_split' 15 rfl (fun h2 => ?_) (fun h2 => ?_)
    ·
      have h2r := h2
      try simp only [Bool.not_eq_true', Bool.not_eq_false', Bool.not_not, bne_iff_ne, bne_eq_false_iff_eq, beq_eq_false_iff_ne, beq_iff_eq, ne_eq, decide_eq_true_eq, decide_eq_false_iff_not, Classical.not_not, List.length_map, List.length_take, Int.toNat_natCast, List.length_map, List.length_append, List.length_cons, List.length_nil, List.length_take] at h2
      refine op_v' (j_unwantV rfl rfl h2r) ?_
      refine op_v' (j_unwantV rfl rfl h2r) ?_
      refine op_v' (j_pick_t rfl h2r (evo rfl)) ?_
      refine op_nil ?_
      refine a_tt rfl ?_
      refine a_seq ?_
      refine a_region (by kernel_rfl) ?_
      refine op_v' (j_build (parts := []) str99 elt99 rfl rfl) ?_
      refine op_s' (j_storea_box0 agg99 rfl rfl rfl rfl rfl rfl) ?_
      refine op_v' (j_assign (evo rfl)) ?_
      refine op_nil ?_
      refine a_adopt_box' 0 1004 146 2 (by decide) (id := 4) rfl rfl fun v1004x4 => ?_
      refine a_freezeboxK 0 4 (by decide) trivial rfl rfl rfl rfl ?_
      try dsimp only [List.set]
      refine a_ret ?_
      exact ⟨[.agg [.sl _, .p _], .p _], .tup [.agg [.sl _, .p _], .p _], [], [], [], ⟨⟨_, _, _, _, rfl, rfl, agg99, rfl⟩, rfl, trivial⟩, rfl, rfl, trivial, rfl, rfl, ⟨by have hq : wOk c v = false := wOk_no (by first | exact .inl h1 | exact .inr (by omega)); unfold weakC; rw [hq]; rfl, rfl, rfl⟩⟩
    ·
      have h2r := h2
      try simp only [Bool.not_eq_true', Bool.not_eq_false', Bool.not_not, bne_iff_ne, bne_eq_false_iff_eq, beq_eq_false_iff_ne, beq_iff_eq, ne_eq, decide_eq_true_eq, decide_eq_false_iff_not, Classical.not_not, List.length_map, List.length_take, Int.toNat_natCast, List.length_map, List.length_append, List.length_cons, List.length_nil, List.length_take] at h2
      refine op_v' (j_want rfl rfl h2r (j_move (evo rfl))) ?_
      refine op_v' (j_want rfl rfl h2r (j_gt rfl rfl)) ?_
      refine op_v' (j_pick_f rfl h2r (evo rfl)) ?_
      refine op_nil ?_
      refine a_cond rfl (fun h3 => ?_) (fun h3 => ?_)
      ·
        have h3r := h3
        try simp only [Bool.not_eq_true', Bool.not_eq_false', Bool.not_not, bne_iff_ne, bne_eq_false_iff_eq, beq_eq_false_iff_ne, beq_iff_eq, ne_eq, decide_eq_true_eq, decide_eq_false_iff_not, Classical.not_not, List.length_map, List.length_take, Int.toNat_natCast, List.length_map, List.length_append, List.length_cons, List.length_nil, List.length_take] at h3
        refine a_seq ?_
        refine a_region (by kernel_rfl) ?_
        refine op_v' (j_build (parts := []) str99 elt99 rfl rfl) ?_
        refine op_s' (j_storea_box0 agg99 rfl rfl rfl rfl rfl rfl) ?_
        refine op_v' (j_assign (evo rfl)) ?_
        refine op_nil ?_
        refine a_adopt_box' 0 1004 146 2 (by decide) (id := 4) rfl rfl fun v1004x5 => ?_
        refine a_freezeboxK 0 4 (by decide) trivial rfl rfl rfl rfl ?_
        try dsimp only [List.set]
        refine a_ret ?_
        exact ⟨[.agg [.sl _, .p _], .p _], .tup [.agg [.sl _, .p _], .p _], [], [], [], ⟨⟨_, _, _, _, rfl, rfl, agg99, rfl⟩, rfl, trivial⟩, rfl, rfl, trivial, rfl, rfl, ⟨by have hq : wOk c v = false := wOk_no (by first | exact .inl h1 | exact .inr (by omega)); unfold weakC; rw [hq]; rfl, rfl, rfl⟩⟩
      ·
        have h3r := h3
        try simp only [Bool.not_eq_true', Bool.not_eq_false', Bool.not_not, bne_iff_ne, bne_eq_false_iff_eq, beq_eq_false_iff_ne, beq_iff_eq, ne_eq, decide_eq_true_eq, decide_eq_false_iff_not, Classical.not_not, List.length_map, List.length_take, Int.toNat_natCast, List.length_map, List.length_append, List.length_cons, List.length_nil, List.length_take] at h3
        refine a_skip ?_
        refine a_seq ?_
        have hk : 1 ≤ v ∧ v ≤ 12 := by omega
        have hln := cOk_len h1
        have hbd := cOk_bound h1
        refine a_region (by kernel_rfl) ?_
        refine op_v' (j_fldp fld99f1 rfl rfl) ?_
        refine op_v' (j_load_box leaf3 rfl rfl rfl) ?_
        refine op_v' (j_build (parts := [(1, .tmp 21)]) str99 elt99 rfl rfl) ?_
        refine op_n' (fun ver => j_alloc elt99 rfl) fun v6x6 => ?_
        refine op_s' (j_storea_box0 agg99 rfl rfl rfl rfl rfl rfl) ?_
        refine op_nil ?_
        refine a_adopt_box' 0 1006 146 2 (by decide) (id := 6) rfl rfl fun v1006x7 => ?_
        refine a_seq ?_
        refine a_seq ?_
        refine a_region (by kernel_rfl) ?_
        refine op_v' (j_assign (evo rfl)) ?_
        refine op_nil ?_
        refine a_block ?_
        refine a_loopF' (ι := Nat × Nat) (fun x => x.1 ≤ c.1.length) (fun x r => (7, .p (.int .i64 ((x.1 : Nat)))) :: r) (fun x r => (6, some (v6x6, .box 99 [.own 1006 x.2, .p (.int .i64 (weakB v (c.1.take x.1) c.2))])) :: (1006, some (x.2, .row 146 2 ((weakT v (c.1.take x.1)).map dT))) :: r) (fun x => c.1.length - x.1) (fun _ _ => rfl) (fun _ _ => rfl) (0, v1006x7) (by first | exact (Nat.zero_le _) | (dsimp only; exact (Nat.zero_le _))) ⟨⟨rfl, rfl⟩, ⟨rfl, trivial⟩, ⟨rfl, rfl, trivial⟩, ⟨rfl, rfl⟩, ⟨rfl, rfl⟩⟩ ?_
        rintro ⟨i, vr⟩ hpre; dsimp only at hpre ⊢
        refine a_seq ?_
        refine a_seq ?_
        refine a_region (by kernel_rfl) ?_
        refine op_v' (j_move (evo rfl)) ?_
        refine op_v' (j_fldp fld99f0 rfl rfl) ?_
        refine op_v' (j_load_box leaf97 rfl rfl rfl) ?_
        refine op_v' (j_len_map Try.underlying97 rfl) ?_
        refine op_v' (j_lt rfl rfl) ?_
        refine op_nil ?_
        refine a_cond rfl (fun h4 => ?_) (fun h4 => ?_)
        ·
          have h4r := h4
          try simp only [Bool.not_eq_true', Bool.not_eq_false', Bool.not_not, bne_iff_ne, bne_eq_false_iff_eq, beq_eq_false_iff_ne, beq_iff_eq, ne_eq, decide_eq_true_eq, decide_eq_false_iff_not, Classical.not_not, List.length_map, List.length_take, Int.toNat_natCast, List.length_map, List.length_append, List.length_cons, List.length_nil, List.length_take] at h4
          refine a_skip ?_
          refine a_seq ?_
          refine a_block ?_
          refine a_seq ?_
          have htm := cOk_terms h1 (k := i) (by omega)
          have hli := litOk_iff.1 htm.1
          have hwb := weakB_rng (v := v) (b := c.2) (ts := c.1.take i) (fun t ht => cOk_coefs h1 t (List.mem_of_mem_take ht))
          have hwl := weakT_len (v := v) (ts := c.1.take i)
          rw [List.length_take] at hwb hwl
          refine a_region (by kernel_rfl) ?_
          refine op_v' (j_fldp fld99f0 rfl rfl) ?_
          refine op_v' (j_load_box leaf97 rfl rfl rfl) ?_
          refine op_v' (j_move (evo rfl)) ?_
          refine op_v' (j_elemN slt97 rfl rfl rfl (at_map (by first | omega | (simp only [List.length_map, List.length_take, Int.toNat_natCast, List.length_map, List.length_append, List.length_cons, List.length_nil, List.length_take]; omega))) rfl) ?_
          refine op_v' (j_fldel fld146f1 rfl) ?_
          refine op_v' (j_load_el leaf3 rfl (at_map (by first | omega | (simp only [List.length_map, List.length_take, Int.toNat_natCast, List.length_map, List.length_append, List.length_cons, List.length_nil, List.length_take]; omega))) rfl) ?_
          refine op_v0' (j_call0 (v := .p _) (hp1 := []) [] false [] ent198 (f_l1Abs _ (by first | omega | (simp only [List.length_map, List.length_take, Int.toNat_natCast, List.length_map, List.length_append, List.length_cons, List.length_nil, List.length_take]; omega))) ⟨.inl ⟨rfl, rfl⟩, trivial⟩ trivial rfl rfl (fun h => by cases h) rfl (fun _ h => by cases h) (.inl rfl) rfl rfl) ?_
          refine op_v' (j_move (evo rfl)) ?_
          refine op_v' (j_eq rfl rfl) ?_
          refine op_nil ?_
          refine a_cond rfl (fun h5 => ?_) (fun h5 => ?_)
          ·
            have h5r := h5
            try simp only [Bool.not_eq_true', Bool.not_eq_false', Bool.not_not, bne_iff_ne, bne_eq_false_iff_eq, beq_eq_false_iff_ne, beq_iff_eq, ne_eq, decide_eq_true_eq, decide_eq_false_iff_not, Classical.not_not, List.length_map, List.length_take, Int.toNat_natCast, List.length_map, List.length_append, List.length_cons, List.length_nil, List.length_take] at h5
            refine a_draw mixed (by kernel_rfl) (by kernel_rfl) fun vf => ?_
            refine d_v' (j_fldp fld99f1 rfl rfl) ?_
            refine d_v' (j_load_box leaf3 rfl rfl rfl) ?_
            refine d_v' (j_fldp fld99f0 rfl rfl) ?_
            refine d_v' (j_load_box leaf97 rfl rfl rfl) ?_
            refine d_v' (j_move (evo rfl)) ?_
            refine d_v' (j_elemN slt97 rfl rfl rfl (at_map (by first | omega | (simp only [List.length_map, List.length_take, Int.toNat_natCast, List.length_map, List.length_append, List.length_cons, List.length_nil, List.length_take]; omega))) rfl) ?_
            refine d_v' (j_fldel fld146f0 rfl) ?_
            refine d_v' (j_load_el leaf3 rfl (at_map (by first | omega | (simp only [List.length_map, List.length_take, Int.toNat_natCast, List.length_map, List.length_append, List.length_cons, List.length_nil, List.length_take]; omega))) rfl) ?_
            refine d_v' (j_sub rfl rfl (by first | omega | (simp only [List.length_map, List.length_take, Int.toNat_natCast, List.length_map, List.length_append, List.length_cons, List.length_nil, List.length_take]; omega)) (by first | omega | (simp only [List.length_map, List.length_take, Int.toNat_natCast, List.length_map, List.length_append, List.length_cons, List.length_nil, List.length_take]; omega))) ?_
            refine d_v' (j_fldp fld99f1 rfl rfl) ?_
            refine d_s' (j_store_box leaf3 rfl rfl (Nat.le_of_ble_eq_true rfl) (evo rfl) rfl) ?_
            refine d_nil (by kernel_rfl) (by kernel_rfl) ?_
            refine a_region (by kernel_rfl) ?_
            refine op_v' (j_move (evo rfl)) ?_
            refine op_v' (j_add rfl rfl (by first | omega | (simp only [List.length_map, List.length_take, Int.toNat_natCast, List.length_map, List.length_append, List.length_cons, List.length_nil, List.length_take]; omega)) (by first | omega | (simp only [List.length_map, List.length_take, Int.toNat_natCast, List.length_map, List.length_append, List.length_cons, List.length_nil, List.length_take]; omega))) ?_
            refine op_v' (j_assign (evo rfl)) ?_
            refine op_nil ?_
            exact ⟨(i + 1, vr), (by first | exact (by first | omega | (simp only [List.length_map, List.length_take, Int.toNat_natCast, List.length_map, List.length_append, List.length_cons, List.length_nil, List.length_take]; omega)) | (dsimp only; exact (by first | omega | (simp only [List.length_map, List.length_take, Int.toNat_natCast, List.length_map, List.length_append, List.length_cons, List.length_nil, List.length_take]; omega)))), ⟨⟨rfl, rfl⟩, ⟨rfl, trivial⟩, ⟨box2Eq (by rw [weakB_next (by omega), if_pos (by assumption)]), rowEq (by rw [weakT_next (by omega), if_pos (by assumption), List.append_nil]), trivial⟩, ⟨rfl, rfl⟩, ⟨rfl, rfl⟩⟩, (by first | exact (by first | omega | (simp only [List.length_map, List.length_take, Int.toNat_natCast, List.length_map, List.length_append, List.length_cons, List.length_nil, List.length_take]; omega)) | (dsimp only; exact (by first | omega | (simp only [List.length_map, List.length_take, Int.toNat_natCast, List.length_map, List.length_append, List.length_cons, List.length_nil, List.length_take]; omega))))⟩
          ·
            have h5r := h5
            try simp only [Bool.not_eq_true', Bool.not_eq_false', Bool.not_not, bne_iff_ne, bne_eq_false_iff_eq, beq_eq_false_iff_ne, beq_iff_eq, ne_eq, decide_eq_true_eq, decide_eq_false_iff_not, Classical.not_not, List.length_map, List.length_take, Int.toNat_natCast, List.length_map, List.length_append, List.length_cons, List.length_nil, List.length_take] at h5
            refine a_draw mixed (by kernel_rfl) (by kernel_rfl) fun vf => ?_
            refine d_v' (j_fldp fld99f0 rfl rfl) ?_
            refine d_v' (j_load_box leaf97 rfl rfl rfl) ?_
            refine d_v' (j_fldp fld99f0 rfl rfl) ?_
            refine d_v' (j_load_box leaf97 rfl rfl rfl) ?_
            refine d_v' (j_move (evo rfl)) ?_
            refine d_v' (j_elemN slt97 rfl rfl rfl (at_map (by first | omega | (simp only [List.length_map, List.length_take, Int.toNat_natCast, List.length_map, List.length_append, List.length_cons, List.length_nil, List.length_take]; omega))) rfl) ?_
            refine d_v' (j_loada_el (ys := [.p _, .p _]) agg146 rfl (at_map (by first | omega | (simp only [List.length_map, List.length_take, Int.toNat_natCast, List.length_map, List.length_append, List.length_cons, List.length_nil, List.length_take]; omega))) rfl (Nat.le_refl _)) ?_
            refine d_n' (fun ver => j_buildSlice (parts := [(0, .tmp 55)]) (es := [[_, _]]) slt97 elt146 rfl rfl (by decide) (by decide) rfl rfl (by simp) rfl) ?_
            refine d_n' (fun ver => j_append_own slt97 elt146 rfl rfl rfl rfl rfl rfl (by rw [maxLen_eq]; first | omega | (simp only [List.length_map, List.length_take, Int.toNat_natCast, List.length_map, List.length_append, List.length_cons, List.length_nil, List.length_take]; omega)) (by first | omega | (simp only [List.length_map, List.length_take, Int.toNat_natCast, List.length_map, List.length_append, List.length_cons, List.length_nil, List.length_take]; omega))) ?_
            refine d_v' (j_fldp fld99f0 rfl rfl) ?_
            refine d_s' (j_store_box leaf97 rfl rfl (Nat.le_of_ble_eq_true rfl) (evo rfl) rfl) ?_
            refine d_nil (by kernel_rfl) (by kernel_rfl) ?_
            refine a_region (by kernel_rfl) ?_
            refine op_v' (j_move (evo rfl)) ?_
            refine op_v' (j_add rfl rfl (by first | omega | (simp only [List.length_map, List.length_take, Int.toNat_natCast, List.length_map, List.length_append, List.length_cons, List.length_nil, List.length_take]; omega)) (by first | omega | (simp only [List.length_map, List.length_take, Int.toNat_natCast, List.length_map, List.length_append, List.length_cons, List.length_nil, List.length_take]; omega))) ?_
            refine op_v' (j_assign (evo rfl)) ?_
            refine op_nil ?_
            exact ⟨(i + 1, (vf 1006)), (by first | exact (by first | omega | (simp only [List.length_map, List.length_take, Int.toNat_natCast, List.length_map, List.length_append, List.length_cons, List.length_nil, List.length_take]; omega)) | (dsimp only; exact (by first | omega | (simp only [List.length_map, List.length_take, Int.toNat_natCast, List.length_map, List.length_append, List.length_cons, List.length_nil, List.length_take]; omega)))), ⟨⟨rfl, rfl⟩, ⟨rfl, trivial⟩, ⟨box2Eq (by rw [weakB_next (by omega), if_neg (by assumption)]), rowEq (by rw [weakT_next (by omega), if_neg (by assumption), List.map_append]; rfl), trivial⟩, ⟨rfl, rfl⟩, ⟨rfl, rfl⟩⟩, (by first | exact (by first | omega | (simp only [List.length_map, List.length_take, Int.toNat_natCast, List.length_map, List.length_append, List.length_cons, List.length_nil, List.length_take]; omega)) | (dsimp only; exact (by first | omega | (simp only [List.length_map, List.length_take, Int.toNat_natCast, List.length_map, List.length_append, List.length_cons, List.length_nil, List.length_take]; omega))))⟩
        ·
          have h4r := h4
          try simp only [Bool.not_eq_true', Bool.not_eq_false', Bool.not_not, bne_iff_ne, bne_eq_false_iff_eq, beq_eq_false_iff_ne, beq_iff_eq, ne_eq, decide_eq_true_eq, decide_eq_false_iff_not, Classical.not_not, List.length_map, List.length_take, Int.toNat_natCast, List.length_map, List.length_append, List.length_cons, List.length_nil, List.length_take] at h4
          refine a_exit ?_
          refine a_seq ?_
          refine a_seq ?_
          refine a_region (by kernel_rfl) ?_
          refine op_v' (j_fldp fld99f1 rfl rfl) ?_
          refine op_v' (j_load_box leaf3 rfl rfl rfl) ?_
          refine op_v' (j_lt rfl rfl) ?_
          refine op_nil ?_
          refine a_cond rfl (fun h6 => ?_) (fun h6 => ?_)
          ·
            have h6r := h6
            try simp only [Bool.not_eq_true', Bool.not_eq_false', Bool.not_not, bne_iff_ne, bne_eq_false_iff_eq, beq_eq_false_iff_ne, beq_iff_eq, ne_eq, decide_eq_true_eq, decide_eq_false_iff_not, Classical.not_not, List.length_map, List.length_take, Int.toNat_natCast, List.length_map, List.length_append, List.length_cons, List.length_nil, List.length_take] at h6
            refine a_region (by kernel_rfl) ?_
            refine op_v' (j_fldp fld99f1 rfl rfl) ?_
            refine op_s' (j_store_box leaf3 rfl rfl (Nat.le_of_ble_eq_true rfl) (evo rfl) rfl) ?_
            refine op_nil ?_
            refine a_seq ?_
            refine a_region (by kernel_rfl) ?_
            refine op_v' (j_loada_box (ys := [.own 1006 vr, .p _]) agg99 rfl rfl rfl (Nat.le_of_ble_eq_true rfl)) ?_
            refine op_s' (j_storea_box0 agg99 rfl rfl rfl rfl rfl rfl) ?_
            refine op_v' (j_assign (evo rfl)) ?_
            refine op_nil ?_
            refine a_freezeboxK 0 4 (by decide) trivial rfl rfl rfl rfl ?_
            try dsimp only [List.set]
            refine a_ret ?_
            exact ⟨[.agg [.sl _, .p _], .p _], .tup [.agg [.sl _, .p _], .p _], [], [], [], ⟨⟨_, _, _, _, rfl, rfl, agg99, rfl⟩, rfl, trivial⟩, rfl, rfl, trivial, rfl, rfl, ⟨by unfold weakC; rw [wOk_of h1 hk, show i = c.1.length by omega, List.take_length]; (try rw [show i = c.1.length by omega, List.take_length] at *); first | (rw [if_pos rfl, Int.max_eq_right (by omega)]) | (rw [if_pos rfl, Int.max_eq_left (by omega)]), rfl, rfl⟩⟩
          ·
            have h6r := h6
            try simp only [Bool.not_eq_true', Bool.not_eq_false', Bool.not_not, bne_iff_ne, bne_eq_false_iff_eq, beq_eq_false_iff_ne, beq_iff_eq, ne_eq, decide_eq_true_eq, decide_eq_false_iff_not, Classical.not_not, List.length_map, List.length_take, Int.toNat_natCast, List.length_map, List.length_append, List.length_cons, List.length_nil, List.length_take] at h6
            refine a_skip ?_
            refine a_seq ?_
            refine a_region (by kernel_rfl) ?_
            refine op_v' (j_loada_box (ys := [.own 1006 vr, .p _]) agg99 rfl rfl rfl (Nat.le_of_ble_eq_true rfl)) ?_
            refine op_s' (j_storea_box0 agg99 rfl rfl rfl rfl rfl rfl) ?_
            refine op_v' (j_assign (evo rfl)) ?_
            refine op_nil ?_
            refine a_freezeboxK 0 4 (by decide) trivial rfl rfl rfl rfl ?_
            try dsimp only [List.set]
            refine a_ret ?_
            exact ⟨[.agg [.sl _, .p _], .p _], .tup [.agg [.sl _, .p _], .p _], [], [], [], ⟨⟨_, _, _, _, rfl, rfl, agg99, rfl⟩, rfl, trivial⟩, rfl, rfl, trivial, rfl, rfl, ⟨by unfold weakC; rw [wOk_of h1 hk, show i = c.1.length by omega, List.take_length]; (try rw [show i = c.1.length by omega, List.take_length] at *); first | (rw [if_pos rfl, Int.max_eq_right (by omega)]) | (rw [if_pos rfl, Int.max_eq_left (by omega)]), rfl, rfl⟩⟩


end Go.Ab

/- Walks. -/
import Derived.Test.YtfpikioibojoeaaBase
import Derived.Test.YtfpikioibojoeaaLaws3
import Derived.Test.YtfpikioibojoeaaWsmul
namespace Go.Ab
open Go.Proofs
set_option maxRecDepth 100000
set_option maxHeartbeats 8000000
set_option linter.unusedSimpArgs false
set_option linter.unusedVariables false
theorem f_lawCD (b1 : List Int) (hb1 : ∀ a ∈ b1, 0 ≤ a ∧ a ≤ 255) : Fn Try.prog 5 [.sl (b1.map dU)] [] (fun rr ii nn => rr = .p (.bool true) ∧ ii = [] ∧ nn = []) := by
  refine fn_of Try.func5 rfl (Nat.le_of_ble_eq_true rfl) fun w X g => ?_
  show AWp _ _ _ ⟨[(0, .sl (b1.map dU))], []⟩
  refine a_seq ?_
  refine a_region (by kernel_rfl) ?_
  refine op_v' (j_assign (evo rfl)) ?_
  refine op_nil ?_
  refine a_seq ?_
  refine a_seq ?_
  refine a_region (by kernel_rfl) ?_
  refine op_v' (j_move (evo rfl)) ?_
  refine op_v' (j_len_map Try.underlying22 rfl) ?_
  refine op_v' (j_gt rfl rfl) ?_
  refine op_nil ?_
  refine a_cond rfl (fun h1 => ?_) (fun h1 => ?_)
  ·
    have h1r := h1
    try simp only [Bool.not_eq_true', Bool.not_eq_false', Bool.not_not, bne_iff_ne, bne_eq_false_iff_eq, beq_eq_false_iff_ne, beq_iff_eq, ne_eq, decide_eq_true_eq, decide_eq_false_iff_not, Classical.not_not, List.length_map, List.length_take, Int.toNat_natCast, List.length_map] at h1
    refine a_seq ?_
    refine a_region (by kernel_rfl) ?_
    refine op_v' (j_assign (evo rfl)) ?_
    refine op_nil ?_
    refine a_ret ?_
    exact ⟨[.p _], .p _, [], [], [], ⟨rfl, trivial⟩, rfl, rfl, trivial, rfl, rfl, ⟨rfl, rfl, rfl⟩⟩
  ·
    have h1r := h1
    try simp only [Bool.not_eq_true', Bool.not_eq_false', Bool.not_not, bne_iff_ne, bne_eq_false_iff_eq, beq_eq_false_iff_ne, beq_iff_eq, ne_eq, decide_eq_true_eq, decide_eq_false_iff_not, Classical.not_not, List.length_map, List.length_take, Int.toNat_natCast, List.length_map] at h1
    refine a_skip ?_
    refine a_seq ?_
    refine a_region (by kernel_rfl) ?_
    refine op_v' (j_move (evo rfl)) ?_
    refine op_callE (v := fun x => .agg [.sl _, .p _]) (hp1 := fun x => []) [] false ent25 (f_dCD b1 hb1) ⟨.inl ⟨rfl, rfl⟩, trivial⟩ trivial rfl (fun _ => rfl) (fun _ => rfl) (.inl rfl) (fun _ => rfl) (fun _ => rfl) ?_
    rintro c11 hl11
    try dsimp only at hl11
    dsimp only [List.cons_append, List.nil_append]
    refine op_n' (fun ver => j_alloc elt25 rfl) fun v3x1 => ?_
    refine op_s' (j_storea_box0 agg25 rfl rfl rfl rfl rfl rfl) ?_
    refine op_nil ?_
    refine a_seq ?_
    refine a_region (by kernel_rfl) ?_
    refine op_v' (j_loada_box (ys := [.sl _, .p _]) agg25 rfl rfl rfl (Nat.le_of_ble_eq_true rfl)) ?_
    refine op_v0' (j_call0 (v := .p _) (hp1 := []) [] false [] ent26 (f_cdImpl c11) ⟨.inl ⟨rfl, rfl⟩, trivial⟩ trivial rfl rfl (fun h => by cases h) rfl (fun _ h => by cases h) (.inl rfl) rfl rfl) ?_
    refine op_v' (j_assign (evo rfl)) ?_
    refine op_nil ?_
    refine a_seq ?_
    refine a_seq ?_
    refine a_region (by kernel_rfl) ?_
    refine op_v' (j_move (evo rfl)) ?_
    refine op_v' (j_loada_box (ys := [.sl _, .p _]) agg25 rfl rfl rfl (Nat.le_of_ble_eq_true rfl)) ?_
    refine op_v0' (j_call0 (v := .p _) (hp1 := []) [] false [] ent27 (f_cdSpec c11) ⟨.inl ⟨rfl, rfl⟩, trivial⟩ trivial rfl rfl (fun h => by cases h) rfl (fun _ h => by cases h) (.inl rfl) rfl rfl) ?_
    refine op_v' (j_ne rfl rfl) ?_
    refine op_v' (j_move (evo rfl)) ?_
    refine op_split' 18 rfl (fun h2 => ?_) (fun h2 => ?_)
    ·
      have h2r := h2
      try simp only [Bool.not_eq_true', Bool.not_eq_false', Bool.not_not, bne_iff_ne, bne_eq_false_iff_eq, beq_eq_false_iff_ne, beq_iff_eq, ne_eq, decide_eq_true_eq, decide_eq_false_iff_not, Classical.not_not, List.length_map, List.length_take, Int.toNat_natCast, List.length_map] at h2
      exact absurd h2r (by simp)
    ·
      have h2r := h2
      try simp only [Bool.not_eq_true', Bool.not_eq_false', Bool.not_not, bne_iff_ne, bne_eq_false_iff_eq, beq_eq_false_iff_ne, beq_iff_eq, ne_eq, decide_eq_true_eq, decide_eq_false_iff_not, Classical.not_not, List.length_map, List.length_take, Int.toNat_natCast, List.length_map] at h2
      refine op_v' (j_want rfl rfl h2r (j_move (evo rfl))) ?_
      refine op_v' (j_want rfl rfl h2r (j_lt rfl rfl)) ?_
      refine op_v' (j_pick_f rfl h2r (evo rfl)) ?_
      refine op_nil ?_
      refine a_cond rfl (fun h3 => ?_) (fun h3 => ?_)
      ·
        have h3r := h3
        try simp only [Bool.not_eq_true', Bool.not_eq_false', Bool.not_not, bne_iff_ne, bne_eq_false_iff_eq, beq_eq_false_iff_ne, beq_iff_eq, ne_eq, decide_eq_true_eq, decide_eq_false_iff_not, Classical.not_not, List.length_map, List.length_take, Int.toNat_natCast, List.length_map] at h3
        refine a_seq ?_
        refine a_region (by kernel_rfl) ?_
        refine op_v' (j_move (evo rfl)) ?_
        refine op_v' (j_loada_box (ys := [.sl _, .p _]) agg25 rfl rfl rfl (Nat.le_of_ble_eq_true rfl)) ?_
        refine op_v0' (j_call0 (v := .p _) (hp1 := []) [] false [] ent27 (f_cdSpec c11) ⟨.inl ⟨rfl, rfl⟩, trivial⟩ trivial rfl rfl (fun h => by cases h) rfl (fun _ h => by cases h) (.inl rfl) rfl rfl) ?_
        refine op_v' (j_eq rfl rfl) ?_
        refine op_v' (j_assign (evo rfl)) ?_
        refine op_nil ?_
        refine a_ret ?_
        exact ⟨[.p _], .p _, [], [], [], ⟨rfl, trivial⟩, rfl, rfl, trivial, rfl, rfl, ⟨boolEq (by simp), rfl, rfl⟩⟩
      ·
        have h3r := h3
        try simp only [Bool.not_eq_true', Bool.not_eq_false', Bool.not_not, bne_iff_ne, bne_eq_false_iff_eq, beq_eq_false_iff_ne, beq_iff_eq, ne_eq, decide_eq_true_eq, decide_eq_false_iff_not, Classical.not_not, List.length_map, List.length_take, Int.toNat_natCast, List.length_map] at h3
        refine a_skip ?_
        refine a_seq ?_
        refine a_region (by kernel_rfl) ?_
        refine op_v' (j_loada_box (ys := [.sl _, .p _]) agg25 rfl rfl rfl (Nat.le_of_ble_eq_true rfl)) ?_
        refine op_v' (j_move (evo rfl)) ?_
        refine op_v0' (j_call0 (v := .tup [.agg [.sl _, .p _], .p _]) (hp1 := []) [] false [] ent28 (f_divide c11 (cdiv c11)) ⟨.inl ⟨rfl, rfl⟩, .inl ⟨rfl, rfl⟩, trivial⟩ trivial rfl rfl (fun h => by cases h) rfl (fun _ h => by cases h) (.inl rfl) rfl rfl) ?_
        refine op_v' (j_move (evo rfl)) ?_
        refine op_v' (j_extract rfl rfl) ?_
        refine op_v' (j_extract rfl rfl) ?_
        refine op_n' (fun ver => j_alloc elt25 rfl) fun v5x2 => ?_
        refine op_s' (j_storea_box0 agg25 rfl rfl rfl rfl rfl rfl) ?_
        refine op_v' (j_assign (evo rfl)) ?_
        refine op_nil ?_
        have h1c : 1 ≤ cdiv c11 := by omega
        obtain ⟨hB, hR, hO⟩ := cd_ok h1c
        rw [hR, hB]
        refine a_seq ?_
        refine a_draw mixed (by kernel_rfl) (by kernel_rfl) fun vf => ?_
        refine d_v' (j_move (evo rfl)) ?_
        refine d_v' (j_move (evo rfl)) ?_
        refine d_split' 33 rfl (fun h4 => ?_) (fun h4 => ?_)
        ·
          have h4r := h4
          try simp only [Bool.not_eq_true', Bool.not_eq_false', Bool.not_not, bne_iff_ne, bne_eq_false_iff_eq, beq_eq_false_iff_ne, beq_iff_eq, ne_eq, decide_eq_true_eq, decide_eq_false_iff_not, Classical.not_not, List.length_map, List.length_take, Int.toNat_natCast, List.length_map] at h4
          refine d_v' (j_want rfl rfl h4r (j_loada_box (ys := [.sl _, .p _]) agg25 rfl rfl rfl (Nat.le_of_ble_eq_true rfl))) ?_
          refine d_v0' (j_want rfl rfl h4r (j_call0 (v := .p _) (hp1 := []) [] false [] ent29 (f_ccImpl (cdC c11)) ⟨.inl ⟨rfl, rfl⟩, trivial⟩ trivial rfl rfl (fun h => by cases h) rfl (fun _ h => by cases h) (.inl rfl) rfl rfl)) ?_
          refine d_v' (j_want rfl rfl h4r (j_loada_box (ys := [.sl _, .p _]) agg25 rfl rfl rfl (Nat.le_of_ble_eq_true rfl))) ?_
          refine d_v0' (j_want rfl rfl h4r (j_call0 (v := .p _) (hp1 := []) [] false [] ent29 (f_ccImpl c11) ⟨.inl ⟨rfl, rfl⟩, trivial⟩ trivial rfl rfl (fun h => by cases h) rfl (fun _ h => by cases h) (.inl rfl) rfl rfl)) ?_
          refine d_v' (j_want rfl rfl h4r (j_eq rfl rfl)) ?_
          refine d_v' (j_pick_t rfl h4r (evo rfl)) ?_
          refine d_v' (j_move (evo rfl)) ?_
          refine d_split' 40 rfl (fun h5 => ?_) (fun h5 => ?_)
          ·
            have h5r := h5
            try simp only [Bool.not_eq_true', Bool.not_eq_false', Bool.not_not, bne_iff_ne, bne_eq_false_iff_eq, beq_eq_false_iff_ne, beq_iff_eq, ne_eq, decide_eq_true_eq, decide_eq_false_iff_not, Classical.not_not, List.length_map, List.length_take, Int.toNat_natCast, List.length_map] at h5
            refine d_v' (j_want rfl rfl h5r (j_loada_box (ys := [.sl _, .p _]) agg25 rfl rfl rfl (Nat.le_of_ble_eq_true rfl))) ?_
            refine d_v' (j_want rfl rfl h5r (j_loada_box (ys := [.sl _, .p _]) agg25 rfl rfl rfl (Nat.le_of_ble_eq_true rfl))) ?_
            refine d_v0' (j_want rfl rfl h5r (j_call0 (v := .p _) (hp1 := []) [] false [] ent30 (f_icImpl (cdC c11) c11) ⟨.inl ⟨rfl, rfl⟩, .inl ⟨rfl, rfl⟩, trivial⟩ trivial rfl rfl (fun h => by cases h) rfl (fun _ h => by cases h) (.inl rfl) rfl rfl)) ?_
            refine d_v' (j_pick_t rfl h5r (evo rfl)) ?_
            refine d_v' (j_move (evo rfl)) ?_
            refine d_split' 45 rfl (fun h6 => ?_) (fun h6 => ?_)
            ·
              have h6r := h6
              try simp only [Bool.not_eq_true', Bool.not_eq_false', Bool.not_not, bne_iff_ne, bne_eq_false_iff_eq, beq_eq_false_iff_ne, beq_iff_eq, ne_eq, decide_eq_true_eq, decide_eq_false_iff_not, Classical.not_not, List.length_map, List.length_take, Int.toNat_natCast, List.length_map] at h6
              refine d_v' (j_want rfl rfl h6r (j_loada_box (ys := [.sl _, .p _]) agg25 rfl rfl rfl (Nat.le_of_ble_eq_true rfl))) ?_
              refine d_v0' (j_want rfl rfl h6r (j_call0 (v := .p _) (hp1 := []) [] false [] ent26 (f_cdImpl (cdC c11)) ⟨.inl ⟨rfl, rfl⟩, trivial⟩ trivial rfl rfl (fun h => by cases h) rfl (fun _ h => by cases h) (.inl rfl) rfl rfl)) ?_
              refine d_v' (j_want rfl rfl h6r (j_eq rfl rfl)) ?_
              refine d_v' (j_pick_t rfl h6r (evo rfl)) ?_
              refine d_v' (j_assign (evo rfl)) ?_
              refine d_nil (by kernel_rfl) (by kernel_rfl) ?_
              refine a_ret ?_
              exact ⟨[.p _], .p _, [], [], [], ⟨rfl, trivial⟩, rfl, rfl, trivial, rfl, rfl, ⟨boolEq (decide_eq_true (cd_one h1c)), rfl, rfl⟩⟩
            ·
              have h6r := h6
              try simp only [Bool.not_eq_true', Bool.not_eq_false', Bool.not_not, bne_iff_ne, bne_eq_false_iff_eq, beq_eq_false_iff_ne, beq_iff_eq, ne_eq, decide_eq_true_eq, decide_eq_false_iff_not, Classical.not_not, List.length_map, List.length_take, Int.toNat_natCast, List.length_map] at h6
              exact absurd h6r (by rw [cd_ic h1c]; decide)
          ·
            have h5r := h5
            try simp only [Bool.not_eq_true', Bool.not_eq_false', Bool.not_not, bne_iff_ne, bne_eq_false_iff_eq, beq_eq_false_iff_ne, beq_iff_eq, ne_eq, decide_eq_true_eq, decide_eq_false_iff_not, Classical.not_not, List.length_map, List.length_take, Int.toNat_natCast, List.length_map] at h5
            exact absurd (cd_cc h1c) (of_decide_eq_false h5r)
        ·
          have h4r := h4
          try simp only [Bool.not_eq_true', Bool.not_eq_false', Bool.not_not, bne_iff_ne, bne_eq_false_iff_eq, beq_eq_false_iff_ne, beq_iff_eq, ne_eq, decide_eq_true_eq, decide_eq_false_iff_not, Classical.not_not, List.length_map, List.length_take, Int.toNat_natCast, List.length_map] at h4
          exact absurd h4r (by simp)


theorem f_lawST (b1 : List Int) (hb1 : ∀ a ∈ b1, 0 ≤ a ∧ a ≤ 255) : Fn Try.prog 6 [.sl (b1.map dU)] [] (fun rr ii nn => rr = .p (.bool true) ∧ ii = [] ∧ nn = []) := by
  refine fn_of Try.func6 rfl (Nat.le_of_ble_eq_true rfl) fun w X g => ?_
  show AWp _ _ _ ⟨[(0, .sl (b1.map dU))], []⟩
  refine a_seq ?_
  refine a_region (by kernel_rfl) ?_
  refine op_v' (j_assign (evo rfl)) ?_
  refine op_nil ?_
  refine a_seq ?_
  refine a_seq ?_
  refine a_region (by kernel_rfl) ?_
  refine op_v' (j_move (evo rfl)) ?_
  refine op_v' (j_len_map Try.underlying22 rfl) ?_
  refine op_v' (j_gt rfl rfl) ?_
  refine op_nil ?_
  refine a_cond rfl (fun h1 => ?_) (fun h1 => ?_)
  ·
    have h1r := h1
    try simp only [Bool.not_eq_true', Bool.not_eq_false', Bool.not_not, bne_iff_ne, bne_eq_false_iff_eq, beq_eq_false_iff_ne, beq_iff_eq, ne_eq, decide_eq_true_eq, decide_eq_false_iff_not, Classical.not_not, List.length_map, List.length_take, Int.toNat_natCast, List.length_map] at h1
    refine a_seq ?_
    refine a_region (by kernel_rfl) ?_
    refine op_v' (j_assign (evo rfl)) ?_
    refine op_nil ?_
    refine a_ret ?_
    exact ⟨[.p _], .p _, [], [], [], ⟨rfl, trivial⟩, rfl, rfl, trivial, rfl, rfl, ⟨rfl, rfl, rfl⟩⟩
  ·
    have h1r := h1
    try simp only [Bool.not_eq_true', Bool.not_eq_false', Bool.not_not, bne_iff_ne, bne_eq_false_iff_eq, beq_eq_false_iff_ne, beq_iff_eq, ne_eq, decide_eq_true_eq, decide_eq_false_iff_not, Classical.not_not, List.length_map, List.length_take, Int.toNat_natCast, List.length_map] at h1
    refine a_skip ?_
    refine a_seq ?_
    refine a_region (by kernel_rfl) ?_
    refine op_v' (j_move (evo rfl)) ?_
    refine op_callE (v := fun x => .agg [.sl _, .p _]) (hp1 := fun x => []) [] false ent15 (f_dST b1 hb1) ⟨.inl ⟨rfl, rfl⟩, trivial⟩ trivial rfl (fun _ => rfl) (fun _ => rfl) (.inl rfl) (fun _ => rfl) (fun _ => rfl) ?_
    rintro c11 hl11
    try dsimp only at hl11
    dsimp only [List.cons_append, List.nil_append]
    refine op_n' (fun ver => j_alloc elt25 rfl) fun v3x1 => ?_
    refine op_s' (j_storea_box0 agg25 rfl rfl rfl rfl rfl rfl) ?_
    refine op_nil ?_
    refine a_seq ?_
    refine a_region (by kernel_rfl) ?_
    refine op_v' (j_loada_box (ys := [.sl _, .p _]) agg25 rfl rfl rfl (Nat.le_of_ble_eq_true rfl)) ?_
    refine op_n1' (fun ver => j_call1 (v := .own 13 ver) (hp1 := [(13, some (ver, .row 3 1 _))]) [] false [] ent16 (f_stImpl c11) ⟨.inl ⟨rfl, rfl⟩, trivial⟩ trivial rfl rfl rfl (fun h => by cases h) rfl (List.all_eq_true.1 rfl) (.inl rfl) rfl rfl) fun v13x2 => ?_
    refine op_v' (j_assign (evo rfl)) ?_
    refine op_nil ?_
    refine a_seq ?_
    refine a_seq ?_
    refine a_region (by kernel_rfl) ?_
    refine op_v' (j_move (evo rfl)) ?_
    refine op_v' (j_loada_box (ys := [.sl _, .p _]) agg25 rfl rfl rfl (Nat.le_of_ble_eq_true rfl)) ?_
    refine op_n1' (fun ver => j_call1 (v := .own 16 ver) (hp1 := [(16, some (ver, .row 3 1 _))]) [] false [] ent19 (f_stSpec c11) ⟨.inl ⟨rfl, rfl⟩, trivial⟩ trivial rfl rfl rfl (fun h => by cases h) rfl (List.all_eq_true.1 rfl) (.inl rfl) rfl rfl) fun v16x3 => ?_
    refine op_v0' (j_call0 (v := .p _) (hp1 := []) [] true [13, 16] ent18 (f_cpInts (sumTab c11) (sumTab c11)) ⟨.inr ⟨rfl, view_own rfl rfl, rfl⟩, .inr ⟨rfl, view_own rfl rfl, rfl⟩, trivial⟩ trivial rfl rfl (fun _ => rfl) rfl (fun _ h => by cases h) (.inr ⟨rfl, by first | exact pl_new1 (fun _ => rfl) | (simp [plO, plV, plV.plL]; done)⟩) rfl rfl) ?_
    refine op_v' (j_not rfl) ?_
    refine op_v' (j_move (evo rfl)) ?_
    refine op_split' 19 rfl (fun h2 => ?_) (fun h2 => ?_)
    ·
      have h2r := h2
      try simp only [Bool.not_eq_true', Bool.not_eq_false', Bool.not_not, bne_iff_ne, bne_eq_false_iff_eq, beq_eq_false_iff_ne, beq_iff_eq, ne_eq, decide_eq_true_eq, decide_eq_false_iff_not, Classical.not_not, List.length_map, List.length_take, Int.toNat_natCast, List.length_map] at h2
      exact absurd h2r (by simp)
    ·
      have h2r := h2
      try simp only [Bool.not_eq_true', Bool.not_eq_false', Bool.not_not, bne_iff_ne, bne_eq_false_iff_eq, beq_eq_false_iff_ne, beq_iff_eq, ne_eq, decide_eq_true_eq, decide_eq_false_iff_not, Classical.not_not, List.length_map, List.length_take, Int.toNat_natCast, List.length_map] at h2
      refine op_v' (j_want rfl rfl h2r (j_move (evo rfl))) ?_
      refine op_v' (j_want rfl rfl h2r (j_len_own_map Try.underlying27 rfl rfl)) ?_
      refine op_v' (j_want rfl rfl h2r (j_eq rfl rfl)) ?_
      refine op_v' (j_pick_f rfl h2r (evo rfl)) ?_
      refine op_nil ?_
      refine a_cond rfl (fun h3 => ?_) (fun h3 => ?_)
      ·
        have h3r := h3
        try simp only [Bool.not_eq_true', Bool.not_eq_false', Bool.not_not, bne_iff_ne, bne_eq_false_iff_eq, beq_eq_false_iff_ne, beq_iff_eq, ne_eq, decide_eq_true_eq, decide_eq_false_iff_not, Classical.not_not, List.length_map, List.length_take, Int.toNat_natCast, List.length_map] at h3
        refine a_seq ?_
        refine a_region (by kernel_rfl) ?_
        refine op_v' (j_move (evo rfl)) ?_
        refine op_v' (j_loada_box (ys := [.sl _, .p _]) agg25 rfl rfl rfl (Nat.le_of_ble_eq_true rfl)) ?_
        refine op_n1' (fun ver => j_call1 (v := .own 26 ver) (hp1 := [(26, some (ver, .row 3 1 _))]) [] false [] ent19 (f_stSpec c11) ⟨.inl ⟨rfl, rfl⟩, trivial⟩ trivial rfl rfl rfl (fun h => by cases h) rfl (List.all_eq_true.1 rfl) (.inl rfl) rfl rfl) fun v26x4 => ?_
        refine op_v0' (j_call0 (v := .p _) (hp1 := []) [] true [13, 26] ent18 (f_cpInts (sumTab c11) (sumTab c11)) ⟨.inr ⟨rfl, view_own rfl rfl, rfl⟩, .inr ⟨rfl, view_own rfl rfl, rfl⟩, trivial⟩ trivial rfl rfl (fun _ => rfl) rfl (fun _ h => by cases h) (.inr ⟨rfl, by first | exact pl_new1 (fun _ => rfl) | (simp [plO, plV, plV.plL]; done)⟩) rfl rfl) ?_
        refine op_v' (j_assign (evo rfl)) ?_
        refine op_nil ?_
        refine a_ret ?_
        exact ⟨[.p _], .p _, [], [], [], ⟨rfl, trivial⟩, rfl, rfl, trivial, rfl, rfl, ⟨boolEq (by simp), rfl, rfl⟩⟩
      ·
        have h3r := h3
        try simp only [Bool.not_eq_true', Bool.not_eq_false', Bool.not_not, bne_iff_ne, bne_eq_false_iff_eq, beq_eq_false_iff_ne, beq_iff_eq, ne_eq, decide_eq_true_eq, decide_eq_false_iff_not, Classical.not_not, List.length_map, List.length_take, Int.toNat_natCast, List.length_map] at h3
        refine a_skip ?_
        refine a_seq ?_
        have hok : cOk c11 = true := by cases hq : cOk c11; (· exact absurd (show ((sumTab c11).length : Int) = 0 by rw [sumTab_bad hq]; rfl) (by assumption)); rfl
        have hl := sumTab_length hok
        have htn := totN_le hok
        have hti := totN_int hok
        refine a_region (by kernel_rfl) ?_
        refine op_v' (j_assign (evo rfl)) ?_
        refine op_nil ?_
        refine a_seq ?_
        refine a_seq ?_
        refine a_region (by kernel_rfl) ?_
        refine op_v' (j_assign (evo rfl)) ?_
        refine op_nil ?_
        refine a_block ?_
        refine a_loopF' (ι := Nat) (fun k => k ≤ (sumTab c11).length) (fun k r => (6, .p (.int .i64 ((k : Nat)))) :: (5, .p (.int .i64 (((upto (fun s => cnt c11.1 4096 s) 0 k : Nat) : Int)))) :: r) (fun k r => r) (fun k => (sumTab c11).length - k) (fun _ _ => rfl) (fun _ _ => rfl) 0 (by first | omega | (simp only [List.length_map, List.length_take, Int.toNat_natCast, List.length_map]; omega)) ⟨⟨rfl, rfl⟩, ⟨rfl, rfl, trivial⟩, trivial, ⟨rfl, rfl⟩, ⟨rfl, rfl⟩⟩ ?_
        intro k hpre0
        refine a_seq ?_
        refine a_seq ?_
        refine a_region (by kernel_rfl) ?_
        refine op_v' (j_move (evo rfl)) ?_
        refine op_v' (j_move (evo rfl)) ?_
        refine op_v' (j_len_own_map Try.underlying27 rfl rfl) ?_
        refine op_v' (j_lt rfl rfl) ?_
        refine op_nil ?_
        refine a_cond rfl (fun h4 => ?_) (fun h4 => ?_)
        ·
          have h4r := h4
          try simp only [Bool.not_eq_true', Bool.not_eq_false', Bool.not_not, bne_iff_ne, bne_eq_false_iff_eq, beq_eq_false_iff_ne, beq_iff_eq, ne_eq, decide_eq_true_eq, decide_eq_false_iff_not, Classical.not_not, List.length_map, List.length_take, Int.toNat_natCast, List.length_map] at h4
          refine a_skip ?_
          refine a_seq ?_
          refine a_block ?_
          refine a_seq ?_
          have hcl := cnt_le (ts := c11.1) (k := 4096) (s := (k : Int))
          have hul := upto_le (f := (fun s => cnt c11.1 4096 s)) (b := 0) (B := 4096) (fun s => cnt_le) k
          refine a_region (by kernel_rfl) ?_
          refine op_v' (j_move (evo rfl)) ?_
          refine op_v' (j_move (evo rfl)) ?_
          refine op_v' (j_move (evo rfl)) ?_
          refine op_v' (j_elem_ownN slt27 rfl rfl rfl rfl (by first | omega | (simp only [List.length_map, List.length_take, Int.toNat_natCast, List.length_map]; omega))) ?_
          refine op_v' (j_load_pel leaf3 rfl rfl (at_map (by first | omega | (simp only [List.length_map, List.length_take, Int.toNat_natCast, List.length_map]; omega))) rfl) ?_
          refine op_v' (j_add rfl rfl (by rw [sumTab_at hok (by omega)]; omega) (by rw [sumTab_at hok (by omega)]; omega)) ?_
          refine op_v' (j_assign (evo rfl)) ?_
          refine op_nil ?_
          refine a_seq ?_
          refine a_draw mixed (by kernel_rfl) (by kernel_rfl) fun vf => ?_
          refine d_v' (j_move (evo rfl)) ?_
          refine d_v' (j_move (evo rfl)) ?_
          refine d_v' (j_elem_ownN slt27 rfl rfl rfl rfl (by first | omega | (simp only [List.length_map, List.length_take, Int.toNat_natCast, List.length_map]; omega))) ?_
          refine d_v' (j_load_pel leaf3 rfl rfl (at_map (by first | omega | (simp only [List.length_map, List.length_take, Int.toNat_natCast, List.length_map]; omega))) rfl) ?_
          refine d_v' (j_move (evo rfl)) ?_
          refine d_v' (j_move (evo rfl)) ?_
          refine d_v' (j_len_own_map Try.underlying27 rfl rfl) ?_
          refine d_v' (j_sub rfl rfl (by first | omega | (simp only [List.length_map, List.length_take, Int.toNat_natCast, List.length_map]; omega)) (by first | omega | (simp only [List.length_map, List.length_take, Int.toNat_natCast, List.length_map]; omega))) ?_
          refine d_v' (j_move (evo rfl)) ?_
          refine d_v' (j_sub rfl rfl (by first | omega | (simp only [List.length_map, List.length_take, Int.toNat_natCast, List.length_map]; omega)) (by first | omega | (simp only [List.length_map, List.length_take, Int.toNat_natCast, List.length_map]; omega))) ?_
          refine d_v' (j_elem_ownN (n := totN c11.1 - k) slt27 rfl rfl rfl (by first | omega | (simp only [List.length_map, List.length_take, Int.toNat_natCast, List.length_map]; omega)) (by first | omega | (simp only [List.length_map, List.length_take, Int.toNat_natCast, List.length_map]; omega))) ?_
          refine d_v' (j_load_pel leaf3 rfl rfl (at_map (by first | omega | (simp only [List.length_map, List.length_take, Int.toNat_natCast, List.length_map]; omega))) rfl) ?_
          refine d_v' (j_ne rfl rfl) ?_
          refine d_nil (by kernel_rfl) (by kernel_rfl) ?_
          refine a_cond rfl (fun h5 => ?_) (fun h5 => ?_)
          ·
            have h5r := h5
            try simp only [Bool.not_eq_true', Bool.not_eq_false', Bool.not_not, bne_iff_ne, bne_eq_false_iff_eq, beq_eq_false_iff_ne, beq_iff_eq, ne_eq, decide_eq_true_eq, decide_eq_false_iff_not, Classical.not_not, List.length_map, List.length_take, Int.toNat_natCast, List.length_map] at h5
            exact absurd (tab_sym hok (k := k) (by omega)) (of_decide_eq_true h5r)
          ·
            have h5r := h5
            try simp only [Bool.not_eq_true', Bool.not_eq_false', Bool.not_not, bne_iff_ne, bne_eq_false_iff_eq, beq_eq_false_iff_ne, beq_iff_eq, ne_eq, decide_eq_true_eq, decide_eq_false_iff_not, Classical.not_not, List.length_map, List.length_take, Int.toNat_natCast, List.length_map] at h5
            refine a_skip ?_
            refine a_region (by kernel_rfl) ?_
            refine op_v' (j_move (evo rfl)) ?_
            refine op_v' (j_add rfl rfl (by first | omega | (simp only [List.length_map, List.length_take, Int.toNat_natCast, List.length_map]; omega)) (by first | omega | (simp only [List.length_map, List.length_take, Int.toNat_natCast, List.length_map]; omega))) ?_
            refine op_v' (j_assign (evo rfl)) ?_
            refine op_nil ?_
            exact ⟨k + 1, (by first | omega | (simp only [List.length_map, List.length_take, Int.toNat_natCast, List.length_map]; omega)), ⟨⟨rfl, rfl⟩, ⟨rfl, intEq (by rw [upto_next0, sumTab_at hok (by omega)]; rfl), trivial⟩, trivial, ⟨rfl, rfl⟩, ⟨rfl, rfl⟩⟩, (by first | omega | (simp only [List.length_map, List.length_take, Int.toNat_natCast, List.length_map]; omega))⟩
        ·
          have h4r := h4
          try simp only [Bool.not_eq_true', Bool.not_eq_false', Bool.not_not, bne_iff_ne, bne_eq_false_iff_eq, beq_eq_false_iff_ne, beq_iff_eq, ne_eq, decide_eq_true_eq, decide_eq_false_iff_not, Classical.not_not, List.length_map, List.length_take, Int.toNat_natCast, List.length_map] at h4
          refine a_exit ?_
          refine a_seq ?_
          have hts := tab_sum hok
          obtain rfl : k = totN c11.1 + 1 := by omega
          rw [hts]
          refine a_draw mixed (by kernel_rfl) (by kernel_rfl) fun vf => ?_
          refine d_v' (j_move (evo rfl)) ?_
          refine d_v' (j_eq rfl rfl) ?_
          refine d_v' (j_move (evo rfl)) ?_
          refine d_split' 55 rfl (fun h6 => ?_) (fun h6 => ?_)
          ·
            have h6r := h6
            try simp only [Bool.not_eq_true', Bool.not_eq_false', Bool.not_not, bne_iff_ne, bne_eq_false_iff_eq, beq_eq_false_iff_ne, beq_iff_eq, ne_eq, decide_eq_true_eq, decide_eq_false_iff_not, Classical.not_not, List.length_map, List.length_take, Int.toNat_natCast, List.length_map] at h6
            refine d_v' (j_want rfl rfl h6r (j_move (evo rfl))) ?_
            refine d_v' (j_want rfl rfl h6r (j_len_own_map Try.underlying27 rfl rfl)) ?_
            refine d_v' (j_want rfl rfl h6r (j_loada_box (ys := [.sl _, .p _]) agg25 rfl rfl rfl (Nat.le_of_ble_eq_true rfl))) ?_
            refine d_v0' (j_want rfl rfl h6r (j_call0 (v := .p _) (hp1 := []) [] false [] ent31 (f_tcImpl c11) ⟨.inl ⟨rfl, rfl⟩, trivial⟩ trivial rfl rfl (fun h => by cases h) rfl (fun _ h => by cases h) (.inl rfl) rfl rfl)) ?_
            refine d_v' (j_want rfl rfl h6r (j_add rfl rfl (by first | omega | (simp only [List.length_map, List.length_take, Int.toNat_natCast, List.length_map]; omega)) (by first | omega | (simp only [List.length_map, List.length_take, Int.toNat_natCast, List.length_map]; omega)))) ?_
            refine d_v' (j_want rfl rfl h6r (j_eq rfl rfl)) ?_
            refine d_v' (j_pick_t rfl h6r (evo rfl)) ?_
            refine d_v' (j_move (evo rfl)) ?_
            refine d_split' 63 rfl (fun h7 => ?_) (fun h7 => ?_)
            ·
              have h7r := h7
              try simp only [Bool.not_eq_true', Bool.not_eq_false', Bool.not_not, bne_iff_ne, bne_eq_false_iff_eq, beq_eq_false_iff_ne, beq_iff_eq, ne_eq, decide_eq_true_eq, decide_eq_false_iff_not, Classical.not_not, List.length_map, List.length_take, Int.toNat_natCast, List.length_map] at h7
              refine d_v' (j_want rfl rfl h7r (j_loada_box (ys := [.sl _, .p _]) agg25 rfl rfl rfl (Nat.le_of_ble_eq_true rfl))) ?_
              refine d_v0' (j_want rfl rfl h7r (j_call0 (v := .p _) (hp1 := []) [] false [] ent29 (f_ccImpl c11) ⟨.inl ⟨rfl, rfl⟩, trivial⟩ trivial rfl rfl (fun h => by cases h) rfl (fun _ h => by cases h) (.inl rfl) rfl rfl)) ?_
              refine d_v' (j_want rfl rfl h7r (j_loada_box (ys := [.sl _, .p _]) agg25 rfl rfl rfl (Nat.le_of_ble_eq_true rfl))) ?_
              refine d_n' (fun ver => j_want rfl rfl h7r (j_buildSlice (parts := [(0, .tmp 66)]) (es := [[_, _]]) slt40 elt25 rfl rfl (by decide) (by decide) rfl rfl (by simp) rfl)) ?_
              refine d_v0' (j_want rfl rfl h7r (j_call0 (v := .p _) (hp1 := []) [] true [67] ent32 (f_csImpl [c11]) ⟨.inr ⟨rfl, view_own rfl rfl, rfl⟩, trivial⟩ trivial rfl rfl (fun _ => rfl) rfl (fun _ h => by cases h) (.inr ⟨rfl, by first | exact pl_new1 (fun _ => rfl) | (simp [plO, plV, plV.plL]; done)⟩) rfl rfl)) ?_
              refine d_v' (j_want rfl rfl h7r (j_eq rfl rfl)) ?_
              refine d_v' (j_pick_t rfl h7r (evo rfl)) ?_
              refine d_v' (j_assign (evo rfl)) ?_
              refine d_nil (by kernel_rfl) (by kernel_rfl) ?_
              refine a_ret ?_
              exact ⟨[.p _], .p _, [], [], [], ⟨rfl, trivial⟩, rfl, rfl, trivial, rfl, rfl, ⟨boolEq (decide_eq_true csV_one.symm), rfl, rfl⟩⟩
            ·
              have h7r := h7
              try simp only [Bool.not_eq_true', Bool.not_eq_false', Bool.not_not, bne_iff_ne, bne_eq_false_iff_eq, beq_eq_false_iff_ne, beq_iff_eq, ne_eq, decide_eq_true_eq, decide_eq_false_iff_not, Classical.not_not, List.length_map, List.length_take, Int.toNat_natCast, List.length_map] at h7
              exact absurd (of_decide_eq_false h7r) (fun q => q (by rw [if_pos hok]; omega))
          ·
            have h6r := h6
            try simp only [Bool.not_eq_true', Bool.not_eq_false', Bool.not_not, bne_iff_ne, bne_eq_false_iff_eq, beq_eq_false_iff_ne, beq_iff_eq, ne_eq, decide_eq_true_eq, decide_eq_false_iff_not, Classical.not_not, List.length_map, List.length_take, Int.toNat_natCast, List.length_map] at h6
            exact absurd h6r (by simp)


end Go.Ab

/- Walks. -/
import Derived.Test.YtfpikioibojoeaaBase
import Derived.Test.YtfpikioibojoeaaWsfix
import Derived.Test.YtfpikioibojoeaaWsprobd
namespace Go.Ab
open Go.Proofs
set_option maxRecDepth 100000
set_option maxHeartbeats 8000000
set_option linter.unusedSimpArgs false
set_option linter.unusedVariables false
theorem f_dFL (b : List Int) (hb : ∀ a ∈ b, 0 ≤ a ∧ a ≤ 255) : Fn Try.prog 53 [.sl (b.map dU)] [] (fun rr ii nn => ∃ x : List Con × Int, (okP x.1 14 15 ∧ -20 ≤ x.2 ∧ x.2 ≤ 20) ∧ rr = .tup [.sl (x.1.map dC), .p (.int .i64 x.2)] ∧ ii = [] ∧ nn = []) := by
  refine fn_of Try.func53 rfl (Nat.le_of_ble_eq_true rfl) fun w X g => ?_
  show AWp _ _ _ ⟨[(0, .sl (b.map dU))], []⟩
  refine a_seq ?_
  refine a_region (by kernel_rfl) ?_
  refine op_v' (j_assign (evo rfl)) ?_
  refine op_v' (j_assign (evo rfl)) ?_
  refine op_nil ?_
  refine a_seq ?_
  refine a_region (by kernel_rfl) ?_
  refine op_v' (j_move (evo rfl)) ?_
  refine op_n1' (fun ver => j_call1 (v := .ptr 7 ver 0) (hp1 := [(7, some (ver, .box 110 [.sl _, .p _]))]) [] false [] ent63 (f_open _) ⟨.inl ⟨rfl, rfl⟩, trivial⟩ trivial rfl rfl rfl (fun h => by cases h) rfl (List.all_eq_true.1 rfl) (.inl rfl) rfl rfl) fun v7x1 => ?_
  refine op_v' (j_assign (evo rfl)) ?_
  refine op_nil ?_
  refine a_seq ?_
  have hbt := okB_take (Nat.le_refl _) hb
  refine a_region (by kernel_rfl) ?_
  refine op_v' (j_move (evo rfl)) ?_
  refine op_v' (j_move (evo rfl)) ?_
  refine op_callE1 (v := fun x ver => .own 10 ver) (hp1 := fun x ver => [(7, some (v7x1, .box 110 [.sl _, .p _])), (10, some (ver, .row 25 2 _))]) [(7, v7x1)] false ent101 (f_l5Hard (b.take 2000) 0 hbt (by decide)) ⟨.inl ⟨rfl, rfl⟩, trivial⟩ ⟨⟨rfl, rfl⟩, trivial⟩ rfl rfl (fun _ => rfl) (fun _ => rfl) (.inl rfl) (fun _ _ => rfl) (fun _ _ => rfl) ?_
  rintro ⟨l10, p10⟩ ⟨ho10, hp10⟩ v10x2
  try dsimp only at ho10
  try dsimp only at hp10
  dsimp only [List.cons_append, List.nil_append]
  refine op_freezeK 10 trivial rfl rfl rfl ?_
  refine op_callE (v := fun x => .sl _) (hp1 := fun x => [(7, some (v7x1, .box 110 [.sl _, .p _]))]) [(7, v7x1)] false ent100 (f_l3Mut (b.take 2000) p10 l10 14 12 hbt (by omega) ho10 (by decide) (by decide)) ⟨.inl ⟨rfl, rfl⟩, .inl ⟨rfl, rfl⟩, trivial⟩ ⟨⟨rfl, rfl⟩, trivial⟩ rfl (fun _ => rfl) (fun _ => rfl) (.inl rfl) (fun _ => rfl) (fun _ => rfl) ?_
  rintro ⟨l11, p11⟩ ⟨ho11, hl11, hp11⟩
  try dsimp only at ho11
  try dsimp only at hl11
  try dsimp only at hp11
  dsimp only [List.cons_append, List.nil_append]
  refine op_v' (j_assign (evo rfl)) ?_
  refine op_nil ?_
  refine a_seq ?_
  refine a_region (by kernel_rfl) ?_
  refine op_v' (j_move (evo rfl)) ?_
  refine op_v' (j_move (evo rfl)) ?_
  refine op_n' (fun ver => j_buildSlice (parts := [(0, .const (.int .i64 1)), (1, .const (.int .i64 (-1))), (2, .const (.int .i64 2)), (3, .const (.int .i64 (-2))), (4, .const (.int .i64 3)), (5, .const (.int .i64 (-4))), (6, .const (.int .i64 12)), (7, .const (.int .i64 0)), (8, .const (.int .i64 13))]) (es := [[_], [_], [_], [_], [_], [_], [_], [_], [_]]) slt27 elt3 rfl rfl (by decide) (by decide) rfl rfl (by simp) rfl) fun v14x3 => ?_
  refine op_v0' (j_call0 (v := .p _) (hp1 := [(7, some (v7x1, .box 110 [.sl _, .p _])), (14, some (v14x3, .row 3 1 _))]) [(7, v7x1), (14, v14x3)] false [7, 14] ent99 (f_num (b.take 2000) p11 [1, -1, 2, -2, 3, -4, 12, 0, 13] hbt (by omega) (by decide) (by decide)) ⟨.inl ⟨rfl, rfl⟩, .inl ⟨rfl, rfl⟩, trivial⟩ ⟨⟨rfl, rfl⟩, ⟨rfl, rfl⟩, trivial⟩ rfl rfl (fun h => by cases h) rfl (List.all_eq_true.1 rfl) (.inl rfl) rfl rfl) ?_
  refine op_v' (j_assign (evo rfl)) ?_
  refine op_v' (j_assign (evo rfl)) ?_
  refine op_nil ?_
  refine a_ret ?_
  exact ⟨[.sl _, .p _], .tup [.sl _, .p _], [], [], [], ⟨rfl, rfl, trivial⟩, rfl, rfl, trivial, rfl, rfl, ⟨(l11, ofV (b.take 2000) p11 ([1, -1, 2, -2, 3, -4, 12, 0, 13] : List Int)), ⟨ho11, ofV_in (l := [1, -1, 2, -2, 3, -4, 12, 0, 13]) (lo := -20) (hi := 20) (by decide) (by decide)⟩, rfl, rfl, rfl⟩⟩


theorem f_lawFO (b1 b2 : List Int) (hb1 : ∀ a ∈ b1, 0 ≤ a ∧ a ≤ 255) (hb2 : ∀ a ∈ b2, 0 ≤ a ∧ a ≤ 255) : Fn Try.prog 12 [.sl (b1.map dU), .sl (b2.map dU)] [] (fun rr ii nn => rr = .p (.bool true) ∧ ii = [] ∧ nn = []) := by
  refine fn_of Try.func12 rfl (Nat.le_of_ble_eq_true rfl) fun w X g => ?_
  show AWp _ _ _ ⟨[(0, .sl (b1.map dU)), (1, .sl (b2.map dU))], []⟩
  refine a_seq ?_
  refine a_region (by kernel_rfl) ?_
  refine op_v' (j_assign (evo rfl)) ?_
  refine op_nil ?_
  refine a_seq ?_
  refine a_seq ?_
  refine a_region (by kernel_rfl) ?_
  refine op_v' (j_move (evo rfl)) ?_
  refine op_v' (j_len_map Try.underlying22 rfl) ?_
  refine op_v' (j_gt rfl rfl) ?_
  refine op_v' (j_move (evo rfl)) ?_
  refine op_split' 22 rfl (fun h1 => ?_) (fun h1 => ?_)
  ·
    have h1r := h1
    try simp only [Bool.not_eq_true', Bool.not_eq_false', Bool.not_not, bne_iff_ne, bne_eq_false_iff_eq, beq_eq_false_iff_ne, beq_iff_eq, ne_eq, decide_eq_true_eq, decide_eq_false_iff_not, Classical.not_not, List.length_map, List.length_take, Int.toNat_natCast, List.length_map] at h1
    refine op_v' (j_unwantV rfl rfl h1r) ?_
    refine op_v' (j_unwantV rfl rfl h1r) ?_
    refine op_v' (j_unwantV rfl rfl h1r) ?_
    refine op_v' (j_pick_t rfl h1r (evo rfl)) ?_
    refine op_nil ?_
    refine a_tt rfl ?_
    refine a_seq ?_
    refine a_region (by kernel_rfl) ?_
    refine op_v' (j_assign (evo rfl)) ?_
    refine op_nil ?_
    refine a_ret ?_
    exact ⟨[.p _], .p _, [], [], [], ⟨rfl, trivial⟩, rfl, rfl, trivial, rfl, rfl, ⟨rfl, rfl, rfl⟩⟩
  ·
    have h1r := h1
    try simp only [Bool.not_eq_true', Bool.not_eq_false', Bool.not_not, bne_iff_ne, bne_eq_false_iff_eq, beq_eq_false_iff_ne, beq_iff_eq, ne_eq, decide_eq_true_eq, decide_eq_false_iff_not, Classical.not_not, List.length_map, List.length_take, Int.toNat_natCast, List.length_map] at h1
    refine op_v' (j_want rfl rfl h1r (j_move (evo rfl))) ?_
    refine op_v' (j_want rfl rfl h1r (j_len_map Try.underlying22 rfl)) ?_
    refine op_v' (j_want rfl rfl h1r (j_gt rfl rfl)) ?_
    refine op_v' (j_pick_f rfl h1r (evo rfl)) ?_
    refine op_nil ?_
    refine a_cond rfl (fun h2 => ?_) (fun h2 => ?_)
    ·
      have h2r := h2
      try simp only [Bool.not_eq_true', Bool.not_eq_false', Bool.not_not, bne_iff_ne, bne_eq_false_iff_eq, beq_eq_false_iff_ne, beq_iff_eq, ne_eq, decide_eq_true_eq, decide_eq_false_iff_not, Classical.not_not, List.length_map, List.length_take, Int.toNat_natCast, List.length_map] at h2
      refine a_seq ?_
      refine a_region (by kernel_rfl) ?_
      refine op_v' (j_assign (evo rfl)) ?_
      refine op_nil ?_
      refine a_ret ?_
      exact ⟨[.p _], .p _, [], [], [], ⟨rfl, trivial⟩, rfl, rfl, trivial, rfl, rfl, ⟨rfl, rfl, rfl⟩⟩
    ·
      have h2r := h2
      try simp only [Bool.not_eq_true', Bool.not_eq_false', Bool.not_not, bne_iff_ne, bne_eq_false_iff_eq, beq_eq_false_iff_ne, beq_iff_eq, ne_eq, decide_eq_true_eq, decide_eq_false_iff_not, Classical.not_not, List.length_map, List.length_take, Int.toNat_natCast, List.length_map] at h2
      refine a_skip ?_
      refine a_seq ?_
      refine a_region (by kernel_rfl) ?_
      refine op_v' (j_move (evo rfl)) ?_
      refine op_callE (v := fun x => .tup [.sl _, .p _]) (hp1 := fun x => []) [] false ent53 (f_dFL b1 hb1) ⟨.inl ⟨rfl, rfl⟩, trivial⟩ trivial rfl (fun _ => rfl) (fun _ => rfl) (.inl rfl) (fun _ => rfl) (fun _ => rfl) ?_
      rintro ⟨l29, m29⟩ ⟨ho29, hm29⟩
      try dsimp only at ho29
      try dsimp only at hm29
      dsimp only [List.cons_append, List.nil_append]
      refine op_v' (j_move (evo rfl)) ?_
      refine op_v' (j_extract rfl rfl) ?_
      refine op_v' (j_extract rfl rfl) ?_
      refine op_v' (j_assign (evo rfl)) ?_
      refine op_v' (j_assign (evo rfl)) ?_
      refine op_nil ?_
      refine a_seq ?_
      refine a_region (by kernel_rfl) ?_
      refine op_v' (j_move (evo rfl)) ?_
      refine op_callE (v := fun x => .tup [.sl _, .p _]) (hp1 := fun x => []) [] false ent53 (f_dFL b2 hb2) ⟨.inl ⟨rfl, rfl⟩, trivial⟩ trivial rfl (fun _ => rfl) (fun _ => rfl) (.inl rfl) (fun _ => rfl) (fun _ => rfl) ?_
      rintro ⟨l34, m34⟩ ⟨ho34, hm34⟩
      try dsimp only at ho34
      try dsimp only at hm34
      dsimp only [List.cons_append, List.nil_append]
      refine op_v' (j_move (evo rfl)) ?_
      refine op_v' (j_extract rfl rfl) ?_
      refine op_v' (j_extract rfl rfl) ?_
      refine op_v' (j_assign (evo rfl)) ?_
      refine op_v' (j_assign (evo rfl)) ?_
      refine op_nil ?_
      refine a_seq ?_
      refine a_region (by kernel_rfl) ?_
      refine op_v' (j_move (evo rfl)) ?_
      refine op_v' (j_move (evo rfl)) ?_
      refine op_v0' (j_call0 (v := .tup [.sl _, .p _]) (hp1 := []) [] false [] ent54 (f_flImpl l29 m29) ⟨.inl ⟨rfl, rfl⟩, .inl ⟨rfl, rfl⟩, trivial⟩ trivial rfl rfl (fun h => by cases h) rfl (fun _ h => by cases h) (.inl rfl) rfl rfl) ?_
      refine op_v' (j_move (evo rfl)) ?_
      refine op_v' (j_extract rfl rfl) ?_
      refine op_v' (j_extract rfl rfl) ?_
      refine op_v' (j_assign (evo rfl)) ?_
      refine op_v' (j_assign (evo rfl)) ?_
      refine op_nil ?_
      refine a_seq ?_
      refine a_region (by kernel_rfl) ?_
      refine op_v' (j_move (evo rfl)) ?_
      refine op_v' (j_move (evo rfl)) ?_
      refine op_v0' (j_call0 (v := .tup [.sl _, .p _]) (hp1 := []) [] false [] ent55 (f_flSpec l29 m29) ⟨.inl ⟨rfl, rfl⟩, .inl ⟨rfl, rfl⟩, trivial⟩ trivial rfl rfl (fun h => by cases h) rfl (fun _ h => by cases h) (.inl rfl) rfl rfl) ?_
      refine op_v' (j_move (evo rfl)) ?_
      refine op_v' (j_extract rfl rfl) ?_
      refine op_v' (j_extract rfl rfl) ?_
      refine op_v' (j_assign (evo rfl)) ?_
      refine op_v' (j_assign (evo rfl)) ?_
      refine op_nil ?_
      refine a_seq ?_
      refine a_seq ?_
      refine a_region (by kernel_rfl) ?_
      refine op_v' (j_move (evo rfl)) ?_
      refine op_v' (j_move (evo rfl)) ?_
      refine op_v' (j_neb Try.underlying4 rfl rfl) ?_
      refine op_v' (j_move (evo rfl)) ?_
      refine op_split' 52 rfl (fun h3 => ?_) (fun h3 => ?_)
      ·
        have h3r := h3
        try simp only [Bool.not_eq_true', Bool.not_eq_false', Bool.not_not, bne_iff_ne, bne_eq_false_iff_eq, beq_eq_false_iff_ne, beq_iff_eq, ne_eq, decide_eq_true_eq, decide_eq_false_iff_not, Classical.not_not, List.length_map, List.length_take, Int.toNat_natCast, List.length_map] at h3
        exact absurd h3r (by simp)
      ·
        have h3r := h3
        try simp only [Bool.not_eq_true', Bool.not_eq_false', Bool.not_not, bne_iff_ne, bne_eq_false_iff_eq, beq_eq_false_iff_ne, beq_iff_eq, ne_eq, decide_eq_true_eq, decide_eq_false_iff_not, Classical.not_not, List.length_map, List.length_take, Int.toNat_natCast, List.length_map] at h3
        refine op_v' (j_want rfl rfl h3r (j_move (evo rfl))) ?_
        refine op_v' (j_want rfl rfl h3r (j_move (evo rfl))) ?_
        refine op_v0' (j_want rfl rfl h3r (j_call0 (v := .p _) (hp1 := []) [] false [] ent52 (f_cpProb (flL l29 m29) (flL l29 m29)) ⟨.inl ⟨rfl, rfl⟩, .inl ⟨rfl, rfl⟩, trivial⟩ trivial rfl rfl (fun h => by cases h) rfl (fun _ h => by cases h) (.inl rfl) rfl rfl)) ?_
        refine op_v' (j_want rfl rfl h3r (j_not rfl)) ?_
        refine op_v' (j_pick_f rfl h3r (evo rfl)) ?_
        refine op_v' (j_move (evo rfl)) ?_
        refine op_split' 58 rfl (fun h4 => ?_) (fun h4 => ?_)
        ·
          have h4r := h4
          try simp only [Bool.not_eq_true', Bool.not_eq_false', Bool.not_not, bne_iff_ne, bne_eq_false_iff_eq, beq_eq_false_iff_ne, beq_iff_eq, ne_eq, decide_eq_true_eq, decide_eq_false_iff_not, Classical.not_not, List.length_map, List.length_take, Int.toNat_natCast, List.length_map] at h4
          exact absurd h4r (by simp)
        ·
          have h4r := h4
          try simp only [Bool.not_eq_true', Bool.not_eq_false', Bool.not_not, bne_iff_ne, bne_eq_false_iff_eq, beq_eq_false_iff_ne, beq_iff_eq, ne_eq, decide_eq_true_eq, decide_eq_false_iff_not, Classical.not_not, List.length_map, List.length_take, Int.toNat_natCast, List.length_map] at h4
          refine op_v' (j_want rfl rfl h4r (j_move (evo rfl))) ?_
          refine op_v' (j_want rfl rfl h4r (j_not rfl)) ?_
          refine op_v' (j_pick_f rfl h4r (evo rfl)) ?_
          refine op_v' (j_move (evo rfl)) ?_
          refine op_split' 62 rfl (fun h5 => ?_) (fun h5 => ?_)
          ·
            have h5r := h5
            try simp only [Bool.not_eq_true', Bool.not_eq_false', Bool.not_not, bne_iff_ne, bne_eq_false_iff_eq, beq_eq_false_iff_ne, beq_iff_eq, ne_eq, decide_eq_true_eq, decide_eq_false_iff_not, Classical.not_not, List.length_map, List.length_take, Int.toNat_natCast, List.length_map] at h5
            refine op_v' (j_unwantV rfl rfl h5r) ?_
            refine op_v' (j_unwantV rfl rfl h5r) ?_
            refine op_v' (j_unwantV rfl rfl h5r) ?_
            refine op_v' (j_pick_t rfl h5r (evo rfl)) ?_
            refine op_v' (j_move (evo rfl)) ?_
            refine op_v' (j_unwantV rfl rfl rfl) ?_
            refine op_v' (j_unwantV rfl rfl rfl) ?_
            refine op_v' (j_unwantV rfl rfl rfl) ?_
            refine op_v' (j_unwantV rfl rfl rfl) ?_
            refine op_v' (j_pick_t rfl rfl (evo rfl)) ?_
            refine op_nil ?_
            refine a_tt rfl ?_
            refine a_seq ?_
            refine a_region (by kernel_rfl) ?_
            refine op_v' (j_move (evo rfl)) ?_
            refine op_v' (j_move (evo rfl)) ?_
            refine op_v' (j_eqb Try.underlying4 rfl rfl) ?_
            refine op_v' (j_move (evo rfl)) ?_
            refine op_split' 76 rfl (fun h6 => ?_) (fun h6 => ?_)
            ·
              have h6r := h6
              try simp only [Bool.not_eq_true', Bool.not_eq_false', Bool.not_not, bne_iff_ne, bne_eq_false_iff_eq, beq_eq_false_iff_ne, beq_iff_eq, ne_eq, decide_eq_true_eq, decide_eq_false_iff_not, Classical.not_not, List.length_map, List.length_take, Int.toNat_natCast, List.length_map] at h6
              refine op_v' (j_want rfl rfl h6r (j_move (evo rfl))) ?_
              refine op_v' (j_want rfl rfl h6r (j_move (evo rfl))) ?_
              refine op_v0' (j_want rfl rfl h6r (j_call0 (v := .p _) (hp1 := []) [] false [] ent52 (f_cpProb (flL l29 m29) (flL l29 m29)) ⟨.inl ⟨rfl, rfl⟩, .inl ⟨rfl, rfl⟩, trivial⟩ trivial rfl rfl (fun h => by cases h) rfl (fun _ h => by cases h) (.inl rfl) rfl rfl)) ?_
              refine op_v' (j_pick_t rfl h6r (evo rfl)) ?_
              refine op_v' (j_assign (evo rfl)) ?_
              refine op_nil ?_
              refine a_ret ?_
              exact ⟨[.p _], .p _, [], [], [], ⟨rfl, trivial⟩, rfl, rfl, trivial, rfl, rfl, ⟨boolEq (by simp), rfl, rfl⟩⟩
            ·
              have h6r := h6
              try simp only [Bool.not_eq_true', Bool.not_eq_false', Bool.not_not, bne_iff_ne, bne_eq_false_iff_eq, beq_eq_false_iff_ne, beq_iff_eq, ne_eq, decide_eq_true_eq, decide_eq_false_iff_not, Classical.not_not, List.length_map, List.length_take, Int.toNat_natCast, List.length_map] at h6
              exact absurd h6r (by simp)
          ·
            have h5r := h5
            try simp only [Bool.not_eq_true', Bool.not_eq_false', Bool.not_not, bne_iff_ne, bne_eq_false_iff_eq, beq_eq_false_iff_ne, beq_iff_eq, ne_eq, decide_eq_true_eq, decide_eq_false_iff_not, Classical.not_not, List.length_map, List.length_take, Int.toNat_natCast, List.length_map] at h5
            refine op_v' (j_want rfl rfl h5r (j_move (evo rfl))) ?_
            refine op_v' (j_want rfl rfl h5r (j_move (evo rfl))) ?_
            refine op_v' (j_want rfl rfl h5r (j_eq rfl rfl)) ?_
            refine op_v' (j_pick_f rfl h5r (evo rfl)) ?_
            refine op_v' (j_move (evo rfl)) ?_
            refine op_split' 67 rfl (fun h7 => ?_) (fun h7 => ?_)
            ·
              have h7r := h7
              try simp only [Bool.not_eq_true', Bool.not_eq_false', Bool.not_not, bne_iff_ne, bne_eq_false_iff_eq, beq_eq_false_iff_ne, beq_iff_eq, ne_eq, decide_eq_true_eq, decide_eq_false_iff_not, Classical.not_not, List.length_map, List.length_take, Int.toNat_natCast, List.length_map] at h7
              refine op_v' (j_unwantV rfl rfl h7r) ?_
              refine op_v' (j_unwantV rfl rfl h7r) ?_
              refine op_v' (j_unwantV rfl rfl h7r) ?_
              refine op_v' (j_unwantV rfl rfl h7r) ?_
              refine op_v' (j_pick_t rfl h7r (evo rfl)) ?_
              refine op_nil ?_
              refine a_tt rfl ?_
              refine a_seq ?_
              refine a_region (by kernel_rfl) ?_
              refine op_v' (j_move (evo rfl)) ?_
              refine op_v' (j_move (evo rfl)) ?_
              refine op_v' (j_eqb Try.underlying4 rfl rfl) ?_
              refine op_v' (j_move (evo rfl)) ?_
              refine op_split' 76 rfl (fun h8 => ?_) (fun h8 => ?_)
              ·
                have h8r := h8
                try simp only [Bool.not_eq_true', Bool.not_eq_false', Bool.not_not, bne_iff_ne, bne_eq_false_iff_eq, beq_eq_false_iff_ne, beq_iff_eq, ne_eq, decide_eq_true_eq, decide_eq_false_iff_not, Classical.not_not, List.length_map, List.length_take, Int.toNat_natCast, List.length_map] at h8
                refine op_v' (j_want rfl rfl h8r (j_move (evo rfl))) ?_
                refine op_v' (j_want rfl rfl h8r (j_move (evo rfl))) ?_
                refine op_v0' (j_want rfl rfl h8r (j_call0 (v := .p _) (hp1 := []) [] false [] ent52 (f_cpProb (flL l29 m29) (flL l29 m29)) ⟨.inl ⟨rfl, rfl⟩, .inl ⟨rfl, rfl⟩, trivial⟩ trivial rfl rfl (fun h => by cases h) rfl (fun _ h => by cases h) (.inl rfl) rfl rfl)) ?_
                refine op_v' (j_pick_t rfl h8r (evo rfl)) ?_
                refine op_v' (j_assign (evo rfl)) ?_
                refine op_nil ?_
                refine a_ret ?_
                exact ⟨[.p _], .p _, [], [], [], ⟨rfl, trivial⟩, rfl, rfl, trivial, rfl, rfl, ⟨boolEq (by simp), rfl, rfl⟩⟩
              ·
                have h8r := h8
                try simp only [Bool.not_eq_true', Bool.not_eq_false', Bool.not_not, bne_iff_ne, bne_eq_false_iff_eq, beq_eq_false_iff_ne, beq_iff_eq, ne_eq, decide_eq_true_eq, decide_eq_false_iff_not, Classical.not_not, List.length_map, List.length_take, Int.toNat_natCast, List.length_map] at h8
                exact absurd h8r (by simp)
            ·
              have h7r := h7
              try simp only [Bool.not_eq_true', Bool.not_eq_false', Bool.not_not, bne_iff_ne, bne_eq_false_iff_eq, beq_eq_false_iff_ne, beq_iff_eq, ne_eq, decide_eq_true_eq, decide_eq_false_iff_not, Classical.not_not, List.length_map, List.length_take, Int.toNat_natCast, List.length_map] at h7
              refine op_v' (j_want rfl rfl h7r (j_move (evo rfl))) ?_
              refine op_v' (j_want rfl rfl h7r (j_move (evo rfl))) ?_
              refine op_v' (j_want rfl rfl h7r (j_neg rfl (by first | omega | (simp only [List.length_map, List.length_take, Int.toNat_natCast, List.length_map]; omega)) (by first | omega | (simp only [List.length_map, List.length_take, Int.toNat_natCast, List.length_map]; omega)))) ?_
              refine op_v' (j_want rfl rfl h7r (j_eq rfl rfl)) ?_
              refine op_v' (j_pick_f rfl h7r (evo rfl)) ?_
              refine op_nil ?_
              refine a_cond rfl (fun h9 => ?_) (fun h9 => ?_)
              ·
                have h9r := h9
                try simp only [Bool.not_eq_true', Bool.not_eq_false', Bool.not_not, bne_iff_ne, bne_eq_false_iff_eq, beq_eq_false_iff_ne, beq_iff_eq, ne_eq, decide_eq_true_eq, decide_eq_false_iff_not, Classical.not_not, List.length_map, List.length_take, Int.toNat_natCast, List.length_map] at h9
                refine a_seq ?_
                refine a_region (by kernel_rfl) ?_
                refine op_v' (j_move (evo rfl)) ?_
                refine op_v' (j_move (evo rfl)) ?_
                refine op_v' (j_eqb Try.underlying4 rfl rfl) ?_
                refine op_v' (j_move (evo rfl)) ?_
                refine op_split' 76 rfl (fun h10 => ?_) (fun h10 => ?_)
                ·
                  have h10r := h10
                  try simp only [Bool.not_eq_true', Bool.not_eq_false', Bool.not_not, bne_iff_ne, bne_eq_false_iff_eq, beq_eq_false_iff_ne, beq_iff_eq, ne_eq, decide_eq_true_eq, decide_eq_false_iff_not, Classical.not_not, List.length_map, List.length_take, Int.toNat_natCast, List.length_map] at h10
                  refine op_v' (j_want rfl rfl h10r (j_move (evo rfl))) ?_
                  refine op_v' (j_want rfl rfl h10r (j_move (evo rfl))) ?_
                  refine op_v0' (j_want rfl rfl h10r (j_call0 (v := .p _) (hp1 := []) [] false [] ent52 (f_cpProb (flL l29 m29) (flL l29 m29)) ⟨.inl ⟨rfl, rfl⟩, .inl ⟨rfl, rfl⟩, trivial⟩ trivial rfl rfl (fun h => by cases h) rfl (fun _ h => by cases h) (.inl rfl) rfl rfl)) ?_
                  refine op_v' (j_pick_t rfl h10r (evo rfl)) ?_
                  refine op_v' (j_assign (evo rfl)) ?_
                  refine op_nil ?_
                  refine a_ret ?_
                  exact ⟨[.p _], .p _, [], [], [], ⟨rfl, trivial⟩, rfl, rfl, trivial, rfl, rfl, ⟨boolEq (by simp), rfl, rfl⟩⟩
                ·
                  have h10r := h10
                  try simp only [Bool.not_eq_true', Bool.not_eq_false', Bool.not_not, bne_iff_ne, bne_eq_false_iff_eq, beq_eq_false_iff_ne, beq_iff_eq, ne_eq, decide_eq_true_eq, decide_eq_false_iff_not, Classical.not_not, List.length_map, List.length_take, Int.toNat_natCast, List.length_map] at h10
                  exact absurd h10r (by simp)
              ·
                have h9r := h9
                try simp only [Bool.not_eq_true', Bool.not_eq_false', Bool.not_not, bne_iff_ne, bne_eq_false_iff_eq, beq_eq_false_iff_ne, beq_iff_eq, ne_eq, decide_eq_true_eq, decide_eq_false_iff_not, Classical.not_not, List.length_map, List.length_take, Int.toNat_natCast, List.length_map] at h9
                refine a_skip ?_
                refine a_seq ?_
                have hfl : flOk l29 m29 = true := by assumption
                refine a_region (by kernel_rfl) ?_
                refine op_v' (j_move (evo rfl)) ?_
                refine op_v' (j_move (evo rfl)) ?_
                refine op_v0' (j_call0 (v := .tup [.sl _, .p _]) (hp1 := []) [] false [] ent54 (f_flImpl (flL l29 m29) m34) ⟨.inl ⟨rfl, rfl⟩, .inl ⟨rfl, rfl⟩, trivial⟩ trivial rfl rfl (fun h => by cases h) rfl (fun _ h => by cases h) (.inl rfl) rfl rfl) ?_
                refine op_v' (j_move (evo rfl)) ?_
                refine op_v' (j_extract rfl rfl) ?_
                refine op_v' (j_extract rfl rfl) ?_
                refine op_v' (j_assign (evo rfl)) ?_
                refine op_v' (j_assign (evo rfl)) ?_
                refine op_nil ?_
                refine a_seq ?_
                refine a_region (by kernel_rfl) ?_
                refine op_v' (j_move (evo rfl)) ?_
                refine op_v' (j_move (evo rfl)) ?_
                refine op_v0' (j_call0 (v := .tup [.sl _, .p _]) (hp1 := []) [] false [] ent54 (f_flImpl l29 m34) ⟨.inl ⟨rfl, rfl⟩, .inl ⟨rfl, rfl⟩, trivial⟩ trivial rfl rfl (fun h => by cases h) rfl (fun _ h => by cases h) (.inl rfl) rfl rfl) ?_
                refine op_v' (j_move (evo rfl)) ?_
                refine op_v' (j_extract rfl rfl) ?_
                refine op_v' (j_extract rfl rfl) ?_
                refine op_v' (j_assign (evo rfl)) ?_
                refine op_v' (j_assign (evo rfl)) ?_
                refine op_nil ?_
                refine a_seq ?_
                refine a_region (by kernel_rfl) ?_
                refine op_v' (j_move (evo rfl)) ?_
                refine op_v' (j_move (evo rfl)) ?_
                refine op_v0' (j_call0 (v := .tup [.sl _, .p _]) (hp1 := []) [] false [] ent54 (f_flImpl (flL l29 m34) m29) ⟨.inl ⟨rfl, rfl⟩, .inl ⟨rfl, rfl⟩, trivial⟩ trivial rfl rfl (fun h => by cases h) rfl (fun _ h => by cases h) (.inl rfl) rfl rfl) ?_
                refine op_v' (j_move (evo rfl)) ?_
                refine op_v' (j_extract rfl rfl) ?_
                refine op_v' (j_extract rfl rfl) ?_
                refine op_v' (j_assign (evo rfl)) ?_
                refine op_v' (j_assign (evo rfl)) ?_
                refine op_nil ?_
                refine a_seq ?_
                refine a_region (by kernel_rfl) ?_
                refine op_v' (j_move (evo rfl)) ?_
                refine op_v' (j_move (evo rfl)) ?_
                refine op_v' (j_eqb Try.underlying4 rfl rfl) ?_
                refine op_v' (j_move (evo rfl)) ?_
                refine op_split' 102 rfl (fun h11 => ?_) (fun h11 => ?_)
                ·
                  have h11r := h11
                  try simp only [Bool.not_eq_true', Bool.not_eq_false', Bool.not_not, bne_iff_ne, bne_eq_false_iff_eq, beq_eq_false_iff_ne, beq_iff_eq, ne_eq, decide_eq_true_eq, decide_eq_false_iff_not, Classical.not_not, List.length_map, List.length_take, Int.toNat_natCast, List.length_map] at h11
                  refine op_v' (j_want rfl rfl h11r (j_move (evo rfl))) ?_
                  refine op_v' (j_want rfl rfl h11r (j_not rfl)) ?_
                  refine op_v' (j_want rfl rfl h11r (j_move (evo rfl))) ?_
                  refine op_split' 105 rfl (fun h12 => ?_) (fun h12 => ?_)
                  ·
                    have h12r := h12
                    try simp only [Bool.not_eq_true', Bool.not_eq_false', Bool.not_not, bne_iff_ne, bne_eq_false_iff_eq, beq_eq_false_iff_ne, beq_iff_eq, ne_eq, decide_eq_true_eq, decide_eq_false_iff_not, Classical.not_not, List.length_map, List.length_take, Int.toNat_natCast, List.length_map] at h12
                    refine op_v' (j_unwantV rfl rfl h12r) ?_
                    refine op_v' (j_unwantV rfl rfl h12r) ?_
                    refine op_v' (j_unwantU rfl rfl) ?_
                    refine op_v' (j_unwantU rfl rfl) ?_
                    refine op_v' (j_unwantU rfl rfl) ?_
                    refine op_v' (j_unwantV rfl rfl h12r) ?_
                    refine op_v' (j_want rfl rfl h11r (j_pick_t rfl h12r (evo rfl))) ?_
                    refine op_v' (j_pick_t rfl h11r (evo rfl)) ?_
                    refine op_v' (j_assign (evo rfl)) ?_
                    refine op_nil ?_
                    refine a_ret ?_
                    exact ⟨[.p _], .p _, [], [], [], ⟨rfl, trivial⟩, rfl, rfl, trivial, rfl, rfl, ⟨boolEq (by first | rfl | exact decide_eq_true hc2), rfl, rfl⟩⟩
                  ·
                    have h12r := h12
                    try simp only [Bool.not_eq_true', Bool.not_eq_false', Bool.not_not, bne_iff_ne, bne_eq_false_iff_eq, beq_eq_false_iff_ne, beq_iff_eq, ne_eq, decide_eq_true_eq, decide_eq_false_iff_not, Classical.not_not, List.length_map, List.length_take, Int.toNat_natCast, List.length_map] at h12
                    obtain ⟨hc1, hc2⟩ := fl_comm2 hfl (by omega) (by omega) (show flOk (flL l29 m29) m34 = true by assumption)
                    refine op_v' (j_want rfl rfl h12r (j_move (evo rfl))) ?_
                    refine op_v' (j_want rfl rfl h12r (j_move (evo rfl))) ?_
                    refine op_split' 107 rfl (fun h13 => ?_) (fun h13 => ?_)
                    ·
                      have h13r := h13
                      try simp only [Bool.not_eq_true', Bool.not_eq_false', Bool.not_not, bne_iff_ne, bne_eq_false_iff_eq, beq_eq_false_iff_ne, beq_iff_eq, ne_eq, decide_eq_true_eq, decide_eq_false_iff_not, Classical.not_not, List.length_map, List.length_take, Int.toNat_natCast, List.length_map] at h13
                      refine op_v' (j_want rfl rfl h13r (j_move (evo rfl))) ?_
                      refine op_v' (j_want rfl rfl h13r (j_move (evo rfl))) ?_
                      refine op_v0' (j_want rfl rfl h13r (j_call0 (v := .p _) (hp1 := []) [] false [] ent52 (f_cpProb (flL (flL l29 m29) m34) (flL (flL l29 m34) m29)) ⟨.inl ⟨rfl, rfl⟩, .inl ⟨rfl, rfl⟩, trivial⟩ trivial rfl rfl (fun h => by cases h) rfl (fun _ h => by cases h) (.inl rfl) rfl rfl)) ?_
                      refine op_v' (j_want rfl rfl h12r (j_pick_t rfl h13r (evo rfl))) ?_
                      refine op_v' (j_want rfl rfl h11r (j_pick_f rfl h12r (evo rfl))) ?_
                      refine op_v' (j_pick_t rfl h11r (evo rfl)) ?_
                      refine op_v' (j_assign (evo rfl)) ?_
                      refine op_nil ?_
                      refine a_ret ?_
                      exact ⟨[.p _], .p _, [], [], [], ⟨rfl, trivial⟩, rfl, rfl, trivial, rfl, rfl, ⟨boolEq (by first | rfl | exact decide_eq_true hc2), rfl, rfl⟩⟩
                    ·
                      have h13r := h13
                      try simp only [Bool.not_eq_true', Bool.not_eq_false', Bool.not_not, bne_iff_ne, bne_eq_false_iff_eq, beq_eq_false_iff_ne, beq_iff_eq, ne_eq, decide_eq_true_eq, decide_eq_false_iff_not, Classical.not_not, List.length_map, List.length_take, Int.toNat_natCast, List.length_map] at h13
                      exact absurd h13r (by rw [hc1]; decide)
                ·
                  have h11r := h11
                  try simp only [Bool.not_eq_true', Bool.not_eq_false', Bool.not_not, bne_iff_ne, bne_eq_false_iff_eq, beq_eq_false_iff_ne, beq_iff_eq, ne_eq, decide_eq_true_eq, decide_eq_false_iff_not, Classical.not_not, List.length_map, List.length_take, Int.toNat_natCast, List.length_map] at h11
                  exact absurd h11r (by rw [fl_same hfl, beq_self_eq_true]; decide)


end Go.Ab

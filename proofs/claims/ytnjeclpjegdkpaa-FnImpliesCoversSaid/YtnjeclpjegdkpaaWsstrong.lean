/- Walks. -/
import Derived.Test.YtnjeclpjegdkpaaBase
import Derived.Test.YtnjeclpjegdkpaaEnum
import Derived.Test.YtnjeclpjegdkpaaWsenum
namespace Go.Ab
open Go.Proofs
set_option maxRecDepth 100000
set_option maxHeartbeats 8000000
set_option linter.unusedSimpArgs false
set_option linter.unusedVariables false
theorem f_sbImpl (a b : Con) : Fn Try.prog 102 [.agg [.sl (a.1.map dT), .p (.int .i64 a.2)], .agg [.sl (b.1.map dT), .p (.int .i64 b.2)]] [] (fun rr ii nn => rr = .tup [.p (.int .i64 (sbR a b).1), .p (.bool (sbR a b).2)] ∧ ii = [] ∧ nn = []) := by
  refine fn_of Try.func102 rfl (Nat.le_of_ble_eq_true rfl) fun w X g => ?_
  show AWp _ _ _ ⟨[(0, .agg [.sl (a.1.map dT), .p (.int .i64 a.2)]), (1, .agg [.sl (b.1.map dT), .p (.int .i64 b.2)])], []⟩
  refine a_seq ?_
  refine a_region (by kernel_rfl) ?_
  refine op_n' (fun ver => j_boxa rfl) fun v2x1 => ?_
  refine op_n' (fun ver => j_boxa rfl) fun v3x2 => ?_
  refine op_v' (j_assign (evo rfl)) ?_
  refine op_v' (j_assign (evo rfl)) ?_
  refine op_nil ?_
  refine a_seq ?_
  refine a_seq ?_
  refine a_region (by kernel_rfl) ?_
  refine op_v' (j_loada_box (ys := [.sl _, .p _]) agg59 rfl rfl rfl (Nat.le_of_ble_eq_true rfl)) ?_
  refine op_v0' (j_call0 (v := .p _) (hp1 := []) [] false [] ent47 (f_cvImpl _) ⟨.inl ⟨rfl, rfl⟩, trivial⟩ trivial rfl rfl (fun h => by cases h) rfl (fun _ h => by cases h) (.inl rfl) rfl rfl) ?_
  refine op_v' (j_not rfl) ?_
  refine op_v' (j_move (evo rfl)) ?_
  refine op_split' 14 rfl (fun h1 => ?_) (fun h1 => ?_)
  ·
    have h1r := h1
    try simp only [Bool.not_eq_true', Bool.not_eq_false', Bool.not_not, bne_iff_ne, bne_eq_false_iff_eq, beq_eq_false_iff_ne, beq_iff_eq, ne_eq, decide_eq_true_eq, decide_eq_false_iff_not, Classical.not_not, List.length_map, List.length_take, Int.toNat_natCast] at h1
    refine op_v' (j_unwantV rfl rfl h1r) ?_
    refine op_v' (j_unwantV rfl rfl h1r) ?_
    refine op_v' (j_unwantV rfl rfl h1r) ?_
    refine op_v' (j_pick_t rfl h1r (evo rfl)) ?_
    refine op_nil ?_
    refine a_tt rfl ?_
    refine a_seq ?_
    refine a_region (by kernel_rfl) ?_
    refine op_v' (j_assign (evo rfl)) ?_
    refine op_v' (j_assign (evo rfl)) ?_
    refine op_nil ?_
    refine a_ret ?_
    exact ⟨[.p _, .p _], .tup [.p _, .p _], [], [], [], ⟨rfl, rfl, trivial⟩, rfl, rfl, trivial, rfl, rfl, ⟨tupEq (p := (0, false)) (sbR_bad (by first | exact .inl h1 | exact .inr h2)), rfl, rfl⟩⟩
  ·
    have h1r := h1
    try simp only [Bool.not_eq_true', Bool.not_eq_false', Bool.not_not, bne_iff_ne, bne_eq_false_iff_eq, beq_eq_false_iff_ne, beq_iff_eq, ne_eq, decide_eq_true_eq, decide_eq_false_iff_not, Classical.not_not, List.length_map, List.length_take, Int.toNat_natCast] at h1
    refine op_v' (j_want rfl rfl h1r (j_loada_box (ys := [.sl _, .p _]) agg59 rfl rfl rfl (Nat.le_of_ble_eq_true rfl))) ?_
    refine op_v0' (j_want rfl rfl h1r (j_call0 (v := .p _) (hp1 := []) [] false [] ent47 (f_cvImpl _) ⟨.inl ⟨rfl, rfl⟩, trivial⟩ trivial rfl rfl (fun h => by cases h) rfl (fun _ h => by cases h) (.inl rfl) rfl rfl)) ?_
    refine op_v' (j_want rfl rfl h1r (j_not rfl)) ?_
    refine op_v' (j_pick_f rfl h1r (evo rfl)) ?_
    refine op_nil ?_
    refine a_cond rfl (fun h2 => ?_) (fun h2 => ?_)
    ·
      have h2r := h2
      try simp only [Bool.not_eq_true', Bool.not_eq_false', Bool.not_not, bne_iff_ne, bne_eq_false_iff_eq, beq_eq_false_iff_ne, beq_iff_eq, ne_eq, decide_eq_true_eq, decide_eq_false_iff_not, Classical.not_not, List.length_map, List.length_take, Int.toNat_natCast] at h2
      refine a_seq ?_
      refine a_region (by kernel_rfl) ?_
      refine op_v' (j_assign (evo rfl)) ?_
      refine op_v' (j_assign (evo rfl)) ?_
      refine op_nil ?_
      refine a_ret ?_
      exact ⟨[.p _, .p _], .tup [.p _, .p _], [], [], [], ⟨rfl, rfl, trivial⟩, rfl, rfl, trivial, rfl, rfl, ⟨tupEq (p := (0, false)) (sbR_bad (by first | exact .inl h1 | exact .inr h2)), rfl, rfl⟩⟩
    ·
      have h2r := h2
      try simp only [Bool.not_eq_true', Bool.not_eq_false', Bool.not_not, bne_iff_ne, bne_eq_false_iff_eq, beq_eq_false_iff_ne, beq_iff_eq, ne_eq, decide_eq_true_eq, decide_eq_false_iff_not, Classical.not_not, List.length_map, List.length_take, Int.toNat_natCast] at h2
      refine a_skip ?_
      refine a_seq ?_
      refine a_region (by kernel_rfl) ?_
      refine op_v' (j_assign (evo rfl)) ?_
      refine op_v' (j_assign (evo rfl)) ?_
      refine op_nil ?_
      refine a_seq ?_
      refine a_seq ?_
      refine a_region (by kernel_rfl) ?_
      refine op_v' (j_move (evo rfl)) ?_
      refine op_nil ?_
      refine a_block ?_
      refine a_loopF' (ι := Nat) (fun k => k ≤ 4096) (fun k r => (19, .p (.int .i64 ((k : Nat)))) :: (6, .p (.int .i64 ((sbf a b k).1))) :: (7, .p (.bool ((sbf a b k).2))) :: r) (fun k r => r) (fun k => 4096 - k) (fun _ _ => rfl) (fun _ _ => rfl) 0 (by omega) ⟨⟨rfl, rfl⟩, ⟨rfl, rfl, rfl, trivial⟩, trivial, ⟨rfl, rfl⟩, ⟨rfl, rfl⟩⟩ ?_
      intro k hpre0
      refine a_seq ?_
      refine a_region (by kernel_rfl) ?_
      refine op_v' (j_lt rfl rfl) ?_
      refine op_nil ?_
      refine a_seq ?_
      refine a_cond rfl (fun h3 => ?_) (fun h3 => ?_)
      ·
        have h3r := h3
        try simp only [Bool.not_eq_true', Bool.not_eq_false', Bool.not_not, bne_iff_ne, bne_eq_false_iff_eq, beq_eq_false_iff_ne, beq_iff_eq, ne_eq, decide_eq_true_eq, decide_eq_false_iff_not, Classical.not_not, List.length_map, List.length_take, Int.toNat_natCast] at h3
        refine a_skip ?_
        refine a_seq ?_
        refine a_block ?_
        refine a_seq ?_
        refine a_region (by kernel_rfl) ?_
        refine op_v' (j_move (evo rfl)) ?_
        refine op_v' (j_assign (evo rfl)) ?_
        refine op_nil ?_
        refine a_seq ?_
        refine a_region (by kernel_rfl) ?_
        refine op_v' (j_move (evo rfl)) ?_
        refine op_n1' (fun ver => j_call1 (v := .own 23 ver) (hp1 := [(23, some (ver, .row 4 1 _))]) [] false [] ent69 (f_numbered _ (by omega)) ⟨.inl ⟨rfl, rfl⟩, trivial⟩ trivial rfl rfl rfl (fun h => by cases h) rfl (List.all_eq_true.1 rfl) (.inl rfl) rfl rfl) fun v23x3 => ?_
        refine op_v' (j_assign (evo rfl)) ?_
        refine op_nil ?_
        refine a_seq ?_
        refine a_seq ?_
        refine a_region (by kernel_rfl) ?_
        refine op_v' (j_loada_box (ys := [.sl _, .p _]) agg59 rfl rfl rfl (Nat.le_of_ble_eq_true rfl)) ?_
        refine op_v' (j_move (evo rfl)) ?_
        refine op_v0' (j_call0 (v := .p _) (hp1 := []) [] true [23] ent120 (f_holdsC a (assn k) h1 assn_length) ⟨.inl ⟨rfl, rfl⟩, .inr ⟨rfl, view_own rfl rfl, rfl⟩, trivial⟩ trivial rfl rfl (fun _ => rfl) rfl (fun _ h => by cases h) (.inr ⟨rfl, by first | exact pl_new1 (fun _ => rfl) | (simp [plO, plV, plV.plL]; done)⟩) rfl rfl) ?_
        refine op_v' (j_not rfl) ?_
        refine op_nil ?_
        refine a_cond rfl (fun h4 => ?_) (fun h4 => ?_)
        ·
          have h4r := h4
          try simp only [Bool.not_eq_true', Bool.not_eq_false', Bool.not_not, bne_iff_ne, bne_eq_false_iff_eq, beq_eq_false_iff_ne, beq_iff_eq, ne_eq, decide_eq_true_eq, decide_eq_false_iff_not, Classical.not_not, List.length_map, List.length_take, Int.toNat_natCast] at h4
          refine a_exit ?_
          refine a_region (by kernel_rfl) ?_
          refine op_v' (j_add rfl rfl (by omega) (by omega)) ?_
          refine op_v' (j_move (evo rfl)) ?_
          refine op_nil ?_
          exact ⟨k + 1, (by omega), ⟨⟨rfl, rfl⟩, ⟨rfl, intEq (by rw [sbf_skip h4]), boolEq (by rw [sbf_skip h4]), trivial⟩, trivial, ⟨rfl, rfl⟩, ⟨rfl, rfl⟩⟩, (by omega)⟩
        ·
          have h4r := h4
          try simp only [Bool.not_eq_true', Bool.not_eq_false', Bool.not_not, bne_iff_ne, bne_eq_false_iff_eq, beq_eq_false_iff_ne, beq_iff_eq, ne_eq, decide_eq_true_eq, decide_eq_false_iff_not, Classical.not_not, List.length_map, List.length_take, Int.toNat_natCast] at h4
          refine a_skip ?_
          refine a_seq ?_
          refine a_region (by kernel_rfl) ?_
          refine op_v' (j_loada_box (ys := [.sl _, .p _]) agg59 rfl rfl rfl (Nat.le_of_ble_eq_true rfl)) ?_
          refine op_v' (j_move (evo rfl)) ?_
          refine op_v0' (j_call0 (v := .p _) (hp1 := []) [] true [23] ent138 (f_sumC b (assn k) h2 assn_length) ⟨.inl ⟨rfl, rfl⟩, .inr ⟨rfl, view_own rfl rfl, rfl⟩, trivial⟩ trivial rfl rfl (fun _ => rfl) rfl (fun _ h => by cases h) (.inr ⟨rfl, by first | exact pl_new1 (fun _ => rfl) | (simp [plO, plV, plV.plL]; done)⟩) rfl rfl) ?_
          refine op_v' (j_assign (evo rfl)) ?_
          refine op_nil ?_
          refine a_seq ?_
          refine a_region (by kernel_rfl) ?_
          refine op_v' (j_move (evo rfl)) ?_
          refine op_v' (j_not rfl) ?_
          refine op_v' (j_move (evo rfl)) ?_
          refine op_split' 33 rfl (fun h5 => ?_) (fun h5 => ?_)
          ·
            have h5r := h5
            try simp only [Bool.not_eq_true', Bool.not_eq_false', Bool.not_not, bne_iff_ne, bne_eq_false_iff_eq, beq_eq_false_iff_ne, beq_iff_eq, ne_eq, decide_eq_true_eq, decide_eq_false_iff_not, Classical.not_not, List.length_map, List.length_take, Int.toNat_natCast] at h5
            refine op_v' (j_unwantV rfl rfl h5r) ?_
            refine op_v' (j_unwantV rfl rfl h5r) ?_
            refine op_v' (j_unwantV rfl rfl h5r) ?_
            refine op_v' (j_pick_t rfl h5r (evo rfl)) ?_
            refine op_nil ?_
            refine a_tt rfl ?_
            refine a_region (by kernel_rfl) ?_
            refine op_v' (j_move (evo rfl)) ?_
            refine op_v' (j_assign (evo rfl)) ?_
            refine op_v' (j_assign (evo rfl)) ?_
            refine op_nil ?_
            refine a_region (by kernel_rfl) ?_
            refine op_v' (j_add rfl rfl (by omega) (by omega)) ?_
            refine op_v' (j_move (evo rfl)) ?_
            refine op_nil ?_
            exact ⟨k + 1, (by omega), ⟨⟨rfl, rfl⟩, ⟨rfl, intEq (by rw [sbf_new h4 (.inl h5)]), boolEq (by rw [sbf_new h4 (.inl h5)]), trivial⟩, trivial, ⟨rfl, rfl⟩, ⟨rfl, rfl⟩⟩, (by omega)⟩
          ·
            have h5r := h5
            try simp only [Bool.not_eq_true', Bool.not_eq_false', Bool.not_not, bne_iff_ne, bne_eq_false_iff_eq, beq_eq_false_iff_ne, beq_iff_eq, ne_eq, decide_eq_true_eq, decide_eq_false_iff_not, Classical.not_not, List.length_map, List.length_take, Int.toNat_natCast] at h5
            refine op_v' (j_want rfl rfl h5r (j_move (evo rfl))) ?_
            refine op_v' (j_want rfl rfl h5r (j_move (evo rfl))) ?_
            refine op_v' (j_want rfl rfl h5r (j_lt rfl rfl)) ?_
            refine op_v' (j_pick_f rfl h5r (evo rfl)) ?_
            refine op_nil ?_
            refine a_cond rfl (fun h6 => ?_) (fun h6 => ?_)
            ·
              have h6r := h6
              try simp only [Bool.not_eq_true', Bool.not_eq_false', Bool.not_not, bne_iff_ne, bne_eq_false_iff_eq, beq_eq_false_iff_ne, beq_iff_eq, ne_eq, decide_eq_true_eq, decide_eq_false_iff_not, Classical.not_not, List.length_map, List.length_take, Int.toNat_natCast] at h6
              refine a_region (by kernel_rfl) ?_
              refine op_v' (j_move (evo rfl)) ?_
              refine op_v' (j_assign (evo rfl)) ?_
              refine op_v' (j_assign (evo rfl)) ?_
              refine op_nil ?_
              refine a_region (by kernel_rfl) ?_
              refine op_v' (j_add rfl rfl (by omega) (by omega)) ?_
              refine op_v' (j_move (evo rfl)) ?_
              refine op_nil ?_
              exact ⟨k + 1, (by omega), ⟨⟨rfl, rfl⟩, ⟨rfl, intEq (by rw [sbf_new h4 (.inr h6)]), boolEq (by rw [sbf_new h4 (.inr h6)]), trivial⟩, trivial, ⟨rfl, rfl⟩, ⟨rfl, rfl⟩⟩, (by omega)⟩
            ·
              have h6r := h6
              try simp only [Bool.not_eq_true', Bool.not_eq_false', Bool.not_not, bne_iff_ne, bne_eq_false_iff_eq, beq_eq_false_iff_ne, beq_iff_eq, ne_eq, decide_eq_true_eq, decide_eq_false_iff_not, Classical.not_not, List.length_map, List.length_take, Int.toNat_natCast] at h6
              refine a_skip ?_
              refine a_region (by kernel_rfl) ?_
              refine op_v' (j_add rfl rfl (by omega) (by omega)) ?_
              refine op_v' (j_move (evo rfl)) ?_
              refine op_nil ?_
              exact ⟨k + 1, (by omega), ⟨⟨rfl, rfl⟩, ⟨rfl, intEq (by rw [sbf_old h4 (by rintro (e | e); (· rw [h5] at e; cases e); exact h6 e)]), boolEq (by rw [sbf_old h4 (by rintro (e | e); (· rw [h5] at e; cases e); exact h6 e)]), trivial⟩, trivial, ⟨rfl, rfl⟩, ⟨rfl, rfl⟩⟩, (by omega)⟩
      ·
        have h3r := h3
        try simp only [Bool.not_eq_true', Bool.not_eq_false', Bool.not_not, bne_iff_ne, bne_eq_false_iff_eq, beq_eq_false_iff_ne, beq_iff_eq, ne_eq, decide_eq_true_eq, decide_eq_false_iff_not, Classical.not_not, List.length_map, List.length_take, Int.toNat_natCast] at h3
        refine a_exit ?_
        refine a_seq ?_
        refine a_region (by kernel_rfl) ?_
        refine op_v' (j_move (evo rfl)) ?_
        refine op_v' (j_move (evo rfl)) ?_
        refine op_v' (j_assign (evo rfl)) ?_
        refine op_v' (j_assign (evo rfl)) ?_
        refine op_nil ?_
        refine a_ret ?_
        exact ⟨[.p _, .p _], .tup [.p _, .p _], [], [], [], ⟨rfl, rfl, trivial⟩, rfl, rfl, trivial, rfl, rfl, ⟨tupEq (p := sbf a b k) (by rw [show k = 4096 by omega]; exact sbR_ok h1 h2), rfl, rfl⟩⟩


theorem f_least (a b : Con) (ha : cOk a = true) (hb : cOk b = true) : Fn Try.prog 139 [.agg [.sl (a.1.map dT), .p (.int .i64 a.2)], .agg [.sl (b.1.map dT), .p (.int .i64 b.2)]] [] (fun rr ii nn => rr = .p (.int .i64 (leastV a b 4096)) ∧ ii = [] ∧ nn = []) := by
  refine fn_of Try.func139 rfl (Nat.le_of_ble_eq_true rfl) fun w X g => ?_
  show AWp _ _ _ ⟨[(0, .agg [.sl (a.1.map dT), .p (.int .i64 a.2)]), (1, .agg [.sl (b.1.map dT), .p (.int .i64 b.2)])], []⟩
  refine a_len_map2 1 rfl fun hlen => ?_
  have hln := cOk_len hb
  refine a_seq ?_
  refine a_region (by kernel_rfl) ?_
  refine op_n' (fun ver => j_boxa rfl) fun v2x1 => ?_
  refine op_n' (fun ver => j_boxa rfl) fun v3x2 => ?_
  refine op_v' (j_assign (evo rfl)) ?_
  refine op_nil ?_
  refine a_seq ?_
  refine a_region (by kernel_rfl) ?_
  refine op_v' (j_assign (evo rfl)) ?_
  refine op_nil ?_
  refine a_seq ?_
  refine a_seq ?_
  refine a_region (by kernel_rfl) ?_
  refine op_v' (j_assign (evo rfl)) ?_
  refine op_nil ?_
  refine a_block ?_
  refine a_loopF' (ι := Nat) (fun k => k ≤ 4096) (fun k r => (6, .p (.int .i64 ((k : Nat)))) :: (5, .p (.int .i64 (leastV a b k))) :: r) (fun k r => r) (fun k => 4096 - k) (fun _ _ => rfl) (fun _ _ => rfl) 0 (by omega) ⟨⟨rfl, rfl⟩, ⟨rfl, rfl, trivial⟩, trivial, ⟨rfl, rfl⟩, ⟨rfl, rfl⟩⟩ ?_
  intro k hpre0
  refine a_seq ?_
  refine a_seq ?_
  refine a_region (by kernel_rfl) ?_
  refine op_v' (j_move (evo rfl)) ?_
  refine op_v' (j_lt rfl rfl) ?_
  refine op_nil ?_
  refine a_cond rfl (fun h1 => ?_) (fun h1 => ?_)
  ·
    have h1r := h1
    try simp only [Bool.not_eq_true', Bool.not_eq_false', Bool.not_not, bne_iff_ne, bne_eq_false_iff_eq, beq_eq_false_iff_ne, beq_iff_eq, ne_eq, decide_eq_true_eq, decide_eq_false_iff_not, Classical.not_not, List.length_map, List.length_take, Int.toNat_natCast] at h1
    refine a_skip ?_
    refine a_seq ?_
    refine a_block ?_
    refine a_seq ?_
    refine a_region (by kernel_rfl) ?_
    refine op_v' (j_move (evo rfl)) ?_
    refine op_n1' (fun ver => j_call1 (v := .own 15 ver) (hp1 := [(15, some (ver, .row 4 1 _))]) [] false [] ent93 (f_l5Values _ (by omega)) ⟨.inl ⟨rfl, rfl⟩, trivial⟩ trivial rfl rfl rfl (fun h => by cases h) rfl (List.all_eq_true.1 rfl) (.inl rfl) rfl rfl) fun v15x3 => ?_
    refine op_v' (j_assign (evo rfl)) ?_
    refine op_nil ?_
    refine a_seq ?_
    refine a_seq ?_
    refine a_region (by kernel_rfl) ?_
    refine op_v' (j_loada_box (ys := [.sl _, .p _]) agg59 rfl rfl rfl (Nat.le_of_ble_eq_true rfl)) ?_
    refine op_v' (j_move (evo rfl)) ?_
    refine op_v0' (j_call0 (v := .p _) (hp1 := []) [] true [15] ent134 (f_l1Eval a (assn k) ha assn_length) ⟨.inl ⟨rfl, rfl⟩, .inr ⟨rfl, view_own rfl rfl, rfl⟩, trivial⟩ trivial rfl rfl (fun _ => rfl) rfl (fun _ h => by cases h) (.inr ⟨rfl, by first | exact pl_new1 (fun _ => rfl) | (simp [plO, plV, plV.plL]; done)⟩) rfl rfl) ?_
    refine op_v' (j_not rfl) ?_
    refine op_nil ?_
    refine a_cond rfl (fun h2 => ?_) (fun h2 => ?_)
    ·
      have h2r := h2
      try simp only [Bool.not_eq_true', Bool.not_eq_false', Bool.not_not, bne_iff_ne, bne_eq_false_iff_eq, beq_eq_false_iff_ne, beq_iff_eq, ne_eq, decide_eq_true_eq, decide_eq_false_iff_not, Classical.not_not, List.length_map, List.length_take, Int.toNat_natCast] at h2
      refine a_exit ?_
      refine a_region (by kernel_rfl) ?_
      refine op_v' (j_move (evo rfl)) ?_
      refine op_v' (j_add rfl rfl (by omega) (by omega)) ?_
      refine op_v' (j_assign (evo rfl)) ?_
      refine op_nil ?_
      exact ⟨k + 1, (by omega), ⟨⟨rfl, rfl⟩, ⟨rfl, intEq (leastV_skip h2), trivial⟩, trivial, ⟨rfl, rfl⟩, ⟨rfl, rfl⟩⟩, (by omega)⟩
    ·
      have h2r := h2
      try simp only [Bool.not_eq_true', Bool.not_eq_false', Bool.not_not, bne_iff_ne, bne_eq_false_iff_eq, beq_eq_false_iff_ne, beq_iff_eq, ne_eq, decide_eq_true_eq, decide_eq_false_iff_not, Classical.not_not, List.length_map, List.length_take, Int.toNat_natCast] at h2
      refine a_skip ?_
      refine a_seq ?_
      refine a_region (by kernel_rfl) ?_
      refine op_v' (j_assign (evo rfl)) ?_
      refine op_nil ?_
      refine a_seq ?_
      refine a_seq ?_
      refine a_region (by kernel_rfl) ?_
      refine op_v' (j_assign (evo rfl)) ?_
      refine op_nil ?_
      refine a_block ?_
      refine a_loopF' (ι := Nat) (fun j => j ≤ b.1.length) (fun j r => (9, .p (.int .i64 ((j : Nat)))) :: (8, .p (.int .i64 (sumV (b.1.take j) (assn k)))) :: r) (fun j r => r) (fun j => b.1.length - j) (fun _ _ => rfl) (fun _ _ => rfl) 0 (by omega) ⟨⟨rfl, rfl⟩, ⟨rfl, rfl, trivial⟩, trivial, ⟨rfl, rfl⟩, ⟨rfl, rfl⟩⟩ ?_
      intro j hpre1
      refine a_seq ?_
      refine a_seq ?_
      refine a_region (by kernel_rfl) ?_
      refine op_v' (j_move (evo rfl)) ?_
      refine op_v' (j_fldp fld59f0 rfl rfl) ?_
      refine op_v' (j_load_box leaf57 rfl rfl rfl) ?_
      refine op_v' (j_len_map Try.underlying57 rfl) ?_
      refine op_v' (j_lt rfl rfl) ?_
      refine op_nil ?_
      refine a_cond rfl (fun h3 => ?_) (fun h3 => ?_)
      ·
        have h3r := h3
        try simp only [Bool.not_eq_true', Bool.not_eq_false', Bool.not_not, bne_iff_ne, bne_eq_false_iff_eq, beq_eq_false_iff_ne, beq_iff_eq, ne_eq, decide_eq_true_eq, decide_eq_false_iff_not, Classical.not_not, List.length_map, List.length_take, Int.toNat_natCast] at h3
        have hsm := sum_take hb (k := j) (bs := assn k) (by omega); have htm := cOk_terms hb (k := j) (by omega)
        refine a_skip ?_
        refine a_seq ?_
        refine a_block ?_
        refine a_seq ?_
        refine a_region (by kernel_rfl) ?_
        refine op_v' (j_move (evo rfl)) ?_
        refine op_v' (j_fldp fld59f0 rfl rfl) ?_
        refine op_v' (j_load_box leaf57 rfl rfl rfl) ?_
        refine op_v' (j_move (evo rfl)) ?_
        refine op_v' (j_elemN slt57 rfl rfl rfl (at_map (by omega)) rfl) ?_
        refine op_v' (j_fldel fld56f1 rfl) ?_
        refine op_v' (j_load_el leaf3 rfl (at_map (by omega)) rfl) ?_
        refine op_v0' (j_call0 (v := .p _) (hp1 := []) [] true [15] ent153 (f_l1True (assn k) _ (cOk_terms hb (k := j) (by omega)).1 assn_length) ⟨.inr ⟨rfl, view_own rfl rfl, rfl⟩, .inl ⟨rfl, rfl⟩, trivial⟩ trivial rfl rfl (fun _ => rfl) rfl (fun _ h => by cases h) (.inr ⟨rfl, by first | exact pl_new1 (fun _ => rfl) | (simp [plO, plV, plV.plL]; done)⟩) rfl rfl) ?_
        refine op_nil ?_
        refine a_cond rfl (fun h4 => ?_) (fun h4 => ?_)
        ·
          have h4r := h4
          try simp only [Bool.not_eq_true', Bool.not_eq_false', Bool.not_not, bne_iff_ne, bne_eq_false_iff_eq, beq_eq_false_iff_ne, beq_iff_eq, ne_eq, decide_eq_true_eq, decide_eq_false_iff_not, Classical.not_not, List.length_map, List.length_take, Int.toNat_natCast] at h4
          refine a_region (by kernel_rfl) ?_
          refine op_v' (j_move (evo rfl)) ?_
          refine op_v' (j_fldp fld59f0 rfl rfl) ?_
          refine op_v' (j_load_box leaf57 rfl rfl rfl) ?_
          refine op_v' (j_move (evo rfl)) ?_
          refine op_v' (j_elemN slt57 rfl rfl rfl (at_map (by omega)) rfl) ?_
          refine op_v' (j_fldel fld56f0 rfl) ?_
          refine op_v' (j_load_el leaf3 rfl (at_map (by omega)) rfl) ?_
          refine op_v' (j_add rfl rfl (by omega) (by omega)) ?_
          refine op_v' (j_assign (evo rfl)) ?_
          refine op_nil ?_
          refine a_region (by kernel_rfl) ?_
          refine op_v' (j_move (evo rfl)) ?_
          refine op_v' (j_add rfl rfl (by omega) (by omega)) ?_
          refine op_v' (j_assign (evo rfl)) ?_
          refine op_nil ?_
          exact ⟨j + 1, (by omega), ⟨⟨rfl, rfl⟩, ⟨rfl, intEq (by rw [sumV_next (by omega)]; unfold term; rw [if_pos h4r]), trivial⟩, trivial, ⟨rfl, rfl⟩, ⟨rfl, rfl⟩⟩, (by omega)⟩
        ·
          have h4r := h4
          try simp only [Bool.not_eq_true', Bool.not_eq_false', Bool.not_not, bne_iff_ne, bne_eq_false_iff_eq, beq_eq_false_iff_ne, beq_iff_eq, ne_eq, decide_eq_true_eq, decide_eq_false_iff_not, Classical.not_not, List.length_map, List.length_take, Int.toNat_natCast] at h4
          refine a_skip ?_
          refine a_region (by kernel_rfl) ?_
          refine op_v' (j_move (evo rfl)) ?_
          refine op_v' (j_add rfl rfl (by omega) (by omega)) ?_
          refine op_v' (j_assign (evo rfl)) ?_
          refine op_nil ?_
          exact ⟨j + 1, (by omega), ⟨⟨rfl, rfl⟩, ⟨rfl, intEq (by rw [sumV_next (by omega)]; unfold term; rw [if_neg (by rw [h4r]; decide), Int.add_zero]), trivial⟩, trivial, ⟨rfl, rfl⟩, ⟨rfl, rfl⟩⟩, (by omega)⟩
      ·
        have h3r := h3
        try simp only [Bool.not_eq_true', Bool.not_eq_false', Bool.not_not, bne_iff_ne, bne_eq_false_iff_eq, beq_eq_false_iff_ne, beq_iff_eq, ne_eq, decide_eq_true_eq, decide_eq_false_iff_not, Classical.not_not, List.length_map, List.length_take, Int.toNat_natCast] at h3
        have hje : sumV (b.1.take j) (assn k) = sumV b.1 (assn k) := by rw [List.take_of_length_le (by omega)]
        refine a_exit ?_
        refine a_seq ?_
        refine a_region (by kernel_rfl) ?_
        refine op_v' (j_move (evo rfl)) ?_
        refine op_v' (j_lt rfl rfl) ?_
        refine op_v' (j_move (evo rfl)) ?_
        refine op_split' 45 rfl (fun h5 => ?_) (fun h5 => ?_)
        ·
          have h5r := h5
          try simp only [Bool.not_eq_true', Bool.not_eq_false', Bool.not_not, bne_iff_ne, bne_eq_false_iff_eq, beq_eq_false_iff_ne, beq_iff_eq, ne_eq, decide_eq_true_eq, decide_eq_false_iff_not, Classical.not_not, List.length_map, List.length_take, Int.toNat_natCast] at h5
          refine op_v' (j_unwantV rfl rfl h5r) ?_
          refine op_v' (j_unwantV rfl rfl h5r) ?_
          refine op_v' (j_unwantV rfl rfl h5r) ?_
          refine op_v' (j_pick_t rfl h5r (evo rfl)) ?_
          refine op_nil ?_
          refine a_tt rfl ?_
          refine a_region (by kernel_rfl) ?_
          refine op_v' (j_move (evo rfl)) ?_
          refine op_v' (j_assign (evo rfl)) ?_
          refine op_nil ?_
          refine a_region (by kernel_rfl) ?_
          refine op_v' (j_move (evo rfl)) ?_
          refine op_v' (j_add rfl rfl (by omega) (by omega)) ?_
          refine op_v' (j_assign (evo rfl)) ?_
          refine op_nil ?_
          exact ⟨k + 1, (by omega), ⟨⟨rfl, rfl⟩, ⟨rfl, intEq (by rw [hje]; exact leastV_new hb h2 (.inl h5)), trivial⟩, trivial, ⟨rfl, rfl⟩, ⟨rfl, rfl⟩⟩, (by omega)⟩
        ·
          have h5r := h5
          try simp only [Bool.not_eq_true', Bool.not_eq_false', Bool.not_not, bne_iff_ne, bne_eq_false_iff_eq, beq_eq_false_iff_ne, beq_iff_eq, ne_eq, decide_eq_true_eq, decide_eq_false_iff_not, Classical.not_not, List.length_map, List.length_take, Int.toNat_natCast] at h5
          refine op_v' (j_want rfl rfl h5r (j_move (evo rfl))) ?_
          refine op_v' (j_want rfl rfl h5r (j_move (evo rfl))) ?_
          refine op_v' (j_want rfl rfl h5r (j_lt rfl rfl)) ?_
          refine op_v' (j_pick_f rfl h5r (evo rfl)) ?_
          refine op_nil ?_
          refine a_cond rfl (fun h6 => ?_) (fun h6 => ?_)
          ·
            have h6r := h6
            try simp only [Bool.not_eq_true', Bool.not_eq_false', Bool.not_not, bne_iff_ne, bne_eq_false_iff_eq, beq_eq_false_iff_ne, beq_iff_eq, ne_eq, decide_eq_true_eq, decide_eq_false_iff_not, Classical.not_not, List.length_map, List.length_take, Int.toNat_natCast] at h6
            refine a_region (by kernel_rfl) ?_
            refine op_v' (j_move (evo rfl)) ?_
            refine op_v' (j_assign (evo rfl)) ?_
            refine op_nil ?_
            refine a_region (by kernel_rfl) ?_
            refine op_v' (j_move (evo rfl)) ?_
            refine op_v' (j_add rfl rfl (by omega) (by omega)) ?_
            refine op_v' (j_assign (evo rfl)) ?_
            refine op_nil ?_
            exact ⟨k + 1, (by omega), ⟨⟨rfl, rfl⟩, ⟨rfl, intEq (by rw [hje]; rw [hje] at h6; exact leastV_new hb h2 (.inr h6)), trivial⟩, trivial, ⟨rfl, rfl⟩, ⟨rfl, rfl⟩⟩, (by omega)⟩
          ·
            have h6r := h6
            try simp only [Bool.not_eq_true', Bool.not_eq_false', Bool.not_not, bne_iff_ne, bne_eq_false_iff_eq, beq_eq_false_iff_ne, beq_iff_eq, ne_eq, decide_eq_true_eq, decide_eq_false_iff_not, Classical.not_not, List.length_map, List.length_take, Int.toNat_natCast] at h6
            refine a_skip ?_
            refine a_region (by kernel_rfl) ?_
            refine op_v' (j_move (evo rfl)) ?_
            refine op_v' (j_add rfl rfl (by omega) (by omega)) ?_
            refine op_v' (j_assign (evo rfl)) ?_
            refine op_nil ?_
            exact ⟨k + 1, (by omega), ⟨⟨rfl, rfl⟩, ⟨rfl, intEq (by rw [hje] at h6; exact leastV_old hb h2 h5 h6), trivial⟩, trivial, ⟨rfl, rfl⟩, ⟨rfl, rfl⟩⟩, (by omega)⟩
  ·
    have h1r := h1
    try simp only [Bool.not_eq_true', Bool.not_eq_false', Bool.not_not, bne_iff_ne, bne_eq_false_iff_eq, beq_eq_false_iff_ne, beq_iff_eq, ne_eq, decide_eq_true_eq, decide_eq_false_iff_not, Classical.not_not, List.length_map, List.length_take, Int.toNat_natCast] at h1
    refine a_exit ?_
    refine a_seq ?_
    refine a_region (by kernel_rfl) ?_
    refine op_v' (j_move (evo rfl)) ?_
    refine op_v' (j_assign (evo rfl)) ?_
    refine op_nil ?_
    refine a_ret ?_
    exact ⟨[.p _], .p _, [], [], [], ⟨rfl, trivial⟩, rfl, rfl, trivial, rfl, rfl, ⟨intEq (by rw [show k = 4096 by omega]), rfl, rfl⟩⟩


theorem f_sbSpec (a b : Con) : Fn Try.prog 105 [.agg [.sl (a.1.map dT), .p (.int .i64 a.2)], .agg [.sl (b.1.map dT), .p (.int .i64 b.2)]] [] (fun rr ii nn => rr = .tup [.p (.int .i64 (sbR a b).1), .p (.bool (sbR a b).2)] ∧ ii = [] ∧ nn = []) := by
  refine fn_of Try.func105 rfl (Nat.le_of_ble_eq_true rfl) fun w X g => ?_
  show AWp _ _ _ ⟨[(0, .agg [.sl (a.1.map dT), .p (.int .i64 a.2)]), (1, .agg [.sl (b.1.map dT), .p (.int .i64 b.2)])], []⟩
  refine a_seq ?_
  refine a_region (by kernel_rfl) ?_
  refine op_n' (fun ver => j_boxa rfl) fun v2x1 => ?_
  refine op_n' (fun ver => j_boxa rfl) fun v3x2 => ?_
  refine op_v' (j_assign (evo rfl)) ?_
  refine op_v' (j_assign (evo rfl)) ?_
  refine op_nil ?_
  refine a_seq ?_
  refine a_seq ?_
  refine a_draw mixed (by kernel_rfl) (by kernel_rfl) fun vf => ?_
  refine d_v' (j_loada_box (ys := [.sl _, .p _]) agg59 rfl rfl rfl (Nat.le_of_ble_eq_true rfl)) ?_
  refine d_v0' (j_call0 (v := .p _) (hp1 := []) [] false [] ent104 (f_cvSpec _) ⟨.inl ⟨rfl, rfl⟩, trivial⟩ trivial rfl rfl (fun h => by cases h) rfl (fun _ h => by cases h) (.inl rfl) rfl rfl) ?_
  refine d_v' (j_not rfl) ?_
  refine d_v' (j_move (evo rfl)) ?_
  refine d_split' 9 rfl (fun h1 => ?_) (fun h1 => ?_)
  ·
    have h1r := h1
    try simp only [Bool.not_eq_true', Bool.not_eq_false', Bool.not_not, bne_iff_ne, bne_eq_false_iff_eq, beq_eq_false_iff_ne, beq_iff_eq, ne_eq, decide_eq_true_eq, decide_eq_false_iff_not, Classical.not_not, List.length_map, List.length_take, Int.toNat_natCast] at h1
    refine d_v' (j_unwantV rfl rfl h1r) ?_
    refine d_v' (j_unwantV rfl rfl h1r) ?_
    refine d_v' (j_unwantV rfl rfl h1r) ?_
    refine d_v' (j_pick_t rfl h1r (evo rfl)) ?_
    refine d_v' (j_move (evo rfl)) ?_
    refine d_v' (j_unwantV rfl rfl rfl) ?_
    refine d_v' (j_unwantV rfl rfl rfl) ?_
    refine d_v' (j_unwantV rfl rfl rfl) ?_
    refine d_v' (j_unwantV rfl rfl rfl) ?_
    refine d_v' (j_unwantV rfl rfl rfl) ?_
    refine d_v' (j_pick_t rfl rfl (evo rfl)) ?_
    refine d_nil (by kernel_rfl) (by kernel_rfl) ?_
    refine a_tt rfl ?_
    refine a_seq ?_
    refine a_region (by kernel_rfl) ?_
    refine op_v' (j_assign (evo rfl)) ?_
    refine op_v' (j_assign (evo rfl)) ?_
    refine op_nil ?_
    refine a_ret ?_
    exact ⟨[.p _, .p _], .tup [.p _, .p _], [], [], [], ⟨rfl, rfl, trivial⟩, rfl, rfl, trivial, rfl, rfl, ⟨tupEq (p := (0, false)) (by first | exact sbR_bad (.inl h1) | exact sbR_bad (.inr h2) | exact sbR_low h1 h2 (by omega)), rfl, rfl⟩⟩
  ·
    have h1r := h1
    try simp only [Bool.not_eq_true', Bool.not_eq_false', Bool.not_not, bne_iff_ne, bne_eq_false_iff_eq, beq_eq_false_iff_ne, beq_iff_eq, ne_eq, decide_eq_true_eq, decide_eq_false_iff_not, Classical.not_not, List.length_map, List.length_take, Int.toNat_natCast] at h1
    refine d_v' (j_want rfl rfl h1r (j_loada_box (ys := [.sl _, .p _]) agg59 rfl rfl rfl (Nat.le_of_ble_eq_true rfl))) ?_
    refine d_v0' (j_want rfl rfl h1r (j_call0 (v := .p _) (hp1 := []) [] false [] ent104 (f_cvSpec _) ⟨.inl ⟨rfl, rfl⟩, trivial⟩ trivial rfl rfl (fun h => by cases h) rfl (fun _ h => by cases h) (.inl rfl) rfl rfl)) ?_
    refine d_v' (j_want rfl rfl h1r (j_not rfl)) ?_
    refine d_v' (j_pick_f rfl h1r (evo rfl)) ?_
    refine d_v' (j_move (evo rfl)) ?_
    refine d_split' 14 rfl (fun h2 => ?_) (fun h2 => ?_)
    ·
      have h2r := h2
      try simp only [Bool.not_eq_true', Bool.not_eq_false', Bool.not_not, bne_iff_ne, bne_eq_false_iff_eq, beq_eq_false_iff_ne, beq_iff_eq, ne_eq, decide_eq_true_eq, decide_eq_false_iff_not, Classical.not_not, List.length_map, List.length_take, Int.toNat_natCast] at h2
      refine d_v' (j_unwantV rfl rfl h2r) ?_
      refine d_v' (j_unwantV rfl rfl h2r) ?_
      refine d_v' (j_unwantV rfl rfl h2r) ?_
      refine d_v' (j_unwantV rfl rfl h2r) ?_
      refine d_v' (j_unwantV rfl rfl h2r) ?_
      refine d_v' (j_pick_t rfl h2r (evo rfl)) ?_
      refine d_nil (by kernel_rfl) (by kernel_rfl) ?_
      refine a_tt rfl ?_
      refine a_seq ?_
      refine a_region (by kernel_rfl) ?_
      refine op_v' (j_assign (evo rfl)) ?_
      refine op_v' (j_assign (evo rfl)) ?_
      refine op_nil ?_
      refine a_ret ?_
      exact ⟨[.p _, .p _], .tup [.p _, .p _], [], [], [], ⟨rfl, rfl, trivial⟩, rfl, rfl, trivial, rfl, rfl, ⟨tupEq (p := (0, false)) (by first | exact sbR_bad (.inl h1) | exact sbR_bad (.inr h2) | exact sbR_low h1 h2 (by omega)), rfl, rfl⟩⟩
    ·
      have h2r := h2
      try simp only [Bool.not_eq_true', Bool.not_eq_false', Bool.not_not, bne_iff_ne, bne_eq_false_iff_eq, beq_eq_false_iff_ne, beq_iff_eq, ne_eq, decide_eq_true_eq, decide_eq_false_iff_not, Classical.not_not, List.length_map, List.length_take, Int.toNat_natCast] at h2
      refine d_v' (j_want rfl rfl h2r (j_loada_box (ys := [.sl _, .p _]) agg59 rfl rfl rfl (Nat.le_of_ble_eq_true rfl))) ?_
      refine d_v0' (j_want rfl rfl h2r (j_call0 (v := .p _) (hp1 := []) [] false [] ent135 (f_l1Total a h1) ⟨.inl ⟨rfl, rfl⟩, trivial⟩ trivial rfl rfl (fun h => by cases h) rfl (fun _ h => by cases h) (.inl rfl) rfl rfl)) ?_
      refine d_v' (j_want rfl rfl h2r (j_fldp fld59f1 rfl rfl)) ?_
      refine d_v' (j_want rfl rfl h2r (j_load_box leaf3 rfl rfl rfl)) ?_
      refine d_v' (j_want rfl rfl h2r (j_lt rfl rfl)) ?_
      refine d_v' (j_pick_f rfl h2r (evo rfl)) ?_
      refine d_nil (by kernel_rfl) (by kernel_rfl) ?_
      refine a_cond rfl (fun h3 => ?_) (fun h3 => ?_)
      ·
        have h3r := h3
        try simp only [Bool.not_eq_true', Bool.not_eq_false', Bool.not_not, bne_iff_ne, bne_eq_false_iff_eq, beq_eq_false_iff_ne, beq_iff_eq, ne_eq, decide_eq_true_eq, decide_eq_false_iff_not, Classical.not_not, List.length_map, List.length_take, Int.toNat_natCast] at h3
        refine a_seq ?_
        refine a_region (by kernel_rfl) ?_
        refine op_v' (j_assign (evo rfl)) ?_
        refine op_v' (j_assign (evo rfl)) ?_
        refine op_nil ?_
        refine a_ret ?_
        exact ⟨[.p _, .p _], .tup [.p _, .p _], [], [], [], ⟨rfl, rfl, trivial⟩, rfl, rfl, trivial, rfl, rfl, ⟨tupEq (p := (0, false)) (by first | exact sbR_bad (.inl h1) | exact sbR_bad (.inr h2) | exact sbR_low h1 h2 (by omega)), rfl, rfl⟩⟩
      ·
        have h3r := h3
        try simp only [Bool.not_eq_true', Bool.not_eq_false', Bool.not_not, bne_iff_ne, bne_eq_false_iff_eq, beq_eq_false_iff_ne, beq_iff_eq, ne_eq, decide_eq_true_eq, decide_eq_false_iff_not, Classical.not_not, List.length_map, List.length_take, Int.toNat_natCast] at h3
        refine a_skip ?_
        refine a_seq ?_
        refine a_region (by kernel_rfl) ?_
        refine op_v' (j_loada_box (ys := [.sl _, .p _]) agg59 rfl rfl rfl (Nat.le_of_ble_eq_true rfl)) ?_
        refine op_v' (j_loada_box (ys := [.sl _, .p _]) agg59 rfl rfl rfl (Nat.le_of_ble_eq_true rfl)) ?_
        refine op_v0' (j_call0 (v := .p _) (hp1 := []) [] false [] ent139 (f_least a b h1 h2) ⟨.inl ⟨rfl, rfl⟩, .inl ⟨rfl, rfl⟩, trivial⟩ trivial rfl rfl (fun h => by cases h) rfl (fun _ h => by cases h) (.inl rfl) rfl rfl) ?_
        refine op_v' (j_assign (evo rfl)) ?_
        refine op_v' (j_assign (evo rfl)) ?_
        refine op_nil ?_
        refine a_ret ?_
        exact ⟨[.p _, .p _], .tup [.p _, .p _], [], [], [], ⟨rfl, rfl, trivial⟩, rfl, rfl, trivial, rfl, rfl, ⟨tupEq (p := (leastV a b 4096, true)) (sbR_least h1 h2 (by omega)), rfl, rfl⟩⟩


theorem f_icSpec (a b : Con) : Fn Try.prog 46 [.agg [.sl (a.1.map dT), .p (.int .i64 a.2)], .agg [.sl (b.1.map dT), .p (.int .i64 b.2)]] [] (fun rr ii nn => rr = .p (.bool (icR a b)) ∧ ii = [] ∧ nn = []) := by
  refine fn_of Try.func46 rfl (Nat.le_of_ble_eq_true rfl) fun w X g => ?_
  show AWp _ _ _ ⟨[(0, .agg [.sl (a.1.map dT), .p (.int .i64 a.2)]), (1, .agg [.sl (b.1.map dT), .p (.int .i64 b.2)])], []⟩
  refine a_seq ?_
  refine a_region (by kernel_rfl) ?_
  refine op_n' (fun ver => j_boxa rfl) fun v2x1 => ?_
  refine op_n' (fun ver => j_boxa rfl) fun v3x2 => ?_
  refine op_v' (j_assign (evo rfl)) ?_
  refine op_nil ?_
  refine a_seq ?_
  refine a_seq ?_
  refine a_region (by kernel_rfl) ?_
  refine op_v' (j_loada_box (ys := [.sl _, .p _]) agg59 rfl rfl rfl (Nat.le_of_ble_eq_true rfl)) ?_
  refine op_v0' (j_call0 (v := .p _) (hp1 := []) [] false [] ent104 (f_cvSpec _) ⟨.inl ⟨rfl, rfl⟩, trivial⟩ trivial rfl rfl (fun h => by cases h) rfl (fun _ h => by cases h) (.inl rfl) rfl rfl) ?_
  refine op_v' (j_not rfl) ?_
  refine op_v' (j_move (evo rfl)) ?_
  refine op_split' 10 rfl (fun h1 => ?_) (fun h1 => ?_)
  ·
    have h1r := h1
    try simp only [Bool.not_eq_true', Bool.not_eq_false', Bool.not_not, bne_iff_ne, bne_eq_false_iff_eq, beq_eq_false_iff_ne, beq_iff_eq, ne_eq, decide_eq_true_eq, decide_eq_false_iff_not, Classical.not_not, List.length_map, List.length_take, Int.toNat_natCast] at h1
    refine op_v' (j_unwantV rfl rfl h1r) ?_
    refine op_v' (j_unwantV rfl rfl h1r) ?_
    refine op_v' (j_unwantV rfl rfl h1r) ?_
    refine op_v' (j_pick_t rfl h1r (evo rfl)) ?_
    refine op_nil ?_
    refine a_tt rfl ?_
    refine a_seq ?_
    refine a_region (by kernel_rfl) ?_
    refine op_v' (j_assign (evo rfl)) ?_
    refine op_nil ?_
    refine a_ret ?_
    exact ⟨[.p _], .p _, [], [], [], ⟨rfl, trivial⟩, rfl, rfl, trivial, rfl, rfl, ⟨boolEq (icR_bad (by first | exact .inl h1 | exact .inr h2)), rfl, rfl⟩⟩
  ·
    have h1r := h1
    try simp only [Bool.not_eq_true', Bool.not_eq_false', Bool.not_not, bne_iff_ne, bne_eq_false_iff_eq, beq_eq_false_iff_ne, beq_iff_eq, ne_eq, decide_eq_true_eq, decide_eq_false_iff_not, Classical.not_not, List.length_map, List.length_take, Int.toNat_natCast] at h1
    refine op_v' (j_want rfl rfl h1r (j_loada_box (ys := [.sl _, .p _]) agg59 rfl rfl rfl (Nat.le_of_ble_eq_true rfl))) ?_
    refine op_v0' (j_want rfl rfl h1r (j_call0 (v := .p _) (hp1 := []) [] false [] ent104 (f_cvSpec _) ⟨.inl ⟨rfl, rfl⟩, trivial⟩ trivial rfl rfl (fun h => by cases h) rfl (fun _ h => by cases h) (.inl rfl) rfl rfl)) ?_
    refine op_v' (j_want rfl rfl h1r (j_not rfl)) ?_
    refine op_v' (j_pick_f rfl h1r (evo rfl)) ?_
    refine op_nil ?_
    refine a_cond rfl (fun h2 => ?_) (fun h2 => ?_)
    ·
      have h2r := h2
      try simp only [Bool.not_eq_true', Bool.not_eq_false', Bool.not_not, bne_iff_ne, bne_eq_false_iff_eq, beq_eq_false_iff_ne, beq_iff_eq, ne_eq, decide_eq_true_eq, decide_eq_false_iff_not, Classical.not_not, List.length_map, List.length_take, Int.toNat_natCast] at h2
      refine a_seq ?_
      refine a_region (by kernel_rfl) ?_
      refine op_v' (j_assign (evo rfl)) ?_
      refine op_nil ?_
      refine a_ret ?_
      exact ⟨[.p _], .p _, [], [], [], ⟨rfl, trivial⟩, rfl, rfl, trivial, rfl, rfl, ⟨boolEq (icR_bad (by first | exact .inl h1 | exact .inr h2)), rfl, rfl⟩⟩
    ·
      have h2r := h2
      try simp only [Bool.not_eq_true', Bool.not_eq_false', Bool.not_not, bne_iff_ne, bne_eq_false_iff_eq, beq_eq_false_iff_ne, beq_iff_eq, ne_eq, decide_eq_true_eq, decide_eq_false_iff_not, Classical.not_not, List.length_map, List.length_take, Int.toNat_natCast] at h2
      refine a_skip ?_
      refine a_seq ?_
      refine a_region (by kernel_rfl) ?_
      refine op_v' (j_loada_box (ys := [.sl _, .p _]) agg59 rfl rfl rfl (Nat.le_of_ble_eq_true rfl)) ?_
      refine op_v' (j_loada_box (ys := [.sl _, .p _]) agg59 rfl rfl rfl (Nat.le_of_ble_eq_true rfl)) ?_
      refine op_v0' (j_call0 (v := .tup [.p _, .p _]) (hp1 := []) [] false [] ent105 (f_sbSpec _ _) ⟨.inl ⟨rfl, rfl⟩, .inl ⟨rfl, rfl⟩, trivial⟩ trivial rfl rfl (fun h => by cases h) rfl (fun _ h => by cases h) (.inl rfl) rfl rfl) ?_
      refine op_v' (j_move (evo rfl)) ?_
      refine op_v' (j_extract rfl rfl) ?_
      refine op_v' (j_extract rfl rfl) ?_
      refine op_v' (j_assign (evo rfl)) ?_
      refine op_v' (j_assign (evo rfl)) ?_
      refine op_nil ?_
      refine a_seq ?_
      refine a_region (by kernel_rfl) ?_
      refine op_v' (j_move (evo rfl)) ?_
      refine op_v' (j_not rfl) ?_
      refine op_v' (j_move (evo rfl)) ?_
      refine op_split' 23 rfl (fun h3 => ?_) (fun h3 => ?_)
      ·
        have h3r := h3
        try simp only [Bool.not_eq_true', Bool.not_eq_false', Bool.not_not, bne_iff_ne, bne_eq_false_iff_eq, beq_eq_false_iff_ne, beq_iff_eq, ne_eq, decide_eq_true_eq, decide_eq_false_iff_not, Classical.not_not, List.length_map, List.length_take, Int.toNat_natCast] at h3
        refine op_v' (j_unwantV rfl rfl h3r) ?_
        refine op_v' (j_unwantV rfl rfl h3r) ?_
        refine op_v' (j_unwantV rfl rfl h3r) ?_
        refine op_v' (j_unwantV rfl rfl h3r) ?_
        refine op_v' (j_pick_t rfl h3r (evo rfl)) ?_
        refine op_v' (j_assign (evo rfl)) ?_
        refine op_nil ?_
        refine a_ret ?_
        exact ⟨[.p _], .p _, [], [], [], ⟨rfl, trivial⟩, rfl, rfl, trivial, rfl, rfl, ⟨boolEq (by first | exact icR_none h1 h2 h3 | exact icR_some h1 h2 h3), rfl, rfl⟩⟩
      ·
        have h3r := h3
        try simp only [Bool.not_eq_true', Bool.not_eq_false', Bool.not_not, bne_iff_ne, bne_eq_false_iff_eq, beq_eq_false_iff_ne, beq_iff_eq, ne_eq, decide_eq_true_eq, decide_eq_false_iff_not, Classical.not_not, List.length_map, List.length_take, Int.toNat_natCast] at h3
        refine op_v' (j_want rfl rfl h3r (j_move (evo rfl))) ?_
        refine op_v' (j_want rfl rfl h3r (j_fldp fld59f1 rfl rfl)) ?_
        refine op_v' (j_want rfl rfl h3r (j_load_box leaf3 rfl rfl rfl)) ?_
        refine op_v' (j_want rfl rfl h3r (j_ge rfl rfl)) ?_
        refine op_v' (j_pick_f rfl h3r (evo rfl)) ?_
        refine op_v' (j_assign (evo rfl)) ?_
        refine op_nil ?_
        refine a_ret ?_
        exact ⟨[.p _], .p _, [], [], [], ⟨rfl, trivial⟩, rfl, rfl, trivial, rfl, rfl, ⟨boolEq (by first | exact icR_none h1 h2 h3 | exact icR_some h1 h2 h3), rfl, rfl⟩⟩


theorem f_icImpl (a b : Con) : Fn Try.prog 44 [.agg [.sl (a.1.map dT), .p (.int .i64 a.2)], .agg [.sl (b.1.map dT), .p (.int .i64 b.2)]] [] (fun rr ii nn => rr = .p (.bool (icR a b)) ∧ ii = [] ∧ nn = []) := by
  refine fn_of Try.func44 rfl (Nat.le_of_ble_eq_true rfl) fun w X g => ?_
  show AWp _ _ _ ⟨[(0, .agg [.sl (a.1.map dT), .p (.int .i64 a.2)]), (1, .agg [.sl (b.1.map dT), .p (.int .i64 b.2)])], []⟩
  refine a_seq ?_
  refine a_region (by kernel_rfl) ?_
  refine op_n' (fun ver => j_boxa rfl) fun v2x1 => ?_
  refine op_n' (fun ver => j_boxa rfl) fun v3x2 => ?_
  refine op_v' (j_assign (evo rfl)) ?_
  refine op_nil ?_
  refine a_seq ?_
  refine a_seq ?_
  refine a_region (by kernel_rfl) ?_
  refine op_v' (j_loada_box (ys := [.sl _, .p _]) agg59 rfl rfl rfl (Nat.le_of_ble_eq_true rfl)) ?_
  refine op_v0' (j_call0 (v := .p _) (hp1 := []) [] false [] ent47 (f_cvImpl _) ⟨.inl ⟨rfl, rfl⟩, trivial⟩ trivial rfl rfl (fun h => by cases h) rfl (fun _ h => by cases h) (.inl rfl) rfl rfl) ?_
  refine op_v' (j_not rfl) ?_
  refine op_v' (j_move (evo rfl)) ?_
  refine op_split' 10 rfl (fun h1 => ?_) (fun h1 => ?_)
  ·
    have h1r := h1
    try simp only [Bool.not_eq_true', Bool.not_eq_false', Bool.not_not, bne_iff_ne, bne_eq_false_iff_eq, beq_eq_false_iff_ne, beq_iff_eq, ne_eq, decide_eq_true_eq, decide_eq_false_iff_not, Classical.not_not, List.length_map, List.length_take, Int.toNat_natCast] at h1
    refine op_v' (j_unwantV rfl rfl h1r) ?_
    refine op_v' (j_unwantV rfl rfl h1r) ?_
    refine op_v' (j_unwantV rfl rfl h1r) ?_
    refine op_v' (j_pick_t rfl h1r (evo rfl)) ?_
    refine op_nil ?_
    refine a_tt rfl ?_
    refine a_seq ?_
    refine a_region (by kernel_rfl) ?_
    refine op_v' (j_assign (evo rfl)) ?_
    refine op_nil ?_
    refine a_ret ?_
    exact ⟨[.p _], .p _, [], [], [], ⟨rfl, trivial⟩, rfl, rfl, trivial, rfl, rfl, ⟨boolEq (icR_bad (by first | exact .inl h1 | exact .inr h2)), rfl, rfl⟩⟩
  ·
    have h1r := h1
    try simp only [Bool.not_eq_true', Bool.not_eq_false', Bool.not_not, bne_iff_ne, bne_eq_false_iff_eq, beq_eq_false_iff_ne, beq_iff_eq, ne_eq, decide_eq_true_eq, decide_eq_false_iff_not, Classical.not_not, List.length_map, List.length_take, Int.toNat_natCast] at h1
    refine op_v' (j_want rfl rfl h1r (j_loada_box (ys := [.sl _, .p _]) agg59 rfl rfl rfl (Nat.le_of_ble_eq_true rfl))) ?_
    refine op_v0' (j_want rfl rfl h1r (j_call0 (v := .p _) (hp1 := []) [] false [] ent47 (f_cvImpl _) ⟨.inl ⟨rfl, rfl⟩, trivial⟩ trivial rfl rfl (fun h => by cases h) rfl (fun _ h => by cases h) (.inl rfl) rfl rfl)) ?_
    refine op_v' (j_want rfl rfl h1r (j_not rfl)) ?_
    refine op_v' (j_pick_f rfl h1r (evo rfl)) ?_
    refine op_nil ?_
    refine a_cond rfl (fun h2 => ?_) (fun h2 => ?_)
    ·
      have h2r := h2
      try simp only [Bool.not_eq_true', Bool.not_eq_false', Bool.not_not, bne_iff_ne, bne_eq_false_iff_eq, beq_eq_false_iff_ne, beq_iff_eq, ne_eq, decide_eq_true_eq, decide_eq_false_iff_not, Classical.not_not, List.length_map, List.length_take, Int.toNat_natCast] at h2
      refine a_seq ?_
      refine a_region (by kernel_rfl) ?_
      refine op_v' (j_assign (evo rfl)) ?_
      refine op_nil ?_
      refine a_ret ?_
      exact ⟨[.p _], .p _, [], [], [], ⟨rfl, trivial⟩, rfl, rfl, trivial, rfl, rfl, ⟨boolEq (icR_bad (by first | exact .inl h1 | exact .inr h2)), rfl, rfl⟩⟩
    ·
      have h2r := h2
      try simp only [Bool.not_eq_true', Bool.not_eq_false', Bool.not_not, bne_iff_ne, bne_eq_false_iff_eq, beq_eq_false_iff_ne, beq_iff_eq, ne_eq, decide_eq_true_eq, decide_eq_false_iff_not, Classical.not_not, List.length_map, List.length_take, Int.toNat_natCast] at h2
      refine a_skip ?_
      refine a_seq ?_
      refine a_region (by kernel_rfl) ?_
      refine op_v' (j_loada_box (ys := [.sl _, .p _]) agg59 rfl rfl rfl (Nat.le_of_ble_eq_true rfl)) ?_
      refine op_v' (j_loada_box (ys := [.sl _, .p _]) agg59 rfl rfl rfl (Nat.le_of_ble_eq_true rfl)) ?_
      refine op_v0' (j_call0 (v := .tup [.p _, .p _]) (hp1 := []) [] false [] ent102 (f_sbImpl _ _) ⟨.inl ⟨rfl, rfl⟩, .inl ⟨rfl, rfl⟩, trivial⟩ trivial rfl rfl (fun h => by cases h) rfl (fun _ h => by cases h) (.inl rfl) rfl rfl) ?_
      refine op_v' (j_move (evo rfl)) ?_
      refine op_v' (j_extract rfl rfl) ?_
      refine op_v' (j_extract rfl rfl) ?_
      refine op_v' (j_assign (evo rfl)) ?_
      refine op_v' (j_assign (evo rfl)) ?_
      refine op_nil ?_
      refine a_seq ?_
      refine a_region (by kernel_rfl) ?_
      refine op_v' (j_move (evo rfl)) ?_
      refine op_v' (j_not rfl) ?_
      refine op_v' (j_move (evo rfl)) ?_
      refine op_split' 23 rfl (fun h3 => ?_) (fun h3 => ?_)
      ·
        have h3r := h3
        try simp only [Bool.not_eq_true', Bool.not_eq_false', Bool.not_not, bne_iff_ne, bne_eq_false_iff_eq, beq_eq_false_iff_ne, beq_iff_eq, ne_eq, decide_eq_true_eq, decide_eq_false_iff_not, Classical.not_not, List.length_map, List.length_take, Int.toNat_natCast] at h3
        refine op_v' (j_unwantV rfl rfl h3r) ?_
        refine op_v' (j_unwantV rfl rfl h3r) ?_
        refine op_v' (j_unwantV rfl rfl h3r) ?_
        refine op_v' (j_unwantV rfl rfl h3r) ?_
        refine op_v' (j_pick_t rfl h3r (evo rfl)) ?_
        refine op_v' (j_assign (evo rfl)) ?_
        refine op_nil ?_
        refine a_ret ?_
        exact ⟨[.p _], .p _, [], [], [], ⟨rfl, trivial⟩, rfl, rfl, trivial, rfl, rfl, ⟨boolEq (by first | exact icR_none h1 h2 h3 | exact icR_some h1 h2 h3), rfl, rfl⟩⟩
      ·
        have h3r := h3
        try simp only [Bool.not_eq_true', Bool.not_eq_false', Bool.not_not, bne_iff_ne, bne_eq_false_iff_eq, beq_eq_false_iff_ne, beq_iff_eq, ne_eq, decide_eq_true_eq, decide_eq_false_iff_not, Classical.not_not, List.length_map, List.length_take, Int.toNat_natCast] at h3
        refine op_v' (j_want rfl rfl h3r (j_move (evo rfl))) ?_
        refine op_v' (j_want rfl rfl h3r (j_fldp fld59f1 rfl rfl)) ?_
        refine op_v' (j_want rfl rfl h3r (j_load_box leaf3 rfl rfl rfl)) ?_
        refine op_v' (j_want rfl rfl h3r (j_ge rfl rfl)) ?_
        refine op_v' (j_pick_f rfl h3r (evo rfl)) ?_
        refine op_v' (j_assign (evo rfl)) ?_
        refine op_nil ?_
        refine a_ret ?_
        exact ⟨[.p _], .p _, [], [], [], ⟨rfl, trivial⟩, rfl, rfl, trivial, rfl, rfl, ⟨boolEq (by first | exact icR_none h1 h2 h3 | exact icR_some h1 h2 h3), rfl, rfl⟩⟩


end Go.Ab

/- Walks. -/
import Derived.Test.YtnjeclpjegdkpaaBase
import Derived.Test.YtnjeclpjegdkpaaSem
import Derived.Test.YtnjeclpjegdkpaaWsfix
import Derived.Test.YtnjeclpjegdkpaaWsfun
import Derived.Test.YtnjeclpjegdkpaaProb
import Derived.Test.YtnjeclpjegdkpaaWsprob
import Derived.Test.YtnjeclpjegdkpaaEnum
import Derived.Test.YtnjeclpjegdkpaaWsenum
import Derived.Test.YtnjeclpjegdkpaaWsprobd
import Derived.Test.YtnjeclpjegdkpaaLaws2
import Derived.Test.YtnjeclpjegdkpaaWsfixlaw
namespace Go.Ab
open Go.Proofs
set_option maxRecDepth 100000
set_option maxHeartbeats 8000000
set_option linter.unusedSimpArgs false
set_option linter.unusedVariables false
theorem f_lawFL (b1 : List Int) (hb1 : ∀ a ∈ b1, 0 ≤ a ∧ a ≤ 255) : Fn Try.prog 9 [.sl (b1.map dU)] [] (fun rr ii nn => rr = .p (.bool true) ∧ ii = [] ∧ nn = []) := by
  refine fn_of Try.func9 rfl (Nat.le_of_ble_eq_true rfl) fun w X g => ?_
  show AWp _ _ _ ⟨[(0, .sl (b1.map dU))], []⟩
  refine a_seq ?_
  refine a_region (by kernel_rfl) ?_
  refine op_v' (j_assign (evo rfl)) ?_
  refine op_nil ?_
  refine a_seq ?_
  refine a_seq ?_
  refine a_region (by kernel_rfl) ?_
  refine op_v' (j_move (evo rfl)) ?_
  refine op_v' (j_len_map Try.underlying22 rfl) ?_
  refine op_v' (j_gt rfl rfl) ?_
  refine op_nil ?_
  refine a_cond rfl (fun h1 => ?_) (fun h1 => ?_)
  ·
    have h1r := h1
    try simp only [Bool.not_eq_true', Bool.not_eq_false', Bool.not_not, bne_iff_ne, bne_eq_false_iff_eq, beq_eq_false_iff_ne, beq_iff_eq, ne_eq, decide_eq_true_eq, decide_eq_false_iff_not, Classical.not_not, List.length_map, List.length_take, Int.toNat_natCast, List.length_map, List.length_append, List.length_cons, List.length_nil, List.length_set, List.length_take] at h1
    refine a_seq ?_
    refine a_region (by kernel_rfl) ?_
    refine op_v' (j_assign (evo rfl)) ?_
    refine op_nil ?_
    refine a_ret ?_
    exact ⟨[.p _], .p _, [], [], [], ⟨rfl, trivial⟩, rfl, rfl, trivial, rfl, rfl, ⟨rfl, rfl, rfl⟩⟩
  ·
    have h1r := h1
    try simp only [Bool.not_eq_true', Bool.not_eq_false', Bool.not_not, bne_iff_ne, bne_eq_false_iff_eq, beq_eq_false_iff_ne, beq_iff_eq, ne_eq, decide_eq_true_eq, decide_eq_false_iff_not, Classical.not_not, List.length_map, List.length_take, Int.toNat_natCast, List.length_map, List.length_append, List.length_cons, List.length_nil, List.length_set, List.length_take] at h1
    refine a_skip ?_
    refine a_seq ?_
    refine a_region (by kernel_rfl) ?_
    refine op_v' (j_move (evo rfl)) ?_
    refine op_callE (v := fun x => .tup [.sl _, .p _]) (hp1 := fun x => []) [] false ent42 (f_dFL b1 hb1) ⟨.inl ⟨rfl, rfl⟩, trivial⟩ trivial rfl (fun _ => rfl) (fun _ => rfl) (.inl rfl) (fun _ => rfl) (fun _ => rfl) ?_
    rintro ⟨l15, m15⟩ ⟨ho15, hm15⟩
    try dsimp only at ho15
    try dsimp only at hm15
    dsimp only [List.cons_append, List.nil_append]
    refine op_v' (j_move (evo rfl)) ?_
    refine op_v' (j_extract rfl rfl) ?_
    refine op_v' (j_extract rfl rfl) ?_
    refine op_v' (j_assign (evo rfl)) ?_
    refine op_v' (j_assign (evo rfl)) ?_
    refine op_nil ?_
    refine a_seq ?_
    refine a_region (by kernel_rfl) ?_
    refine op_v' (j_move (evo rfl)) ?_
    refine op_v' (j_move (evo rfl)) ?_
    refine op_v0' (j_call0 (v := .tup [.sl _, .p _]) (hp1 := []) [] false [] ent19 (f_flImpl l15 m15) ⟨.inl ⟨rfl, rfl⟩, .inl ⟨rfl, rfl⟩, trivial⟩ trivial rfl rfl (fun h => by cases h) rfl (fun _ h => by cases h) (.inl rfl) rfl rfl) ?_
    refine op_v' (j_move (evo rfl)) ?_
    refine op_v' (j_extract rfl rfl) ?_
    refine op_v' (j_extract rfl rfl) ?_
    refine op_v' (j_assign (evo rfl)) ?_
    refine op_v' (j_assign (evo rfl)) ?_
    refine op_nil ?_
    refine a_seq ?_
    refine a_region (by kernel_rfl) ?_
    refine op_v' (j_move (evo rfl)) ?_
    refine op_v' (j_move (evo rfl)) ?_
    refine op_v0' (j_call0 (v := .tup [.sl _, .p _]) (hp1 := []) [] false [] ent22 (f_flSpec l15 m15) ⟨.inl ⟨rfl, rfl⟩, .inl ⟨rfl, rfl⟩, trivial⟩ trivial rfl rfl (fun h => by cases h) rfl (fun _ h => by cases h) (.inl rfl) rfl rfl) ?_
    refine op_v' (j_move (evo rfl)) ?_
    refine op_v' (j_extract rfl rfl) ?_
    refine op_v' (j_extract rfl rfl) ?_
    refine op_v' (j_assign (evo rfl)) ?_
    refine op_v' (j_assign (evo rfl)) ?_
    refine op_nil ?_
    refine a_seq ?_
    refine a_seq ?_
    refine a_region (by kernel_rfl) ?_
    refine op_v' (j_move (evo rfl)) ?_
    refine op_v' (j_move (evo rfl)) ?_
    refine op_v' (j_neb Try.underlying4 rfl rfl) ?_
    refine op_v' (j_move (evo rfl)) ?_
    refine op_split' 33 rfl (fun h2 => ?_) (fun h2 => ?_)
    ·
      have h2r := h2
      try simp only [Bool.not_eq_true', Bool.not_eq_false', Bool.not_not, bne_iff_ne, bne_eq_false_iff_eq, beq_eq_false_iff_ne, beq_iff_eq, ne_eq, decide_eq_true_eq, decide_eq_false_iff_not, Classical.not_not, List.length_map, List.length_take, Int.toNat_natCast, List.length_map, List.length_append, List.length_cons, List.length_nil, List.length_set, List.length_take] at h2
      exact absurd h2r (by simp)
    ·
      have h2r := h2
      try simp only [Bool.not_eq_true', Bool.not_eq_false', Bool.not_not, bne_iff_ne, bne_eq_false_iff_eq, beq_eq_false_iff_ne, beq_iff_eq, ne_eq, decide_eq_true_eq, decide_eq_false_iff_not, Classical.not_not, List.length_map, List.length_take, Int.toNat_natCast, List.length_map, List.length_append, List.length_cons, List.length_nil, List.length_set, List.length_take] at h2
      refine op_v' (j_want rfl rfl h2r (j_move (evo rfl))) ?_
      refine op_v' (j_want rfl rfl h2r (j_move (evo rfl))) ?_
      refine op_v0' (j_want rfl rfl h2r (j_call0 (v := .p _) (hp1 := []) [] false [] ent36 (f_cpProb (flL l15 m15) (flL l15 m15)) ⟨.inl ⟨rfl, rfl⟩, .inl ⟨rfl, rfl⟩, trivial⟩ trivial rfl rfl (fun h => by cases h) rfl (fun _ h => by cases h) (.inl rfl) rfl rfl)) ?_
      refine op_v' (j_want rfl rfl h2r (j_not rfl)) ?_
      refine op_v' (j_pick_f rfl h2r (evo rfl)) ?_
      refine op_v' (j_move (evo rfl)) ?_
      refine op_split' 39 rfl (fun h3 => ?_) (fun h3 => ?_)
      ·
        have h3r := h3
        try simp only [Bool.not_eq_true', Bool.not_eq_false', Bool.not_not, bne_iff_ne, bne_eq_false_iff_eq, beq_eq_false_iff_ne, beq_iff_eq, ne_eq, decide_eq_true_eq, decide_eq_false_iff_not, Classical.not_not, List.length_map, List.length_take, Int.toNat_natCast, List.length_map, List.length_append, List.length_cons, List.length_nil, List.length_set, List.length_take] at h3
        refine op_v' (j_unwantV rfl rfl h3r) ?_
        refine op_v' (j_unwantV rfl rfl h3r) ?_
        refine op_v' (j_pick_t rfl h3r (evo rfl)) ?_
        refine op_nil ?_
        refine a_tt rfl ?_
        refine a_seq ?_
        refine a_region (by kernel_rfl) ?_
        refine op_v' (j_move (evo rfl)) ?_
        refine op_v' (j_move (evo rfl)) ?_
        refine op_v' (j_eqb Try.underlying4 rfl rfl) ?_
        refine op_v' (j_move (evo rfl)) ?_
        refine op_split' 46 rfl (fun h4 => ?_) (fun h4 => ?_)
        ·
          have h4r := h4
          try simp only [Bool.not_eq_true', Bool.not_eq_false', Bool.not_not, bne_iff_ne, bne_eq_false_iff_eq, beq_eq_false_iff_ne, beq_iff_eq, ne_eq, decide_eq_true_eq, decide_eq_false_iff_not, Classical.not_not, List.length_map, List.length_take, Int.toNat_natCast, List.length_map, List.length_append, List.length_cons, List.length_nil, List.length_set, List.length_take] at h4
          refine op_v' (j_want rfl rfl h4r (j_move (evo rfl))) ?_
          refine op_v' (j_want rfl rfl h4r (j_move (evo rfl))) ?_
          refine op_v0' (j_want rfl rfl h4r (j_call0 (v := .p _) (hp1 := []) [] false [] ent36 (f_cpProb (flL l15 m15) (flL l15 m15)) ⟨.inl ⟨rfl, rfl⟩, .inl ⟨rfl, rfl⟩, trivial⟩ trivial rfl rfl (fun h => by cases h) rfl (fun _ h => by cases h) (.inl rfl) rfl rfl)) ?_
          refine op_v' (j_pick_t rfl h4r (evo rfl)) ?_
          refine op_v' (j_assign (evo rfl)) ?_
          refine op_nil ?_
          refine a_ret ?_
          exact ⟨[.p _], .p _, [], [], [], ⟨rfl, trivial⟩, rfl, rfl, trivial, rfl, rfl, ⟨boolEq (by simp), rfl, rfl⟩⟩
        ·
          have h4r := h4
          try simp only [Bool.not_eq_true', Bool.not_eq_false', Bool.not_not, bne_iff_ne, bne_eq_false_iff_eq, beq_eq_false_iff_ne, beq_iff_eq, ne_eq, decide_eq_true_eq, decide_eq_false_iff_not, Classical.not_not, List.length_map, List.length_take, Int.toNat_natCast, List.length_map, List.length_append, List.length_cons, List.length_nil, List.length_set, List.length_take] at h4
          exact absurd h4r (by simp)
      ·
        have h3r := h3
        try simp only [Bool.not_eq_true', Bool.not_eq_false', Bool.not_not, bne_iff_ne, bne_eq_false_iff_eq, beq_eq_false_iff_ne, beq_iff_eq, ne_eq, decide_eq_true_eq, decide_eq_false_iff_not, Classical.not_not, List.length_map, List.length_take, Int.toNat_natCast, List.length_map, List.length_append, List.length_cons, List.length_nil, List.length_set, List.length_take] at h3
        refine op_v' (j_want rfl rfl h3r (j_move (evo rfl))) ?_
        refine op_v' (j_want rfl rfl h3r (j_not rfl)) ?_
        refine op_v' (j_pick_f rfl h3r (evo rfl)) ?_
        refine op_nil ?_
        refine a_cond rfl (fun h5 => ?_) (fun h5 => ?_)
        ·
          have h5r := h5
          try simp only [Bool.not_eq_true', Bool.not_eq_false', Bool.not_not, bne_iff_ne, bne_eq_false_iff_eq, beq_eq_false_iff_ne, beq_iff_eq, ne_eq, decide_eq_true_eq, decide_eq_false_iff_not, Classical.not_not, List.length_map, List.length_take, Int.toNat_natCast, List.length_map, List.length_append, List.length_cons, List.length_nil, List.length_set, List.length_take] at h5
          refine a_seq ?_
          refine a_region (by kernel_rfl) ?_
          refine op_v' (j_move (evo rfl)) ?_
          refine op_v' (j_move (evo rfl)) ?_
          refine op_v' (j_eqb Try.underlying4 rfl rfl) ?_
          refine op_v' (j_move (evo rfl)) ?_
          refine op_split' 46 rfl (fun h6 => ?_) (fun h6 => ?_)
          ·
            have h6r := h6
            try simp only [Bool.not_eq_true', Bool.not_eq_false', Bool.not_not, bne_iff_ne, bne_eq_false_iff_eq, beq_eq_false_iff_ne, beq_iff_eq, ne_eq, decide_eq_true_eq, decide_eq_false_iff_not, Classical.not_not, List.length_map, List.length_take, Int.toNat_natCast, List.length_map, List.length_append, List.length_cons, List.length_nil, List.length_set, List.length_take] at h6
            refine op_v' (j_want rfl rfl h6r (j_move (evo rfl))) ?_
            refine op_v' (j_want rfl rfl h6r (j_move (evo rfl))) ?_
            refine op_v0' (j_want rfl rfl h6r (j_call0 (v := .p _) (hp1 := []) [] false [] ent36 (f_cpProb (flL l15 m15) (flL l15 m15)) ⟨.inl ⟨rfl, rfl⟩, .inl ⟨rfl, rfl⟩, trivial⟩ trivial rfl rfl (fun h => by cases h) rfl (fun _ h => by cases h) (.inl rfl) rfl rfl)) ?_
            refine op_v' (j_pick_t rfl h6r (evo rfl)) ?_
            refine op_v' (j_assign (evo rfl)) ?_
            refine op_nil ?_
            refine a_ret ?_
            exact ⟨[.p _], .p _, [], [], [], ⟨rfl, trivial⟩, rfl, rfl, trivial, rfl, rfl, ⟨boolEq (by simp), rfl, rfl⟩⟩
          ·
            have h6r := h6
            try simp only [Bool.not_eq_true', Bool.not_eq_false', Bool.not_not, bne_iff_ne, bne_eq_false_iff_eq, beq_eq_false_iff_ne, beq_iff_eq, ne_eq, decide_eq_true_eq, decide_eq_false_iff_not, Classical.not_not, List.length_map, List.length_take, Int.toNat_natCast, List.length_map, List.length_append, List.length_cons, List.length_nil, List.length_set, List.length_take] at h6
            exact absurd h6r (by simp)
        ·
          have h5r := h5
          try simp only [Bool.not_eq_true', Bool.not_eq_false', Bool.not_not, bne_iff_ne, bne_eq_false_iff_eq, beq_eq_false_iff_ne, beq_iff_eq, ne_eq, decide_eq_true_eq, decide_eq_false_iff_not, Classical.not_not, List.length_map, List.length_take, Int.toNat_natCast, List.length_map, List.length_append, List.length_cons, List.length_nil, List.length_set, List.length_take] at h5
          refine a_skip ?_
          refine a_seq ?_
          refine a_region (by kernel_rfl) ?_
          refine op_v' (j_move (evo rfl)) ?_
          refine op_v' (j_build (parts := [(0, .const (.int .i64 1)), (1, .tmp 51)]) str56 elt56 rfl rfl) ?_
          refine op_n' (fun ver => j_buildSlice (parts := [(0, .tmp 52)]) (es := [[_, _]]) slt57 elt56 rfl rfl (by decide) (by decide) rfl rfl (by simp) rfl) fun v53x1 => ?_
          refine op_v' (j_build (parts := [(0, .tmp 53), (1, .const (.int .i64 1))]) str59 elt59 rfl rfl) ?_
          refine op_n' (fun ver => j_alloc elt59 rfl) fun v9x2 => ?_
          refine op_s' (j_storea_box0 agg59 rfl rfl rfl rfl rfl rfl) ?_
          refine op_nil ?_
          refine a_seq ?_
          have hfl : flOk l15 m15 = true := by assumption
          have hfc := fl_count hfl (by have := ho15.1; omega)
          have hol := ho15.1
          have hr1 := csV_rng (l15 ++ [unitC m15])
          refine a_freezeboxK 0 9 (by decide) trivial rfl rfl rfl rfl ?_
          try dsimp only [List.set]
          refine a_draw mixed (by kernel_rfl) (by kernel_rfl) fun vf => ?_
          refine d_v' (j_move (evo rfl)) ?_
          refine d_v0' (j_call0 (v := .p _) (hp1 := []) [] false [] ent20 (f_csImpl (flL l15 m15)) ⟨.inl ⟨rfl, rfl⟩, trivial⟩ trivial rfl rfl (fun h => by cases h) rfl (fun _ h => by cases h) (.inl rfl) rfl rfl) ?_
          refine d_n' (fun ver => j_buildSlice (parts := []) (es := []) slt23 elt59 rfl rfl (by decide) (by decide) rfl rfl (by simp) rfl) ?_
          refine d_v' (j_move (evo rfl)) ?_
          refine d_n1' (fun ver => j_append_slN (by decide) slt23 elt59 rfl rfl rfl rfl len_dC (all_lf_dC _) (by rw [maxLen_eq]; first | omega | (simp only [List.length_map, List.length_take, Int.toNat_natCast, List.length_map, List.length_append, List.length_cons, List.length_nil, List.length_set, List.length_take]; omega)) (by first | omega | (simp only [List.length_map, List.length_take, Int.toNat_natCast, List.length_map, List.length_append, List.length_cons, List.length_nil, List.length_set, List.length_take]; omega))) ?_
          refine d_v' (j_loada_box (ys := [.sl _, .p _]) agg59 rfl rfl rfl (Nat.le_of_ble_eq_true rfl)) ?_
          refine d_n' (fun ver => j_buildSlice (parts := [(0, .tmp 60)]) (es := [[_, _]]) slt23 elt59 rfl rfl (by decide) (by decide) rfl rfl (by simp) rfl) ?_
          refine d_n1' (fun ver => j_append_ownN (by decide) slt23 elt59 rfl rfl rfl rfl rfl rfl (by rw [maxLen_eq]; first | omega | (simp only [List.length_map, List.length_take, Int.toNat_natCast, List.length_map, List.length_append, List.length_cons, List.length_nil, List.length_set, List.length_take]; omega)) (by first | omega | (simp only [List.length_map, List.length_take, Int.toNat_natCast, List.length_map, List.length_append, List.length_cons, List.length_nil, List.length_set, List.length_take]; omega)) (show _ = (l15 ++ [unitC m15]).map dC by rw [List.map_append]; rfl)) ?_
          refine d_v0' (j_call0 (v := .p _) (hp1 := []) [] true [62] ent20 (f_csImpl (l15 ++ [unitC m15])) ⟨.inr ⟨rfl, view_own rfl rfl, rfl⟩, trivial⟩ trivial rfl rfl (fun _ => rfl) rfl (fun _ h => by cases h) (.inr ⟨rfl, by first | exact pl_new1 (fun _ => rfl) | (simp [plO, plV, plV.plL]; done)⟩) rfl rfl) ?_
          refine d_v' (j_mul rfl rfl (by first | omega | (simp only [List.length_map, List.length_take, Int.toNat_natCast, List.length_map, List.length_append, List.length_cons, List.length_nil, List.length_set, List.length_take]; omega)) (by first | omega | (simp only [List.length_map, List.length_take, Int.toNat_natCast, List.length_map, List.length_append, List.length_cons, List.length_nil, List.length_set, List.length_take]; omega))) ?_
          refine d_v' (j_eq rfl rfl) ?_
          refine d_v' (j_assign (evo rfl)) ?_
          refine d_nil (by kernel_rfl) (by kernel_rfl) ?_
          refine a_ret ?_
          exact ⟨[.p _], .p _, [], [], [], ⟨rfl, trivial⟩, rfl, rfl, trivial, rfl, rfl, ⟨boolEq (decide_eq_true hfc), rfl, rfl⟩⟩


end Go.Ab

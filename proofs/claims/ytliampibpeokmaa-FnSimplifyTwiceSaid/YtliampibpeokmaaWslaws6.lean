/- Walks. -/
import Derived.Test.YtliampibpeokmaaBase
import Derived.Test.YtliampibpeokmaaWscov
namespace Go.Ab
open Go.Proofs
set_option maxRecDepth 100000
set_option maxHeartbeats 8000000
set_option linter.unusedSimpArgs false
set_option linter.unusedVariables false
theorem f_dRC (b : List Int) (hb : ∀ a ∈ b, 0 ≤ a ∧ a ≤ 255) : Fn Try.prog 82 [.sl (b.map dU)] [] (fun rr ii nn => ∃ x : List Con, (okP x 20 15) ∧ rr = .sl (x.map dC) ∧ ii = [] ∧ nn = []) := by
  refine fn_of Try.func82 rfl (Nat.le_of_ble_eq_true rfl) fun w X g => ?_
  show AWp _ _ _ ⟨[(0, .sl (b.map dU))], []⟩
  refine a_seq ?_
  refine a_region (by kernel_rfl) ?_
  refine op_v' (j_assign (evo rfl)) ?_
  refine op_nil ?_
  refine a_seq ?_
  refine a_region (by kernel_rfl) ?_
  refine op_v' (j_move (evo rfl)) ?_
  refine op_n1' (fun ver => j_call1 (v := .ptr 9 ver 0) (hp1 := [(9, some (ver, .box 131 [.sl _, .p _]))]) [] false [] ent63 (f_open _) ⟨.inl ⟨rfl, rfl⟩, trivial⟩ trivial rfl rfl rfl (fun h => by cases h) rfl (List.all_eq_true.1 rfl) (.inl rfl) rfl rfl) fun v9x1 => ?_
  refine op_v' (j_assign (evo rfl)) ?_
  refine op_nil ?_
  refine a_seq ?_
  have hbt := okB_take (Nat.le_refl _) hb
  refine a_region (by kernel_rfl) ?_
  refine op_v' (j_move (evo rfl)) ?_
  refine op_callE1 (v := fun x ver => .own 11 ver) (hp1 := fun x ver => [(9, some (v9x1, .box 131 [.sl _, .p _])), (11, some (ver, .row 99 2 _))]) [(9, v9x1)] false ent151 (f_l5Hard (b.take 2000) 0 hbt (by decide)) ⟨.inl ⟨rfl, rfl⟩, trivial⟩ ⟨⟨rfl, rfl⟩, trivial⟩ rfl rfl (fun _ => rfl) (fun _ => rfl) (.inl rfl) (fun _ _ => rfl) (fun _ _ => rfl) ?_
  rintro ⟨l11, p11⟩ ⟨ho11, hp11⟩ v11x2
  try dsimp only at ho11
  try dsimp only at hp11
  dsimp only [List.cons_append, List.nil_append]
  refine op_v' (j_assign (evo rfl)) ?_
  refine op_nil ?_
  refine a_seq ?_
  refine a_seq ?_
  refine a_region (by kernel_rfl) ?_
  refine op_v' (j_move (evo rfl)) ?_
  refine op_v0' (j_call0 (v := .p _) (hp1 := [(9, some (v9x1, .box 131 [.sl _, .p _]))]) [(9, v9x1)] false [9] ent133 (f_pick _ _ _ (by assumption) (by omega)) ⟨.inl ⟨rfl, rfl⟩, .inl ⟨rfl, rfl⟩, trivial⟩ ⟨⟨rfl, rfl⟩, trivial⟩ rfl rfl (fun h => by cases h) rfl (List.all_eq_true.1 rfl) (.inl rfl) rfl rfl) ?_
  refine op_v' (j_assign (evo rfl)) ?_
  refine op_nil ?_
  refine a_block ?_
  refine a_loopF' (ι := List Con × Nat × Nat × Nat) (fun x => okP x.1 (14 + x.2.1) 12 ∧ x.2.1 ≤ 3 ∧ x.2.2.1 ≤ 800 + 2 * x.2.1 ∧ (x.2.1 : Int) ≤ pickV (b.take 2000) p11 3) (fun x r => (5, .p (.int .i64 (pickV (b.take 2000) p11 3 - (x.2.1 : Nat)))) :: (4, .own 11 x.2.2.2) :: r) (fun x r => (9, some (v9x1, .box 131 [.sl ((b.take 2000).map dU), .p (.int .i64 ((x.2.2.1 : Nat) : Int))])) :: (11, some (x.2.2.2, .row 99 2 (x.1.map dC))) :: r) (fun x => 3 - x.2.1) (fun _ _ => rfl) (fun _ _ => rfl) (l11, 0, p11 + 1, v11x2) (by first | exact ⟨ho11, by omega, by omega, by have := pickV_lt (b := b.take 2000) (p := p11) (n := 3) (by omega); omega⟩ | (dsimp only; exact ⟨ho11, by omega, by omega, by have := pickV_lt (b := b.take 2000) (p := p11) (n := 3) (by omega); omega⟩)) ⟨⟨rfl, rfl⟩, ⟨intEq (by dsimp only; omega), rfl, trivial⟩, ⟨rfl, rfl, trivial⟩, ⟨rfl, rfl⟩, ⟨rfl, rfl⟩⟩ ?_
  rintro ⟨l, k, r, v⟩ hpre; dsimp only at hpre ⊢
  refine a_seq ?_
  refine a_seq ?_
  have hol := hpre.1.1
  have hp3 := pickV_lt (b := b.take 2000) (p := p11) (n := 3) (by omega)
  refine a_region (by kernel_rfl) ?_
  refine op_v' (j_move (evo rfl)) ?_
  refine op_v' (j_gt rfl rfl) ?_
  refine op_v' (j_move (evo rfl)) ?_
  refine op_split' 16 rfl (fun h1 => ?_) (fun h1 => ?_)
  ·
    have h1r := h1
    try simp only [Bool.not_eq_true', Bool.not_eq_false', Bool.not_not, bne_iff_ne, bne_eq_false_iff_eq, beq_eq_false_iff_ne, beq_iff_eq, ne_eq, decide_eq_true_eq, decide_eq_false_iff_not, Classical.not_not, List.length_map, List.length_take, Int.toNat_natCast, List.length_map, List.length_append, List.length_cons, List.length_nil, List.length_set, List.length_take] at h1
    refine op_v' (j_want rfl rfl h1r (j_move (evo rfl))) ?_
    refine op_v' (j_want rfl rfl h1r (j_len_own_map Try.underlying37 rfl rfl)) ?_
    refine op_v' (j_want rfl rfl h1r (j_gt rfl rfl)) ?_
    refine op_v' (j_pick_t rfl h1r (evo rfl)) ?_
    refine op_nil ?_
    refine a_cond rfl (fun h2 => ?_) (fun h2 => ?_)
    ·
      have h2r := h2
      try simp only [Bool.not_eq_true', Bool.not_eq_false', Bool.not_not, bne_iff_ne, bne_eq_false_iff_eq, beq_eq_false_iff_ne, beq_iff_eq, ne_eq, decide_eq_true_eq, decide_eq_false_iff_not, Classical.not_not, List.length_map, List.length_take, Int.toNat_natCast, List.length_map, List.length_append, List.length_cons, List.length_nil, List.length_set, List.length_take] at h2
      refine a_skip ?_
      refine a_seq ?_
      refine a_block ?_
      refine a_seq ?_
      have hpk := pickV_lt (b := (b.take 2000)) (p := r) (n := (l.length : Nat)) (by omega)
      have hp4 := pickV_lt (b := (b.take 2000)) (p := r + 1) (n := 4) (by omega)
      refine a_draw mixed (by kernel_rfl) (by kernel_rfl) fun vf => ?_
      refine d_v' (j_move (evo rfl)) ?_
      refine d_v' (j_move (evo rfl)) ?_
      refine d_v' (j_move (evo rfl)) ?_
      refine d_v' (j_len_own_map Try.underlying37 rfl rfl) ?_
      refine d_v0' (j_call0 (v := .p _) (hp1 := [(9, some (v9x1, .box 131 [.sl _, .p _]))]) [(9, v9x1)] false [9] ent133 (f_pick _ _ _ (by assumption) (by omega)) ⟨.inl ⟨rfl, rfl⟩, .inl ⟨rfl, rfl⟩, trivial⟩ ⟨⟨rfl, rfl⟩, trivial⟩ rfl rfl (fun h => by cases h) rfl (List.all_eq_true.1 rfl) (.inl rfl) rfl rfl) ?_
      refine d_v' (j_elem_ownN (n := (pickV (b.take 2000) r (l.length : Nat)).toNat) slt37 rfl rfl rfl (by first | omega | (simp only [List.length_map, List.length_take, Int.toNat_natCast, List.length_map, List.length_append, List.length_cons, List.length_nil, List.length_set, List.length_take]; omega)) (by first | omega | (simp only [List.length_map, List.length_take, Int.toNat_natCast, List.length_map, List.length_append, List.length_cons, List.length_nil, List.length_set, List.length_take]; omega))) ?_
      refine d_v' (j_loada_pel (ys := [.sl _, .p _]) agg99 rfl rfl (at_map (by first | omega | (simp only [List.length_map, List.length_take, Int.toNat_natCast, List.length_map, List.length_append, List.length_cons, List.length_nil, List.length_set, List.length_take]; omega))) rfl (Nat.le_refl _)) ?_
      refine d_v' (j_move (evo rfl)) ?_
      refine d_v0' (j_call0 (v := .p _) (hp1 := [(9, some (v9x1, .box 131 [.sl _, .p _]))]) [(9, v9x1)] false [9] ent133 (f_pick _ _ _ (by assumption) (by omega)) ⟨.inl ⟨rfl, rfl⟩, .inl ⟨rfl, rfl⟩, trivial⟩ ⟨⟨rfl, rfl⟩, trivial⟩ rfl rfl (fun h => by cases h) rfl (List.all_eq_true.1 rfl) (.inl rfl) rfl rfl) ?_
      refine d_v' (j_add rfl rfl (by first | omega | (simp only [List.length_map, List.length_take, Int.toNat_natCast, List.length_map, List.length_append, List.length_cons, List.length_nil, List.length_set, List.length_take]; omega)) (by first | omega | (simp only [List.length_map, List.length_take, Int.toNat_natCast, List.length_map, List.length_append, List.length_cons, List.length_nil, List.length_set, List.length_take]; omega))) ?_
      refine d_v0' (j_call0 (v := .tup [.agg [.sl _, .p _], .p _]) (hp1 := []) [] false [] ent152 (f_weakSpec (l.getD (pickV (b.take 2000) r (l.length : Nat)).toNat default) (1 + pickV (b.take 2000) (r + 1) 4)) ⟨.inl ⟨rfl, rfl⟩, .inl ⟨rfl, rfl⟩, trivial⟩ trivial rfl rfl (fun h => by cases h) rfl (fun _ h => by cases h) (.inl rfl) rfl rfl) ?_
      refine d_v' (j_move (evo rfl)) ?_
      refine d_v' (j_extract rfl rfl) ?_
      refine d_v' (j_extract rfl rfl) ?_
      refine d_n' (fun ver => j_alloc elt99 rfl) ?_
      refine d_s' (j_storea_box0 agg99 rfl rfl rfl rfl rfl rfl) ?_
      refine d_v' (j_assign (evo rfl)) ?_
      refine d_nil (by kernel_rfl) (by kernel_rfl) ?_
      refine a_region (by kernel_rfl) ?_
      refine op_v' (j_move (evo rfl)) ?_
      refine op_v' (j_loada_box (ys := [.sl _, .p _]) agg99 rfl rfl rfl (Nat.le_of_ble_eq_true rfl)) ?_
      refine op_n' (fun ver => j_buildSlice (parts := [(0, .tmp 38)]) (es := [[_, _]]) slt37 elt99 rfl rfl (by decide) (by decide) rfl rfl (by simp) rfl) fun v39x3 => ?_
      refine op_n' (fun ver => j_append_own slt37 elt99 rfl rfl rfl rfl rfl rfl (by rw [maxLen_eq]; first | omega | (simp only [List.length_map, List.length_take, Int.toNat_natCast, List.length_map, List.length_append, List.length_cons, List.length_nil, List.length_set, List.length_take]; omega)) (by first | omega | (simp only [List.length_map, List.length_take, Int.toNat_natCast, List.length_map, List.length_append, List.length_cons, List.length_nil, List.length_set, List.length_take]; omega))) fun v11x4 => ?_
      refine op_v' (j_assign (evo rfl)) ?_
      refine op_nil ?_
      refine a_region (by kernel_rfl) ?_
      refine op_v' (j_move (evo rfl)) ?_
      refine op_v' (j_sub rfl rfl (by first | omega | (simp only [List.length_map, List.length_take, Int.toNat_natCast, List.length_map, List.length_append, List.length_cons, List.length_nil, List.length_set, List.length_take]; omega)) (by first | omega | (simp only [List.length_map, List.length_take, Int.toNat_natCast, List.length_map, List.length_append, List.length_cons, List.length_nil, List.length_set, List.length_take]; omega))) ?_
      refine op_v' (j_assign (evo rfl)) ?_
      refine op_nil ?_
      exact ⟨(l ++ [(weakC (l.getD (pickV (b.take 2000) r (l.length : Nat)).toNat default) (1 + pickV (b.take 2000) (r + 1) 4))], k + 1, r + 2, v11x4), (by first | exact ⟨okP_snoc hpre.1 (Nat.le_trans weakC_len (okP_at hpre.1 (by omega))), by omega, by omega, by have := pickV_lt (b := b.take 2000) (p := p11) (n := 3) (by omega); omega⟩ | (dsimp only; exact ⟨okP_snoc hpre.1 (Nat.le_trans weakC_len (okP_at hpre.1 (by omega))), by omega, by omega, by have := pickV_lt (b := b.take 2000) (p := p11) (n := 3) (by omega); omega⟩)), ⟨⟨rfl, rfl⟩, ⟨intEq (by dsimp only; omega), rfl, trivial⟩, ⟨rfl, rowEq (by rw [List.map_append]; rfl), trivial⟩, ⟨rfl, rfl⟩, ⟨rfl, rfl⟩⟩, (by first | exact (by have := pickV_lt (b := b.take 2000) (p := p11) (n := 3) (by omega); omega) | (dsimp only; exact (by have := pickV_lt (b := b.take 2000) (p := p11) (n := 3) (by omega); omega)))⟩
    ·
      have h2r := h2
      try simp only [Bool.not_eq_true', Bool.not_eq_false', Bool.not_not, bne_iff_ne, bne_eq_false_iff_eq, beq_eq_false_iff_ne, beq_iff_eq, ne_eq, decide_eq_true_eq, decide_eq_false_iff_not, Classical.not_not, List.length_map, List.length_take, Int.toNat_natCast, List.length_map, List.length_append, List.length_cons, List.length_nil, List.length_set, List.length_take] at h2
      refine a_exit ?_
      refine a_seq ?_
      have hol := hpre.1.1
      refine a_region (by kernel_rfl) ?_
      refine op_v' (j_move (evo rfl)) ?_
      refine op_v' (j_move (evo rfl)) ?_
      refine op_freezeK 42 trivial rfl rfl rfl ?_
      refine op_callE (v := fun x => .sl _) (hp1 := fun x => [(9, some (v9x1, .box 131 [.sl _, .p _]))]) [(9, v9x1)] false ent153 (f_l3Mut (b.take 2000) r l 17 12 hbt (by omega) (okP_mono hpre.1 (by omega) (Nat.le_refl _)) (by decide) (by decide)) ⟨.inl ⟨rfl, rfl⟩, .inl ⟨rfl, rfl⟩, trivial⟩ ⟨⟨rfl, rfl⟩, trivial⟩ rfl (fun _ => rfl) (fun _ => rfl) (.inl rfl) (fun _ => rfl) (fun _ => rfl) ?_
      rintro ⟨l43, p43⟩ ⟨ho43, hl43, hp43⟩
      try dsimp only at ho43
      try dsimp only at hl43
      try dsimp only at hp43
      dsimp only [List.cons_append, List.nil_append]
      refine op_v' (j_assign (evo rfl)) ?_
      refine op_nil ?_
      refine a_ret ?_
      exact ⟨[.sl _], .sl _, [], [], [], ⟨rfl, trivial⟩, rfl, rfl, trivial, rfl, rfl, ⟨l43, okP_mono ho43 (by omega) (by omega), rfl, rfl, rfl⟩⟩
  ·
    have h1r := h1
    try simp only [Bool.not_eq_true', Bool.not_eq_false', Bool.not_not, bne_iff_ne, bne_eq_false_iff_eq, beq_eq_false_iff_ne, beq_iff_eq, ne_eq, decide_eq_true_eq, decide_eq_false_iff_not, Classical.not_not, List.length_map, List.length_take, Int.toNat_natCast, List.length_map, List.length_append, List.length_cons, List.length_nil, List.length_set, List.length_take] at h1
    refine op_v' (j_unwantV rfl rfl h1r) ?_
    refine op_v' (j_unwantV rfl rfl h1r) ?_
    refine op_v' (j_unwantV rfl rfl h1r) ?_
    refine op_v' (j_pick_f rfl h1r (evo rfl)) ?_
    refine op_nil ?_
    refine a_ff rfl ?_
    refine a_exit ?_
    refine a_seq ?_
    have hol := hpre.1.1
    refine a_region (by kernel_rfl) ?_
    refine op_v' (j_move (evo rfl)) ?_
    refine op_v' (j_move (evo rfl)) ?_
    refine op_freezeK 42 trivial rfl rfl rfl ?_
    refine op_callE (v := fun x => .sl _) (hp1 := fun x => [(9, some (v9x1, .box 131 [.sl _, .p _]))]) [(9, v9x1)] false ent153 (f_l3Mut (b.take 2000) r l 17 12 hbt (by omega) (okP_mono hpre.1 (by omega) (Nat.le_refl _)) (by decide) (by decide)) ⟨.inl ⟨rfl, rfl⟩, .inl ⟨rfl, rfl⟩, trivial⟩ ⟨⟨rfl, rfl⟩, trivial⟩ rfl (fun _ => rfl) (fun _ => rfl) (.inl rfl) (fun _ => rfl) (fun _ => rfl) ?_
    rintro ⟨l43, p43⟩ ⟨ho43, hl43, hp43⟩
    try dsimp only at ho43
    try dsimp only at hl43
    try dsimp only at hp43
    dsimp only [List.cons_append, List.nil_append]
    refine op_v' (j_assign (evo rfl)) ?_
    refine op_nil ?_
    refine a_ret ?_
    exact ⟨[.sl _], .sl _, [], [], [], ⟨rfl, trivial⟩, rfl, rfl, trivial, rfl, rfl, ⟨l43, okP_mono ho43 (by omega) (by omega), rfl, rfl, rfl⟩⟩


end Go.Ab

/- Walks. -/
import Derived.Test.YtnjeclpjegdkpaaBase
import Derived.Test.YtnjeclpjegdkpaaSem
import Derived.Test.YtnjeclpjegdkpaaWsfix
import Derived.Test.YtnjeclpjegdkpaaWsfun
import Derived.Test.YtnjeclpjegdkpaaProb
import Derived.Test.YtnjeclpjegdkpaaWsprob
import Derived.Test.YtnjeclpjegdkpaaEnum
import Derived.Test.YtnjeclpjegdkpaaWsenum
import Derived.Test.YtnjeclpjegdkpaaWsprobd
namespace Go.Ab
open Go.Proofs
set_option maxRecDepth 100000
set_option maxHeartbeats 8000000
set_option linter.unusedSimpArgs false
set_option linter.unusedVariables false
theorem f_l3Part (b : List Int) (p : Nat) (hb : okB b) (hp : p ≤ 1099511000000) : Fn Try.prog 85 [.ptr 0 0 0] [.box 118 [.sl (b.map dU), .p (.int .i64 ((p : Nat) : Int))]] (fun rr ii nn => ∃ x : List Int × Nat, ((x.1.length = 11 ∨ x.1.length = 12) ∧ p ≤ x.2 ∧ x.2 ≤ p + 20) ∧ rr = .own 1 0 ∧ ii = [.box 118 [.sl (b.map dU), .p (.int .i64 ((x.2 : Nat) : Int))]] ∧ nn = [.row 3 1 (x.1.map dI)]) := by
  refine fn_of Try.func85 rfl (Nat.le_of_ble_eq_true rfl) fun w X g => ?_
  show AWp _ _ _ ⟨[(0, .ptr 0 0 0)], [(0, some (0, .box 118 [.sl (b.map dU), .p (.int .i64 ((p : Nat) : Int))]))]⟩
  refine a_seq ?_
  refine a_region (by kernel_rfl) ?_
  refine op_v' (j_assign (evo rfl)) ?_
  refine op_nil ?_
  refine a_seq ?_
  refine a_region (by kernel_rfl) ?_
  refine op_n' (fun ver => j_buildSlice (parts := []) (es := []) slt25 elt3 rfl rfl (by decide) (by decide) rfl rfl (by simp) rfl) fun v5x1 => ?_
  refine op_v' (j_assign (evo rfl)) ?_
  refine op_nil ?_
  refine a_seq ?_
  refine a_seq ?_
  refine a_region (by kernel_rfl) ?_
  refine op_v' (j_assign (evo rfl)) ?_
  refine op_nil ?_
  refine a_block ?_
  refine a_loopF' (ι := List Int × Nat) (fun x => x.1.length ≤ 12) (fun x r => (4, .p (.int .i64 ((x.1.length : Nat)))) :: (3, .own 5 x.2) :: r) (fun x r => (0, some (0, .box 118 [.sl (b.map dU), .p (.int .i64 ((p + x.1.length : Nat) : Int))])) :: (5, some (x.2, .row 3 1 (x.1.map dI))) :: r) (fun x => 12 - x.1.length) (fun _ _ => rfl) (fun _ _ => rfl) ([], v5x1) (by first | exact (Nat.zero_le _) | (dsimp only; exact (Nat.zero_le _))) ⟨⟨rfl, rfl⟩, ⟨rfl, rfl, trivial⟩, ⟨box2Eq (by dsimp only; simp), rfl, trivial⟩, ⟨rfl, rfl⟩, ⟨rfl, rfl⟩⟩ ?_
  rintro ⟨l, v⟩ hpre; dsimp only at hpre ⊢
  refine a_seq ?_
  refine a_seq ?_
  refine a_region (by kernel_rfl) ?_
  refine op_v' (j_move (evo rfl)) ?_
  refine op_v' (j_lt rfl rfl) ?_
  refine op_nil ?_
  refine a_cond rfl (fun h1 => ?_) (fun h1 => ?_)
  ·
    have h1r := h1
    try simp only [Bool.not_eq_true', Bool.not_eq_false', Bool.not_not, bne_iff_ne, bne_eq_false_iff_eq, beq_eq_false_iff_ne, beq_iff_eq, ne_eq, decide_eq_true_eq, decide_eq_false_iff_not, Classical.not_not, List.length_map, List.length_take, Int.toNat_natCast, List.length_map, List.length_append, List.length_cons, List.length_nil, List.length_set, List.length_take] at h1
    refine a_skip ?_
    refine a_seq ?_
    refine a_block ?_
    refine a_region (by kernel_rfl) ?_
    refine op_v' (j_move (evo rfl)) ?_
    refine op_v' (j_move (evo rfl)) ?_
    refine op_n' (fun ver => j_buildSlice (parts := [(0, .const (.int .i64 0)), (1, .const (.int .i64 0)), (2, .const (.int .i64 1)), (3, .const (.int .i64 (-1))), (4, .const (.int .i64 0))]) (es := [[_], [_], [_], [_], [_]]) slt25 elt3 rfl rfl (by decide) (by decide) rfl rfl (by simp) rfl) fun v12x2 => ?_
    refine op_v0' (j_call0 (v := .p _) (hp1 := [(0, some (0, .box 118 [.sl _, .p _])), (12, some (v12x2, .row 3 1 _))]) [(0, 0), (12, v12x2)] false [0, 12] ent97 (f_num b (p + l.length) [0, 0, 1, -1, 0] hb (by omega) (by decide) (by decide)) ⟨.inl ⟨rfl, rfl⟩, .inl ⟨rfl, rfl⟩, trivial⟩ ⟨⟨rfl, rfl⟩, ⟨rfl, rfl⟩, trivial⟩ rfl rfl (fun h => by cases h) rfl (List.all_eq_true.1 rfl) (.inl rfl) rfl rfl) ?_
    refine op_n' (fun ver => j_buildSlice (parts := [(0, .tmp 13)]) (es := [[_]]) slt25 elt3 rfl rfl (by decide) (by decide) rfl rfl (by simp) rfl) fun v14x3 => ?_
    refine op_n' (fun ver => j_append_own slt25 elt3 rfl rfl rfl rfl rfl rfl (by rw [maxLen_eq]; first | omega | (simp only [List.length_map, List.length_take, Int.toNat_natCast, List.length_map, List.length_append, List.length_cons, List.length_nil, List.length_set, List.length_take]; omega)) (by first | omega | (simp only [List.length_map, List.length_take, Int.toNat_natCast, List.length_map, List.length_append, List.length_cons, List.length_nil, List.length_set, List.length_take]; omega))) fun v5x4 => ?_
    refine op_v' (j_assign (evo rfl)) ?_
    refine op_nil ?_
    refine a_region (by kernel_rfl) ?_
    refine op_v' (j_move (evo rfl)) ?_
    refine op_v' (j_add rfl rfl (by first | omega | (simp only [List.length_map, List.length_take, Int.toNat_natCast, List.length_map, List.length_append, List.length_cons, List.length_nil, List.length_set, List.length_take]; omega)) (by first | omega | (simp only [List.length_map, List.length_take, Int.toNat_natCast, List.length_map, List.length_append, List.length_cons, List.length_nil, List.length_set, List.length_take]; omega))) ?_
    refine op_v' (j_assign (evo rfl)) ?_
    refine op_nil ?_
    exact ⟨(l ++ [ofV b (p + l.length) ([0, 0, 1, -1, 0] : List Int)], v5x4), (by first | exact (by first | omega | (simp only [List.length_map, List.length_take, Int.toNat_natCast, List.length_map, List.length_append, List.length_cons, List.length_nil, List.length_set, List.length_take]; omega)) | (dsimp only; exact (by first | omega | (simp only [List.length_map, List.length_take, Int.toNat_natCast, List.length_map, List.length_append, List.length_cons, List.length_nil, List.length_set, List.length_take]; omega)))), ⟨⟨rfl, rfl⟩, ⟨intEq (by dsimp only; simp), rfl, trivial⟩, ⟨box2Eq (by dsimp only; simp; omega), rowEq (by rw [List.map_append]; rfl), trivial⟩, ⟨rfl, rfl⟩, ⟨rfl, rfl⟩⟩, (by first | exact (by first | omega | (simp only [List.length_map, List.length_take, Int.toNat_natCast, List.length_map, List.length_append, List.length_cons, List.length_nil, List.length_set, List.length_take]; omega)) | (dsimp only; exact (by first | omega | (simp only [List.length_map, List.length_take, Int.toNat_natCast, List.length_map, List.length_append, List.length_cons, List.length_nil, List.length_set, List.length_take]; omega))))⟩
  ·
    have h1r := h1
    try simp only [Bool.not_eq_true', Bool.not_eq_false', Bool.not_not, bne_iff_ne, bne_eq_false_iff_eq, beq_eq_false_iff_ne, beq_iff_eq, ne_eq, decide_eq_true_eq, decide_eq_false_iff_not, Classical.not_not, List.length_map, List.length_take, Int.toNat_natCast, List.length_map, List.length_append, List.length_cons, List.length_nil, List.length_set, List.length_take] at h1
    refine a_exit ?_
    refine a_seq ?_
    refine a_seq ?_
    refine a_region (by kernel_rfl) ?_
    refine op_v' (j_move (evo rfl)) ?_
    refine op_v0' (j_call0 (v := .p _) (hp1 := [(0, some (0, .box 118 [.sl _, .p _]))]) [(0, 0)] false [0] ent87 (f_pick _ _ _ (by assumption) (by omega)) ⟨.inl ⟨rfl, rfl⟩, .inl ⟨rfl, rfl⟩, trivial⟩ ⟨⟨rfl, rfl⟩, trivial⟩ rfl rfl (fun h => by cases h) rfl (List.all_eq_true.1 rfl) (.inl rfl) rfl rfl) ?_
    refine op_nil ?_
    refine a_block ?_
    refine a_seq ?_
    refine a_region (by kernel_rfl) ?_
    refine op_v' (j_eq rfl rfl) ?_
    refine op_v' (j_assign (evo rfl)) ?_
    refine op_nil ?_
    refine a_cond rfl (fun h2 => ?_) (fun h2 => ?_)
    ·
      have h2r := h2
      try simp only [Bool.not_eq_true', Bool.not_eq_false', Bool.not_not, bne_iff_ne, bne_eq_false_iff_eq, beq_eq_false_iff_ne, beq_iff_eq, ne_eq, decide_eq_true_eq, decide_eq_false_iff_not, Classical.not_not, List.length_map, List.length_take, Int.toNat_natCast, List.length_map, List.length_append, List.length_cons, List.length_nil, List.length_set, List.length_take] at h2
      refine a_region (by kernel_rfl) ?_
      refine op_v' (j_move (evo rfl)) ?_
      refine op_v' (j_move (evo rfl)) ?_
      refine op_n' (fun ver => j_buildSlice (parts := [(0, .const (.int .i64 2)), (1, .const (.int .i64 (-2))), (2, .const (.int .i64 9223372036854775807)), (3, .const (.int .i64 (-9223372036854775808)))]) (es := [[_], [_], [_], [_]]) slt25 elt3 rfl rfl (by decide) (by decide) rfl rfl (by simp) rfl) fun v22x5 => ?_
      refine op_v0' (j_call0 (v := .p _) (hp1 := [(0, some (0, .box 118 [.sl _, .p _])), (22, some (v22x5, .row 3 1 _))]) [(0, 0), (22, v22x5)] false [0, 22] ent97 (f_num b (p + l.length + 1) [2, -2, 9223372036854775807, -9223372036854775808] hb (by omega) (by decide) (by decide)) ⟨.inl ⟨rfl, rfl⟩, .inl ⟨rfl, rfl⟩, trivial⟩ ⟨⟨rfl, rfl⟩, ⟨rfl, rfl⟩, trivial⟩ rfl rfl (fun h => by cases h) rfl (List.all_eq_true.1 rfl) (.inl rfl) rfl rfl) ?_
      refine op_v' (j_elem_ownN slt25 rfl rfl rfl rfl (by first | omega | (simp only [List.length_map, List.length_take, Int.toNat_natCast, List.length_map, List.length_append, List.length_cons, List.length_nil, List.length_set, List.length_take]; omega))) ?_
      refine op_s' (j_store_row leaf3 rfl rfl (by first | omega | (simp only [List.length_map, List.length_take, Int.toNat_natCast, List.length_map, List.length_append, List.length_cons, List.length_nil, List.length_set, List.length_take]; omega)) (evo rfl) rfl rfl) ?_
      refine op_nil ?_
      refine a_seq ?_
      refine a_region (by kernel_rfl) ?_
      refine op_v' (j_move (evo rfl)) ?_
      refine op_v' (j_assign (evo rfl)) ?_
      refine op_nil ?_
      refine a_ret ?_
      exact ⟨[.own 5 v], .own 1 0, [.box 118 [.sl _, .p _]], [.row 3 1 _], [(5, v)], ⟨rfl, trivial⟩, rfl, rfl, ⟨⟨rfl, rfl⟩, ⟨rfl, rfl⟩, trivial⟩, rfl, rfl, ⟨(l.set 0 (ofV b (p + l.length + 1) [2, -2, 9223372036854775807, -9223372036854775808]), p + l.length + 2), ⟨.inr (by first | omega | (simp only [List.length_map, List.length_take, Int.toNat_natCast, List.length_map, List.length_append, List.length_cons, List.length_nil, List.length_set, List.length_take]; omega)), by dsimp only; omega, by dsimp only; omega⟩, rfl, rfl, by rw [List.map_set]; rfl⟩⟩
    ·
      have h2r := h2
      try simp only [Bool.not_eq_true', Bool.not_eq_false', Bool.not_not, bne_iff_ne, bne_eq_false_iff_eq, beq_eq_false_iff_ne, beq_iff_eq, ne_eq, decide_eq_true_eq, decide_eq_false_iff_not, Classical.not_not, List.length_map, List.length_take, Int.toNat_natCast, List.length_map, List.length_append, List.length_cons, List.length_nil, List.length_set, List.length_take] at h2
      refine a_seq ?_
      refine a_region (by kernel_rfl) ?_
      refine op_v' (j_eq rfl rfl) ?_
      refine op_v' (j_assign (evo rfl)) ?_
      refine op_nil ?_
      refine a_cond rfl (fun h3 => ?_) (fun h3 => ?_)
      ·
        have h3r := h3
        try simp only [Bool.not_eq_true', Bool.not_eq_false', Bool.not_not, bne_iff_ne, bne_eq_false_iff_eq, beq_eq_false_iff_ne, beq_iff_eq, ne_eq, decide_eq_true_eq, decide_eq_false_iff_not, Classical.not_not, List.length_map, List.length_take, Int.toNat_natCast, List.length_map, List.length_append, List.length_cons, List.length_nil, List.length_set, List.length_take] at h3
        refine a_seq ?_
        refine a_region (by kernel_rfl) ?_
        refine op_v' (j_move (evo rfl)) ?_
        refine op_n1' (fun ver => j_cut_own (n := 11) (by decide) slt25 rfl rfl rfl rfl (by first | omega | (simp only [List.length_map, List.length_take, Int.toNat_natCast, List.length_map, List.length_append, List.length_cons, List.length_nil, List.length_set, List.length_take]; omega)) (by first | omega | (simp only [List.length_map, List.length_take, Int.toNat_natCast, List.length_map, List.length_append, List.length_cons, List.length_nil, List.length_set, List.length_take]; omega))) fun v28x6 => ?_
        refine op_v' (j_assign (evo rfl)) ?_
        refine op_nil ?_
        refine a_ret ?_
        exact ⟨[.own 28 v28x6], .own 1 0, [.box 118 [.sl _, .p _]], [.row 3 1 _], [(28, v28x6)], ⟨rfl, trivial⟩, rfl, rfl, ⟨⟨rfl, rfl⟩, ⟨rfl, rfl⟩, trivial⟩, rfl, rfl, ⟨(l.take 11, p + l.length + 1), ⟨.inl (by first | omega | (simp only [List.length_map, List.length_take, Int.toNat_natCast, List.length_map, List.length_append, List.length_cons, List.length_nil, List.length_set, List.length_take]; omega)), by dsimp only; omega, by dsimp only; omega⟩, rfl, rfl, by rw [List.map_take]⟩⟩
      ·
        have h3r := h3
        try simp only [Bool.not_eq_true', Bool.not_eq_false', Bool.not_not, bne_iff_ne, bne_eq_false_iff_eq, beq_eq_false_iff_ne, beq_iff_eq, ne_eq, decide_eq_true_eq, decide_eq_false_iff_not, Classical.not_not, List.length_map, List.length_take, Int.toNat_natCast, List.length_map, List.length_append, List.length_cons, List.length_nil, List.length_set, List.length_take] at h3
        refine a_skip ?_
        refine a_seq ?_
        refine a_region (by kernel_rfl) ?_
        refine op_v' (j_move (evo rfl)) ?_
        refine op_v' (j_assign (evo rfl)) ?_
        refine op_nil ?_
        refine a_ret ?_
        exact ⟨[.own 5 v], .own 1 0, [.box 118 [.sl _, .p _]], [.row 3 1 _], [(5, v)], ⟨rfl, trivial⟩, rfl, rfl, ⟨⟨rfl, rfl⟩, ⟨rfl, rfl⟩, trivial⟩, rfl, rfl, ⟨(l, p + l.length + 1), ⟨.inr (by dsimp only; omega), by dsimp only; omega, by dsimp only; omega⟩, rfl, rfl, rfl⟩⟩


theorem f_dProp (b : List Int) (hb : ∀ a ∈ b, 0 ≤ a ∧ a ≤ 255) : Fn Try.prog 83 [.sl (b.map dU)] [] (fun rr ii nn => ∃ x : List Con × List Int, (okP x.1 8 15 ∧ x.2.length ≤ 12) ∧ rr = .tup [.sl (x.1.map dC), .sl (x.2.map dI)] ∧ ii = [] ∧ nn = []) := by
  refine fn_of Try.func83 rfl (Nat.le_of_ble_eq_true rfl) fun w X g => ?_
  show AWp _ _ _ ⟨[(0, .sl (b.map dU))], []⟩
  refine a_seq ?_
  refine a_region (by kernel_rfl) ?_
  refine op_v' (j_assign (evo rfl)) ?_
  refine op_v' (j_assign (evo rfl)) ?_
  refine op_nil ?_
  refine a_seq ?_
  refine a_region (by kernel_rfl) ?_
  refine op_v' (j_move (evo rfl)) ?_
  refine op_n1' (fun ver => j_call1 (v := .ptr 9 ver 0) (hp1 := [(9, some (ver, .box 118 [.sl _, .p _]))]) [] false [] ent84 (f_open _) ⟨.inl ⟨rfl, rfl⟩, trivial⟩ trivial rfl rfl rfl (fun h => by cases h) rfl (List.all_eq_true.1 rfl) (.inl rfl) rfl rfl) fun v9x1 => ?_
  refine op_v' (j_assign (evo rfl)) ?_
  refine op_nil ?_
  refine a_seq ?_
  have hbt := okB_take (Nat.le_refl _) hb
  refine a_region (by kernel_rfl) ?_
  refine op_v' (j_move (evo rfl)) ?_
  refine op_v' (j_move (evo rfl)) ?_
  refine op_callE1 (v := fun x ver => .own 12 ver) (hp1 := fun x ver => [(9, some (v9x1, .box 118 [.sl _, .p _])), (12, some (ver, .row 59 2 _))]) [(9, v9x1)] false ent116 (f_l3Prob (b.take 2000) 0 hbt (by decide)) ⟨.inl ⟨rfl, rfl⟩, trivial⟩ ⟨⟨rfl, rfl⟩, trivial⟩ rfl rfl (fun _ => rfl) (fun _ => rfl) (.inl rfl) (fun _ _ => rfl) (fun _ _ => rfl) ?_
  rintro ⟨l12, p12⟩ ⟨ho12, hp12⟩ v12x2
  try dsimp only at ho12
  try dsimp only at hp12
  dsimp only [List.cons_append, List.nil_append]
  refine op_freezeK 12 trivial rfl rfl rfl ?_
  refine op_callE (v := fun x => .sl _) (hp1 := fun x => [(9, some (v9x1, .box 118 [.sl _, .p _]))]) [(9, v9x1)] false ent95 (f_l3Mut (b.take 2000) p12 l12 8 12 hbt (by omega) ho12 (by decide) (by decide)) ⟨.inl ⟨rfl, rfl⟩, .inl ⟨rfl, rfl⟩, trivial⟩ ⟨⟨rfl, rfl⟩, trivial⟩ rfl (fun _ => rfl) (fun _ => rfl) (.inl rfl) (fun _ => rfl) (fun _ => rfl) ?_
  rintro ⟨l13, p13⟩ ⟨ho13, hl13, hp13⟩
  try dsimp only at ho13
  try dsimp only at hl13
  try dsimp only at hp13
  dsimp only [List.cons_append, List.nil_append]
  refine op_v' (j_assign (evo rfl)) ?_
  refine op_nil ?_
  refine a_seq ?_
  refine a_region (by kernel_rfl) ?_
  refine op_v' (j_move (evo rfl)) ?_
  refine op_callE1 (v := fun x ver => .own 15 ver) (hp1 := fun x ver => [(9, some (v9x1, .box 118 [.sl _, .p _])), (15, some (ver, .row 3 1 _))]) [(9, v9x1)] false ent85 (f_l3Part (b.take 2000) p13 hbt (by omega)) ⟨.inl ⟨rfl, rfl⟩, trivial⟩ ⟨⟨rfl, rfl⟩, trivial⟩ rfl rfl (fun _ => rfl) (fun _ => rfl) (.inl rfl) (fun _ _ => rfl) (fun _ _ => rfl) ?_
  rintro ⟨pa15, p15⟩ ⟨hl15, hp15⟩ v15x3
  try dsimp only at hl15
  try dsimp only at hp15
  dsimp only [List.cons_append, List.nil_append]
  refine op_v' (j_assign (evo rfl)) ?_
  refine op_nil ?_
  refine a_seq ?_
  refine a_seq ?_
  refine a_region (by kernel_rfl) ?_
  refine op_v' (j_assign (evo rfl)) ?_
  refine op_nil ?_
  refine a_block ?_
  refine a_loopF' (ι := List Int × Nat × Nat) (fun x => x.1.length = pa15.length ∧ x.2.1 ≤ x.1.length ∧ x.2.2 ≤ 2000 + x.2.1) (fun x r => (7, .p (.int .i64 ((x.2.1 : Nat)))) :: r) (fun x r => (9, some (v9x1, .box 118 [.sl ((b.take 2000).map dU), .p (.int .i64 ((x.2.2 : Nat) : Int))])) :: (15, some (v15x3, .row 3 1 (x.1.map dI))) :: r) (fun x => x.1.length - x.2.1) (fun _ _ => rfl) (fun _ _ => rfl) (pa15, 0, p15) (by first | exact ⟨rfl, Nat.zero_le _, by omega⟩ | (dsimp only; exact ⟨rfl, Nat.zero_le _, by omega⟩)) ⟨⟨rfl, rfl⟩, ⟨rfl, trivial⟩, ⟨rfl, rfl, trivial⟩, ⟨rfl, rfl⟩, ⟨rfl, rfl⟩⟩ ?_
  rintro ⟨q, i, r⟩ hpre; dsimp only at hpre ⊢
  refine a_seq ?_
  refine a_seq ?_
  refine a_region (by kernel_rfl) ?_
  refine op_v' (j_move (evo rfl)) ?_
  refine op_v' (j_move (evo rfl)) ?_
  refine op_v' (j_len_own_map Try.underlying25 rfl rfl) ?_
  refine op_v' (j_lt rfl rfl) ?_
  refine op_v' (j_move (evo rfl)) ?_
  refine op_split' 20 rfl (fun h1 => ?_) (fun h1 => ?_)
  ·
    have h1r := h1
    try simp only [Bool.not_eq_true', Bool.not_eq_false', Bool.not_not, bne_iff_ne, bne_eq_false_iff_eq, beq_eq_false_iff_ne, beq_iff_eq, ne_eq, decide_eq_true_eq, decide_eq_false_iff_not, Classical.not_not, List.length_map, List.length_take, Int.toNat_natCast, List.length_map, List.length_append, List.length_cons, List.length_nil, List.length_set, List.length_take] at h1
    refine op_v' (j_want rfl rfl h1r (j_move (evo rfl))) ?_
    refine op_v0' (j_want rfl rfl h1r (j_call0 (v := .p _) (hp1 := [(9, some (v9x1, .box 118 [.sl _, .p _]))]) [(9, v9x1)] false [9] ent87 (f_pick _ _ _ (by assumption) (by omega)) ⟨.inl ⟨rfl, rfl⟩, .inl ⟨rfl, rfl⟩, trivial⟩ ⟨⟨rfl, rfl⟩, trivial⟩ rfl rfl (fun h => by cases h) rfl (List.all_eq_true.1 rfl) (.inl rfl) rfl rfl)) ?_
    refine op_v' (j_want rfl rfl h1r (j_gt rfl rfl)) ?_
    refine op_v' (j_pick_t rfl h1r (evo rfl)) ?_
    refine op_nil ?_
    refine a_cond rfl (fun h2 => ?_) (fun h2 => ?_)
    ·
      have h2r := h2
      try simp only [Bool.not_eq_true', Bool.not_eq_false', Bool.not_not, bne_iff_ne, bne_eq_false_iff_eq, beq_eq_false_iff_ne, beq_iff_eq, ne_eq, decide_eq_true_eq, decide_eq_false_iff_not, Classical.not_not, List.length_map, List.length_take, Int.toNat_natCast, List.length_map, List.length_append, List.length_cons, List.length_nil, List.length_set, List.length_take] at h2
      refine a_skip ?_
      refine a_seq ?_
      refine a_block ?_
      refine a_region (by kernel_rfl) ?_
      refine op_v' (j_move (evo rfl)) ?_
      refine op_v' (j_move (evo rfl)) ?_
      refine op_v' (j_elem_ownN slt25 rfl rfl rfl rfl (by first | omega | (simp only [List.length_map, List.length_take, Int.toNat_natCast, List.length_map, List.length_append, List.length_cons, List.length_nil, List.length_set, List.length_take]; omega))) ?_
      refine op_s' (j_store_row leaf3 rfl rfl (by first | omega | (simp only [List.length_map, List.length_take, Int.toNat_natCast, List.length_map, List.length_append, List.length_cons, List.length_nil, List.length_set, List.length_take]; omega)) (evo rfl) rfl rfl) ?_
      refine op_nil ?_
      refine a_region (by kernel_rfl) ?_
      refine op_v' (j_move (evo rfl)) ?_
      refine op_v' (j_add rfl rfl (by first | omega | (simp only [List.length_map, List.length_take, Int.toNat_natCast, List.length_map, List.length_append, List.length_cons, List.length_nil, List.length_set, List.length_take]; omega)) (by first | omega | (simp only [List.length_map, List.length_take, Int.toNat_natCast, List.length_map, List.length_append, List.length_cons, List.length_nil, List.length_set, List.length_take]; omega))) ?_
      refine op_v' (j_assign (evo rfl)) ?_
      refine op_nil ?_
      exact ⟨(q.set i 0, i + 1, r + 1), (by first | exact ⟨by first | omega | (simp only [List.length_map, List.length_take, Int.toNat_natCast, List.length_map, List.length_append, List.length_cons, List.length_nil, List.length_set, List.length_take]; omega), by first | omega | (simp only [List.length_map, List.length_take, Int.toNat_natCast, List.length_map, List.length_append, List.length_cons, List.length_nil, List.length_set, List.length_take]; omega), by omega⟩ | (dsimp only; exact ⟨by first | omega | (simp only [List.length_map, List.length_take, Int.toNat_natCast, List.length_map, List.length_append, List.length_cons, List.length_nil, List.length_set, List.length_take]; omega), by first | omega | (simp only [List.length_map, List.length_take, Int.toNat_natCast, List.length_map, List.length_append, List.length_cons, List.length_nil, List.length_set, List.length_take]; omega), by omega⟩)), ⟨⟨rfl, rfl⟩, ⟨rfl, trivial⟩, ⟨rfl, rowEq (by rw [List.map_set]; rfl), trivial⟩, ⟨rfl, rfl⟩, ⟨rfl, rfl⟩⟩, (by first | exact (by first | omega | (simp only [List.length_map, List.length_take, Int.toNat_natCast, List.length_map, List.length_append, List.length_cons, List.length_nil, List.length_set, List.length_take]; omega)) | (dsimp only; exact (by first | omega | (simp only [List.length_map, List.length_take, Int.toNat_natCast, List.length_map, List.length_append, List.length_cons, List.length_nil, List.length_set, List.length_take]; omega))))⟩
    ·
      have h2r := h2
      try simp only [Bool.not_eq_true', Bool.not_eq_false', Bool.not_not, bne_iff_ne, bne_eq_false_iff_eq, beq_eq_false_iff_ne, beq_iff_eq, ne_eq, decide_eq_true_eq, decide_eq_false_iff_not, Classical.not_not, List.length_map, List.length_take, Int.toNat_natCast, List.length_map, List.length_append, List.length_cons, List.length_nil, List.length_set, List.length_take] at h2
      refine a_exit ?_
      refine a_seq ?_
      refine a_region (by kernel_rfl) ?_
      refine op_v' (j_move (evo rfl)) ?_
      refine op_v' (j_move (evo rfl)) ?_
      refine op_v' (j_assign (evo rfl)) ?_
      refine op_v' (j_assign (evo rfl)) ?_
      refine op_nil ?_
      refine a_freeze' 3 (noA _ _ _ _ _) rfl rfl ?_
      refine a_ret ?_
      exact ⟨[.sl _, .sl _], .tup [.sl _, .sl _], [], [], [], ⟨rfl, rfl, trivial⟩, rfl, rfl, trivial, rfl, rfl, ⟨(l13, q), ⟨ho13, by dsimp only; omega⟩, rfl, rfl, rfl⟩⟩
  ·
    have h1r := h1
    try simp only [Bool.not_eq_true', Bool.not_eq_false', Bool.not_not, bne_iff_ne, bne_eq_false_iff_eq, beq_eq_false_iff_ne, beq_iff_eq, ne_eq, decide_eq_true_eq, decide_eq_false_iff_not, Classical.not_not, List.length_map, List.length_take, Int.toNat_natCast, List.length_map, List.length_append, List.length_cons, List.length_nil, List.length_set, List.length_take] at h1
    refine op_v' (j_unwantV rfl rfl h1r) ?_
    refine op_v' (j_unwantV rfl rfl h1r) ?_
    refine op_v' (j_unwantV rfl rfl h1r) ?_
    refine op_v' (j_pick_f rfl h1r (evo rfl)) ?_
    refine op_nil ?_
    refine a_ff rfl ?_
    refine a_exit ?_
    refine a_seq ?_
    refine a_region (by kernel_rfl) ?_
    refine op_v' (j_move (evo rfl)) ?_
    refine op_v' (j_move (evo rfl)) ?_
    refine op_v' (j_assign (evo rfl)) ?_
    refine op_v' (j_assign (evo rfl)) ?_
    refine op_nil ?_
    refine a_freeze' 3 (noA _ _ _ _ _) rfl rfl ?_
    refine a_ret ?_
    exact ⟨[.sl _, .sl _], .tup [.sl _, .sl _], [], [], [], ⟨rfl, rfl, trivial⟩, rfl, rfl, trivial, rfl, rfl, ⟨(l13, q), ⟨ho13, by dsimp only; omega⟩, rfl, rfl, rfl⟩⟩


theorem f_dFP (b : List Int) (hb : ∀ a ∈ b, 0 ≤ a ∧ a ≤ 255) : Fn Try.prog 34 [.sl (b.map dU)] [] (fun rr ii nn => ∃ x : List Con × List Int, (okP x.1 8 15 ∧ x.2.length ≤ 12) ∧ rr = .tup [.sl (x.1.map dC), .sl (x.2.map dI)] ∧ ii = [] ∧ nn = []) := by
  refine fn_of Try.func34 rfl (Nat.le_of_ble_eq_true rfl) fun w X g => ?_
  show AWp _ _ _ ⟨[(0, .sl (b.map dU))], []⟩
  refine a_seq ?_
  refine a_region (by kernel_rfl) ?_
  refine op_v' (j_assign (evo rfl)) ?_
  refine op_v' (j_assign (evo rfl)) ?_
  refine op_nil ?_
  refine a_seq ?_
  refine a_region (by kernel_rfl) ?_
  refine op_v' (j_move (evo rfl)) ?_
  refine op_callE (v := fun x => .tup [.sl _, .sl _]) (hp1 := fun x => []) [] false ent83 (f_dProp b hb) ⟨.inl ⟨rfl, rfl⟩, trivial⟩ trivial rfl (fun _ => rfl) (fun _ => rfl) (.inl rfl) (fun _ => rfl) (fun _ => rfl) ?_
  rintro ⟨l5, pa5⟩ ⟨ho5, hl5⟩
  try dsimp only at ho5
  try dsimp only at hl5
  dsimp only [List.cons_append, List.nil_append]
  refine op_v' (j_extract rfl rfl) ?_
  refine op_v' (j_extract rfl rfl) ?_
  refine op_v' (j_assign (evo rfl)) ?_
  refine op_v' (j_assign (evo rfl)) ?_
  refine op_nil ?_
  refine a_ret ?_
  exact ⟨[.sl _, .sl _], .tup [.sl _, .sl _], [], [], [], ⟨rfl, rfl, trivial⟩, rfl, rfl, trivial, rfl, rfl, ⟨(l5, pa5), ⟨ho5, hl5⟩, rfl, rfl, rfl⟩⟩


theorem f_dExt (b : List Int) (hb : ∀ a ∈ b, 0 ≤ a ∧ a ≤ 255) : Fn Try.prog 35 [.sl (b.map dU)] [] (fun rr ii nn => ∃ x : List Int × List Bool, (x.1.length ≤ 12 ∧ x.2.length ≤ 12) ∧ rr = .tup [.sl (x.1.map dI), .sl (x.2.map dB)] ∧ ii = [] ∧ nn = []) := by
  refine fn_of Try.func35 rfl (Nat.le_of_ble_eq_true rfl) fun w X g => ?_
  show AWp _ _ _ ⟨[(0, .sl (b.map dU))], []⟩
  refine a_seq ?_
  refine a_region (by kernel_rfl) ?_
  refine op_v' (j_assign (evo rfl)) ?_
  refine op_v' (j_assign (evo rfl)) ?_
  refine op_nil ?_
  refine a_seq ?_
  refine a_region (by kernel_rfl) ?_
  refine op_v' (j_move (evo rfl)) ?_
  refine op_n1' (fun ver => j_call1 (v := .ptr 9 ver 0) (hp1 := [(9, some (ver, .box 118 [.sl _, .p _]))]) [] false [] ent84 (f_open _) ⟨.inl ⟨rfl, rfl⟩, trivial⟩ trivial rfl rfl rfl (fun h => by cases h) rfl (List.all_eq_true.1 rfl) (.inl rfl) rfl rfl) fun v9x1 => ?_
  refine op_v' (j_assign (evo rfl)) ?_
  refine op_nil ?_
  refine a_seq ?_
  have hbt := okB_take (Nat.le_refl _) hb
  refine a_region (by kernel_rfl) ?_
  refine op_v' (j_move (evo rfl)) ?_
  refine op_callE1 (v := fun x ver => .own 11 ver) (hp1 := fun x ver => [(9, some (v9x1, .box 118 [.sl _, .p _])), (11, some (ver, .row 3 1 _))]) [(9, v9x1)] false ent85 (f_l3Part (b.take 2000) 0 hbt (by decide)) ⟨.inl ⟨rfl, rfl⟩, trivial⟩ ⟨⟨rfl, rfl⟩, trivial⟩ rfl rfl (fun _ => rfl) (fun _ => rfl) (.inl rfl) (fun _ _ => rfl) (fun _ _ => rfl) ?_
  rintro ⟨pa11, p11⟩ ⟨hl11, hp11⟩ v11x2
  try dsimp only at hl11
  try dsimp only at hp11
  dsimp only [List.cons_append, List.nil_append]
  refine op_v' (j_assign (evo rfl)) ?_
  refine op_nil ?_
  refine a_seq ?_
  refine a_region (by kernel_rfl) ?_
  refine op_v' (j_move (evo rfl)) ?_
  refine op_n1' (fun ver => j_call1 (v := .own 13 ver) (hp1 := [(9, some (v9x1, .box 118 [.sl _, .p _])), (13, some (ver, .row 4 1 _))]) [(9, v9x1)] false [9] ent86 (f_values (b.take 2000) p11 hbt (by omega)) ⟨.inl ⟨rfl, rfl⟩, trivial⟩ ⟨⟨rfl, rfl⟩, trivial⟩ rfl rfl rfl (fun h => by cases h) rfl (List.all_eq_true.1 rfl) (.inl rfl) rfl rfl) fun v13x3 => ?_
  refine op_v' (j_assign (evo rfl)) ?_
  refine op_nil ?_
  refine a_seq ?_
  refine a_seq ?_
  have hvl := valV_len (b := b.take 2000) (p := p11)
  refine a_region (by kernel_rfl) ?_
  refine op_v' (j_assign (evo rfl)) ?_
  refine op_nil ?_
  refine a_block ?_
  refine a_loopF' (ι := List Bool × Nat × Nat) (fun x => x.1.length = (valV (b.take 2000) p11).length ∧ x.2.1 ≤ 12 ∧ x.2.2 ≤ 2000 + x.2.1) (fun x r => (7, .p (.int .i64 ((x.2.1 : Nat)))) :: r) (fun x r => (9, some (v9x1, .box 118 [.sl ((b.take 2000).map dU), .p (.int .i64 ((x.2.2 : Nat) : Int))])) :: (13, some (v13x3, .row 4 1 (x.1.map dB))) :: r) (fun x => 12 - x.2.1) (fun _ _ => rfl) (fun _ _ => rfl) (valV (b.take 2000) p11, 0, p11 + 13) (by first | exact ⟨rfl, Nat.zero_le _, by omega⟩ | (dsimp only; exact ⟨rfl, Nat.zero_le _, by omega⟩)) ⟨⟨rfl, rfl⟩, ⟨rfl, trivial⟩, ⟨rfl, rfl, trivial⟩, ⟨rfl, rfl⟩, ⟨rfl, rfl⟩⟩ ?_
  rintro ⟨q, i, r⟩ hpre; dsimp only at hpre ⊢
  refine a_seq ?_
  refine a_seq ?_
  refine a_region (by kernel_rfl) ?_
  refine op_v' (j_move (evo rfl)) ?_
  refine op_v' (j_move (evo rfl)) ?_
  refine op_v' (j_len_own_map Try.underlying25 rfl rfl) ?_
  refine op_v' (j_lt rfl rfl) ?_
  refine op_v' (j_move (evo rfl)) ?_
  refine op_split' 18 rfl (fun h1 => ?_) (fun h1 => ?_)
  ·
    have h1r := h1
    try simp only [Bool.not_eq_true', Bool.not_eq_false', Bool.not_not, bne_iff_ne, bne_eq_false_iff_eq, beq_eq_false_iff_ne, beq_iff_eq, ne_eq, decide_eq_true_eq, decide_eq_false_iff_not, Classical.not_not, List.length_map, List.length_take, Int.toNat_natCast, List.length_map, List.length_append, List.length_cons, List.length_nil, List.length_set, List.length_take] at h1
    refine op_v' (j_want rfl rfl h1r (j_move (evo rfl))) ?_
    refine op_v' (j_want rfl rfl h1r (j_move (evo rfl))) ?_
    refine op_v' (j_want rfl rfl h1r (j_len_own_map Try.underlying46 rfl rfl)) ?_
    refine op_v' (j_want rfl rfl h1r (j_lt rfl rfl)) ?_
    refine op_v' (j_pick_t rfl h1r (evo rfl)) ?_
    refine op_v' (j_move (evo rfl)) ?_
    refine op_split' 24 rfl (fun h2 => ?_) (fun h2 => ?_)
    ·
      have h2r := h2
      try simp only [Bool.not_eq_true', Bool.not_eq_false', Bool.not_not, bne_iff_ne, bne_eq_false_iff_eq, beq_eq_false_iff_ne, beq_iff_eq, ne_eq, decide_eq_true_eq, decide_eq_false_iff_not, Classical.not_not, List.length_map, List.length_take, Int.toNat_natCast, List.length_map, List.length_append, List.length_cons, List.length_nil, List.length_set, List.length_take] at h2
      refine op_v' (j_want rfl rfl h2r (j_move (evo rfl))) ?_
      refine op_v0' (j_want rfl rfl h2r (j_call0 (v := .p _) (hp1 := [(9, some (v9x1, .box 118 [.sl _, .p _]))]) [(9, v9x1)] false [9] ent87 (f_pick _ _ _ (by assumption) (by omega)) ⟨.inl ⟨rfl, rfl⟩, .inl ⟨rfl, rfl⟩, trivial⟩ ⟨⟨rfl, rfl⟩, trivial⟩ rfl rfl (fun h => by cases h) rfl (List.all_eq_true.1 rfl) (.inl rfl) rfl rfl)) ?_
      refine op_v' (j_want rfl rfl h2r (j_gt rfl rfl)) ?_
      refine op_v' (j_pick_t rfl h2r (evo rfl)) ?_
      refine op_nil ?_
      refine a_cond rfl (fun h3 => ?_) (fun h3 => ?_)
      ·
        have h3r := h3
        try simp only [Bool.not_eq_true', Bool.not_eq_false', Bool.not_not, bne_iff_ne, bne_eq_false_iff_eq, beq_eq_false_iff_ne, beq_iff_eq, ne_eq, decide_eq_true_eq, decide_eq_false_iff_not, Classical.not_not, List.length_map, List.length_take, Int.toNat_natCast, List.length_map, List.length_append, List.length_cons, List.length_nil, List.length_set, List.length_take] at h3
        refine a_skip ?_
        refine a_seq ?_
        refine a_block ?_
        refine a_seq ?_
        refine a_region (by kernel_rfl) ?_
        refine op_v' (j_move (evo rfl)) ?_
        refine op_v' (j_move (evo rfl)) ?_
        refine op_v' (j_elem_ownN slt25 rfl rfl rfl rfl (by first | omega | (simp only [List.length_map, List.length_take, Int.toNat_natCast, List.length_map, List.length_append, List.length_cons, List.length_nil, List.length_set, List.length_take]; omega))) ?_
        refine op_v' (j_load_pel leaf3 rfl rfl (at_map (by first | omega | (simp only [List.length_map, List.length_take, Int.toNat_natCast, List.length_map, List.length_append, List.length_cons, List.length_nil, List.length_set, List.length_take]; omega))) rfl) ?_
        refine op_v' (j_ne rfl rfl) ?_
        refine op_nil ?_
        refine a_cond rfl (fun h4 => ?_) (fun h4 => ?_)
        ·
          have h4r := h4
          try simp only [Bool.not_eq_true', Bool.not_eq_false', Bool.not_not, bne_iff_ne, bne_eq_false_iff_eq, beq_eq_false_iff_ne, beq_iff_eq, ne_eq, decide_eq_true_eq, decide_eq_false_iff_not, Classical.not_not, List.length_map, List.length_take, Int.toNat_natCast, List.length_map, List.length_append, List.length_cons, List.length_nil, List.length_set, List.length_take] at h4
          refine a_region (by kernel_rfl) ?_
          refine op_v' (j_move (evo rfl)) ?_
          refine op_v' (j_move (evo rfl)) ?_
          refine op_v' (j_move (evo rfl)) ?_
          refine op_v' (j_move (evo rfl)) ?_
          refine op_v' (j_elem_ownN slt25 rfl rfl rfl rfl (by first | omega | (simp only [List.length_map, List.length_take, Int.toNat_natCast, List.length_map, List.length_append, List.length_cons, List.length_nil, List.length_set, List.length_take]; omega))) ?_
          refine op_v' (j_load_pel leaf3 rfl rfl (at_map (by first | omega | (simp only [List.length_map, List.length_take, Int.toNat_natCast, List.length_map, List.length_append, List.length_cons, List.length_nil, List.length_set, List.length_take]; omega))) rfl) ?_
          refine op_v' (j_gt rfl rfl) ?_
          refine op_v' (j_elem_ownN slt46 rfl rfl rfl rfl (by first | omega | (simp only [List.length_map, List.length_take, Int.toNat_natCast, List.length_map, List.length_append, List.length_cons, List.length_nil, List.length_set, List.length_take]; omega))) ?_
          refine op_s' (j_store_row leaf4 rfl rfl (by first | omega | (simp only [List.length_map, List.length_take, Int.toNat_natCast, List.length_map, List.length_append, List.length_cons, List.length_nil, List.length_set, List.length_take]; omega)) (evo rfl) rfl rfl) ?_
          refine op_nil ?_
          refine a_region (by kernel_rfl) ?_
          refine op_v' (j_move (evo rfl)) ?_
          refine op_v' (j_add rfl rfl (by first | omega | (simp only [List.length_map, List.length_take, Int.toNat_natCast, List.length_map, List.length_append, List.length_cons, List.length_nil, List.length_set, List.length_take]; omega)) (by first | omega | (simp only [List.length_map, List.length_take, Int.toNat_natCast, List.length_map, List.length_append, List.length_cons, List.length_nil, List.length_set, List.length_take]; omega))) ?_
          refine op_v' (j_assign (evo rfl)) ?_
          refine op_nil ?_
          exact ⟨(q.set i (decide (0 < pa11.getD i default)), i + 1, r + 1), (by first | exact ⟨by first | omega | (simp only [List.length_map, List.length_take, Int.toNat_natCast, List.length_map, List.length_append, List.length_cons, List.length_nil, List.length_set, List.length_take]; omega), by omega, by omega⟩ | (dsimp only; exact ⟨by first | omega | (simp only [List.length_map, List.length_take, Int.toNat_natCast, List.length_map, List.length_append, List.length_cons, List.length_nil, List.length_set, List.length_take]; omega), by omega, by omega⟩)), ⟨⟨rfl, rfl⟩, ⟨rfl, trivial⟩, ⟨rfl, rowEq (by rw [List.map_set]; rfl), trivial⟩, ⟨rfl, rfl⟩, ⟨rfl, rfl⟩⟩, (by first | exact (by first | omega | (simp only [List.length_map, List.length_take, Int.toNat_natCast, List.length_map, List.length_append, List.length_cons, List.length_nil, List.length_set, List.length_take]; omega)) | (dsimp only; exact (by first | omega | (simp only [List.length_map, List.length_take, Int.toNat_natCast, List.length_map, List.length_append, List.length_cons, List.length_nil, List.length_set, List.length_take]; omega))))⟩
        ·
          have h4r := h4
          try simp only [Bool.not_eq_true', Bool.not_eq_false', Bool.not_not, bne_iff_ne, bne_eq_false_iff_eq, beq_eq_false_iff_ne, beq_iff_eq, ne_eq, decide_eq_true_eq, decide_eq_false_iff_not, Classical.not_not, List.length_map, List.length_take, Int.toNat_natCast, List.length_map, List.length_append, List.length_cons, List.length_nil, List.length_set, List.length_take] at h4
          refine a_skip ?_
          refine a_region (by kernel_rfl) ?_
          refine op_v' (j_move (evo rfl)) ?_
          refine op_v' (j_add rfl rfl (by first | omega | (simp only [List.length_map, List.length_take, Int.toNat_natCast, List.length_map, List.length_append, List.length_cons, List.length_nil, List.length_set, List.length_take]; omega)) (by first | omega | (simp only [List.length_map, List.length_take, Int.toNat_natCast, List.length_map, List.length_append, List.length_cons, List.length_nil, List.length_set, List.length_take]; omega))) ?_
          refine op_v' (j_assign (evo rfl)) ?_
          refine op_nil ?_
          exact ⟨(q, i + 1, r + 1), (by first | exact ⟨hpre.1, by omega, by omega⟩ | (dsimp only; exact ⟨hpre.1, by omega, by omega⟩)), ⟨⟨rfl, rfl⟩, ⟨rfl, trivial⟩, ⟨rfl, rfl, trivial⟩, ⟨rfl, rfl⟩, ⟨rfl, rfl⟩⟩, (by first | exact (by first | omega | (simp only [List.length_map, List.length_take, Int.toNat_natCast, List.length_map, List.length_append, List.length_cons, List.length_nil, List.length_set, List.length_take]; omega)) | (dsimp only; exact (by first | omega | (simp only [List.length_map, List.length_take, Int.toNat_natCast, List.length_map, List.length_append, List.length_cons, List.length_nil, List.length_set, List.length_take]; omega))))⟩
      ·
        have h3r := h3
        try simp only [Bool.not_eq_true', Bool.not_eq_false', Bool.not_not, bne_iff_ne, bne_eq_false_iff_eq, beq_eq_false_iff_ne, beq_iff_eq, ne_eq, decide_eq_true_eq, decide_eq_false_iff_not, Classical.not_not, List.length_map, List.length_take, Int.toNat_natCast, List.length_map, List.length_append, List.length_cons, List.length_nil, List.length_set, List.length_take] at h3
        refine a_exit ?_
        refine a_seq ?_
        refine a_region (by kernel_rfl) ?_
        refine op_v' (j_move (evo rfl)) ?_
        refine op_v' (j_move (evo rfl)) ?_
        refine op_v' (j_assign (evo rfl)) ?_
        refine op_v' (j_assign (evo rfl)) ?_
        refine op_nil ?_
        refine a_freeze' 2 (noA _ _ _ _ _) rfl rfl ?_
        refine a_freeze' 3 (noA _ _ _ _ _) rfl rfl ?_
        refine a_ret ?_
        exact ⟨[.sl _, .sl _], .tup [.sl _, .sl _], [], [], [], ⟨rfl, rfl, trivial⟩, rfl, rfl, trivial, rfl, rfl, ⟨(pa11, q), ⟨by dsimp only; omega, by dsimp only; omega⟩, rfl, rfl, rfl⟩⟩
    ·
      have h2r := h2
      try simp only [Bool.not_eq_true', Bool.not_eq_false', Bool.not_not, bne_iff_ne, bne_eq_false_iff_eq, beq_eq_false_iff_ne, beq_iff_eq, ne_eq, decide_eq_true_eq, decide_eq_false_iff_not, Classical.not_not, List.length_map, List.length_take, Int.toNat_natCast, List.length_map, List.length_append, List.length_cons, List.length_nil, List.length_set, List.length_take] at h2
      refine op_v' (j_unwantV rfl rfl h2r) ?_
      refine op_v' (j_unwantV rfl rfl h2r) ?_
      refine op_v' (j_unwantV rfl rfl h2r) ?_
      refine op_v' (j_pick_f rfl h2r (evo rfl)) ?_
      refine op_nil ?_
      refine a_ff rfl ?_
      refine a_exit ?_
      refine a_seq ?_
      refine a_region (by kernel_rfl) ?_
      refine op_v' (j_move (evo rfl)) ?_
      refine op_v' (j_move (evo rfl)) ?_
      refine op_v' (j_assign (evo rfl)) ?_
      refine op_v' (j_assign (evo rfl)) ?_
      refine op_nil ?_
      refine a_freeze' 2 (noA _ _ _ _ _) rfl rfl ?_
      refine a_freeze' 3 (noA _ _ _ _ _) rfl rfl ?_
      refine a_ret ?_
      exact ⟨[.sl _, .sl _], .tup [.sl _, .sl _], [], [], [], ⟨rfl, rfl, trivial⟩, rfl, rfl, trivial, rfl, rfl, ⟨(pa11, q), ⟨by dsimp only; omega, by dsimp only; omega⟩, rfl, rfl, rfl⟩⟩
  ·
    have h1r := h1
    try simp only [Bool.not_eq_true', Bool.not_eq_false', Bool.not_not, bne_iff_ne, bne_eq_false_iff_eq, beq_eq_false_iff_ne, beq_iff_eq, ne_eq, decide_eq_true_eq, decide_eq_false_iff_not, Classical.not_not, List.length_map, List.length_take, Int.toNat_natCast, List.length_map, List.length_append, List.length_cons, List.length_nil, List.length_set, List.length_take] at h1
    refine op_v' (j_unwantV rfl rfl h1r) ?_
    refine op_v' (j_unwantV rfl rfl h1r) ?_
    refine op_v' (j_unwantV rfl rfl h1r) ?_
    refine op_v' (j_unwantV rfl rfl h1r) ?_
    refine op_v' (j_pick_f rfl h1r (evo rfl)) ?_
    refine op_v' (j_move (evo rfl)) ?_
    refine op_v' (j_unwantV rfl rfl rfl) ?_
    refine op_v' (j_unwantV rfl rfl rfl) ?_
    refine op_v' (j_unwantV rfl rfl rfl) ?_
    refine op_v' (j_pick_f rfl rfl (evo rfl)) ?_
    refine op_nil ?_
    refine a_ff rfl ?_
    refine a_exit ?_
    refine a_seq ?_
    refine a_region (by kernel_rfl) ?_
    refine op_v' (j_move (evo rfl)) ?_
    refine op_v' (j_move (evo rfl)) ?_
    refine op_v' (j_assign (evo rfl)) ?_
    refine op_v' (j_assign (evo rfl)) ?_
    refine op_nil ?_
    refine a_freeze' 2 (noA _ _ _ _ _) rfl rfl ?_
    refine a_freeze' 3 (noA _ _ _ _ _) rfl rfl ?_
    refine a_ret ?_
    exact ⟨[.sl _, .sl _], .tup [.sl _, .sl _], [], [], [], ⟨rfl, rfl, trivial⟩, rfl, rfl, trivial, rfl, rfl, ⟨(pa11, q), ⟨by dsimp only; omega, by dsimp only; omega⟩, rfl, rfl, rfl⟩⟩


theorem f_pav1 (n : Int) : Fn Try.prog 126 [.p (.int .i64 (n))] [] (fun rr ii nn => rr = .p (.bool (!decide (-1 ≤ n ∧ n ≤ 1))) ∧ ii = [] ∧ nn = []) := by
  refine fn_of Try.func126 rfl (Nat.le_of_ble_eq_true rfl) fun w X g => ?_
  show AWp _ _ _ ⟨[(0, .p (.int .i64 (n)))], []⟩
  refine a_seq ?_
  refine a_region (by kernel_rfl) ?_
  refine op_v' (j_assign (evo rfl)) ?_
  refine op_nil ?_
  refine a_seq ?_
  refine a_region (by kernel_rfl) ?_
  refine op_v' (j_move (evo rfl)) ?_
  refine op_v0' (j_call0 (v := .p _) (hp1 := []) [] false [] ent107 (f_within _ _ _) ⟨.inl ⟨rfl, rfl⟩, .inl ⟨rfl, rfl⟩, .inl ⟨rfl, rfl⟩, trivial⟩ trivial rfl rfl (fun h => by cases h) rfl (fun _ h => by cases h) (.inl rfl) rfl rfl) ?_
  refine op_v' (j_not rfl) ?_
  refine op_v' (j_assign (evo rfl)) ?_
  refine op_nil ?_
  refine a_ret ?_
  exact ⟨[.p _], .p _, [], [], [], ⟨rfl, trivial⟩, rfl, rfl, trivial, rfl, rfl, ⟨rfl, rfl, rfl⟩⟩


theorem f_paImpl (p : List Int) : Fn Try.prog 79 [.sl (p.map dI)] [] (fun rr ii nn => rr = .p (.bool (paOk p)) ∧ ii = [] ∧ nn = []) := by
  refine fn_of Try.func79 rfl (Nat.le_of_ble_eq_true rfl) fun w X g => ?_
  show AWp _ _ _ ⟨[(0, .sl (p.map dI))], []⟩
  refine a_seq ?_
  refine a_region (by kernel_rfl) ?_
  refine op_v' (j_assign (evo rfl)) ?_
  refine op_nil ?_
  refine a_seq ?_
  refine a_region (by kernel_rfl) ?_
  refine op_v' (j_move (evo rfl)) ?_
  refine op_v' (j_len_map Try.underlying25 rfl) ?_
  refine op_v' (j_eq rfl rfl) ?_
  refine op_v' (j_move (evo rfl)) ?_
  refine op_split' 6 rfl (fun h1 => ?_) (fun h1 => ?_)
  ·
    have h1r := h1
    try simp only [Bool.not_eq_true', Bool.not_eq_false', Bool.not_not, bne_iff_ne, bne_eq_false_iff_eq, beq_eq_false_iff_ne, beq_iff_eq, ne_eq, decide_eq_true_eq, decide_eq_false_iff_not, Classical.not_not, List.length_map, List.length_take, Int.toNat_natCast, List.length_map] at h1
    refine op_v' (j_want rfl rfl h1r (j_move (evo rfl))) ?_
    refine op_v0' (j_want rfl rfl h1r (j_call0 (v := .p _) (hp1 := []) [] false [] ent125 (f_ctf_Int_0 126 p (fun a => !decide (-1 ≤ a ∧ a ≤ 1)) ent126 (fun a _ => f_pav1 a)) ⟨.inl ⟨rfl, rfl⟩, .inl ⟨rfl, rfl⟩, trivial⟩ trivial rfl rfl (fun h => by cases h) rfl (fun _ h => by cases h) (.inl rfl) rfl rfl)) ?_
    refine op_v' (j_want rfl rfl h1r (j_not rfl)) ?_
    refine op_v' (j_pick_t rfl h1r (evo rfl)) ?_
    refine op_v' (j_assign (evo rfl)) ?_
    refine op_nil ?_
    refine a_ret ?_
    exact ⟨[.p _], .p _, [], [], [], ⟨rfl, trivial⟩, rfl, rfl, trivial, rfl, rfl, ⟨boolEq (by unfold paOk; first | (rw [decide_eq_true (show p.length = 12 by omega), Bool.true_and]; exact not_any_not) | (rw [decide_eq_false (show ¬ p.length = 12 by omega), Bool.false_and])), rfl, rfl⟩⟩
  ·
    have h1r := h1
    try simp only [Bool.not_eq_true', Bool.not_eq_false', Bool.not_not, bne_iff_ne, bne_eq_false_iff_eq, beq_eq_false_iff_ne, beq_iff_eq, ne_eq, decide_eq_true_eq, decide_eq_false_iff_not, Classical.not_not, List.length_map, List.length_take, Int.toNat_natCast, List.length_map] at h1
    refine op_v' (j_unwantV rfl rfl h1r) ?_
    refine op_v' (j_unwantV rfl rfl h1r) ?_
    refine op_v' (j_unwantV rfl rfl h1r) ?_
    refine op_v' (j_pick_f rfl h1r (evo rfl)) ?_
    refine op_v' (j_assign (evo rfl)) ?_
    refine op_nil ?_
    refine a_ret ?_
    exact ⟨[.p _], .p _, [], [], [], ⟨rfl, trivial⟩, rfl, rfl, trivial, rfl, rfl, ⟨boolEq (by unfold paOk; first | (rw [decide_eq_true (show p.length = 12 by omega), Bool.true_and]; exact not_any_not) | (rw [decide_eq_false (show ¬ p.length = 12 by omega), Bool.false_and])), rfl, rfl⟩⟩


theorem f_fpImpl (l : List Con) (p : List Int) : Fn Try.prog 29 [.sl (l.map dC), .sl (p.map dI)] [] (fun rr ii nn => rr = .tup [.sl ((fpL l p).map dC), .p (.bool (fpOk l p))] ∧ ii = [] ∧ nn = []) := by
  refine fn_of Try.func29 rfl (Nat.le_of_ble_eq_true rfl) fun w X g => ?_
  show AWp _ _ _ ⟨[(0, .sl (l.map dC)), (1, .sl (p.map dI))], []⟩
  refine a_seq ?_
  refine a_region (by kernel_rfl) ?_
  refine op_v' (j_assign (evo rfl)) ?_
  refine op_v' (j_assign (evo rfl)) ?_
  refine op_nil ?_
  refine a_seq ?_
  refine a_seq ?_
  refine a_region (by kernel_rfl) ?_
  refine op_v' (j_move (evo rfl)) ?_
  refine op_v0' (j_call0 (v := .p _) (hp1 := []) [] false [] ent37 (f_pvImpl _) ⟨.inl ⟨rfl, rfl⟩, trivial⟩ trivial rfl rfl (fun h => by cases h) rfl (fun _ h => by cases h) (.inl rfl) rfl rfl) ?_
  refine op_v' (j_not rfl) ?_
  refine op_v' (j_move (evo rfl)) ?_
  refine op_split' 9 rfl (fun h1 => ?_) (fun h1 => ?_)
  ·
    have h1r := h1
    try simp only [Bool.not_eq_true', Bool.not_eq_false', Bool.not_not, bne_iff_ne, bne_eq_false_iff_eq, beq_eq_false_iff_ne, beq_iff_eq, ne_eq, decide_eq_true_eq, decide_eq_false_iff_not, Classical.not_not, List.length_map, List.length_take, Int.toNat_natCast] at h1
    refine op_v' (j_unwantV rfl rfl h1r) ?_
    refine op_v' (j_unwantV rfl rfl h1r) ?_
    refine op_v' (j_unwantV rfl rfl h1r) ?_
    refine op_v' (j_pick_t rfl h1r (evo rfl)) ?_
    refine op_nil ?_
    refine a_tt rfl ?_
    refine a_seq ?_
    refine a_region (by kernel_rfl) ?_
    refine op_v' (j_assign (evo rfl)) ?_
    refine op_v' (j_assign (evo rfl)) ?_
    refine op_nil ?_
    refine a_nil 4 rfl ?_
    refine a_ret ?_
    exact ⟨[.sl _, .p _], .tup [.sl _, .p _], [], [], [], ⟨rfl, rfl, trivial⟩, rfl, rfl, trivial, rfl, rfl, ⟨by have hq : fpOk l p = false := by {unfold fpOk; first | (rw [h1]; rfl) | (rw [show paOk p = false by assumption, Bool.and_false])}; rw [fpL_bad hq, hq]; rfl, rfl, rfl⟩⟩
  ·
    have h1r := h1
    try simp only [Bool.not_eq_true', Bool.not_eq_false', Bool.not_not, bne_iff_ne, bne_eq_false_iff_eq, beq_eq_false_iff_ne, beq_iff_eq, ne_eq, decide_eq_true_eq, decide_eq_false_iff_not, Classical.not_not, List.length_map, List.length_take, Int.toNat_natCast] at h1
    refine op_v' (j_want rfl rfl h1r (j_move (evo rfl))) ?_
    refine op_v0' (j_want rfl rfl h1r (j_call0 (v := .p _) (hp1 := []) [] false [] ent79 (f_paImpl _) ⟨.inl ⟨rfl, rfl⟩, trivial⟩ trivial rfl rfl (fun h => by cases h) rfl (fun _ h => by cases h) (.inl rfl) rfl rfl)) ?_
    refine op_v' (j_want rfl rfl h1r (j_not rfl)) ?_
    refine op_v' (j_pick_f rfl h1r (evo rfl)) ?_
    refine op_nil ?_
    refine a_cond rfl (fun h2 => ?_) (fun h2 => ?_)
    ·
      have h2r := h2
      try simp only [Bool.not_eq_true', Bool.not_eq_false', Bool.not_not, bne_iff_ne, bne_eq_false_iff_eq, beq_eq_false_iff_ne, beq_iff_eq, ne_eq, decide_eq_true_eq, decide_eq_false_iff_not, Classical.not_not, List.length_map, List.length_take, Int.toNat_natCast] at h2
      refine a_seq ?_
      refine a_region (by kernel_rfl) ?_
      refine op_v' (j_assign (evo rfl)) ?_
      refine op_v' (j_assign (evo rfl)) ?_
      refine op_nil ?_
      refine a_nil 4 rfl ?_
      refine a_ret ?_
      exact ⟨[.sl _, .p _], .tup [.sl _, .p _], [], [], [], ⟨rfl, rfl, trivial⟩, rfl, rfl, trivial, rfl, rfl, ⟨by have hq : fpOk l p = false := by {unfold fpOk; first | (rw [h1]; rfl) | (rw [show paOk p = false by assumption, Bool.and_false])}; rw [fpL_bad hq, hq]; rfl, rfl, rfl⟩⟩
    ·
      have h2r := h2
      try simp only [Bool.not_eq_true', Bool.not_eq_false', Bool.not_not, bne_iff_ne, bne_eq_false_iff_eq, beq_eq_false_iff_ne, beq_iff_eq, ne_eq, decide_eq_true_eq, decide_eq_false_iff_not, Classical.not_not, List.length_map, List.length_take, Int.toNat_natCast] at h2
      refine a_skip ?_
      refine a_seq ?_
      have hln := pOk_len h1
      have hall := pOk_all h1
      refine a_region (by kernel_rfl) ?_
      refine op_v' (j_move (evo rfl)) ?_
      refine op_v' (j_move (evo rfl)) ?_
      refine op_v0' (j_call0 (v := .sl _) (hp1 := []) [] false [] ent66 (f_fixed l p hall (by omega) (by assumption)) ⟨.inl ⟨rfl, rfl⟩, .inl ⟨rfl, rfl⟩, trivial⟩ trivial rfl rfl (fun h => by cases h) rfl (fun _ h => by cases h) (.inl rfl) rfl rfl) ?_
      refine op_v' (j_assign (evo rfl)) ?_
      refine op_v' (j_assign (evo rfl)) ?_
      refine op_nil ?_
      refine a_ret ?_
      exact ⟨[.sl _, .p _], .tup [.sl _, .p _], [], [], [], ⟨rfl, rfl, trivial⟩, rfl, rfl, trivial, rfl, rfl, ⟨by have hq : fpOk l p = true := by {unfold fpOk; rw [h1, show paOk p = true by assumption]; rfl}; rw [fpL_ok hq, hq], rfl, rfl⟩⟩


theorem f_lawFP (b1 b2 : List Int) (hb1 : ∀ a ∈ b1, 0 ≤ a ∧ a ≤ 255) (hb2 : ∀ a ∈ b2, 0 ≤ a ∧ a ≤ 255) : Fn Try.prog 7 [.sl (b1.map dU), .sl (b2.map dU)] [] (fun rr ii nn => rr = .p (.bool true) ∧ ii = [] ∧ nn = []) := by
  refine fn_of Try.func7 rfl (Nat.le_of_ble_eq_true rfl) fun w X g => ?_
  show AWp _ _ _ ⟨[(0, .sl (b1.map dU)), (1, .sl (b2.map dU))], []⟩
  refine a_seq ?_
  refine a_region (by kernel_rfl) ?_
  refine op_v' (j_assign (evo rfl)) ?_
  refine op_nil ?_
  refine a_seq ?_
  refine a_seq ?_
  refine a_region (by kernel_rfl) ?_
  refine op_v' (j_move (evo rfl)) ?_
  refine op_v' (j_len_map Try.underlying22 rfl) ?_
  refine op_v' (j_gt rfl rfl) ?_
  refine op_v' (j_move (evo rfl)) ?_
  refine op_split' 18 rfl (fun h1 => ?_) (fun h1 => ?_)
  ·
    have h1r := h1
    try simp only [Bool.not_eq_true', Bool.not_eq_false', Bool.not_not, bne_iff_ne, bne_eq_false_iff_eq, beq_eq_false_iff_ne, beq_iff_eq, ne_eq, decide_eq_true_eq, decide_eq_false_iff_not, Classical.not_not, List.length_map, List.length_take, Int.toNat_natCast, List.length_map, List.length_append, List.length_cons, List.length_nil, List.length_set, List.length_take, ovN_len] at h1
    refine op_v' (j_unwantV rfl rfl h1r) ?_
    refine op_v' (j_unwantV rfl rfl h1r) ?_
    refine op_v' (j_unwantV rfl rfl h1r) ?_
    refine op_v' (j_pick_t rfl h1r (evo rfl)) ?_
    refine op_nil ?_
    refine a_tt rfl ?_
    refine a_seq ?_
    refine a_region (by kernel_rfl) ?_
    refine op_v' (j_assign (evo rfl)) ?_
    refine op_nil ?_
    refine a_ret ?_
    exact ⟨[.p _], .p _, [], [], [], ⟨rfl, trivial⟩, rfl, rfl, trivial, rfl, rfl, ⟨rfl, rfl, rfl⟩⟩
  ·
    have h1r := h1
    try simp only [Bool.not_eq_true', Bool.not_eq_false', Bool.not_not, bne_iff_ne, bne_eq_false_iff_eq, beq_eq_false_iff_ne, beq_iff_eq, ne_eq, decide_eq_true_eq, decide_eq_false_iff_not, Classical.not_not, List.length_map, List.length_take, Int.toNat_natCast, List.length_map, List.length_append, List.length_cons, List.length_nil, List.length_set, List.length_take, ovN_len] at h1
    refine op_v' (j_want rfl rfl h1r (j_move (evo rfl))) ?_
    refine op_v' (j_want rfl rfl h1r (j_len_map Try.underlying22 rfl)) ?_
    refine op_v' (j_want rfl rfl h1r (j_gt rfl rfl)) ?_
    refine op_v' (j_pick_f rfl h1r (evo rfl)) ?_
    refine op_nil ?_
    refine a_cond rfl (fun h2 => ?_) (fun h2 => ?_)
    ·
      have h2r := h2
      try simp only [Bool.not_eq_true', Bool.not_eq_false', Bool.not_not, bne_iff_ne, bne_eq_false_iff_eq, beq_eq_false_iff_ne, beq_iff_eq, ne_eq, decide_eq_true_eq, decide_eq_false_iff_not, Classical.not_not, List.length_map, List.length_take, Int.toNat_natCast, List.length_map, List.length_append, List.length_cons, List.length_nil, List.length_set, List.length_take, ovN_len] at h2
      refine a_seq ?_
      refine a_region (by kernel_rfl) ?_
      refine op_v' (j_assign (evo rfl)) ?_
      refine op_nil ?_
      refine a_ret ?_
      exact ⟨[.p _], .p _, [], [], [], ⟨rfl, trivial⟩, rfl, rfl, trivial, rfl, rfl, ⟨rfl, rfl, rfl⟩⟩
    ·
      have h2r := h2
      try simp only [Bool.not_eq_true', Bool.not_eq_false', Bool.not_not, bne_iff_ne, bne_eq_false_iff_eq, beq_eq_false_iff_ne, beq_iff_eq, ne_eq, decide_eq_true_eq, decide_eq_false_iff_not, Classical.not_not, List.length_map, List.length_take, Int.toNat_natCast, List.length_map, List.length_append, List.length_cons, List.length_nil, List.length_set, List.length_take, ovN_len] at h2
      refine a_skip ?_
      refine a_seq ?_
      refine a_region (by kernel_rfl) ?_
      refine op_v' (j_move (evo rfl)) ?_
      refine op_callE (v := fun x => .tup [.sl _, .sl _]) (hp1 := fun x => []) [] false ent34 (f_dFP b1 hb1) ⟨.inl ⟨rfl, rfl⟩, trivial⟩ trivial rfl (fun _ => rfl) (fun _ => rfl) (.inl rfl) (fun _ => rfl) (fun _ => rfl) ?_
      rintro ⟨l25, pa25⟩ ⟨ho25, hl25⟩
      try dsimp only at ho25
      try dsimp only at hl25
      dsimp only [List.cons_append, List.nil_append]
      refine op_v' (j_move (evo rfl)) ?_
      refine op_v' (j_extract rfl rfl) ?_
      refine op_v' (j_extract rfl rfl) ?_
      refine op_v' (j_assign (evo rfl)) ?_
      refine op_v' (j_assign (evo rfl)) ?_
      refine op_nil ?_
      refine a_seq ?_
      refine a_region (by kernel_rfl) ?_
      refine op_v' (j_move (evo rfl)) ?_
      refine op_callE (v := fun x => .tup [.sl _, .sl _]) (hp1 := fun x => []) [] false ent35 (f_dExt b2 hb2) ⟨.inl ⟨rfl, rfl⟩, trivial⟩ trivial rfl (fun _ => rfl) (fun _ => rfl) (.inl rfl) (fun _ => rfl) (fun _ => rfl) ?_
      rintro ⟨pa30, bs30⟩ ⟨hl30, hm30⟩
      try dsimp only at hl30
      try dsimp only at hm30
      dsimp only [List.cons_append, List.nil_append]
      refine op_v' (j_move (evo rfl)) ?_
      refine op_v' (j_extract rfl rfl) ?_
      refine op_v' (j_extract rfl rfl) ?_
      refine op_v' (j_assign (evo rfl)) ?_
      refine op_v' (j_assign (evo rfl)) ?_
      refine op_nil ?_
      refine a_seq ?_
      refine a_region (by kernel_rfl) ?_
      refine op_v' (j_move (evo rfl)) ?_
      refine op_v' (j_move (evo rfl)) ?_
      refine op_v0' (j_call0 (v := .tup [.sl _, .p _]) (hp1 := []) [] false [] ent29 (f_fpImpl l25 pa25) ⟨.inl ⟨rfl, rfl⟩, .inl ⟨rfl, rfl⟩, trivial⟩ trivial rfl rfl (fun h => by cases h) rfl (fun _ h => by cases h) (.inl rfl) rfl rfl) ?_
      refine op_v' (j_move (evo rfl)) ?_
      refine op_v' (j_extract rfl rfl) ?_
      refine op_v' (j_extract rfl rfl) ?_
      refine op_v' (j_assign (evo rfl)) ?_
      refine op_v' (j_assign (evo rfl)) ?_
      refine op_nil ?_
      refine a_seq ?_
      refine a_region (by kernel_rfl) ?_
      refine op_v' (j_move (evo rfl)) ?_
      refine op_v' (j_move (evo rfl)) ?_
      refine op_v0' (j_call0 (v := .tup [.sl _, .p _]) (hp1 := []) [] false [] ent27 (f_fpSpec l25 pa25) ⟨.inl ⟨rfl, rfl⟩, .inl ⟨rfl, rfl⟩, trivial⟩ trivial rfl rfl (fun h => by cases h) rfl (fun _ h => by cases h) (.inl rfl) rfl rfl) ?_
      refine op_v' (j_move (evo rfl)) ?_
      refine op_v' (j_extract rfl rfl) ?_
      refine op_v' (j_extract rfl rfl) ?_
      refine op_v' (j_assign (evo rfl)) ?_
      refine op_v' (j_assign (evo rfl)) ?_
      refine op_nil ?_
      refine a_seq ?_
      refine a_seq ?_
      refine a_region (by kernel_rfl) ?_
      refine op_v' (j_move (evo rfl)) ?_
      refine op_v' (j_move (evo rfl)) ?_
      refine op_v' (j_neb Try.underlying4 rfl rfl) ?_
      refine op_v' (j_move (evo rfl)) ?_
      refine op_split' 48 rfl (fun h3 => ?_) (fun h3 => ?_)
      ·
        have h3r := h3
        try simp only [Bool.not_eq_true', Bool.not_eq_false', Bool.not_not, bne_iff_ne, bne_eq_false_iff_eq, beq_eq_false_iff_ne, beq_iff_eq, ne_eq, decide_eq_true_eq, decide_eq_false_iff_not, Classical.not_not, List.length_map, List.length_take, Int.toNat_natCast, List.length_map, List.length_append, List.length_cons, List.length_nil, List.length_set, List.length_take, ovN_len] at h3
        exact absurd h3r (by simp)
      ·
        have h3r := h3
        try simp only [Bool.not_eq_true', Bool.not_eq_false', Bool.not_not, bne_iff_ne, bne_eq_false_iff_eq, beq_eq_false_iff_ne, beq_iff_eq, ne_eq, decide_eq_true_eq, decide_eq_false_iff_not, Classical.not_not, List.length_map, List.length_take, Int.toNat_natCast, List.length_map, List.length_append, List.length_cons, List.length_nil, List.length_set, List.length_take, ovN_len] at h3
        refine op_v' (j_want rfl rfl h3r (j_move (evo rfl))) ?_
        refine op_v' (j_want rfl rfl h3r (j_move (evo rfl))) ?_
        refine op_v0' (j_want rfl rfl h3r (j_call0 (v := .p _) (hp1 := []) [] false [] ent36 (f_cpProb (fpL l25 pa25) (fpL l25 pa25)) ⟨.inl ⟨rfl, rfl⟩, .inl ⟨rfl, rfl⟩, trivial⟩ trivial rfl rfl (fun h => by cases h) rfl (fun _ h => by cases h) (.inl rfl) rfl rfl)) ?_
        refine op_v' (j_want rfl rfl h3r (j_not rfl)) ?_
        refine op_v' (j_pick_f rfl h3r (evo rfl)) ?_
        refine op_v' (j_move (evo rfl)) ?_
        refine op_split' 54 rfl (fun h4 => ?_) (fun h4 => ?_)
        ·
          have h4r := h4
          try simp only [Bool.not_eq_true', Bool.not_eq_false', Bool.not_not, bne_iff_ne, bne_eq_false_iff_eq, beq_eq_false_iff_ne, beq_iff_eq, ne_eq, decide_eq_true_eq, decide_eq_false_iff_not, Classical.not_not, List.length_map, List.length_take, Int.toNat_natCast, List.length_map, List.length_append, List.length_cons, List.length_nil, List.length_set, List.length_take, ovN_len] at h4
          exact absurd h4r (by simp)
        ·
          have h4r := h4
          try simp only [Bool.not_eq_true', Bool.not_eq_false', Bool.not_not, bne_iff_ne, bne_eq_false_iff_eq, beq_eq_false_iff_ne, beq_iff_eq, ne_eq, decide_eq_true_eq, decide_eq_false_iff_not, Classical.not_not, List.length_map, List.length_take, Int.toNat_natCast, List.length_map, List.length_append, List.length_cons, List.length_nil, List.length_set, List.length_take, ovN_len] at h4
          refine op_v' (j_want rfl rfl h4r (j_move (evo rfl))) ?_
          refine op_v' (j_want rfl rfl h4r (j_not rfl)) ?_
          refine op_v' (j_pick_f rfl h4r (evo rfl)) ?_
          refine op_v' (j_move (evo rfl)) ?_
          refine op_split' 58 rfl (fun h5 => ?_) (fun h5 => ?_)
          ·
            have h5r := h5
            try simp only [Bool.not_eq_true', Bool.not_eq_false', Bool.not_not, bne_iff_ne, bne_eq_false_iff_eq, beq_eq_false_iff_ne, beq_iff_eq, ne_eq, decide_eq_true_eq, decide_eq_false_iff_not, Classical.not_not, List.length_map, List.length_take, Int.toNat_natCast, List.length_map, List.length_append, List.length_cons, List.length_nil, List.length_set, List.length_take, ovN_len] at h5
            refine op_v' (j_unwantV rfl rfl h5r) ?_
            refine op_v' (j_unwantV rfl rfl h5r) ?_
            refine op_v' (j_unwantV rfl rfl h5r) ?_
            refine op_v' (j_pick_t rfl h5r (evo rfl)) ?_
            refine op_nil ?_
            refine a_tt rfl ?_
            refine a_seq ?_
            refine a_region (by kernel_rfl) ?_
            refine op_v' (j_move (evo rfl)) ?_
            refine op_v' (j_move (evo rfl)) ?_
            refine op_v' (j_eqb Try.underlying4 rfl rfl) ?_
            refine op_v' (j_move (evo rfl)) ?_
            refine op_split' 66 rfl (fun h6 => ?_) (fun h6 => ?_)
            ·
              have h6r := h6
              try simp only [Bool.not_eq_true', Bool.not_eq_false', Bool.not_not, bne_iff_ne, bne_eq_false_iff_eq, beq_eq_false_iff_ne, beq_iff_eq, ne_eq, decide_eq_true_eq, decide_eq_false_iff_not, Classical.not_not, List.length_map, List.length_take, Int.toNat_natCast, List.length_map, List.length_append, List.length_cons, List.length_nil, List.length_set, List.length_take, ovN_len] at h6
              refine op_v' (j_want rfl rfl h6r (j_move (evo rfl))) ?_
              refine op_v' (j_want rfl rfl h6r (j_move (evo rfl))) ?_
              refine op_v0' (j_want rfl rfl h6r (j_call0 (v := .p _) (hp1 := []) [] false [] ent36 (f_cpProb (fpL l25 pa25) (fpL l25 pa25)) ⟨.inl ⟨rfl, rfl⟩, .inl ⟨rfl, rfl⟩, trivial⟩ trivial rfl rfl (fun h => by cases h) rfl (fun _ h => by cases h) (.inl rfl) rfl rfl)) ?_
              refine op_v' (j_pick_t rfl h6r (evo rfl)) ?_
              refine op_v' (j_assign (evo rfl)) ?_
              refine op_nil ?_
              refine a_ret ?_
              exact ⟨[.p _], .p _, [], [], [], ⟨rfl, trivial⟩, rfl, rfl, trivial, rfl, rfl, ⟨boolEq (by simp), rfl, rfl⟩⟩
            ·
              have h6r := h6
              try simp only [Bool.not_eq_true', Bool.not_eq_false', Bool.not_not, bne_iff_ne, bne_eq_false_iff_eq, beq_eq_false_iff_ne, beq_iff_eq, ne_eq, decide_eq_true_eq, decide_eq_false_iff_not, Classical.not_not, List.length_map, List.length_take, Int.toNat_natCast, List.length_map, List.length_append, List.length_cons, List.length_nil, List.length_set, List.length_take, ovN_len] at h6
              exact absurd h6r (by simp)
          ·
            have h5r := h5
            try simp only [Bool.not_eq_true', Bool.not_eq_false', Bool.not_not, bne_iff_ne, bne_eq_false_iff_eq, beq_eq_false_iff_ne, beq_iff_eq, ne_eq, decide_eq_true_eq, decide_eq_false_iff_not, Classical.not_not, List.length_map, List.length_take, Int.toNat_natCast, List.length_map, List.length_append, List.length_cons, List.length_nil, List.length_set, List.length_take, ovN_len] at h5
            refine op_v' (j_want rfl rfl h5r (j_move (evo rfl))) ?_
            refine op_v' (j_want rfl rfl h5r (j_len_map Try.underlying46 rfl)) ?_
            refine op_v' (j_want rfl rfl h5r (j_ne rfl rfl)) ?_
            refine op_v' (j_pick_f rfl h5r (evo rfl)) ?_
            refine op_nil ?_
            refine a_cond rfl (fun h7 => ?_) (fun h7 => ?_)
            ·
              have h7r := h7
              try simp only [Bool.not_eq_true', Bool.not_eq_false', Bool.not_not, bne_iff_ne, bne_eq_false_iff_eq, beq_eq_false_iff_ne, beq_iff_eq, ne_eq, decide_eq_true_eq, decide_eq_false_iff_not, Classical.not_not, List.length_map, List.length_take, Int.toNat_natCast, List.length_map, List.length_append, List.length_cons, List.length_nil, List.length_set, List.length_take, ovN_len] at h7
              refine a_seq ?_
              refine a_region (by kernel_rfl) ?_
              refine op_v' (j_move (evo rfl)) ?_
              refine op_v' (j_move (evo rfl)) ?_
              refine op_v' (j_eqb Try.underlying4 rfl rfl) ?_
              refine op_v' (j_move (evo rfl)) ?_
              refine op_split' 66 rfl (fun h8 => ?_) (fun h8 => ?_)
              ·
                have h8r := h8
                try simp only [Bool.not_eq_true', Bool.not_eq_false', Bool.not_not, bne_iff_ne, bne_eq_false_iff_eq, beq_eq_false_iff_ne, beq_iff_eq, ne_eq, decide_eq_true_eq, decide_eq_false_iff_not, Classical.not_not, List.length_map, List.length_take, Int.toNat_natCast, List.length_map, List.length_append, List.length_cons, List.length_nil, List.length_set, List.length_take, ovN_len] at h8
                refine op_v' (j_want rfl rfl h8r (j_move (evo rfl))) ?_
                refine op_v' (j_want rfl rfl h8r (j_move (evo rfl))) ?_
                refine op_v0' (j_want rfl rfl h8r (j_call0 (v := .p _) (hp1 := []) [] false [] ent36 (f_cpProb (fpL l25 pa25) (fpL l25 pa25)) ⟨.inl ⟨rfl, rfl⟩, .inl ⟨rfl, rfl⟩, trivial⟩ trivial rfl rfl (fun h => by cases h) rfl (fun _ h => by cases h) (.inl rfl) rfl rfl)) ?_
                refine op_v' (j_pick_t rfl h8r (evo rfl)) ?_
                refine op_v' (j_assign (evo rfl)) ?_
                refine op_nil ?_
                refine a_ret ?_
                exact ⟨[.p _], .p _, [], [], [], ⟨rfl, trivial⟩, rfl, rfl, trivial, rfl, rfl, ⟨boolEq (by simp), rfl, rfl⟩⟩
              ·
                have h8r := h8
                try simp only [Bool.not_eq_true', Bool.not_eq_false', Bool.not_not, bne_iff_ne, bne_eq_false_iff_eq, beq_eq_false_iff_ne, beq_iff_eq, ne_eq, decide_eq_true_eq, decide_eq_false_iff_not, Classical.not_not, List.length_map, List.length_take, Int.toNat_natCast, List.length_map, List.length_append, List.length_cons, List.length_nil, List.length_set, List.length_take, ovN_len] at h8
                exact absurd h8r (by simp)
            ·
              have h7r := h7
              try simp only [Bool.not_eq_true', Bool.not_eq_false', Bool.not_not, bne_iff_ne, bne_eq_false_iff_eq, beq_eq_false_iff_ne, beq_iff_eq, ne_eq, decide_eq_true_eq, decide_eq_false_iff_not, Classical.not_not, List.length_map, List.length_take, Int.toNat_natCast, List.length_map, List.length_append, List.length_cons, List.length_nil, List.length_set, List.length_take, ovN_len] at h7
              refine a_skip ?_
              refine a_seq ?_
              have hfp : fpOk l25 pa25 = true := by assumption
              have hpp := (fpOk_parts hfp).2
              have hpl := paOk_len hpp
              have hbl : bs30.length = 12 := by omega
              obtain ⟨hs1, hs2⟩ := fp_sa hfp hbl
              refine a_region (by kernel_rfl) ?_
              refine op_n' (fun ver => j_buildSlice (parts := []) (es := []) slt46 elt4 rfl rfl (by decide) (by decide) rfl rfl (by simp) rfl) fun v71x1 => ?_
              refine op_v' (j_move (evo rfl)) ?_
              refine op_n' (fun ver => j_append_sl slt46 elt4 rfl rfl rfl rfl (by intro y hy; obtain ⟨t, _, rfl⟩ := List.mem_map.1 hy; rfl) (all_lf_dB _) (by rw [maxLen_eq]; first | omega | (simp only [List.length_map, List.length_take, Int.toNat_natCast, List.length_map, List.length_append, List.length_cons, List.length_nil, List.length_set, List.length_take, ovN_len]; omega)) (by first | omega | (simp only [List.length_map, List.length_take, Int.toNat_natCast, List.length_map, List.length_append, List.length_cons, List.length_nil, List.length_set, List.length_take, ovN_len]; omega))) fun v71x2 => ?_
              refine op_v' (j_assign (evo rfl)) ?_
              refine op_nil ?_
              refine a_seq ?_
              refine a_seq ?_
              refine a_region (by kernel_rfl) ?_
              refine op_v' (j_assign (evo rfl)) ?_
              refine op_nil ?_
              refine a_block ?_
              refine a_loopF' (ι := Nat) (fun k => k ≤ 12) (fun k r => (14, .p (.int .i64 ((k : Nat)))) :: r) (fun k r => (71, some (v71x2, .row 4 1 ((ovN pa25 bs30 k).map dB))) :: r) (fun k => 12 - k) (fun _ _ => rfl) (fun _ _ => rfl) 0 (by first | omega | (simp only [List.length_map, List.length_take, Int.toNat_natCast, List.length_map, List.length_append, List.length_cons, List.length_nil, List.length_set, List.length_take, ovN_len]; omega)) ⟨⟨rfl, rfl⟩, ⟨rfl, trivial⟩, ⟨rowEq (by rw [ovN_zero hbl]; rfl), trivial⟩, ⟨rfl, rfl⟩, ⟨rfl, rfl⟩⟩ ?_
              intro k hpre0
              refine a_seq ?_
              refine a_seq ?_
              refine a_region (by kernel_rfl) ?_
              refine op_v' (j_move (evo rfl)) ?_
              refine op_v' (j_move (evo rfl)) ?_
              refine op_v' (j_len_map Try.underlying25 rfl) ?_
              refine op_v' (j_lt rfl rfl) ?_
              refine op_nil ?_
              refine a_cond rfl (fun h9 => ?_) (fun h9 => ?_)
              ·
                have h9r := h9
                try simp only [Bool.not_eq_true', Bool.not_eq_false', Bool.not_not, bne_iff_ne, bne_eq_false_iff_eq, beq_eq_false_iff_ne, beq_iff_eq, ne_eq, decide_eq_true_eq, decide_eq_false_iff_not, Classical.not_not, List.length_map, List.length_take, Int.toNat_natCast, List.length_map, List.length_append, List.length_cons, List.length_nil, List.length_set, List.length_take, ovN_len] at h9
                refine a_skip ?_
                refine a_seq ?_
                refine a_block ?_
                refine a_seq ?_
                refine a_region (by kernel_rfl) ?_
                refine op_v' (j_move (evo rfl)) ?_
                refine op_v' (j_move (evo rfl)) ?_
                refine op_v' (j_elemN slt25 rfl rfl rfl (at_map (by first | omega | (simp only [List.length_map, List.length_take, Int.toNat_natCast, List.length_map, List.length_append, List.length_cons, List.length_nil, List.length_set, List.length_take, ovN_len]; omega))) rfl) ?_
                refine op_v' (j_load_el leaf3 rfl (at_map (by first | omega | (simp only [List.length_map, List.length_take, Int.toNat_natCast, List.length_map, List.length_append, List.length_cons, List.length_nil, List.length_set, List.length_take, ovN_len]; omega))) rfl) ?_
                refine op_v' (j_ne rfl rfl) ?_
                refine op_nil ?_
                refine a_cond rfl (fun h10 => ?_) (fun h10 => ?_)
                ·
                  have h10r := h10
                  try simp only [Bool.not_eq_true', Bool.not_eq_false', Bool.not_not, bne_iff_ne, bne_eq_false_iff_eq, beq_eq_false_iff_ne, beq_iff_eq, ne_eq, decide_eq_true_eq, decide_eq_false_iff_not, Classical.not_not, List.length_map, List.length_take, Int.toNat_natCast, List.length_map, List.length_append, List.length_cons, List.length_nil, List.length_set, List.length_take, ovN_len] at h10
                  refine a_region (by kernel_rfl) ?_
                  refine op_v' (j_move (evo rfl)) ?_
                  refine op_v' (j_move (evo rfl)) ?_
                  refine op_v' (j_move (evo rfl)) ?_
                  refine op_v' (j_move (evo rfl)) ?_
                  refine op_v' (j_elemN slt25 rfl rfl rfl (at_map (by first | omega | (simp only [List.length_map, List.length_take, Int.toNat_natCast, List.length_map, List.length_append, List.length_cons, List.length_nil, List.length_set, List.length_take, ovN_len]; omega))) rfl) ?_
                  refine op_v' (j_load_el leaf3 rfl (at_map (by first | omega | (simp only [List.length_map, List.length_take, Int.toNat_natCast, List.length_map, List.length_append, List.length_cons, List.length_nil, List.length_set, List.length_take, ovN_len]; omega))) rfl) ?_
                  refine op_v' (j_gt rfl rfl) ?_
                  refine op_v' (j_elem_ownN slt46 rfl rfl rfl rfl (by first | omega | (simp only [List.length_map, List.length_take, Int.toNat_natCast, List.length_map, List.length_append, List.length_cons, List.length_nil, List.length_set, List.length_take, ovN_len]; omega))) ?_
                  refine op_s' (j_store_row leaf4 rfl rfl (by first | omega | (simp only [List.length_map, List.length_take, Int.toNat_natCast, List.length_map, List.length_append, List.length_cons, List.length_nil, List.length_set, List.length_take, ovN_len]; omega)) (evo rfl) rfl rfl) ?_
                  refine op_nil ?_
                  refine a_region (by kernel_rfl) ?_
                  refine op_v' (j_move (evo rfl)) ?_
                  refine op_v' (j_add rfl rfl (by first | omega | (simp only [List.length_map, List.length_take, Int.toNat_natCast, List.length_map, List.length_append, List.length_cons, List.length_nil, List.length_set, List.length_take, ovN_len]; omega)) (by first | omega | (simp only [List.length_map, List.length_take, Int.toNat_natCast, List.length_map, List.length_append, List.length_cons, List.length_nil, List.length_set, List.length_take, ovN_len]; omega))) ?_
                  refine op_v' (j_assign (evo rfl)) ?_
                  refine op_nil ?_
                  exact ⟨k + 1, (by first | omega | (simp only [List.length_map, List.length_take, Int.toNat_natCast, List.length_map, List.length_append, List.length_cons, List.length_nil, List.length_set, List.length_take, ovN_len]; omega)), ⟨⟨rfl, rfl⟩, ⟨rfl, trivial⟩, ⟨rowEq (by rw [ovN_set (by omega) (paOk_at hpp k) (by assumption), List.map_set]; rfl), trivial⟩, ⟨rfl, rfl⟩, ⟨rfl, rfl⟩⟩, (by first | omega | (simp only [List.length_map, List.length_take, Int.toNat_natCast, List.length_map, List.length_append, List.length_cons, List.length_nil, List.length_set, List.length_take, ovN_len]; omega))⟩
                ·
                  have h10r := h10
                  try simp only [Bool.not_eq_true', Bool.not_eq_false', Bool.not_not, bne_iff_ne, bne_eq_false_iff_eq, beq_eq_false_iff_ne, beq_iff_eq, ne_eq, decide_eq_true_eq, decide_eq_false_iff_not, Classical.not_not, List.length_map, List.length_take, Int.toNat_natCast, List.length_map, List.length_append, List.length_cons, List.length_nil, List.length_set, List.length_take, ovN_len] at h10
                  refine a_skip ?_
                  refine a_region (by kernel_rfl) ?_
                  refine op_v' (j_move (evo rfl)) ?_
                  refine op_v' (j_add rfl rfl (by first | omega | (simp only [List.length_map, List.length_take, Int.toNat_natCast, List.length_map, List.length_append, List.length_cons, List.length_nil, List.length_set, List.length_take, ovN_len]; omega)) (by first | omega | (simp only [List.length_map, List.length_take, Int.toNat_natCast, List.length_map, List.length_append, List.length_cons, List.length_nil, List.length_set, List.length_take, ovN_len]; omega))) ?_
                  refine op_v' (j_assign (evo rfl)) ?_
                  refine op_nil ?_
                  exact ⟨k + 1, (by first | omega | (simp only [List.length_map, List.length_take, Int.toNat_natCast, List.length_map, List.length_append, List.length_cons, List.length_nil, List.length_set, List.length_take, ovN_len]; omega)), ⟨⟨rfl, rfl⟩, ⟨rfl, trivial⟩, ⟨rowEq (by rw [ovN_skip (by omega) (by assumption)]), trivial⟩, ⟨rfl, rfl⟩, ⟨rfl, rfl⟩⟩, (by first | omega | (simp only [List.length_map, List.length_take, Int.toNat_natCast, List.length_map, List.length_append, List.length_cons, List.length_nil, List.length_set, List.length_take, ovN_len]; omega))⟩
              ·
                have h9r := h9
                try simp only [Bool.not_eq_true', Bool.not_eq_false', Bool.not_not, bne_iff_ne, bne_eq_false_iff_eq, beq_eq_false_iff_ne, beq_iff_eq, ne_eq, decide_eq_true_eq, decide_eq_false_iff_not, Classical.not_not, List.length_map, List.length_take, Int.toNat_natCast, List.length_map, List.length_append, List.length_cons, List.length_nil, List.length_set, List.length_take, ovN_len] at h9
                refine a_exit ?_
                refine a_seq ?_
                obtain rfl : k = 12 := by omega
                rw [ovN_all]
                refine a_region (by kernel_rfl) ?_
                refine op_v' (j_move (evo rfl)) ?_
                refine op_v0' (j_call0 (v := .p _) (hp1 := []) [] false [] ent37 (f_pvImpl (fpL l25 pa25)) ⟨.inl ⟨rfl, rfl⟩, trivial⟩ trivial rfl rfl (fun h => by cases h) rfl (fun _ h => by cases h) (.inl rfl) rfl rfl) ?_
                refine op_v' (j_move (evo rfl)) ?_
                refine op_split' 95 rfl (fun h11 => ?_) (fun h11 => ?_)
                ·
                  have h11r := h11
                  try simp only [Bool.not_eq_true', Bool.not_eq_false', Bool.not_not, bne_iff_ne, bne_eq_false_iff_eq, beq_eq_false_iff_ne, beq_iff_eq, ne_eq, decide_eq_true_eq, decide_eq_false_iff_not, Classical.not_not, List.length_map, List.length_take, Int.toNat_natCast, List.length_map, List.length_append, List.length_cons, List.length_nil, List.length_set, List.length_take, ovN_len] at h11
                  refine op_v' (j_want rfl rfl h11r (j_move (evo rfl))) ?_
                  refine op_v' (j_want rfl rfl h11r (j_move (evo rfl))) ?_
                  refine op_v0' (j_want rfl rfl h11r (j_call0 (v := .p _) (hp1 := []) [] false [] ent38 (f_sa (fpL l25 pa25) bs30) ⟨.inl ⟨rfl, rfl⟩, .inl ⟨rfl, rfl⟩, trivial⟩ trivial rfl rfl (fun h => by cases h) rfl (fun _ h => by cases h) (.inl rfl) rfl rfl)) ?_
                  refine op_v' (j_want rfl rfl h11r (j_move (evo rfl))) ?_
                  refine op_v' (j_want rfl rfl h11r (j_move (evo rfl))) ?_
                  refine op_v0' (j_want rfl rfl h11r (j_call0 (v := .p _) (hp1 := []) [] true [71] ent38 (f_sa l25 (ovV pa25 bs30)) ⟨.inl ⟨rfl, rfl⟩, .inr ⟨rfl, view_own rfl rfl, rfl⟩, trivial⟩ trivial rfl rfl (fun _ => rfl) rfl (fun _ h => by cases h) (.inr ⟨rfl, by first | exact pl_new1 (fun _ => rfl) | (simp [plO, plV, plV.plL]; done)⟩) rfl rfl)) ?_
                  refine op_v' (j_want rfl rfl h11r (j_eqb Try.underlying4 rfl rfl)) ?_
                  refine op_v' (j_pick_t rfl h11r (evo rfl)) ?_
                  refine op_v' (j_move (evo rfl)) ?_
                  refine op_split' 104 rfl (fun h12 => ?_) (fun h12 => ?_)
                  ·
                    have h12r := h12
                    try simp only [Bool.not_eq_true', Bool.not_eq_false', Bool.not_not, bne_iff_ne, bne_eq_false_iff_eq, beq_eq_false_iff_ne, beq_iff_eq, ne_eq, decide_eq_true_eq, decide_eq_false_iff_not, Classical.not_not, List.length_map, List.length_take, Int.toNat_natCast, List.length_map, List.length_append, List.length_cons, List.length_nil, List.length_set, List.length_take, ovN_len] at h12
                    refine op_v' (j_want rfl rfl h12r (j_move (evo rfl))) ?_
                    refine op_v' (j_want rfl rfl h12r (j_move (evo rfl))) ?_
                    refine op_v0' (j_want rfl rfl h12r (j_call0 (v := .p _) (hp1 := []) [] true [71] ent38 (f_sa (fpL l25 pa25) (ovV pa25 bs30)) ⟨.inl ⟨rfl, rfl⟩, .inr ⟨rfl, view_own rfl rfl, rfl⟩, trivial⟩ trivial rfl rfl (fun _ => rfl) rfl (fun _ h => by cases h) (.inr ⟨rfl, by first | exact pl_new1 (fun _ => rfl) | (simp [plO, plV, plV.plL]; done)⟩) rfl rfl)) ?_
                    refine op_v' (j_want rfl rfl h12r (j_move (evo rfl))) ?_
                    refine op_v' (j_want rfl rfl h12r (j_move (evo rfl))) ?_
                    refine op_v0' (j_want rfl rfl h12r (j_call0 (v := .p _) (hp1 := []) [] true [71] ent38 (f_sa l25 (ovV pa25 bs30)) ⟨.inl ⟨rfl, rfl⟩, .inr ⟨rfl, view_own rfl rfl, rfl⟩, trivial⟩ trivial rfl rfl (fun _ => rfl) rfl (fun _ h => by cases h) (.inr ⟨rfl, by first | exact pl_new1 (fun _ => rfl) | (simp [plO, plV, plV.plL]; done)⟩) rfl rfl)) ?_
                    refine op_v' (j_want rfl rfl h12r (j_eqb Try.underlying4 rfl rfl)) ?_
                    refine op_v' (j_pick_t rfl h12r (evo rfl)) ?_
                    refine op_v' (j_assign (evo rfl)) ?_
                    refine op_nil ?_
                    refine a_ret ?_
                    exact ⟨[.p _], .p _, [], [], [], ⟨rfl, trivial⟩, rfl, rfl, trivial, rfl, rfl, ⟨boolEq (by rw [hs2, beq_self_eq_true]), rfl, rfl⟩⟩
                  ·
                    have h12r := h12
                    try simp only [Bool.not_eq_true', Bool.not_eq_false', Bool.not_not, bne_iff_ne, bne_eq_false_iff_eq, beq_eq_false_iff_ne, beq_iff_eq, ne_eq, decide_eq_true_eq, decide_eq_false_iff_not, Classical.not_not, List.length_map, List.length_take, Int.toNat_natCast, List.length_map, List.length_append, List.length_cons, List.length_nil, List.length_set, List.length_take, ovN_len] at h12
                    exact absurd h12r (by rw [hs1, beq_self_eq_true]; decide)
                ·
                  have h11r := h11
                  try simp only [Bool.not_eq_true', Bool.not_eq_false', Bool.not_not, bne_iff_ne, bne_eq_false_iff_eq, beq_eq_false_iff_ne, beq_iff_eq, ne_eq, decide_eq_true_eq, decide_eq_false_iff_not, Classical.not_not, List.length_map, List.length_take, Int.toNat_natCast, List.length_map, List.length_append, List.length_cons, List.length_nil, List.length_set, List.length_take, ovN_len] at h11
                  exact absurd h11r (by rw [fpL_pOk hfp]; decide)


end Go.Ab

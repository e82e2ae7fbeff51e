/- Walks. -/
import Derived.Test.YtdnkggifpoknoaaBase
import Derived.Test.YtdnkggifpoknoaaSimp
import Derived.Test.YtdnkggifpoknoaaMod2
import Derived.Test.YtdnkggifpoknoaaWsrup
import Derived.Test.YtdnkggifpoknoaaWsmod
import Derived.Test.YtdnkggifpoknoaaWsfix
import Derived.Test.YtdnkggifpoknoaaWsprob
import Derived.Test.YtdnkggifpoknoaaWsprobd
namespace Go.Ab
open Go.Proofs
set_option maxRecDepth 100000
set_option maxHeartbeats 8000000
set_option linter.unusedSimpArgs false
set_option linter.unusedVariables false
theorem f_len64  : Fn Try.prog 69 [.p (.int .u64 1)] [] (fun rr ii nn => rr = .p (.int .i64 (1)) ∧ ii = [] ∧ nn = []) := by
  refine fn_of Try.func69 rfl (Nat.le_of_ble_eq_true rfl) fun w X g => ?_
  show AWp _ _ _ ⟨[(0, .p (.int .u64 1))], []⟩
  refine a_seq ?_
  refine a_region (by kernel_rfl) ?_
  refine op_v' (j_assign (evo rfl)) ?_
  refine op_nil ?_
  refine a_seq ?_
  refine a_seq ?_
  refine a_region (by kernel_rfl) ?_
  refine op_v' (j_move (evo rfl)) ?_
  refine op_v' (j_ge rfl rfl) ?_
  refine op_nil ?_
  refine a_cond rfl (fun h1 => ?_) (fun h1 => ?_)
  ·
    have h1r := h1
    try simp only [Bool.not_eq_true', Bool.not_eq_false', Bool.not_not, bne_iff_ne, bne_eq_false_iff_eq, beq_eq_false_iff_ne, beq_iff_eq, ne_eq, decide_eq_true_eq, decide_eq_false_iff_not, Classical.not_not, List.length_map, List.length_take, Int.toNat_natCast] at h1
    exact absurd h1r (by decide)
  ·
    have h1r := h1
    try simp only [Bool.not_eq_true', Bool.not_eq_false', Bool.not_not, bne_iff_ne, bne_eq_false_iff_eq, beq_eq_false_iff_ne, beq_iff_eq, ne_eq, decide_eq_true_eq, decide_eq_false_iff_not, Classical.not_not, List.length_map, List.length_take, Int.toNat_natCast] at h1
    refine a_skip ?_
    refine a_seq ?_
    refine a_seq ?_
    refine a_region (by kernel_rfl) ?_
    refine op_v' (j_move (evo rfl)) ?_
    refine op_v' (j_ge rfl rfl) ?_
    refine op_nil ?_
    refine a_cond rfl (fun h2 => ?_) (fun h2 => ?_)
    ·
      have h2r := h2
      try simp only [Bool.not_eq_true', Bool.not_eq_false', Bool.not_not, bne_iff_ne, bne_eq_false_iff_eq, beq_eq_false_iff_ne, beq_iff_eq, ne_eq, decide_eq_true_eq, decide_eq_false_iff_not, Classical.not_not, List.length_map, List.length_take, Int.toNat_natCast] at h2
      exact absurd h2r (by decide)
    ·
      have h2r := h2
      try simp only [Bool.not_eq_true', Bool.not_eq_false', Bool.not_not, bne_iff_ne, bne_eq_false_iff_eq, beq_eq_false_iff_ne, beq_iff_eq, ne_eq, decide_eq_true_eq, decide_eq_false_iff_not, Classical.not_not, List.length_map, List.length_take, Int.toNat_natCast] at h2
      refine a_skip ?_
      refine a_seq ?_
      refine a_seq ?_
      refine a_region (by kernel_rfl) ?_
      refine op_v' (j_move (evo rfl)) ?_
      refine op_v' (j_ge rfl rfl) ?_
      refine op_nil ?_
      refine a_cond rfl (fun h3 => ?_) (fun h3 => ?_)
      ·
        have h3r := h3
        try simp only [Bool.not_eq_true', Bool.not_eq_false', Bool.not_not, bne_iff_ne, bne_eq_false_iff_eq, beq_eq_false_iff_ne, beq_iff_eq, ne_eq, decide_eq_true_eq, decide_eq_false_iff_not, Classical.not_not, List.length_map, List.length_take, Int.toNat_natCast] at h3
        exact absurd h3r (by decide)
      ·
        have h3r := h3
        try simp only [Bool.not_eq_true', Bool.not_eq_false', Bool.not_not, bne_iff_ne, bne_eq_false_iff_eq, beq_eq_false_iff_ne, beq_iff_eq, ne_eq, decide_eq_true_eq, decide_eq_false_iff_not, Classical.not_not, List.length_map, List.length_take, Int.toNat_natCast] at h3
        refine a_skip ?_
        refine a_seq ?_
        refine a_region (by kernel_rfl) ?_
        refine op_v' (j_move (evo rfl)) ?_
        refine op_v' (j_move (evo rfl)) ?_
        refine op_v' (j_conv Try.underlying90 Try.underlying5 rfl) ?_
        refine op_v' (j_index_strN (n := 1) Try.underlying9 rfl rfl rfl rfl) ?_
        refine op_v' (j_conv Try.underlying5 Try.underlying3 rfl) ?_
        refine op_v' (j_add rfl rfl (by decide) (by decide)) ?_
        refine op_v' (j_assign (evo rfl)) ?_
        refine op_nil ?_
        refine a_ret ?_
        exact ⟨[.p _], .p _, [], [], [], ⟨rfl, trivial⟩, rfl, rfl, trivial, rfl, rfl, ⟨rfl, rfl, rfl⟩⟩


theorem f_bitsLen  : Fn Try.prog 44 [.p (.int .u64 1)] [] (fun rr ii nn => rr = .p (.int .i64 (1)) ∧ ii = [] ∧ nn = []) := by
  refine fn_of Try.func44 rfl (Nat.le_of_ble_eq_true rfl) fun w X g => ?_
  show AWp _ _ _ ⟨[(0, .p (.int .u64 1))], []⟩
  refine a_seq ?_
  refine a_region (by kernel_rfl) ?_
  refine op_v' (j_assign (evo rfl)) ?_
  refine op_nil ?_
  refine a_seq ?_
  refine a_ff rfl ?_
  refine a_skip ?_
  refine a_seq ?_
  refine a_region (by kernel_rfl) ?_
  refine op_v' (j_move (evo rfl)) ?_
  refine op_v0' (j_call0 (v := .p _) (hp1 := []) [] false [] ent69 (f_len64 ) ⟨.inl ⟨rfl, rfl⟩, trivial⟩ trivial rfl rfl (fun h => by cases h) rfl (fun _ h => by cases h) (.inl rfl) rfl rfl) ?_
  refine op_v' (j_assign (evo rfl)) ?_
  refine op_nil ?_
  refine a_ret ?_
  exact ⟨[.p _], .p _, [], [], [], ⟨rfl, trivial⟩, rfl, rfl, trivial, rfl, rfl, ⟨rfl, rfl, rfl⟩⟩


theorem f_insSort (F : Nat) (v : Int) : Fn Try.prog 60 [.own 0 0, .p (.int .i64 (0)), .p (.int .i64 (1)), .fn F []] [.row 3 1 ([v].map dI)] (fun rr ii nn => rr = .tup [] ∧ ii = [.row 3 1 ([v].map dI)] ∧ nn = []) := by
  refine fn_of Try.func60 rfl (Nat.le_of_ble_eq_true rfl) fun w X g => ?_
  show AWp _ _ _ ⟨[(0, .own 0 0), (1, .p (.int .i64 (0))), (2, .p (.int .i64 (1))), (3, .fn F [])], [(0, some (0, .row 3 1 ([v].map dI)))]⟩
  refine a_seq ?_
  refine a_region (by kernel_rfl) ?_
  refine op_v' (j_move (evo rfl)) ?_
  refine op_v' (j_add rfl rfl (by first | omega | (simp only [List.length_map, List.length_take, Int.toNat_natCast, List.length_map]; omega)) (by first | omega | (simp only [List.length_map, List.length_take, Int.toNat_natCast, List.length_map]; omega))) ?_
  refine op_v' (j_assign (evo rfl)) ?_
  refine op_nil ?_
  refine a_block ?_
  refine a_loopF' (ι := Nat) (fun k => k = 0) (fun k r => (8, .p (.int .i64 (1))) :: r) (fun k r => (0, some (0, .row 3 1 ([v].map dI))) :: r) (fun k => 0) (fun _ _ => rfl) (fun _ _ => rfl) 0 rfl ⟨⟨rfl, rfl⟩, ⟨rfl, trivial⟩, ⟨rfl, trivial⟩, ⟨rfl, rfl⟩, ⟨rfl, rfl⟩⟩ ?_
  intro k hk
  refine a_seq ?_
  refine a_seq ?_
  refine a_region (by kernel_rfl) ?_
  refine op_v' (j_move (evo rfl)) ?_
  refine op_v' (j_move (evo rfl)) ?_
  refine op_v' (j_lt rfl rfl) ?_
  refine op_nil ?_
  refine a_cond rfl (fun h1 => ?_) (fun h1 => ?_)
  ·
    have h1r := h1
    try simp only [Bool.not_eq_true', Bool.not_eq_false', Bool.not_not, bne_iff_ne, bne_eq_false_iff_eq, beq_eq_false_iff_ne, beq_iff_eq, ne_eq, decide_eq_true_eq, decide_eq_false_iff_not, Classical.not_not, List.length_map, List.length_take, Int.toNat_natCast, List.length_map] at h1
    exact absurd (of_decide_eq_true h1r) (by omega)
  ·
    have h1r := h1
    try simp only [Bool.not_eq_true', Bool.not_eq_false', Bool.not_not, bne_iff_ne, bne_eq_false_iff_eq, beq_eq_false_iff_ne, beq_iff_eq, ne_eq, decide_eq_true_eq, decide_eq_false_iff_not, Classical.not_not, List.length_map, List.length_take, Int.toNat_natCast, List.length_map] at h1
    refine a_exit ?_
    exact ⟨[], .tup [], [.row 3 1 _], [], [], trivial, rfl, rfl, ⟨⟨rfl, rfl⟩, trivial⟩, rfl, rfl, ⟨rfl, rfl, rfl⟩⟩


theorem f_pdq (F : Nat) (v m : Int) : Fn Try.prog 43 [.own 0 0, .p (.int .i64 (0)), .p (.int .i64 (1)), .p (.int .i64 (m)), .fn F []] [.row 3 1 ([v].map dI)] (fun rr ii nn => rr = .tup [] ∧ ii = [.row 3 1 ([v].map dI)] ∧ nn = []) := by
  refine fn_of Try.func43 rfl (Nat.le_of_ble_eq_true rfl) fun w X g => ?_
  show AWp _ _ _ ⟨[(0, .own 0 0), (1, .p (.int .i64 (0))), (2, .p (.int .i64 (1))), (3, .p (.int .i64 (m))), (4, .fn F [])], [(0, some (0, .row 3 1 ([v].map dI)))]⟩
  refine a_seq ?_
  refine a_region (by kernel_rfl) ?_
  refine op_v' (j_assign (evo rfl)) ?_
  refine op_nil ?_
  refine a_seq ?_
  refine a_region (by kernel_rfl) ?_
  refine op_v' (j_assign (evo rfl)) ?_
  refine op_nil ?_
  refine a_block ?_
  refine a_loopF' (ι := Nat) (fun k => k = 0) (fun k r => r) (fun k r => (0, some (0, .row 3 1 ([v].map dI))) :: r) (fun k => 0) (fun _ _ => rfl) (fun _ _ => rfl) 0 rfl ⟨⟨rfl, rfl⟩, trivial, ⟨rfl, trivial⟩, ⟨rfl, rfl⟩, ⟨rfl, rfl⟩⟩ ?_
  intro k hk
  refine a_block ?_
  refine a_seq ?_
  refine a_region (by kernel_rfl) ?_
  refine op_v' (j_move (evo rfl)) ?_
  refine op_v' (j_move (evo rfl)) ?_
  refine op_v' (j_sub rfl rfl (by first | omega | (simp only [List.length_map, List.length_take, Int.toNat_natCast, List.length_map]; omega)) (by first | omega | (simp only [List.length_map, List.length_take, Int.toNat_natCast, List.length_map]; omega))) ?_
  refine op_v' (j_assign (evo rfl)) ?_
  refine op_nil ?_
  refine a_seq ?_
  refine a_seq ?_
  refine a_region (by kernel_rfl) ?_
  refine op_v' (j_move (evo rfl)) ?_
  refine op_v' (j_le rfl rfl) ?_
  refine op_nil ?_
  refine a_cond rfl (fun h1 => ?_) (fun h1 => ?_)
  ·
    have h1r := h1
    try simp only [Bool.not_eq_true', Bool.not_eq_false', Bool.not_not, bne_iff_ne, bne_eq_false_iff_eq, beq_eq_false_iff_ne, beq_iff_eq, ne_eq, decide_eq_true_eq, decide_eq_false_iff_not, Classical.not_not, List.length_map, List.length_take, Int.toNat_natCast, List.length_map] at h1
    refine a_seq ?_
    refine a_region (by kernel_rfl) ?_
    refine op_v' (j_move (evo rfl)) ?_
    refine op_v' (j_move (evo rfl)) ?_
    refine op_v' (j_move (evo rfl)) ?_
    refine op_v' (j_move (evo rfl)) ?_
    refine op_v0' (j_call0 (v := .tup []) (hp1 := [(0, some (0, .row 3 1 _))]) [(0, 0)] false [0] ent60 (f_insSort _ v) ⟨.inl ⟨rfl, rfl⟩, .inl ⟨rfl, rfl⟩, .inl ⟨rfl, rfl⟩, .inl ⟨rfl, rfl⟩, trivial⟩ ⟨⟨rfl, rfl⟩, trivial⟩ rfl rfl (fun h => by cases h) rfl (List.all_eq_true.1 rfl) (.inl rfl) rfl rfl) ?_
    refine op_nil ?_
    refine a_ret ?_
    exact ⟨[], .tup [], [.row 3 1 _], [], [], trivial, rfl, rfl, ⟨⟨rfl, rfl⟩, trivial⟩, rfl, rfl, ⟨rfl, rfl, rfl⟩⟩
  ·
    have h1r := h1
    try simp only [Bool.not_eq_true', Bool.not_eq_false', Bool.not_not, bne_iff_ne, bne_eq_false_iff_eq, beq_eq_false_iff_ne, beq_iff_eq, ne_eq, decide_eq_true_eq, decide_eq_false_iff_not, Classical.not_not, List.length_map, List.length_take, Int.toNat_natCast, List.length_map] at h1
    exact absurd (of_decide_eq_false h1r) (by omega)


theorem f_sortFunc (F : Nat) (v : Int) : Fn Try.prog 23 [.own 0 0, .fn F []] [.row 3 1 ([v].map dI)] (fun rr ii nn => rr = .tup [] ∧ ii = [.row 3 1 ([v].map dI)] ∧ nn = []) := by
  refine fn_of Try.func23 rfl (Nat.le_of_ble_eq_true rfl) fun w X g => ?_
  show AWp _ _ _ ⟨[(0, .own 0 0), (1, .fn F [])], [(0, some (0, .row 3 1 ([v].map dI)))]⟩
  refine a_seq ?_
  refine a_region (by kernel_rfl) ?_
  refine op_v' (j_move (evo rfl)) ?_
  refine op_v' (j_len_own_map Try.underlying25 rfl rfl) ?_
  refine op_v' (j_assign (evo rfl)) ?_
  refine op_nil ?_
  refine a_region (by kernel_rfl) ?_
  refine op_v' (j_move (evo rfl)) ?_
  refine op_v' (j_move (evo rfl)) ?_
  refine op_v' (j_move (evo rfl)) ?_
  refine op_v' (j_conv Try.underlying3 Try.underlying69 rfl) ?_
  refine op_v0' (j_call0 (v := .p _) (hp1 := []) [] false [] ent44 f_bitsLen ⟨.inl ⟨rfl, rfl⟩, trivial⟩ trivial rfl rfl (fun h => by cases h) rfl (fun _ h => by cases h) (.inl rfl) rfl rfl) ?_
  refine op_v' (j_move (evo rfl)) ?_
  refine op_v0' (j_call0 (v := .tup []) (hp1 := [(0, some (0, .row 3 1 _))]) [(0, 0)] false [0] ent43 (f_pdq _ v 1) ⟨.inl ⟨rfl, rfl⟩, .inl ⟨rfl, rfl⟩, .inl ⟨rfl, rfl⟩, .inl ⟨rfl, rfl⟩, .inl ⟨rfl, rfl⟩, trivial⟩ ⟨⟨rfl, rfl⟩, trivial⟩ rfl rfl (fun h => by cases h) rfl (List.all_eq_true.1 rfl) (.inl rfl) rfl rfl) ?_
  refine op_nil ?_
  exact ⟨[], .tup [], [.row 3 1 _], [], [], trivial, rfl, rfl, ⟨⟨rfl, rfl⟩, trivial⟩, rfl, rfl, ⟨rfl, rfl, rfl⟩⟩


theorem f_compact (v : Int) : Fn Try.prog 26 [.own 0 0] [.row 3 1 ([v].map dI)] (fun rr ii nn => rr = .own 0 0 ∧ ii = [.row 3 1 ([v].map dI)] ∧ nn = []) := by
  refine fn_of Try.func26 rfl (Nat.le_of_ble_eq_true rfl) fun w X g => ?_
  show AWp _ _ _ ⟨[(0, .own 0 0)], [(0, some (0, .row 3 1 ([v].map dI)))]⟩
  refine a_seq ?_
  refine a_region (by kernel_rfl) ?_
  refine op_v' (j_assign (evo rfl)) ?_
  refine op_nil ?_
  refine a_seq ?_
  refine a_seq ?_
  refine a_region (by kernel_rfl) ?_
  refine op_v' (j_move (evo rfl)) ?_
  refine op_v' (j_len_own_map Try.underlying25 rfl rfl) ?_
  refine op_v' (j_lt rfl rfl) ?_
  refine op_nil ?_
  refine a_cond rfl (fun h1 => ?_) (fun h1 => ?_)
  ·
    have h1r := h1
    try simp only [Bool.not_eq_true', Bool.not_eq_false', Bool.not_not, bne_iff_ne, bne_eq_false_iff_eq, beq_eq_false_iff_ne, beq_iff_eq, ne_eq, decide_eq_true_eq, decide_eq_false_iff_not, Classical.not_not, List.length_map, List.length_take, Int.toNat_natCast, List.length_map] at h1
    refine a_seq ?_
    refine a_region (by kernel_rfl) ?_
    refine op_v' (j_move (evo rfl)) ?_
    refine op_v' (j_assign (evo rfl)) ?_
    refine op_nil ?_
    refine a_ret ?_
    exact ⟨[.own 0 0], .own 0 0, [.row 3 1 _], [], [], ⟨rfl, trivial⟩, rfl, rfl, ⟨⟨rfl, rfl⟩, trivial⟩, rfl, rfl, ⟨rfl, rfl, rfl⟩⟩
  ·
    have h1r := h1
    try simp only [Bool.not_eq_true', Bool.not_eq_false', Bool.not_not, bne_iff_ne, bne_eq_false_iff_eq, beq_eq_false_iff_ne, beq_iff_eq, ne_eq, decide_eq_true_eq, decide_eq_false_iff_not, Classical.not_not, List.length_map, List.length_take, Int.toNat_natCast, List.length_map] at h1
    exact absurd (of_decide_eq_false h1r) (by simp)


theorem f_clause1 (v : Int) (hv : litOk v = true) : Fn Try.prog 9 [.sl ([v].map dI)] [] (fun rr ii nn => rr = .tup [.agg [.sl ((unitC v).1.map dT), .p (.int .i64 1)], .p (.bool true)] ∧ ii = [] ∧ nn = []) := by
  refine fn_of Try.func9 rfl (Nat.le_of_ble_eq_true rfl) fun w X g => ?_
  show AWp _ _ _ ⟨[(0, .sl ([v].map dI))], []⟩
  have hli := litOk_iff.1 hv
  refine a_seq ?_
  refine a_region (by kernel_rfl) ?_
  refine op_n' (fun ver => j_alloc elt32 rfl) fun v2x1 => ?_
  refine op_v' (j_assign (evo rfl)) ?_
  refine op_nil ?_
  refine a_seq ?_
  refine a_seq ?_
  refine a_region (by kernel_rfl) ?_
  refine op_v' (j_move (evo rfl)) ?_
  refine op_v' (j_len_map Try.underlying25 rfl) ?_
  refine op_v' (j_gt rfl rfl) ?_
  refine op_nil ?_
  refine a_cond rfl (fun h1 => ?_) (fun h1 => ?_)
  ·
    have h1r := h1
    try simp only [Bool.not_eq_true', Bool.not_eq_false', Bool.not_not, bne_iff_ne, bne_eq_false_iff_eq, beq_eq_false_iff_ne, beq_iff_eq, ne_eq, decide_eq_true_eq, decide_eq_false_iff_not, Classical.not_not, List.length_map, List.length_take, Int.toNat_natCast, List.length_map, List.length_append, List.length_cons, List.length_nil, List.length_take] at h1
    exact absurd (of_decide_eq_true h1r) (by simp)
  ·
    have h1r := h1
    try simp only [Bool.not_eq_true', Bool.not_eq_false', Bool.not_not, bne_iff_ne, bne_eq_false_iff_eq, beq_eq_false_iff_ne, beq_iff_eq, ne_eq, decide_eq_true_eq, decide_eq_false_iff_not, Classical.not_not, List.length_map, List.length_take, Int.toNat_natCast, List.length_map, List.length_append, List.length_cons, List.length_nil, List.length_take] at h1
    refine a_skip ?_
    refine a_seq ?_
    refine a_seq ?_
    refine a_region (by kernel_rfl) ?_
    refine op_v' (j_move (evo rfl)) ?_
    refine op_v' (j_len_map Try.underlying25 rfl) ?_
    refine op_v' (j_move (evo rfl)) ?_
    refine op_nil ?_
    refine a_block ?_
    refine a_loopF' (ι := Nat) (fun k => k ≤ 1) (fun k r => (16, .p (.int .i64 ((k : Nat)))) :: r) (fun k r => r) (fun k => 1 - k) (fun _ _ => rfl) (fun _ _ => rfl) 0 (Nat.zero_le _) ⟨⟨rfl, rfl⟩, ⟨rfl, trivial⟩, trivial, ⟨rfl, rfl⟩, ⟨rfl, rfl⟩⟩ ?_
    intro k hk
    refine a_seq ?_
    refine a_region (by kernel_rfl) ?_
    refine op_v' (j_lt rfl rfl) ?_
    refine op_nil ?_
    refine a_seq ?_
    refine a_cond rfl (fun h2 => ?_) (fun h2 => ?_)
    ·
      have h2r := h2
      try simp only [Bool.not_eq_true', Bool.not_eq_false', Bool.not_not, bne_iff_ne, bne_eq_false_iff_eq, beq_eq_false_iff_ne, beq_iff_eq, ne_eq, decide_eq_true_eq, decide_eq_false_iff_not, Classical.not_not, List.length_map, List.length_take, Int.toNat_natCast, List.length_map, List.length_append, List.length_cons, List.length_nil, List.length_take] at h2
      refine a_skip ?_
      refine a_seq ?_
      refine a_block ?_
      refine a_seq ?_
      refine a_region (by kernel_rfl) ?_
      refine op_v' (j_elemN slt25 rfl rfl rfl (at_map (by first | omega | (simp only [List.length_map, List.length_take, Int.toNat_natCast, List.length_map, List.length_append, List.length_cons, List.length_nil, List.length_take]; omega))) rfl) ?_
      refine op_v' (j_load_el leaf3 rfl (at_map (by first | omega | (simp only [List.length_map, List.length_take, Int.toNat_natCast, List.length_map, List.length_append, List.length_cons, List.length_nil, List.length_take]; omega))) rfl) ?_
      refine op_v' (j_assign (evo rfl)) ?_
      refine op_nil ?_
      refine a_seq ?_
      obtain rfl : k = 0 := by omega
      have hg : [v].getD 0 default = v := rfl
      refine a_region (by kernel_rfl) ?_
      refine op_v' (j_move (evo rfl)) ?_
      refine op_v0' (j_call0 (v := .p _) (hp1 := []) [] false [] ent19 (f_isLit v) ⟨.inl ⟨rfl, rfl⟩, trivial⟩ trivial rfl rfl (fun h => by cases h) rfl (fun _ h => by cases h) (.inl rfl) rfl rfl) ?_
      refine op_v' (j_not rfl) ?_
      refine op_v' (j_move (evo rfl)) ?_
      refine op_split' 23 rfl (fun h3 => ?_) (fun h3 => ?_)
      ·
        have h3r := h3
        try simp only [Bool.not_eq_true', Bool.not_eq_false', Bool.not_not, bne_iff_ne, bne_eq_false_iff_eq, beq_eq_false_iff_ne, beq_iff_eq, ne_eq, decide_eq_true_eq, decide_eq_false_iff_not, Classical.not_not, List.length_map, List.length_take, Int.toNat_natCast, List.length_map, List.length_append, List.length_cons, List.length_nil, List.length_take] at h3
        exact absurd h3r (by show ¬ (!litOk v) = true; rw [hv]; decide)
      ·
        have h3r := h3
        try simp only [Bool.not_eq_true', Bool.not_eq_false', Bool.not_not, bne_iff_ne, bne_eq_false_iff_eq, beq_eq_false_iff_ne, beq_iff_eq, ne_eq, decide_eq_true_eq, decide_eq_false_iff_not, Classical.not_not, List.length_map, List.length_take, Int.toNat_natCast, List.length_map, List.length_append, List.length_cons, List.length_nil, List.length_take] at h3
        refine op_v' (j_want rfl rfl h3r (j_move (evo rfl))) ?_
        refine op_v' (j_want rfl rfl h3r (j_move (evo rfl))) ?_
        refine op_v' (j_want rfl rfl h3r (j_neg rfl (by first | omega | (simp only [List.length_map, List.length_take, Int.toNat_natCast, List.length_map, List.length_append, List.length_cons, List.length_nil, List.length_take]; omega)) (by first | omega | (simp only [List.length_map, List.length_take, Int.toNat_natCast, List.length_map, List.length_append, List.length_cons, List.length_nil, List.length_take]; omega)))) ?_
        refine op_v0' (j_want rfl rfl h3r (j_call0 (v := .p _) (hp1 := []) [] false [] ent21 (f_containsInt [v] (-v)) ⟨.inl ⟨rfl, rfl⟩, .inl ⟨rfl, rfl⟩, trivial⟩ trivial rfl rfl (fun h => by cases h) rfl (fun _ h => by cases h) (.inl rfl) rfl rfl)) ?_
        refine op_v' (j_pick_f rfl h3r (evo rfl)) ?_
        refine op_nil ?_
        refine a_cond rfl (fun h4 => ?_) (fun h4 => ?_)
        ·
          have h4r := h4
          try simp only [Bool.not_eq_true', Bool.not_eq_false', Bool.not_not, bne_iff_ne, bne_eq_false_iff_eq, beq_eq_false_iff_ne, beq_iff_eq, ne_eq, decide_eq_true_eq, decide_eq_false_iff_not, Classical.not_not, List.length_map, List.length_take, Int.toNat_natCast, List.length_map, List.length_append, List.length_cons, List.length_nil, List.length_take] at h4
          exact absurd h4r (by simp; omega)
        ·
          have h4r := h4
          try simp only [Bool.not_eq_true', Bool.not_eq_false', Bool.not_not, bne_iff_ne, bne_eq_false_iff_eq, beq_eq_false_iff_ne, beq_iff_eq, ne_eq, decide_eq_true_eq, decide_eq_false_iff_not, Classical.not_not, List.length_map, List.length_take, Int.toNat_natCast, List.length_map, List.length_append, List.length_cons, List.length_nil, List.length_take] at h4
          refine a_skip ?_
          refine a_region (by kernel_rfl) ?_
          refine op_v' (j_add rfl rfl (by first | omega | (simp only [List.length_map, List.length_take, Int.toNat_natCast, List.length_map, List.length_append, List.length_cons, List.length_nil, List.length_take]; omega)) (by first | omega | (simp only [List.length_map, List.length_take, Int.toNat_natCast, List.length_map, List.length_append, List.length_cons, List.length_nil, List.length_take]; omega))) ?_
          refine op_v' (j_move (evo rfl)) ?_
          refine op_nil ?_
          exact ⟨0 + 1, (by first | omega | (simp only [List.length_map, List.length_take, Int.toNat_natCast, List.length_map, List.length_append, List.length_cons, List.length_nil, List.length_take]; omega)), ⟨⟨rfl, rfl⟩, ⟨rfl, trivial⟩, trivial, ⟨rfl, rfl⟩, ⟨rfl, rfl⟩⟩, (by first | omega | (simp only [List.length_map, List.length_take, Int.toNat_natCast, List.length_map, List.length_append, List.length_cons, List.length_nil, List.length_take]; omega))⟩
    ·
      have h2r := h2
      try simp only [Bool.not_eq_true', Bool.not_eq_false', Bool.not_not, bne_iff_ne, bne_eq_false_iff_eq, beq_eq_false_iff_ne, beq_iff_eq, ne_eq, decide_eq_true_eq, decide_eq_false_iff_not, Classical.not_not, List.length_map, List.length_take, Int.toNat_natCast, List.length_map, List.length_append, List.length_cons, List.length_nil, List.length_take] at h2
      refine a_exit ?_
      refine a_seq ?_
      refine a_region (by kernel_rfl) ?_
      refine op_v' (j_move (evo rfl)) ?_
      refine op_n1' (fun ver => j_call1 (v := .own 32 ver) (hp1 := [(32, some (ver, .row 3 1 _))]) [] false [] ent22 (f_cloneI [v] (Nat.le_of_ble_eq_true rfl)) ⟨.inl ⟨rfl, rfl⟩, trivial⟩ trivial rfl rfl rfl (fun h => by cases h) rfl (List.all_eq_true.1 rfl) (.inl rfl) rfl rfl) fun v32x2 => ?_
      refine op_v' (j_assign (evo rfl)) ?_
      refine op_nil ?_
      refine a_seq ?_
      refine a_region (by kernel_rfl) ?_
      refine op_v' (j_move (evo rfl)) ?_
      refine op_v0' (j_call0 (v := .tup []) (hp1 := [(32, some (v32x2, .row 3 1 _))]) [(32, v32x2)] false [32] ent23 (f_sortFunc _ v) ⟨.inl ⟨rfl, rfl⟩, .inl ⟨rfl, rfl⟩, trivial⟩ ⟨⟨rfl, rfl⟩, trivial⟩ rfl rfl (fun h => by cases h) rfl (List.all_eq_true.1 rfl) (.inl rfl) rfl rfl) ?_
      refine op_nil ?_
      refine a_seq ?_
      refine a_region (by kernel_rfl) ?_
      refine op_v' (j_build (parts := [(1, .const (.int .i64 1))]) str32 elt32 rfl rfl) ?_
      refine op_n' (fun ver => j_alloc elt32 rfl) fun v7x3 => ?_
      refine op_s' (j_storea_box0 agg32 rfl rfl rfl rfl rfl rfl) ?_
      refine op_nil ?_
      refine a_adopt_box' 0 1007 52 2 (by decide) (id := 7) rfl rfl fun v1007x4 => ?_
      refine a_seq ?_
      refine a_seq ?_
      refine a_region (by kernel_rfl) ?_
      refine op_v' (j_move (evo rfl)) ?_
      refine op_v0' (j_call0 (v := .own 32 v32x2) (hp1 := [(32, some (v32x2, .row 3 1 _))]) [(32, v32x2)] false [32] ent26 (f_compact v) ⟨.inl ⟨rfl, rfl⟩, trivial⟩ ⟨⟨rfl, rfl⟩, trivial⟩ rfl rfl (fun h => by cases h) rfl (List.all_eq_true.1 rfl) (.inl rfl) rfl rfl) ?_
      refine op_v' (j_len_own_map Try.underlying25 rfl rfl) ?_
      refine op_v' (j_move (evo rfl)) ?_
      refine op_nil ?_
      refine a_block ?_
      refine a_loopF' (ι := Nat × Nat) (fun x => x.1 ≤ 1) (fun x r => (39, .p (.int .i64 ((x.1 : Nat)))) :: r) (fun x r => (7, some (v7x3, .box 32 [.own 1007 x.2, .p (.int .i64 1)])) :: (1007, some (x.2, .row 52 2 (((unitC v).1.take x.1).map dT))) :: r) (fun x => 1 - x.1) (fun _ _ => rfl) (fun _ _ => rfl) (0, v1007x4) (by first | exact (Nat.zero_le _) | (dsimp only; exact (Nat.zero_le _))) ⟨⟨rfl, rfl⟩, ⟨rfl, trivial⟩, ⟨rfl, rfl, trivial⟩, ⟨rfl, rfl⟩, ⟨rfl, rfl⟩⟩ ?_
      rintro ⟨k, w⟩ hk; dsimp only at hk ⊢
      refine a_seq ?_
      refine a_region (by kernel_rfl) ?_
      refine op_v' (j_lt rfl rfl) ?_
      refine op_nil ?_
      refine a_seq ?_
      refine a_cond rfl (fun h5 => ?_) (fun h5 => ?_)
      ·
        have h5r := h5
        try simp only [Bool.not_eq_true', Bool.not_eq_false', Bool.not_not, bne_iff_ne, bne_eq_false_iff_eq, beq_eq_false_iff_ne, beq_iff_eq, ne_eq, decide_eq_true_eq, decide_eq_false_iff_not, Classical.not_not, List.length_map, List.length_take, Int.toNat_natCast, List.length_map, List.length_append, List.length_cons, List.length_nil, List.length_take] at h5
        refine a_skip ?_
        refine a_seq ?_
        refine a_block ?_
        refine a_seq ?_
        obtain rfl : k = 0 := by omega
        refine a_region (by kernel_rfl) ?_
        refine op_v' (j_elem_ownN slt25 rfl rfl rfl rfl (by first | omega | (simp only [List.length_map, List.length_take, Int.toNat_natCast, List.length_map, List.length_append, List.length_cons, List.length_nil, List.length_take]; omega))) ?_
        refine op_v' (j_load_pel leaf3 rfl rfl (at_map (by first | omega | (simp only [List.length_map, List.length_take, Int.toNat_natCast, List.length_map, List.length_append, List.length_cons, List.length_nil, List.length_take]; omega))) rfl) ?_
        refine op_v' (j_assign (evo rfl)) ?_
        refine op_nil ?_
        refine a_region (by kernel_rfl) ?_
        refine op_v' (j_fldp fld32f0 rfl rfl) ?_
        refine op_v' (j_load_box leaf30 rfl rfl rfl) ?_
        refine op_v' (j_move (evo rfl)) ?_
        refine op_v' (j_build (parts := [(0, .const (.int .i64 1)), (1, .tmp 45)]) str52 elt52 rfl rfl) ?_
        refine op_n' (fun ver => j_buildSlice (parts := [(0, .tmp 46)]) (es := [[_, _]]) slt30 elt52 rfl rfl (by decide) (by decide) rfl rfl (by simp) rfl) fun v47x5 => ?_
        refine op_n' (fun ver => j_append_own slt30 elt52 rfl rfl rfl rfl rfl rfl (by rw [maxLen_eq]; first | omega | (simp only [List.length_map, List.length_take, Int.toNat_natCast, List.length_map, List.length_append, List.length_cons, List.length_nil, List.length_take]; omega)) (by first | omega | (simp only [List.length_map, List.length_take, Int.toNat_natCast, List.length_map, List.length_append, List.length_cons, List.length_nil, List.length_take]; omega))) fun v1007x6 => ?_
        refine op_v' (j_fldp fld32f0 rfl rfl) ?_
        refine op_s' (j_store_box leaf30 rfl rfl (Nat.le_of_ble_eq_true rfl) (evo rfl) rfl) ?_
        refine op_nil ?_
        refine a_region (by kernel_rfl) ?_
        refine op_v' (j_add rfl rfl (by first | omega | (simp only [List.length_map, List.length_take, Int.toNat_natCast, List.length_map, List.length_append, List.length_cons, List.length_nil, List.length_take]; omega)) (by first | omega | (simp only [List.length_map, List.length_take, Int.toNat_natCast, List.length_map, List.length_append, List.length_cons, List.length_nil, List.length_take]; omega))) ?_
        refine op_v' (j_move (evo rfl)) ?_
        refine op_nil ?_
        exact ⟨(0 + 1, v1007x6), (by first | exact (by first | omega | (simp only [List.length_map, List.length_take, Int.toNat_natCast, List.length_map, List.length_append, List.length_cons, List.length_nil, List.length_take]; omega)) | (dsimp only; exact (by first | omega | (simp only [List.length_map, List.length_take, Int.toNat_natCast, List.length_map, List.length_append, List.length_cons, List.length_nil, List.length_take]; omega)))), ⟨⟨rfl, rfl⟩, ⟨rfl, trivial⟩, ⟨rfl, rfl, trivial⟩, ⟨rfl, rfl⟩, ⟨rfl, rfl⟩⟩, (by first | exact (by first | omega | (simp only [List.length_map, List.length_take, Int.toNat_natCast, List.length_map, List.length_append, List.length_cons, List.length_nil, List.length_take]; omega)) | (dsimp only; exact (by first | omega | (simp only [List.length_map, List.length_take, Int.toNat_natCast, List.length_map, List.length_append, List.length_cons, List.length_nil, List.length_take]; omega))))⟩
      ·
        have h5r := h5
        try simp only [Bool.not_eq_true', Bool.not_eq_false', Bool.not_not, bne_iff_ne, bne_eq_false_iff_eq, beq_eq_false_iff_ne, beq_iff_eq, ne_eq, decide_eq_true_eq, decide_eq_false_iff_not, Classical.not_not, List.length_map, List.length_take, Int.toNat_natCast, List.length_map, List.length_append, List.length_cons, List.length_nil, List.length_take] at h5
        refine a_exit ?_
        refine a_seq ?_
        obtain rfl : k = 1 := by omega
        refine a_freezeboxK 0 7 (by decide) trivial rfl rfl rfl rfl ?_
        try dsimp only [List.set]
        refine a_region (by kernel_rfl) ?_
        refine op_v' (j_loada_box (ys := [.sl _, .p _]) agg32 rfl rfl rfl (Nat.le_of_ble_eq_true rfl)) ?_
        refine op_s' (j_storea_box0 agg32 rfl rfl rfl rfl rfl rfl) ?_
        refine op_v' (j_assign (evo rfl)) ?_
        refine op_nil ?_
        refine a_ret ?_
        exact ⟨[.agg [.sl _, .p _], .p _], .tup [.agg [.sl _, .p _], .p _], [], [], [], ⟨⟨_, _, _, _, rfl, rfl, agg32, rfl⟩, rfl, trivial⟩, rfl, rfl, trivial, rfl, rfl, ⟨rfl, rfl, rfl⟩⟩


theorem f_dCS (b : List Int) (hb : ∀ a ∈ b, 0 ≤ a ∧ a ≤ 255) : Fn Try.prog 12 [.sl (b.map dU)] [] (fun rr ii nn => ∃ x : List Con, (okP x 14 15) ∧ rr = .sl (x.map dC) ∧ ii = [] ∧ nn = []) := by
  refine fn_of Try.func12 rfl (Nat.le_of_ble_eq_true rfl) fun w X g => ?_
  show AWp _ _ _ ⟨[(0, .sl (b.map dU))], []⟩
  refine a_seq ?_
  refine a_region (by kernel_rfl) ?_
  refine op_v' (j_assign (evo rfl)) ?_
  refine op_nil ?_
  refine a_seq ?_
  refine a_region (by kernel_rfl) ?_
  refine op_v' (j_move (evo rfl)) ?_
  refine op_n1' (fun ver => j_call1 (v := .ptr 5 ver 0) (hp1 := [(5, some (ver, .box 75 [.sl _, .p _]))]) [] false [] ent31 (f_open _) ⟨.inl ⟨rfl, rfl⟩, trivial⟩ trivial rfl rfl rfl (fun h => by cases h) rfl (List.all_eq_true.1 rfl) (.inl rfl) rfl rfl) fun v5x1 => ?_
  refine op_v' (j_assign (evo rfl)) ?_
  refine op_nil ?_
  refine a_seq ?_
  have hbt := okB_take (Nat.le_refl _) hb
  refine a_region (by kernel_rfl) ?_
  refine op_v' (j_move (evo rfl)) ?_
  refine op_v' (j_move (evo rfl)) ?_
  refine op_callE1 (v := fun x ver => .own 8 ver) (hp1 := fun x ver => [(5, some (v5x1, .box 75 [.sl _, .p _])), (8, some (ver, .row 32 2 _))]) [(5, v5x1)] false ent33 (f_l5Hard (b.take 2000) 0 hbt (by decide)) ⟨.inl ⟨rfl, rfl⟩, trivial⟩ ⟨⟨rfl, rfl⟩, trivial⟩ rfl rfl (fun _ => rfl) (fun _ => rfl) (.inl rfl) (fun _ _ => rfl) (fun _ _ => rfl) ?_
  rintro ⟨l8, p8⟩ ⟨ho8, hp8⟩ v8x2
  try dsimp only at ho8
  try dsimp only at hp8
  dsimp only [List.cons_append, List.nil_append]
  refine op_freezeK 8 trivial rfl rfl rfl ?_
  refine op_callE (v := fun x => .sl _) (hp1 := fun x => [(5, some (v5x1, .box 75 [.sl _, .p _]))]) [(5, v5x1)] false ent32 (f_l3Mut (b.take 2000) p8 l8 14 12 hbt (by omega) ho8 (by decide) (by decide)) ⟨.inl ⟨rfl, rfl⟩, .inl ⟨rfl, rfl⟩, trivial⟩ ⟨⟨rfl, rfl⟩, trivial⟩ rfl (fun _ => rfl) (fun _ => rfl) (.inl rfl) (fun _ => rfl) (fun _ => rfl) ?_
  rintro ⟨l9, p9⟩ ⟨ho9, hl9, hp9⟩
  try dsimp only at ho9
  try dsimp only at hl9
  try dsimp only at hp9
  dsimp only [List.cons_append, List.nil_append]
  refine op_v' (j_assign (evo rfl)) ?_
  refine op_nil ?_
  refine a_ret ?_
  exact ⟨[.sl _], .sl _, [], [], [], ⟨rfl, trivial⟩, rfl, rfl, trivial, rfl, rfl, ⟨l9, ho9, rfl, rfl, rfl⟩⟩


theorem f_dFail (b : List Int) (hb : ∀ a ∈ b, 0 ≤ a ∧ a ≤ 255) : Fn Try.prog 4 [.sl (b.map dU)] [] (fun rr ii nn => ∃ x : List Con, (okP x 14 15) ∧ rr = .sl (x.map dC) ∧ ii = [] ∧ nn = []) := by
  refine fn_of Try.func4 rfl (Nat.le_of_ble_eq_true rfl) fun w X g => ?_
  show AWp _ _ _ ⟨[(0, .sl (b.map dU))], []⟩
  refine a_seq ?_
  refine a_region (by kernel_rfl) ?_
  refine op_v' (j_assign (evo rfl)) ?_
  refine op_nil ?_
  refine a_seq ?_
  refine a_region (by kernel_rfl) ?_
  refine op_v' (j_move (evo rfl)) ?_
  refine op_callE (v := fun x => .sl _) (hp1 := fun x => []) [] false ent12 (f_dCS b hb) ⟨.inl ⟨rfl, rfl⟩, trivial⟩ trivial rfl (fun _ => rfl) (fun _ => rfl) (.inl rfl) (fun _ => rfl) (fun _ => rfl) ?_
  rintro l4 ho4
  try dsimp only at ho4
  dsimp only [List.cons_append, List.nil_append]
  refine op_v' (j_assign (evo rfl)) ?_
  refine op_nil ?_
  refine a_ret ?_
  exact ⟨[.sl _], .sl _, [], [], [], ⟨rfl, trivial⟩, rfl, rfl, trivial, rfl, rfl, ⟨l4, ho4, rfl, rfl, rfl⟩⟩


theorem f_lawFLs (b1 b2 : List Int) (hb1 : ∀ a ∈ b1, 0 ≤ a ∧ a ≤ 255) (hb2 : ∀ a ∈ b2, 0 ≤ a ∧ a ≤ 255) : Fn Try.prog 3 [.sl (b1.map dU), .sl (b2.map dU)] [] (fun rr ii nn => rr = .p (.bool true) ∧ ii = [] ∧ nn = []) := by
  refine fn_of Try.func3 rfl (Nat.le_of_ble_eq_true rfl) fun w X g => ?_
  show AWp _ _ _ ⟨[(0, .sl (b1.map dU)), (1, .sl (b2.map dU))], []⟩
  refine a_seq ?_
  refine a_region (by kernel_rfl) ?_
  refine op_v' (j_assign (evo rfl)) ?_
  refine op_nil ?_
  refine a_seq ?_
  refine a_seq ?_
  refine a_region (by kernel_rfl) ?_
  refine op_v' (j_move (evo rfl)) ?_
  refine op_v' (j_len_map Try.underlying22 rfl) ?_
  refine op_v' (j_gt rfl rfl) ?_
  refine op_v' (j_move (evo rfl)) ?_
  refine op_split' 15 rfl (fun h1 => ?_) (fun h1 => ?_)
  ·
    have h1r := h1
    try simp only [Bool.not_eq_true', Bool.not_eq_false', Bool.not_not, bne_iff_ne, bne_eq_false_iff_eq, beq_eq_false_iff_ne, beq_iff_eq, ne_eq, decide_eq_true_eq, decide_eq_false_iff_not, Classical.not_not, List.length_map, List.length_take, Int.toNat_natCast, List.length_map] at h1
    refine op_v' (j_unwantV rfl rfl h1r) ?_
    refine op_v' (j_unwantV rfl rfl h1r) ?_
    refine op_v' (j_unwantV rfl rfl h1r) ?_
    refine op_v' (j_pick_t rfl h1r (evo rfl)) ?_
    refine op_nil ?_
    refine a_tt rfl ?_
    refine a_seq ?_
    refine a_region (by kernel_rfl) ?_
    refine op_v' (j_assign (evo rfl)) ?_
    refine op_nil ?_
    refine a_ret ?_
    exact ⟨[.p _], .p _, [], [], [], ⟨rfl, trivial⟩, rfl, rfl, trivial, rfl, rfl, ⟨rfl, rfl, rfl⟩⟩
  ·
    have h1r := h1
    try simp only [Bool.not_eq_true', Bool.not_eq_false', Bool.not_not, bne_iff_ne, bne_eq_false_iff_eq, beq_eq_false_iff_ne, beq_iff_eq, ne_eq, decide_eq_true_eq, decide_eq_false_iff_not, Classical.not_not, List.length_map, List.length_take, Int.toNat_natCast, List.length_map] at h1
    refine op_v' (j_want rfl rfl h1r (j_move (evo rfl))) ?_
    refine op_v' (j_want rfl rfl h1r (j_len_map Try.underlying22 rfl)) ?_
    refine op_v' (j_want rfl rfl h1r (j_gt rfl rfl)) ?_
    refine op_v' (j_pick_f rfl h1r (evo rfl)) ?_
    refine op_nil ?_
    refine a_cond rfl (fun h2 => ?_) (fun h2 => ?_)
    ·
      have h2r := h2
      try simp only [Bool.not_eq_true', Bool.not_eq_false', Bool.not_not, bne_iff_ne, bne_eq_false_iff_eq, beq_eq_false_iff_ne, beq_iff_eq, ne_eq, decide_eq_true_eq, decide_eq_false_iff_not, Classical.not_not, List.length_map, List.length_take, Int.toNat_natCast, List.length_map] at h2
      refine a_seq ?_
      refine a_region (by kernel_rfl) ?_
      refine op_v' (j_assign (evo rfl)) ?_
      refine op_nil ?_
      refine a_ret ?_
      exact ⟨[.p _], .p _, [], [], [], ⟨rfl, trivial⟩, rfl, rfl, trivial, rfl, rfl, ⟨rfl, rfl, rfl⟩⟩
    ·
      have h2r := h2
      try simp only [Bool.not_eq_true', Bool.not_eq_false', Bool.not_not, bne_iff_ne, bne_eq_false_iff_eq, beq_eq_false_iff_ne, beq_iff_eq, ne_eq, decide_eq_true_eq, decide_eq_false_iff_not, Classical.not_not, List.length_map, List.length_take, Int.toNat_natCast, List.length_map] at h2
      refine a_skip ?_
      refine a_seq ?_
      refine a_region (by kernel_rfl) ?_
      refine op_v' (j_move (evo rfl)) ?_
      refine op_callE (v := fun x => .sl _) (hp1 := fun x => []) [] false ent4 (f_dFail b1 hb1) ⟨.inl ⟨rfl, rfl⟩, trivial⟩ trivial rfl (fun _ => rfl) (fun _ => rfl) (.inl rfl) (fun _ => rfl) (fun _ => rfl) ?_
      rintro l21 ho21
      try dsimp only at ho21
      dsimp only [List.cons_append, List.nil_append]
      refine op_v' (j_assign (evo rfl)) ?_
      refine op_nil ?_
      refine a_seq ?_
      refine a_region (by kernel_rfl) ?_
      refine op_v' (j_move (evo rfl)) ?_
      refine op_n1' (fun ver => j_call1 (v := .own 23 ver) (hp1 := [(23, some (ver, .row 3 1 _))]) [] false [] ent5 (f_failImpl l21) ⟨.inl ⟨rfl, rfl⟩, trivial⟩ trivial rfl rfl rfl (fun h => by cases h) rfl (List.all_eq_true.1 rfl) (.inl rfl) rfl rfl) fun v23x1 => ?_
      refine op_v' (j_assign (evo rfl)) ?_
      refine op_nil ?_
      refine a_seq ?_
      refine a_seq ?_
      refine a_region (by kernel_rfl) ?_
      refine op_v' (j_move (evo rfl)) ?_
      refine op_v' (j_move (evo rfl)) ?_
      refine op_n1' (fun ver => j_call1 (v := .own 26 ver) (hp1 := [(26, some (ver, .row 3 1 _))]) [] false [] ent7 (f_failSpec l21) ⟨.inl ⟨rfl, rfl⟩, trivial⟩ trivial rfl rfl rfl (fun h => by cases h) rfl (List.all_eq_true.1 rfl) (.inl rfl) rfl rfl) fun v26x2 => ?_
      refine op_freezeK 26 trivial rfl rfl rfl ?_
      refine op_v0' (j_call0 (v := .p _) (hp1 := []) [] true [23] ent6 (f_cpInts (failL l21) (failL l21)) ⟨.inr ⟨rfl, view_own rfl rfl, rfl⟩, .inl ⟨rfl, rfl⟩, trivial⟩ trivial rfl rfl (fun _ => rfl) rfl (fun _ h => by cases h) (.inr ⟨rfl, by first | exact pl_new1 (fun _ => rfl) | exact pl_newC | (simp [plO, plV, plV.plL]; done)⟩) rfl rfl) ?_
      refine op_v' (j_not rfl) ?_
      refine op_v' (j_move (evo rfl)) ?_
      refine op_split' 29 rfl (fun h3 => ?_) (fun h3 => ?_)
      ·
        have h3r := h3
        try simp only [Bool.not_eq_true', Bool.not_eq_false', Bool.not_not, bne_iff_ne, bne_eq_false_iff_eq, beq_eq_false_iff_ne, beq_iff_eq, ne_eq, decide_eq_true_eq, decide_eq_false_iff_not, Classical.not_not, List.length_map, List.length_take, Int.toNat_natCast, List.length_map] at h3
        refine op_v' (j_unwantV rfl rfl h3r) ?_
        refine op_v' (j_unwantV rfl rfl h3r) ?_
        refine op_v' (j_unwantV rfl rfl h3r) ?_
        refine op_v' (j_pick_t rfl h3r (evo rfl)) ?_
        refine op_nil ?_
        refine a_tt rfl ?_
        refine a_seq ?_
        refine a_region (by kernel_rfl) ?_
        refine op_v' (j_move (evo rfl)) ?_
        refine op_v' (j_move (evo rfl)) ?_
        refine op_n1' (fun ver => j_call1 (v := .own 36 ver) (hp1 := [(36, some (ver, .row 3 1 _))]) [] false [] ent7 (f_failSpec l21) ⟨.inl ⟨rfl, rfl⟩, trivial⟩ trivial rfl rfl rfl (fun h => by cases h) rfl (List.all_eq_true.1 rfl) (.inl rfl) rfl rfl) fun v36x3 => ?_
        refine op_freezeK 36 trivial rfl rfl rfl ?_
        refine op_v0' (j_call0 (v := .p _) (hp1 := []) [] true [23] ent6 (f_cpInts (failL l21) (failL l21)) ⟨.inr ⟨rfl, view_own rfl rfl, rfl⟩, .inl ⟨rfl, rfl⟩, trivial⟩ trivial rfl rfl (fun _ => rfl) rfl (fun _ h => by cases h) (.inr ⟨rfl, by first | exact pl_new1 (fun _ => rfl) | exact pl_newC | (simp [plO, plV, plV.plL]; done)⟩) rfl rfl) ?_
        refine op_v' (j_assign (evo rfl)) ?_
        refine op_nil ?_
        refine a_ret ?_
        exact ⟨[.p _], .p _, [], [], [], ⟨rfl, trivial⟩, rfl, rfl, trivial, rfl, rfl, ⟨boolEq (decide_eq_true rfl), rfl, rfl⟩⟩
      ·
        have h3r := h3
        try simp only [Bool.not_eq_true', Bool.not_eq_false', Bool.not_not, bne_iff_ne, bne_eq_false_iff_eq, beq_eq_false_iff_ne, beq_iff_eq, ne_eq, decide_eq_true_eq, decide_eq_false_iff_not, Classical.not_not, List.length_map, List.length_take, Int.toNat_natCast, List.length_map] at h3
        refine op_v' (j_want rfl rfl h3r (j_move (evo rfl))) ?_
        refine op_v' (j_want rfl rfl h3r (j_len_own_map Try.underlying25 rfl rfl)) ?_
        refine op_v' (j_want rfl rfl h3r (j_eq rfl rfl)) ?_
        refine op_v' (j_pick_f rfl h3r (evo rfl)) ?_
        refine op_nil ?_
        refine a_cond rfl (fun h4 => ?_) (fun h4 => ?_)
        ·
          have h4r := h4
          try simp only [Bool.not_eq_true', Bool.not_eq_false', Bool.not_not, bne_iff_ne, bne_eq_false_iff_eq, beq_eq_false_iff_ne, beq_iff_eq, ne_eq, decide_eq_true_eq, decide_eq_false_iff_not, Classical.not_not, List.length_map, List.length_take, Int.toNat_natCast, List.length_map] at h4
          refine a_seq ?_
          refine a_region (by kernel_rfl) ?_
          refine op_v' (j_move (evo rfl)) ?_
          refine op_v' (j_move (evo rfl)) ?_
          refine op_n1' (fun ver => j_call1 (v := .own 36 ver) (hp1 := [(36, some (ver, .row 3 1 _))]) [] false [] ent7 (f_failSpec l21) ⟨.inl ⟨rfl, rfl⟩, trivial⟩ trivial rfl rfl rfl (fun h => by cases h) rfl (List.all_eq_true.1 rfl) (.inl rfl) rfl rfl) fun v36x4 => ?_
          refine op_freezeK 36 trivial rfl rfl rfl ?_
          refine op_v0' (j_call0 (v := .p _) (hp1 := []) [] true [23] ent6 (f_cpInts (failL l21) (failL l21)) ⟨.inr ⟨rfl, view_own rfl rfl, rfl⟩, .inl ⟨rfl, rfl⟩, trivial⟩ trivial rfl rfl (fun _ => rfl) rfl (fun _ h => by cases h) (.inr ⟨rfl, by first | exact pl_new1 (fun _ => rfl) | exact pl_newC | (simp [plO, plV, plV.plL]; done)⟩) rfl rfl) ?_
          refine op_v' (j_assign (evo rfl)) ?_
          refine op_nil ?_
          refine a_ret ?_
          exact ⟨[.p _], .p _, [], [], [], ⟨rfl, trivial⟩, rfl, rfl, trivial, rfl, rfl, ⟨boolEq (decide_eq_true rfl), rfl, rfl⟩⟩
        ·
          have h4r := h4
          try simp only [Bool.not_eq_true', Bool.not_eq_false', Bool.not_not, bne_iff_ne, bne_eq_false_iff_eq, beq_eq_false_iff_ne, beq_iff_eq, ne_eq, decide_eq_true_eq, decide_eq_false_iff_not, Classical.not_not, List.length_map, List.length_take, Int.toNat_natCast, List.length_map] at h4
          refine a_skip ?_
          refine a_seq ?_
          have hfl0 : 0 < (failL l21).length := by omega
          have hml := Nat.mod_lt b2.length hfl0
          refine a_region (by kernel_rfl) ?_
          refine op_v' (j_move (evo rfl)) ?_
          refine op_v' (j_move (evo rfl)) ?_
          refine op_v' (j_len_map Try.underlying22 rfl) ?_
          refine op_v' (j_move (evo rfl)) ?_
          refine op_v' (j_len_own_map Try.underlying25 rfl rfl) ?_
          refine op_v' (j_rem rfl rfl (by first | omega | (simp only [List.length_map, List.length_take, Int.toNat_natCast, List.length_map]; omega)) (by first | omega | (simp only [List.length_map, List.length_take, Int.toNat_natCast, List.length_map]; omega))) ?_
          refine op_v' (j_elem_ownN (n := b2.length % (failL l21).length) slt25 rfl rfl rfl (by first | omega | (simp only [List.length_map, List.length_take, Int.toNat_natCast, List.length_map]; omega)) (by first | omega | (simp only [List.length_map, List.length_take, Int.toNat_natCast, List.length_map]; omega))) ?_
          refine op_v' (j_load_pel leaf3 rfl rfl (at_map (by first | omega | (simp only [List.length_map, List.length_take, Int.toNat_natCast, List.length_map]; omega))) rfl) ?_
          refine op_v' (j_assign (evo rfl)) ?_
          refine op_nil ?_
          refine a_seq ?_
          have hff := fail_facts (l := l21) (m := ((failL l21).getD (b2.length % (failL l21).length) default)) (getD_mem hml)
          have hli := litOk_iff.1 hff.2.1
          refine a_region (by kernel_rfl) ?_
          refine op_v' (j_move (evo rfl)) ?_
          refine op_v' (j_move (evo rfl)) ?_
          refine op_v0' (j_call0 (v := .tup [.sl _, .p _]) (hp1 := []) [] false [] ent8 (f_flImpl l21 ((failL l21).getD (b2.length % (failL l21).length) default)) ⟨.inl ⟨rfl, rfl⟩, .inl ⟨rfl, rfl⟩, trivial⟩ trivial rfl rfl (fun h => by cases h) rfl (fun _ h => by cases h) (.inl rfl) rfl rfl) ?_
          refine op_v' (j_move (evo rfl)) ?_
          refine op_v' (j_extract rfl rfl) ?_
          refine op_v' (j_extract rfl rfl) ?_
          refine op_v' (j_assign (evo rfl)) ?_
          refine op_v' (j_assign (evo rfl)) ?_
          refine op_nil ?_
          refine a_seq ?_
          refine a_region (by kernel_rfl) ?_
          refine op_v' (j_move (evo rfl)) ?_
          refine op_v' (j_neg rfl (by first | omega | (simp only [List.length_map, List.length_take, Int.toNat_natCast, List.length_map]; omega)) (by first | omega | (simp only [List.length_map, List.length_take, Int.toNat_natCast, List.length_map]; omega))) ?_
          refine op_n' (fun ver => j_buildSlice (parts := [(0, .tmp 54)]) (es := [[_]]) slt25 elt3 rfl rfl (by decide) (by decide) rfl rfl (by simp) rfl) fun v55x5 => ?_
          refine op_freezeK 55 trivial rfl rfl rfl ?_
          refine op_v0' (j_call0 (v := .tup [.agg [.sl _, .p _], .p _]) (hp1 := []) [] false [] ent9 (f_clause1 (-((failL l21).getD (b2.length % (failL l21).length) default)) (litOk_opp hff.2.1)) ⟨.inl ⟨rfl, rfl⟩, trivial⟩ trivial rfl rfl (fun h => by cases h) rfl (fun _ h => by cases h) (.inl rfl) rfl rfl) ?_
          refine op_v' (j_move (evo rfl)) ?_
          refine op_v' (j_extract rfl rfl) ?_
          refine op_v' (j_extract rfl rfl) ?_
          refine op_n' (fun ver => j_alloc elt32 rfl) fun v10x6 => ?_
          refine op_s' (j_storea_box0 agg32 rfl rfl rfl rfl rfl rfl) ?_
          refine op_v' (j_assign (evo rfl)) ?_
          refine op_nil ?_
          refine a_seq ?_
          refine a_region (by kernel_rfl) ?_
          refine op_v' (j_move (evo rfl)) ?_
          refine op_v' (j_move (evo rfl)) ?_
          refine op_split' 60 rfl (fun h5 => ?_) (fun h5 => ?_)
          ·
            have h5r := h5
            try simp only [Bool.not_eq_true', Bool.not_eq_false', Bool.not_not, bne_iff_ne, bne_eq_false_iff_eq, beq_eq_false_iff_ne, beq_iff_eq, ne_eq, decide_eq_true_eq, decide_eq_false_iff_not, Classical.not_not, List.length_map, List.length_take, Int.toNat_natCast, List.length_map] at h5
            refine op_v' (j_want rfl rfl h5r (j_move (evo rfl))) ?_
            refine op_v' (j_pick_t rfl h5r (evo rfl)) ?_
            refine op_v' (j_move (evo rfl)) ?_
            refine op_split' 63 rfl (fun h6 => ?_) (fun h6 => ?_)
            ·
              have h6r := h6
              try simp only [Bool.not_eq_true', Bool.not_eq_false', Bool.not_not, bne_iff_ne, bne_eq_false_iff_eq, beq_eq_false_iff_ne, beq_iff_eq, ne_eq, decide_eq_true_eq, decide_eq_false_iff_not, Classical.not_not, List.length_map, List.length_take, Int.toNat_natCast, List.length_map] at h6
              refine op_v' (j_want rfl rfl h6r (j_move (evo rfl))) ?_
              refine op_v0' (j_want rfl rfl h6r (j_call0 (v := .p _) (hp1 := []) [] false [] ent10 (f_csImpl (flL l21 ((failL l21).getD (b2.length % (failL l21).length) default))) ⟨.inl ⟨rfl, rfl⟩, trivial⟩ trivial rfl rfl (fun h => by cases h) rfl (fun _ h => by cases h) (.inl rfl) rfl rfl)) ?_
              refine op_v' (j_want rfl rfl h6r (j_eq rfl rfl)) ?_
              refine op_v' (j_pick_t rfl h6r (evo rfl)) ?_
              refine op_v' (j_move (evo rfl)) ?_
              refine op_split' 68 rfl (fun h7 => ?_) (fun h7 => ?_)
              ·
                have h7r := h7
                try simp only [Bool.not_eq_true', Bool.not_eq_false', Bool.not_not, bne_iff_ne, bne_eq_false_iff_eq, beq_eq_false_iff_ne, beq_iff_eq, ne_eq, decide_eq_true_eq, decide_eq_false_iff_not, Classical.not_not, List.length_map, List.length_take, Int.toNat_natCast, List.length_map] at h7
                refine op_v' (j_want rfl rfl h7r (j_move (evo rfl))) ?_
                refine op_v' (j_want rfl rfl h7r (j_loada_box (ys := [.sl _, .p _]) agg32 rfl rfl rfl (Nat.le_of_ble_eq_true rfl))) ?_
                refine op_v0' (j_want rfl rfl h7r (j_call0 (v := .p _) (hp1 := []) [] false [] ent11 (f_rupC l21 (unitC (-((failL l21).getD (b2.length % (failL l21).length) default)))) ⟨.inl ⟨rfl, rfl⟩, .inl ⟨rfl, rfl⟩, trivial⟩ trivial rfl rfl (fun h => by cases h) rfl (fun _ h => by cases h) (.inl rfl) rfl rfl)) ?_
                refine op_v' (j_pick_t rfl h7r (evo rfl)) ?_
                refine op_v' (j_assign (evo rfl)) ?_
                refine op_nil ?_
                refine a_ret ?_
                exact ⟨[.p _], .p _, [], [], [], ⟨rfl, trivial⟩, rfl, rfl, trivial, rfl, rfl, ⟨boolEq (by first | exact hff.2.2.2.2 | (simp_all; done)), rfl, rfl⟩⟩
              ·
                have h7r := h7
                try simp only [Bool.not_eq_true', Bool.not_eq_false', Bool.not_not, bne_iff_ne, bne_eq_false_iff_eq, beq_eq_false_iff_ne, beq_iff_eq, ne_eq, decide_eq_true_eq, decide_eq_false_iff_not, Classical.not_not, List.length_map, List.length_take, Int.toNat_natCast, List.length_map] at h7
                exact absurd h7r (by first | decide | (rw [hff.2.2.1]; decide))
            ·
              have h6r := h6
              try simp only [Bool.not_eq_true', Bool.not_eq_false', Bool.not_not, bne_iff_ne, bne_eq_false_iff_eq, beq_eq_false_iff_ne, beq_iff_eq, ne_eq, decide_eq_true_eq, decide_eq_false_iff_not, Classical.not_not, List.length_map, List.length_take, Int.toNat_natCast, List.length_map] at h6
              exact absurd h6r (by first | decide | (rw [hff.2.2.2.1]; decide))
          ·
            have h5r := h5
            try simp only [Bool.not_eq_true', Bool.not_eq_false', Bool.not_not, bne_iff_ne, bne_eq_false_iff_eq, beq_eq_false_iff_ne, beq_iff_eq, ne_eq, decide_eq_true_eq, decide_eq_false_iff_not, Classical.not_not, List.length_map, List.length_take, Int.toNat_natCast, List.length_map] at h5
            exact absurd h5r (by first | decide | (rw [hff.2.2.2.1]; decide))


end Go.Ab

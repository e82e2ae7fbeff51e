/- Walks. -/
import Derived.Test.YtikknnpdiahnoaaBase
import Derived.Test.YtikknnpdiahnoaaMod3
import Derived.Test.YtikknnpdiahnoaaWsmod2
import Derived.Test.YtikknnpdiahnoaaWsexcl
import Derived.Test.YtikknnpdiahnoaaWsparse
import Derived.Test.YtikknnpdiahnoaaWsvals
namespace Go.Ab
open Go.Proofs
set_option maxRecDepth 100000
set_option maxHeartbeats 8000000
set_option linter.unusedSimpArgs false
set_option linter.unusedVariables false
theorem f_szIntS (ns : List Int) (n : Int) (hn : 0 ≤ n ∧ n ≤ 4611686018427387904) : Fn Try.prog 100 [.sl (ns.map dI), .p (.int .i64 (n))] [] (fun rr ii nn => rr = .p (.int .i64 (szv ns.length n)) ∧ ii = [] ∧ nn = []) := by
  refine fn_of Try.func100 rfl (Nat.le_of_ble_eq_true rfl) fun w X g => ?_
  show AWp _ _ _ ⟨[(0, .sl (ns.map dI)), (1, .p (.int .i64 (n)))], []⟩
  refine a_len_map 0 rfl fun hla => ?_
  refine a_seq ?_
  refine a_region (by kernel_rfl) ?_
  refine op_v' (j_assign (evo rfl)) ?_
  refine op_nil ?_
  refine a_seq ?_
  refine a_region (by kernel_rfl) ?_
  refine op_v' (j_move (evo rfl)) ?_
  refine op_v' (j_move (evo rfl)) ?_
  refine op_v' (j_len_map Try.underlying23 rfl) ?_
  refine op_v' (j_sub rfl rfl (by omega) (by omega)) ?_
  refine op_v' (j_assign (evo rfl)) ?_
  refine op_nil ?_
  refine a_seq ?_
  refine a_seq ?_
  refine a_region (by kernel_rfl) ?_
  refine op_v' (j_move (evo rfl)) ?_
  refine op_v' (j_lt rfl rfl) ?_
  refine op_nil ?_
  refine a_cond rfl (fun h1 => ?_) (fun h1 => ?_)
  ·
    have h1r := h1
    try simp only [Bool.not_eq_true', Bool.not_eq_false', Bool.not_not, bne_iff_ne, bne_eq_false_iff_eq, beq_eq_false_iff_ne, beq_iff_eq, ne_eq, decide_eq_true_eq, decide_eq_false_iff_not, Classical.not_not, List.length_map, List.length_take, Int.toNat_natCast] at h1
    refine a_seq ?_
    refine a_region (by kernel_rfl) ?_
    refine op_v' (j_assign (evo rfl)) ?_
    refine op_nil ?_
    refine a_ret ?_
    exact ⟨[.p _], .p _, [], [], [], ⟨rfl, trivial⟩, rfl, rfl, trivial, rfl, rfl, ⟨intEq (by unfold szv; split <;> omega), rfl, rfl⟩⟩
  ·
    have h1r := h1
    try simp only [Bool.not_eq_true', Bool.not_eq_false', Bool.not_not, bne_iff_ne, bne_eq_false_iff_eq, beq_eq_false_iff_ne, beq_iff_eq, ne_eq, decide_eq_true_eq, decide_eq_false_iff_not, Classical.not_not, List.length_map, List.length_take, Int.toNat_natCast] at h1
    refine a_skip ?_
    refine a_seq ?_
    refine a_region (by kernel_rfl) ?_
    refine op_v' (j_move (evo rfl)) ?_
    refine op_v' (j_assign (evo rfl)) ?_
    refine op_nil ?_
    refine a_ret ?_
    exact ⟨[.p _], .p _, [], [], [], ⟨rfl, trivial⟩, rfl, rfl, trivial, rfl, rfl, ⟨intEq (by unfold szv; split <;> omega), rfl, rfl⟩⟩


theorem f_szIntSS (xs : List (List Int)) (n : Int) (hn : 0 ≤ n ∧ n ≤ 4611686018427387904) : Fn Try.prog 145 [.sl (xs.map dL), .p (.int .i64 (n))] [] (fun rr ii nn => rr = .p (.int .i64 (szv (wLL xs) n)) ∧ ii = [] ∧ nn = []) := by
  refine fn_of Try.func145 rfl (Nat.le_of_ble_eq_true rfl) fun w X g => ?_
  show AWp _ _ _ ⟨[(0, .sl (xs.map dL)), (1, .p (.int .i64 (n)))], []⟩
  refine a_len_map 0 rfl fun hla => ?_
  refine a_seq ?_
  refine a_region (by kernel_rfl) ?_
  refine op_v' (j_assign (evo rfl)) ?_
  refine op_nil ?_
  refine a_seq ?_
  refine a_region (by kernel_rfl) ?_
  refine op_v' (j_move (evo rfl)) ?_
  refine op_v' (j_move (evo rfl)) ?_
  refine op_v' (j_len_map Try.underlying41 rfl) ?_
  refine op_v' (j_sub rfl rfl (by first | omega | (simp only [List.length_map, List.length_take, Int.toNat_natCast, List.length_map]; omega)) (by first | omega | (simp only [List.length_map, List.length_take, Int.toNat_natCast, List.length_map]; omega))) ?_
  refine op_v' (j_assign (evo rfl)) ?_
  refine op_nil ?_
  refine a_seq ?_
  refine a_seq ?_
  refine a_region (by kernel_rfl) ?_
  refine op_v' (j_move (evo rfl)) ?_
  refine op_v' (j_lt rfl rfl) ?_
  refine op_nil ?_
  refine a_cond rfl (fun h1 => ?_) (fun h1 => ?_)
  ·
    have h1r := h1
    try simp only [Bool.not_eq_true', Bool.not_eq_false', Bool.not_not, bne_iff_ne, bne_eq_false_iff_eq, beq_eq_false_iff_ne, beq_iff_eq, ne_eq, decide_eq_true_eq, decide_eq_false_iff_not, Classical.not_not, List.length_map, List.length_take, Int.toNat_natCast, List.length_map] at h1
    refine a_seq ?_
    refine a_region (by kernel_rfl) ?_
    refine op_v' (j_assign (evo rfl)) ?_
    refine op_nil ?_
    refine a_ret ?_
    exact ⟨[.p _], .p _, [], [], [], ⟨rfl, trivial⟩, rfl, rfl, trivial, rfl, rfl, ⟨intEq (by have hT := szv_cases (n := wLL xs) (k := n); have hw : wLL xs = xs.length + sumW List.length xs := rfl; omega), rfl, rfl⟩⟩
  ·
    have h1r := h1
    try simp only [Bool.not_eq_true', Bool.not_eq_false', Bool.not_not, bne_iff_ne, bne_eq_false_iff_eq, beq_eq_false_iff_ne, beq_iff_eq, ne_eq, decide_eq_true_eq, decide_eq_false_iff_not, Classical.not_not, List.length_map, List.length_take, Int.toNat_natCast, List.length_map] at h1
    refine a_skip ?_
    refine a_seq ?_
    refine a_seq ?_
    refine a_region (by kernel_rfl) ?_
    refine op_v' (j_assign (evo rfl)) ?_
    refine op_nil ?_
    refine a_block ?_
    refine a_loopF' (ι := Nat) (fun k => k ≤ xs.length ∧ (xs.length : Int) + (sumW List.length (xs.take k) : Nat) ≤ n) (fun k r => (5, .p (.int .i64 ((k : Nat)))) :: (1, .p (.int .i64 (n - xs.length - (sumW List.length (xs.take k) : Nat)))) :: r) (fun k r => r) (fun k => xs.length - k) (fun _ _ => rfl) (fun _ _ => rfl) 0 ⟨Nat.zero_le _, by simp [sumW]; omega⟩ ⟨⟨rfl, rfl⟩, ⟨rfl, intEq (by simp [sumW]), trivial⟩, trivial, ⟨rfl, rfl⟩, ⟨rfl, rfl⟩⟩ ?_
    intro k hk
    refine a_seq ?_
    refine a_seq ?_
    refine a_region (by kernel_rfl) ?_
    refine op_v' (j_move (evo rfl)) ?_
    refine op_v' (j_move (evo rfl)) ?_
    refine op_v' (j_len_map Try.underlying41 rfl) ?_
    refine op_v' (j_lt rfl rfl) ?_
    refine op_nil ?_
    refine a_cond rfl (fun h2 => ?_) (fun h2 => ?_)
    ·
      have h2r := h2
      try simp only [Bool.not_eq_true', Bool.not_eq_false', Bool.not_not, bne_iff_ne, bne_eq_false_iff_eq, beq_eq_false_iff_ne, beq_iff_eq, ne_eq, decide_eq_true_eq, decide_eq_false_iff_not, Classical.not_not, List.length_map, List.length_take, Int.toNat_natCast, List.length_map] at h2
      refine a_skip ?_
      refine a_seq ?_
      refine a_block ?_
      refine a_seq ?_
      refine a_region (by kernel_rfl) ?_
      refine op_v' (j_move (evo rfl)) ?_
      refine op_v' (j_move (evo rfl)) ?_
      refine op_v' (j_elemN slt41 rfl rfl rfl (at_map (by first | omega | (simp only [List.length_map, List.length_take, Int.toNat_natCast, List.length_map]; omega))) rfl) ?_
      refine op_v' (j_load_el leaf23 rfl (at_map (by first | omega | (simp only [List.length_map, List.length_take, Int.toNat_natCast, List.length_map]; omega))) rfl) ?_
      refine op_v' (j_move (evo rfl)) ?_
      refine op_v0' (j_call0 (v := .p _) (hp1 := []) [] false [] ent100 (f_szIntS (xs.getD k default) _ (by omega)) ⟨.inl ⟨rfl, rfl⟩, .inl ⟨rfl, rfl⟩, trivial⟩ trivial rfl rfl (fun h => by cases h) rfl (fun _ h => by cases h) (.inl rfl) rfl rfl) ?_
      refine op_v' (j_assign (evo rfl)) ?_
      refine op_nil ?_
      refine a_seq ?_
      have hs1 := szv_cases (n := List.length (xs.getD k default)) (k := n - xs.length - (sumW List.length (xs.take k) : Nat))
      have hs2 := sumW_take (w := List.length) (d := default) (l := xs) (k := k) (by omega)
      have hs3 := sumW_le (w := List.length) (l := xs) (k := k + 1)
      refine a_region (by kernel_rfl) ?_
      refine op_v' (j_move (evo rfl)) ?_
      refine op_v' (j_lt rfl rfl) ?_
      refine op_nil ?_
      refine a_cond rfl (fun h3 => ?_) (fun h3 => ?_)
      ·
        have h3r := h3
        try simp only [Bool.not_eq_true', Bool.not_eq_false', Bool.not_not, bne_iff_ne, bne_eq_false_iff_eq, beq_eq_false_iff_ne, beq_iff_eq, ne_eq, decide_eq_true_eq, decide_eq_false_iff_not, Classical.not_not, List.length_map, List.length_take, Int.toNat_natCast, List.length_map] at h3
        refine a_seq ?_
        refine a_region (by kernel_rfl) ?_
        refine op_v' (j_assign (evo rfl)) ?_
        refine op_nil ?_
        refine a_ret ?_
        exact ⟨[.p _], .p _, [], [], [], ⟨rfl, trivial⟩, rfl, rfl, trivial, rfl, rfl, ⟨intEq (by have hT := szv_cases (n := wLL xs) (k := n); have hw : wLL xs = xs.length + sumW List.length xs := rfl; omega), rfl, rfl⟩⟩
      ·
        have h3r := h3
        try simp only [Bool.not_eq_true', Bool.not_eq_false', Bool.not_not, bne_iff_ne, bne_eq_false_iff_eq, beq_eq_false_iff_ne, beq_iff_eq, ne_eq, decide_eq_true_eq, decide_eq_false_iff_not, Classical.not_not, List.length_map, List.length_take, Int.toNat_natCast, List.length_map] at h3
        refine a_skip ?_
        refine a_region (by kernel_rfl) ?_
        refine op_v' (j_move (evo rfl)) ?_
        refine op_v' (j_add rfl rfl (by first | omega | (simp only [List.length_map, List.length_take, Int.toNat_natCast, List.length_map]; omega)) (by first | omega | (simp only [List.length_map, List.length_take, Int.toNat_natCast, List.length_map]; omega))) ?_
        refine op_v' (j_assign (evo rfl)) ?_
        refine op_nil ?_
        exact ⟨k + 1, ⟨by omega, by omega⟩, ⟨⟨rfl, rfl⟩, ⟨rfl, intEq (by omega), trivial⟩, trivial, ⟨rfl, rfl⟩, ⟨rfl, rfl⟩⟩, (by first | omega | (simp only [List.length_map, List.length_take, Int.toNat_natCast, List.length_map]; omega))⟩
    ·
      have h2r := h2
      try simp only [Bool.not_eq_true', Bool.not_eq_false', Bool.not_not, bne_iff_ne, bne_eq_false_iff_eq, beq_eq_false_iff_ne, beq_iff_eq, ne_eq, decide_eq_true_eq, decide_eq_false_iff_not, Classical.not_not, List.length_map, List.length_take, Int.toNat_natCast, List.length_map] at h2
      refine a_exit ?_
      refine a_seq ?_
      refine a_region (by kernel_rfl) ?_
      refine op_v' (j_move (evo rfl)) ?_
      refine op_v' (j_assign (evo rfl)) ?_
      refine op_nil ?_
      refine a_ret ?_
      exact ⟨[.p _], .p _, [], [], [], ⟨rfl, trivial⟩, rfl, rfl, trivial, rfl, rfl, ⟨intEq (by have hT := szv_cases (n := wLL xs) (k := n); have hw : wLL xs = xs.length + sumW List.length xs := rfl; have he : sumW List.length (xs.take k) = sumW List.length xs := (by rw [List.take_of_length_le (by omega)]); omega), rfl, rfl⟩⟩


theorem f_szRule (r : Rl) (n : Int) (hn : 0 ≤ n ∧ n ≤ 4611686018427387904) : Fn Try.prog 133 [.agg [.p (.int .i64 r.1), .sl (r.2.1.map dI), .sl (r.2.2.1.map dI), .p (.int .i64 r.2.2.2.1), .sl (r.2.2.2.2.map dL)], .p (.int .i64 (n))] [] (fun rr ii nn => rr = .p (.int .i64 (szv (wR r) n)) ∧ ii = [] ∧ nn = []) := by
  refine fn_of Try.func133 rfl (Nat.le_of_ble_eq_true rfl) fun w X g => ?_
  show AWp _ _ _ ⟨[(0, .agg [.p (.int .i64 r.1), .sl (r.2.1.map dI), .sl (r.2.2.1.map dI), .p (.int .i64 r.2.2.2.1), .sl (r.2.2.2.2.map dL)]), (1, .p (.int .i64 (n)))], []⟩
  have hs1 := szv_cases (n := r.2.1.length) (k := n)
  have hs2 := szv_cases (n := r.2.2.1.length) (k := (szv r.2.1.length n))
  have hs3 := szv_cases (n := wLL r.2.2.2.2) (k := (szv r.2.2.1.length (szv r.2.1.length n)))
  have hT := szv_cases (n := wR r) (k := n)
  have hw : wR r = r.2.1.length + r.2.2.1.length + wLL r.2.2.2.2 := rfl
  refine a_seq ?_
  refine a_region (by kernel_rfl) ?_
  refine op_n' (fun ver => j_boxa rfl) fun v2x1 => ?_
  refine op_v' (j_assign (evo rfl)) ?_
  refine op_nil ?_
  refine a_seq ?_
  refine a_region (by kernel_rfl) ?_
  refine op_v' (j_fldp fld119f1 rfl rfl) ?_
  refine op_v' (j_load_box leaf23 rfl rfl rfl) ?_
  refine op_v' (j_move (evo rfl)) ?_
  refine op_v0' (j_call0 (v := .p _) (hp1 := []) [] false [] ent100 (f_szIntS r.2.1 n hn) ⟨.inl ⟨rfl, rfl⟩, .inl ⟨rfl, rfl⟩, trivial⟩ trivial rfl rfl (fun h => by cases h) rfl (fun _ h => by cases h) (.inl rfl) rfl rfl) ?_
  refine op_v' (j_assign (evo rfl)) ?_
  refine op_nil ?_
  refine a_seq ?_
  refine a_seq ?_
  refine a_region (by kernel_rfl) ?_
  refine op_v' (j_move (evo rfl)) ?_
  refine op_v' (j_lt rfl rfl) ?_
  refine op_nil ?_
  refine a_cond rfl (fun h1 => ?_) (fun h1 => ?_)
  ·
    have h1r := h1
    try simp only [Bool.not_eq_true', Bool.not_eq_false', Bool.not_not, bne_iff_ne, bne_eq_false_iff_eq, beq_eq_false_iff_ne, beq_iff_eq, ne_eq, decide_eq_true_eq, decide_eq_false_iff_not, Classical.not_not, List.length_map, List.length_take, Int.toNat_natCast] at h1
    refine a_seq ?_
    refine a_region (by kernel_rfl) ?_
    refine op_v' (j_assign (evo rfl)) ?_
    refine op_nil ?_
    refine a_ret ?_
    exact ⟨[.p _], .p _, [], [], [], ⟨rfl, trivial⟩, rfl, rfl, trivial, rfl, rfl, ⟨intEq (by omega), rfl, rfl⟩⟩
  ·
    have h1r := h1
    try simp only [Bool.not_eq_true', Bool.not_eq_false', Bool.not_not, bne_iff_ne, bne_eq_false_iff_eq, beq_eq_false_iff_ne, beq_iff_eq, ne_eq, decide_eq_true_eq, decide_eq_false_iff_not, Classical.not_not, List.length_map, List.length_take, Int.toNat_natCast] at h1
    refine a_skip ?_
    refine a_seq ?_
    refine a_region (by kernel_rfl) ?_
    refine op_v' (j_fldp fld119f2 rfl rfl) ?_
    refine op_v' (j_load_box leaf23 rfl rfl rfl) ?_
    refine op_v' (j_move (evo rfl)) ?_
    refine op_v0' (j_call0 (v := .p _) (hp1 := []) [] false [] ent100 (f_szIntS r.2.2.1 (szv r.2.1.length n) (by omega)) ⟨.inl ⟨rfl, rfl⟩, .inl ⟨rfl, rfl⟩, trivial⟩ trivial rfl rfl (fun h => by cases h) rfl (fun _ h => by cases h) (.inl rfl) rfl rfl) ?_
    refine op_v' (j_assign (evo rfl)) ?_
    refine op_nil ?_
    refine a_seq ?_
    refine a_seq ?_
    refine a_region (by kernel_rfl) ?_
    refine op_v' (j_move (evo rfl)) ?_
    refine op_v' (j_lt rfl rfl) ?_
    refine op_nil ?_
    refine a_cond rfl (fun h2 => ?_) (fun h2 => ?_)
    ·
      have h2r := h2
      try simp only [Bool.not_eq_true', Bool.not_eq_false', Bool.not_not, bne_iff_ne, bne_eq_false_iff_eq, beq_eq_false_iff_ne, beq_iff_eq, ne_eq, decide_eq_true_eq, decide_eq_false_iff_not, Classical.not_not, List.length_map, List.length_take, Int.toNat_natCast] at h2
      refine a_seq ?_
      refine a_region (by kernel_rfl) ?_
      refine op_v' (j_assign (evo rfl)) ?_
      refine op_nil ?_
      refine a_ret ?_
      exact ⟨[.p _], .p _, [], [], [], ⟨rfl, trivial⟩, rfl, rfl, trivial, rfl, rfl, ⟨intEq (by omega), rfl, rfl⟩⟩
    ·
      have h2r := h2
      try simp only [Bool.not_eq_true', Bool.not_eq_false', Bool.not_not, bne_iff_ne, bne_eq_false_iff_eq, beq_eq_false_iff_ne, beq_iff_eq, ne_eq, decide_eq_true_eq, decide_eq_false_iff_not, Classical.not_not, List.length_map, List.length_take, Int.toNat_natCast] at h2
      refine a_skip ?_
      refine a_seq ?_
      refine a_region (by kernel_rfl) ?_
      refine op_v' (j_fldp fld119f4 rfl rfl) ?_
      refine op_v' (j_load_box leaf41 rfl rfl rfl) ?_
      refine op_v' (j_move (evo rfl)) ?_
      refine op_v0' (j_call0 (v := .p _) (hp1 := []) [] false [] ent145 (f_szIntSS r.2.2.2.2 (szv r.2.2.1.length (szv r.2.1.length n)) (by omega)) ⟨.inl ⟨rfl, rfl⟩, .inl ⟨rfl, rfl⟩, trivial⟩ trivial rfl rfl (fun h => by cases h) rfl (fun _ h => by cases h) (.inl rfl) rfl rfl) ?_
      refine op_v' (j_assign (evo rfl)) ?_
      refine op_nil ?_
      refine a_seq ?_
      refine a_seq ?_
      refine a_region (by kernel_rfl) ?_
      refine op_v' (j_move (evo rfl)) ?_
      refine op_v' (j_lt rfl rfl) ?_
      refine op_nil ?_
      refine a_cond rfl (fun h3 => ?_) (fun h3 => ?_)
      ·
        have h3r := h3
        try simp only [Bool.not_eq_true', Bool.not_eq_false', Bool.not_not, bne_iff_ne, bne_eq_false_iff_eq, beq_eq_false_iff_ne, beq_iff_eq, ne_eq, decide_eq_true_eq, decide_eq_false_iff_not, Classical.not_not, List.length_map, List.length_take, Int.toNat_natCast] at h3
        refine a_seq ?_
        refine a_region (by kernel_rfl) ?_
        refine op_v' (j_assign (evo rfl)) ?_
        refine op_nil ?_
        refine a_ret ?_
        exact ⟨[.p _], .p _, [], [], [], ⟨rfl, trivial⟩, rfl, rfl, trivial, rfl, rfl, ⟨intEq (by omega), rfl, rfl⟩⟩
      ·
        have h3r := h3
        try simp only [Bool.not_eq_true', Bool.not_eq_false', Bool.not_not, bne_iff_ne, bne_eq_false_iff_eq, beq_eq_false_iff_ne, beq_iff_eq, ne_eq, decide_eq_true_eq, decide_eq_false_iff_not, Classical.not_not, List.length_map, List.length_take, Int.toNat_natCast] at h3
        refine a_skip ?_
        refine a_seq ?_
        refine a_region (by kernel_rfl) ?_
        refine op_v' (j_move (evo rfl)) ?_
        refine op_v' (j_assign (evo rfl)) ?_
        refine op_nil ?_
        refine a_ret ?_
        exact ⟨[.p _], .p _, [], [], [], ⟨rfl, trivial⟩, rfl, rfl, trivial, rfl, rfl, ⟨intEq (by omega), rfl, rfl⟩⟩


theorem f_szRuleS (l : List Rl) (n : Int) (hn : 0 ≤ n ∧ n ≤ 4611686018427387904) : Fn Try.prog 101 [.sl (l.map dR), .p (.int .i64 (n))] [] (fun rr ii nn => rr = .p (.int .i64 (szv (wRS l) n)) ∧ ii = [] ∧ nn = []) := by
  refine fn_of Try.func101 rfl (Nat.le_of_ble_eq_true rfl) fun w X g => ?_
  show AWp _ _ _ ⟨[(0, .sl (l.map dR)), (1, .p (.int .i64 (n)))], []⟩
  refine a_len_map 0 rfl fun hla => ?_
  refine a_seq ?_
  refine a_region (by kernel_rfl) ?_
  refine op_v' (j_assign (evo rfl)) ?_
  refine op_nil ?_
  refine a_seq ?_
  refine a_region (by kernel_rfl) ?_
  refine op_v' (j_move (evo rfl)) ?_
  refine op_v' (j_move (evo rfl)) ?_
  refine op_v' (j_len_map Try.underlying56 rfl) ?_
  refine op_v' (j_sub rfl rfl (by first | omega | (simp only [List.length_map, List.length_take, Int.toNat_natCast, List.length_map]; omega)) (by first | omega | (simp only [List.length_map, List.length_take, Int.toNat_natCast, List.length_map]; omega))) ?_
  refine op_v' (j_assign (evo rfl)) ?_
  refine op_nil ?_
  refine a_seq ?_
  refine a_seq ?_
  refine a_region (by kernel_rfl) ?_
  refine op_v' (j_move (evo rfl)) ?_
  refine op_v' (j_lt rfl rfl) ?_
  refine op_nil ?_
  refine a_cond rfl (fun h1 => ?_) (fun h1 => ?_)
  ·
    have h1r := h1
    try simp only [Bool.not_eq_true', Bool.not_eq_false', Bool.not_not, bne_iff_ne, bne_eq_false_iff_eq, beq_eq_false_iff_ne, beq_iff_eq, ne_eq, decide_eq_true_eq, decide_eq_false_iff_not, Classical.not_not, List.length_map, List.length_take, Int.toNat_natCast, List.length_map] at h1
    refine a_seq ?_
    refine a_region (by kernel_rfl) ?_
    refine op_v' (j_assign (evo rfl)) ?_
    refine op_nil ?_
    refine a_ret ?_
    exact ⟨[.p _], .p _, [], [], [], ⟨rfl, trivial⟩, rfl, rfl, trivial, rfl, rfl, ⟨intEq (by have hT := szv_cases (n := wRS l) (k := n); have hw : wRS l = l.length + sumW wR l := rfl; omega), rfl, rfl⟩⟩
  ·
    have h1r := h1
    try simp only [Bool.not_eq_true', Bool.not_eq_false', Bool.not_not, bne_iff_ne, bne_eq_false_iff_eq, beq_eq_false_iff_ne, beq_iff_eq, ne_eq, decide_eq_true_eq, decide_eq_false_iff_not, Classical.not_not, List.length_map, List.length_take, Int.toNat_natCast, List.length_map] at h1
    refine a_skip ?_
    refine a_seq ?_
    refine a_seq ?_
    refine a_region (by kernel_rfl) ?_
    refine op_v' (j_assign (evo rfl)) ?_
    refine op_nil ?_
    refine a_block ?_
    refine a_loopF' (ι := Nat) (fun k => k ≤ l.length ∧ (l.length : Int) + (sumW wR (l.take k) : Nat) ≤ n) (fun k r => (5, .p (.int .i64 ((k : Nat)))) :: (1, .p (.int .i64 (n - l.length - (sumW wR (l.take k) : Nat)))) :: r) (fun k r => r) (fun k => l.length - k) (fun _ _ => rfl) (fun _ _ => rfl) 0 ⟨Nat.zero_le _, by simp [sumW]; omega⟩ ⟨⟨rfl, rfl⟩, ⟨rfl, intEq (by simp [sumW]), trivial⟩, trivial, ⟨rfl, rfl⟩, ⟨rfl, rfl⟩⟩ ?_
    intro k hk
    refine a_seq ?_
    refine a_seq ?_
    refine a_region (by kernel_rfl) ?_
    refine op_v' (j_move (evo rfl)) ?_
    refine op_v' (j_move (evo rfl)) ?_
    refine op_v' (j_len_map Try.underlying56 rfl) ?_
    refine op_v' (j_lt rfl rfl) ?_
    refine op_nil ?_
    refine a_cond rfl (fun h2 => ?_) (fun h2 => ?_)
    ·
      have h2r := h2
      try simp only [Bool.not_eq_true', Bool.not_eq_false', Bool.not_not, bne_iff_ne, bne_eq_false_iff_eq, beq_eq_false_iff_ne, beq_iff_eq, ne_eq, decide_eq_true_eq, decide_eq_false_iff_not, Classical.not_not, List.length_map, List.length_take, Int.toNat_natCast, List.length_map] at h2
      refine a_skip ?_
      refine a_seq ?_
      refine a_block ?_
      refine a_seq ?_
      refine a_region (by kernel_rfl) ?_
      refine op_v' (j_move (evo rfl)) ?_
      refine op_v' (j_move (evo rfl)) ?_
      refine op_v' (j_elemN slt56 rfl rfl rfl (at_map (by first | omega | (simp only [List.length_map, List.length_take, Int.toNat_natCast, List.length_map]; omega))) rfl) ?_
      refine op_v' (j_loada_el (ys := [.p _, .sl _, .sl _, .p _, .sl _]) agg119 rfl (at_map (by first | omega | (simp only [List.length_map, List.length_take, Int.toNat_natCast, List.length_map]; omega))) rfl (Nat.le_refl _)) ?_
      refine op_v' (j_move (evo rfl)) ?_
      refine op_v0' (j_call0 (v := .p _) (hp1 := []) [] false [] ent133 (f_szRule (l.getD k default) _ (by omega)) ⟨.inl ⟨rfl, rfl⟩, .inl ⟨rfl, rfl⟩, trivial⟩ trivial rfl rfl (fun h => by cases h) rfl (fun _ h => by cases h) (.inl rfl) rfl rfl) ?_
      refine op_v' (j_assign (evo rfl)) ?_
      refine op_nil ?_
      refine a_seq ?_
      have hs1 := szv_cases (n := wR (l.getD k default)) (k := n - l.length - (sumW wR (l.take k) : Nat))
      have hs2 := sumW_take (w := wR) (d := default) (l := l) (k := k) (by omega)
      have hs3 := sumW_le (w := wR) (l := l) (k := k + 1)
      refine a_region (by kernel_rfl) ?_
      refine op_v' (j_move (evo rfl)) ?_
      refine op_v' (j_lt rfl rfl) ?_
      refine op_nil ?_
      refine a_cond rfl (fun h3 => ?_) (fun h3 => ?_)
      ·
        have h3r := h3
        try simp only [Bool.not_eq_true', Bool.not_eq_false', Bool.not_not, bne_iff_ne, bne_eq_false_iff_eq, beq_eq_false_iff_ne, beq_iff_eq, ne_eq, decide_eq_true_eq, decide_eq_false_iff_not, Classical.not_not, List.length_map, List.length_take, Int.toNat_natCast, List.length_map] at h3
        refine a_seq ?_
        refine a_region (by kernel_rfl) ?_
        refine op_v' (j_assign (evo rfl)) ?_
        refine op_nil ?_
        refine a_ret ?_
        exact ⟨[.p _], .p _, [], [], [], ⟨rfl, trivial⟩, rfl, rfl, trivial, rfl, rfl, ⟨intEq (by have hT := szv_cases (n := wRS l) (k := n); have hw : wRS l = l.length + sumW wR l := rfl; omega), rfl, rfl⟩⟩
      ·
        have h3r := h3
        try simp only [Bool.not_eq_true', Bool.not_eq_false', Bool.not_not, bne_iff_ne, bne_eq_false_iff_eq, beq_eq_false_iff_ne, beq_iff_eq, ne_eq, decide_eq_true_eq, decide_eq_false_iff_not, Classical.not_not, List.length_map, List.length_take, Int.toNat_natCast, List.length_map] at h3
        refine a_skip ?_
        refine a_region (by kernel_rfl) ?_
        refine op_v' (j_move (evo rfl)) ?_
        refine op_v' (j_add rfl rfl (by first | omega | (simp only [List.length_map, List.length_take, Int.toNat_natCast, List.length_map]; omega)) (by first | omega | (simp only [List.length_map, List.length_take, Int.toNat_natCast, List.length_map]; omega))) ?_
        refine op_v' (j_assign (evo rfl)) ?_
        refine op_nil ?_
        exact ⟨k + 1, ⟨by omega, by omega⟩, ⟨⟨rfl, rfl⟩, ⟨rfl, intEq (by omega), trivial⟩, trivial, ⟨rfl, rfl⟩, ⟨rfl, rfl⟩⟩, (by first | omega | (simp only [List.length_map, List.length_take, Int.toNat_natCast, List.length_map]; omega))⟩
    ·
      have h2r := h2
      try simp only [Bool.not_eq_true', Bool.not_eq_false', Bool.not_not, bne_iff_ne, bne_eq_false_iff_eq, beq_eq_false_iff_ne, beq_iff_eq, ne_eq, decide_eq_true_eq, decide_eq_false_iff_not, Classical.not_not, List.length_map, List.length_take, Int.toNat_natCast, List.length_map] at h2
      refine a_exit ?_
      refine a_seq ?_
      refine a_region (by kernel_rfl) ?_
      refine op_v' (j_move (evo rfl)) ?_
      refine op_v' (j_assign (evo rfl)) ?_
      refine op_nil ?_
      refine a_ret ?_
      exact ⟨[.p _], .p _, [], [], [], ⟨rfl, trivial⟩, rfl, rfl, trivial, rfl, rfl, ⟨intEq (by have hT := szv_cases (n := wRS l) (k := n); have hw : wRS l = l.length + sumW wR l := rfl; have he : sumW wR (l.take k) = sumW wR l := (by rw [List.take_of_length_le (by omega)]); omega), rfl, rfl⟩⟩


theorem f_szModel (m : Md) (n : Int) (hn : 0 ≤ n ∧ n ≤ 4611686018427387904) : Fn Try.prog 44 [.agg [.sl (m.1.map dI), .sl (m.2.map dR)], .p (.int .i64 (n))] [] (fun rr ii nn => rr = .p (.int .i64 (szv (wM m) n)) ∧ ii = [] ∧ nn = []) := by
  refine fn_of Try.func44 rfl (Nat.le_of_ble_eq_true rfl) fun w X g => ?_
  show AWp _ _ _ ⟨[(0, .agg [.sl (m.1.map dI), .sl (m.2.map dR)]), (1, .p (.int .i64 (n)))], []⟩
  have hs1 := szv_cases (n := m.1.length) (k := n)
  have hs2 := szv_cases (n := wRS m.2) (k := szv m.1.length n)
  have hT := szv_cases (n := wM m) (k := n)
  have hw : wM m = m.1.length + wRS m.2 := rfl
  refine a_seq ?_
  refine a_region (by kernel_rfl) ?_
  refine op_n' (fun ver => j_boxa rfl) fun v2x1 => ?_
  refine op_v' (j_assign (evo rfl)) ?_
  refine op_nil ?_
  refine a_seq ?_
  refine a_region (by kernel_rfl) ?_
  refine op_v' (j_fldp fld58f0 rfl rfl) ?_
  refine op_v' (j_load_box leaf23 rfl rfl rfl) ?_
  refine op_v' (j_move (evo rfl)) ?_
  refine op_v0' (j_call0 (v := .p _) (hp1 := []) [] false [] ent100 (f_szIntS m.1 n hn) ⟨.inl ⟨rfl, rfl⟩, .inl ⟨rfl, rfl⟩, trivial⟩ trivial rfl rfl (fun h => by cases h) rfl (fun _ h => by cases h) (.inl rfl) rfl rfl) ?_
  refine op_v' (j_assign (evo rfl)) ?_
  refine op_nil ?_
  refine a_seq ?_
  refine a_seq ?_
  refine a_region (by kernel_rfl) ?_
  refine op_v' (j_move (evo rfl)) ?_
  refine op_v' (j_lt rfl rfl) ?_
  refine op_nil ?_
  refine a_cond rfl (fun h1 => ?_) (fun h1 => ?_)
  ·
    have h1r := h1
    try simp only [Bool.not_eq_true', Bool.not_eq_false', Bool.not_not, bne_iff_ne, bne_eq_false_iff_eq, beq_eq_false_iff_ne, beq_iff_eq, ne_eq, decide_eq_true_eq, decide_eq_false_iff_not, Classical.not_not, List.length_map, List.length_take, Int.toNat_natCast] at h1
    refine a_seq ?_
    refine a_region (by kernel_rfl) ?_
    refine op_v' (j_assign (evo rfl)) ?_
    refine op_nil ?_
    refine a_ret ?_
    exact ⟨[.p _], .p _, [], [], [], ⟨rfl, trivial⟩, rfl, rfl, trivial, rfl, rfl, ⟨intEq (by omega), rfl, rfl⟩⟩
  ·
    have h1r := h1
    try simp only [Bool.not_eq_true', Bool.not_eq_false', Bool.not_not, bne_iff_ne, bne_eq_false_iff_eq, beq_eq_false_iff_ne, beq_iff_eq, ne_eq, decide_eq_true_eq, decide_eq_false_iff_not, Classical.not_not, List.length_map, List.length_take, Int.toNat_natCast] at h1
    refine a_skip ?_
    refine a_seq ?_
    refine a_region (by kernel_rfl) ?_
    refine op_v' (j_fldp fld58f1 rfl rfl) ?_
    refine op_v' (j_load_box leaf56 rfl rfl rfl) ?_
    refine op_v' (j_move (evo rfl)) ?_
    refine op_v0' (j_call0 (v := .p _) (hp1 := []) [] false [] ent101 (f_szRuleS m.2 (szv m.1.length n) (by omega)) ⟨.inl ⟨rfl, rfl⟩, .inl ⟨rfl, rfl⟩, trivial⟩ trivial rfl rfl (fun h => by cases h) rfl (fun _ h => by cases h) (.inl rfl) rfl rfl) ?_
    refine op_v' (j_assign (evo rfl)) ?_
    refine op_nil ?_
    refine a_seq ?_
    refine a_seq ?_
    refine a_region (by kernel_rfl) ?_
    refine op_v' (j_move (evo rfl)) ?_
    refine op_v' (j_lt rfl rfl) ?_
    refine op_nil ?_
    refine a_cond rfl (fun h2 => ?_) (fun h2 => ?_)
    ·
      have h2r := h2
      try simp only [Bool.not_eq_true', Bool.not_eq_false', Bool.not_not, bne_iff_ne, bne_eq_false_iff_eq, beq_eq_false_iff_ne, beq_iff_eq, ne_eq, decide_eq_true_eq, decide_eq_false_iff_not, Classical.not_not, List.length_map, List.length_take, Int.toNat_natCast] at h2
      refine a_seq ?_
      refine a_region (by kernel_rfl) ?_
      refine op_v' (j_assign (evo rfl)) ?_
      refine op_nil ?_
      refine a_ret ?_
      exact ⟨[.p _], .p _, [], [], [], ⟨rfl, trivial⟩, rfl, rfl, trivial, rfl, rfl, ⟨intEq (by omega), rfl, rfl⟩⟩
    ·
      have h2r := h2
      try simp only [Bool.not_eq_true', Bool.not_eq_false', Bool.not_not, bne_iff_ne, bne_eq_false_iff_eq, beq_eq_false_iff_ne, beq_iff_eq, ne_eq, decide_eq_true_eq, decide_eq_false_iff_not, Classical.not_not, List.length_map, List.length_take, Int.toNat_natCast] at h2
      refine a_skip ?_
      refine a_seq ?_
      refine a_region (by kernel_rfl) ?_
      refine op_v' (j_move (evo rfl)) ?_
      refine op_v' (j_assign (evo rfl)) ?_
      refine op_nil ?_
      refine a_ret ?_
      exact ⟨[.p _], .p _, [], [], [], ⟨rfl, trivial⟩, rfl, rfl, trivial, rfl, rfl, ⟨intEq (by omega), rfl, rfl⟩⟩


theorem f_eqIntSS (a b : List (List Int)) : Fn Try.prog 147 [.sl (a.map dL), .sl (b.map dL)] [] (fun rr ii nn => rr = .p (.bool (decide (a = b))) ∧ ii = [] ∧ nn = []) := by
  refine fn_of Try.func147 rfl (Nat.le_of_ble_eq_true rfl) fun w X g => ?_
  show AWp _ _ _ ⟨[(0, .sl (a.map dL)), (1, .sl (b.map dL))], []⟩
  refine a_len_map 0 rfl fun hla => ?_
  refine a_seq ?_
  refine a_region (by kernel_rfl) ?_
  refine op_v' (j_assign (evo rfl)) ?_
  refine op_nil ?_
  refine a_seq ?_
  refine a_seq ?_
  refine a_region (by kernel_rfl) ?_
  refine op_v' (j_move (evo rfl)) ?_
  refine op_v' (j_len_map Try.underlying41 rfl) ?_
  refine op_v' (j_move (evo rfl)) ?_
  refine op_v' (j_len_map Try.underlying41 rfl) ?_
  refine op_v' (j_ne rfl rfl) ?_
  refine op_nil ?_
  refine a_cond rfl (fun h1 => ?_) (fun h1 => ?_)
  ·
    have h1r := h1
    try simp only [Bool.not_eq_true', Bool.not_eq_false', Bool.not_not, bne_iff_ne, bne_eq_false_iff_eq, beq_eq_false_iff_ne, beq_iff_eq, ne_eq, decide_eq_true_eq, decide_eq_false_iff_not, Classical.not_not, List.length_map, List.length_take, Int.toNat_natCast] at h1
    refine a_seq ?_
    refine a_region (by kernel_rfl) ?_
    refine op_v' (j_assign (evo rfl)) ?_
    refine op_nil ?_
    refine a_ret ?_
    exact ⟨[.p _], .p _, [], [], [], ⟨rfl, trivial⟩, rfl, rfl, trivial, rfl, rfl, ⟨boolEq (by symm; rw [decide_eq_false_iff_not]; rintro rfl; exact h1 rfl), rfl, rfl⟩⟩
  ·
    have h1r := h1
    try simp only [Bool.not_eq_true', Bool.not_eq_false', Bool.not_not, bne_iff_ne, bne_eq_false_iff_eq, beq_eq_false_iff_ne, beq_iff_eq, ne_eq, decide_eq_true_eq, decide_eq_false_iff_not, Classical.not_not, List.length_map, List.length_take, Int.toNat_natCast] at h1
    refine a_skip ?_
    refine a_seq ?_
    refine a_seq ?_
    refine a_region (by kernel_rfl) ?_
    refine op_v' (j_assign (evo rfl)) ?_
    refine op_nil ?_
    refine a_block ?_
    refine a_loopF' (ι := Nat) (fun k => k ≤ a.length ∧ a.take k = b.take k) (fun k r => (5, .p (.int .i64 ((k : Nat)))) :: r) (fun k r => r) (fun k => a.length - k) (fun _ _ => rfl) (fun _ _ => rfl) 0 ⟨Nat.zero_le _, rfl⟩ ⟨⟨rfl, rfl⟩, ⟨rfl, trivial⟩, trivial, ⟨rfl, rfl⟩, ⟨rfl, rfl⟩⟩ ?_
    intro k hpre0
    refine a_seq ?_
    refine a_seq ?_
    refine a_region (by kernel_rfl) ?_
    refine op_v' (j_move (evo rfl)) ?_
    refine op_v' (j_move (evo rfl)) ?_
    refine op_v' (j_len_map Try.underlying41 rfl) ?_
    refine op_v' (j_lt rfl rfl) ?_
    refine op_nil ?_
    refine a_cond rfl (fun h2 => ?_) (fun h2 => ?_)
    ·
      have h2r := h2
      try simp only [Bool.not_eq_true', Bool.not_eq_false', Bool.not_not, bne_iff_ne, bne_eq_false_iff_eq, beq_eq_false_iff_ne, beq_iff_eq, ne_eq, decide_eq_true_eq, decide_eq_false_iff_not, Classical.not_not, List.length_map, List.length_take, Int.toNat_natCast] at h2
      refine a_skip ?_
      refine a_seq ?_
      refine a_block ?_
      refine a_seq ?_
      refine a_draw mixed (by kernel_rfl) (by kernel_rfl) fun vf => ?_
      refine d_v' (j_move (evo rfl)) ?_
      refine d_v' (j_move (evo rfl)) ?_
      refine d_v' (j_elemN slt41 rfl rfl rfl (at_map (by omega)) rfl) ?_
      refine d_v' (j_load_el leaf23 rfl (at_map (by omega)) rfl) ?_
      refine d_v' (j_move (evo rfl)) ?_
      refine d_v' (j_move (evo rfl)) ?_
      refine d_v' (j_elemN slt41 rfl rfl rfl (at_map (by omega)) rfl) ?_
      refine d_v' (j_load_el leaf23 rfl (at_map (by omega)) rfl) ?_
      refine d_v0' (j_call0 (v := .p _) (hp1 := []) [] false [] ent107 (f_eqIntS (a.getD k default) (b.getD k default)) ⟨.inl ⟨rfl, rfl⟩, .inl ⟨rfl, rfl⟩, trivial⟩ trivial rfl rfl (fun h => by cases h) rfl (fun _ h => by cases h) (.inl rfl) rfl rfl) ?_
      refine d_v' (j_not rfl) ?_
      refine d_nil (by kernel_rfl) (by kernel_rfl) ?_
      refine a_cond rfl (fun h3 => ?_) (fun h3 => ?_)
      ·
        have h3r := h3
        try simp only [Bool.not_eq_true', Bool.not_eq_false', Bool.not_not, bne_iff_ne, bne_eq_false_iff_eq, beq_eq_false_iff_ne, beq_iff_eq, ne_eq, decide_eq_true_eq, decide_eq_false_iff_not, Classical.not_not, List.length_map, List.length_take, Int.toNat_natCast] at h3
        refine a_seq ?_
        refine a_region (by kernel_rfl) ?_
        refine op_v' (j_assign (evo rfl)) ?_
        refine op_nil ?_
        refine a_ret ?_
        exact ⟨[.p _], .p _, [], [], [], ⟨rfl, trivial⟩, rfl, rfl, trivial, rfl, rfl, ⟨boolEq (by symm; rw [decide_eq_false_iff_not]; rintro rfl; exact h3 rfl), rfl, rfl⟩⟩
      ·
        have h3r := h3
        try simp only [Bool.not_eq_true', Bool.not_eq_false', Bool.not_not, bne_iff_ne, bne_eq_false_iff_eq, beq_eq_false_iff_ne, beq_iff_eq, ne_eq, decide_eq_true_eq, decide_eq_false_iff_not, Classical.not_not, List.length_map, List.length_take, Int.toNat_natCast] at h3
        refine a_skip ?_
        refine a_region (by kernel_rfl) ?_
        refine op_v' (j_move (evo rfl)) ?_
        refine op_v' (j_add rfl rfl (by omega) (by omega)) ?_
        refine op_v' (j_assign (evo rfl)) ?_
        refine op_nil ?_
        exact ⟨k + 1, ⟨(by omega), take_next hpre0.2 (by omega) (by omega) h3⟩, ⟨⟨rfl, rfl⟩, ⟨rfl, trivial⟩, trivial, ⟨rfl, rfl⟩, ⟨rfl, rfl⟩⟩, (by omega)⟩
    ·
      have h2r := h2
      try simp only [Bool.not_eq_true', Bool.not_eq_false', Bool.not_not, bne_iff_ne, bne_eq_false_iff_eq, beq_eq_false_iff_ne, beq_iff_eq, ne_eq, decide_eq_true_eq, decide_eq_false_iff_not, Classical.not_not, List.length_map, List.length_take, Int.toNat_natCast] at h2
      refine a_exit ?_
      refine a_seq ?_
      refine a_region (by kernel_rfl) ?_
      refine op_v' (j_assign (evo rfl)) ?_
      refine op_nil ?_
      refine a_ret ?_
      exact ⟨[.p _], .p _, [], [], [], ⟨rfl, trivial⟩, rfl, rfl, trivial, rfl, rfl, ⟨boolEq (by symm; rw [decide_eq_true_eq]; exact take_eq hpre0.2 (by omega) (by omega)), rfl, rfl⟩⟩


theorem f_eqBoolSS (a b : List (List Bool)) : Fn Try.prog 48 [.sl (a.map dD), .sl (b.map dD)] [] (fun rr ii nn => rr = .p (.bool (decide (a = b))) ∧ ii = [] ∧ nn = []) := by
  refine fn_of Try.func48 rfl (Nat.le_of_ble_eq_true rfl) fun w X g => ?_
  show AWp _ _ _ ⟨[(0, .sl (a.map dD)), (1, .sl (b.map dD))], []⟩
  refine a_len_map 0 rfl fun hla => ?_
  refine a_seq ?_
  refine a_region (by kernel_rfl) ?_
  refine op_v' (j_assign (evo rfl)) ?_
  refine op_nil ?_
  refine a_seq ?_
  refine a_seq ?_
  refine a_region (by kernel_rfl) ?_
  refine op_v' (j_move (evo rfl)) ?_
  refine op_v' (j_len_map Try.underlying28 rfl) ?_
  refine op_v' (j_move (evo rfl)) ?_
  refine op_v' (j_len_map Try.underlying28 rfl) ?_
  refine op_v' (j_ne rfl rfl) ?_
  refine op_nil ?_
  refine a_cond rfl (fun h1 => ?_) (fun h1 => ?_)
  ·
    have h1r := h1
    try simp only [Bool.not_eq_true', Bool.not_eq_false', Bool.not_not, bne_iff_ne, bne_eq_false_iff_eq, beq_eq_false_iff_ne, beq_iff_eq, ne_eq, decide_eq_true_eq, decide_eq_false_iff_not, Classical.not_not, List.length_map, List.length_take, Int.toNat_natCast] at h1
    refine a_seq ?_
    refine a_region (by kernel_rfl) ?_
    refine op_v' (j_assign (evo rfl)) ?_
    refine op_nil ?_
    refine a_ret ?_
    exact ⟨[.p _], .p _, [], [], [], ⟨rfl, trivial⟩, rfl, rfl, trivial, rfl, rfl, ⟨boolEq (by symm; rw [decide_eq_false_iff_not]; rintro rfl; exact h1 rfl), rfl, rfl⟩⟩
  ·
    have h1r := h1
    try simp only [Bool.not_eq_true', Bool.not_eq_false', Bool.not_not, bne_iff_ne, bne_eq_false_iff_eq, beq_eq_false_iff_ne, beq_iff_eq, ne_eq, decide_eq_true_eq, decide_eq_false_iff_not, Classical.not_not, List.length_map, List.length_take, Int.toNat_natCast] at h1
    refine a_skip ?_
    refine a_seq ?_
    refine a_seq ?_
    refine a_region (by kernel_rfl) ?_
    refine op_v' (j_assign (evo rfl)) ?_
    refine op_nil ?_
    refine a_block ?_
    refine a_loopF' (ι := Nat) (fun k => k ≤ a.length ∧ a.take k = b.take k) (fun k r => (5, .p (.int .i64 ((k : Nat)))) :: r) (fun k r => r) (fun k => a.length - k) (fun _ _ => rfl) (fun _ _ => rfl) 0 ⟨Nat.zero_le _, rfl⟩ ⟨⟨rfl, rfl⟩, ⟨rfl, trivial⟩, trivial, ⟨rfl, rfl⟩, ⟨rfl, rfl⟩⟩ ?_
    intro k hpre0
    refine a_seq ?_
    refine a_seq ?_
    refine a_region (by kernel_rfl) ?_
    refine op_v' (j_move (evo rfl)) ?_
    refine op_v' (j_move (evo rfl)) ?_
    refine op_v' (j_len_map Try.underlying28 rfl) ?_
    refine op_v' (j_lt rfl rfl) ?_
    refine op_nil ?_
    refine a_cond rfl (fun h2 => ?_) (fun h2 => ?_)
    ·
      have h2r := h2
      try simp only [Bool.not_eq_true', Bool.not_eq_false', Bool.not_not, bne_iff_ne, bne_eq_false_iff_eq, beq_eq_false_iff_ne, beq_iff_eq, ne_eq, decide_eq_true_eq, decide_eq_false_iff_not, Classical.not_not, List.length_map, List.length_take, Int.toNat_natCast] at h2
      refine a_skip ?_
      refine a_seq ?_
      refine a_block ?_
      refine a_seq ?_
      refine a_draw mixed (by kernel_rfl) (by kernel_rfl) fun vf => ?_
      refine d_v' (j_move (evo rfl)) ?_
      refine d_v' (j_move (evo rfl)) ?_
      refine d_v' (j_elemN slt28 rfl rfl rfl (at_map (by omega)) rfl) ?_
      refine d_v' (j_load_el leaf34 rfl (at_map (by omega)) rfl) ?_
      refine d_v' (j_move (evo rfl)) ?_
      refine d_v' (j_move (evo rfl)) ?_
      refine d_v' (j_elemN slt28 rfl rfl rfl (at_map (by omega)) rfl) ?_
      refine d_v' (j_load_el leaf34 rfl (at_map (by omega)) rfl) ?_
      refine d_v0' (j_call0 (v := .p _) (hp1 := []) [] false [] ent106 (f_eqBoolS (a.getD k default) (b.getD k default)) ⟨.inl ⟨rfl, rfl⟩, .inl ⟨rfl, rfl⟩, trivial⟩ trivial rfl rfl (fun h => by cases h) rfl (fun _ h => by cases h) (.inl rfl) rfl rfl) ?_
      refine d_v' (j_not rfl) ?_
      refine d_nil (by kernel_rfl) (by kernel_rfl) ?_
      refine a_cond rfl (fun h3 => ?_) (fun h3 => ?_)
      ·
        have h3r := h3
        try simp only [Bool.not_eq_true', Bool.not_eq_false', Bool.not_not, bne_iff_ne, bne_eq_false_iff_eq, beq_eq_false_iff_ne, beq_iff_eq, ne_eq, decide_eq_true_eq, decide_eq_false_iff_not, Classical.not_not, List.length_map, List.length_take, Int.toNat_natCast] at h3
        refine a_seq ?_
        refine a_region (by kernel_rfl) ?_
        refine op_v' (j_assign (evo rfl)) ?_
        refine op_nil ?_
        refine a_ret ?_
        exact ⟨[.p _], .p _, [], [], [], ⟨rfl, trivial⟩, rfl, rfl, trivial, rfl, rfl, ⟨boolEq (by symm; rw [decide_eq_false_iff_not]; rintro rfl; exact h3 rfl), rfl, rfl⟩⟩
      ·
        have h3r := h3
        try simp only [Bool.not_eq_true', Bool.not_eq_false', Bool.not_not, bne_iff_ne, bne_eq_false_iff_eq, beq_eq_false_iff_ne, beq_iff_eq, ne_eq, decide_eq_true_eq, decide_eq_false_iff_not, Classical.not_not, List.length_map, List.length_take, Int.toNat_natCast] at h3
        refine a_skip ?_
        refine a_region (by kernel_rfl) ?_
        refine op_v' (j_move (evo rfl)) ?_
        refine op_v' (j_add rfl rfl (by omega) (by omega)) ?_
        refine op_v' (j_assign (evo rfl)) ?_
        refine op_nil ?_
        exact ⟨k + 1, ⟨(by omega), take_next hpre0.2 (by omega) (by omega) h3⟩, ⟨⟨rfl, rfl⟩, ⟨rfl, trivial⟩, trivial, ⟨rfl, rfl⟩, ⟨rfl, rfl⟩⟩, (by omega)⟩
    ·
      have h2r := h2
      try simp only [Bool.not_eq_true', Bool.not_eq_false', Bool.not_not, bne_iff_ne, bne_eq_false_iff_eq, beq_eq_false_iff_ne, beq_iff_eq, ne_eq, decide_eq_true_eq, decide_eq_false_iff_not, Classical.not_not, List.length_map, List.length_take, Int.toNat_natCast] at h2
      refine a_exit ?_
      refine a_seq ?_
      refine a_region (by kernel_rfl) ?_
      refine op_v' (j_assign (evo rfl)) ?_
      refine op_nil ?_
      refine a_ret ?_
      exact ⟨[.p _], .p _, [], [], [], ⟨rfl, trivial⟩, rfl, rfl, trivial, rfl, rfl, ⟨boolEq (by symm; rw [decide_eq_true_eq]; exact take_eq hpre0.2 (by omega) (by omega)), rfl, rfl⟩⟩


theorem f_eqRule (a b : Rl) : Fn Try.prog 135 [.agg [.p (.int .i64 a.1), .sl (a.2.1.map dI), .sl (a.2.2.1.map dI), .p (.int .i64 a.2.2.2.1), .sl (a.2.2.2.2.map dL)], .agg [.p (.int .i64 b.1), .sl (b.2.1.map dI), .sl (b.2.2.1.map dI), .p (.int .i64 b.2.2.2.1), .sl (b.2.2.2.2.map dL)]] [] (fun rr ii nn => rr = .p (.bool (decide (a = b))) ∧ ii = [] ∧ nn = []) := by
  refine fn_of Try.func135 rfl (Nat.le_of_ble_eq_true rfl) fun w X g => ?_
  show AWp _ _ _ ⟨[(0, .agg [.p (.int .i64 a.1), .sl (a.2.1.map dI), .sl (a.2.2.1.map dI), .p (.int .i64 a.2.2.2.1), .sl (a.2.2.2.2.map dL)]), (1, .agg [.p (.int .i64 b.1), .sl (b.2.1.map dI), .sl (b.2.2.1.map dI), .p (.int .i64 b.2.2.2.1), .sl (b.2.2.2.2.map dL)])], []⟩
  refine a_seq ?_
  refine a_region (by kernel_rfl) ?_
  refine op_n' (fun ver => j_boxa rfl) fun v2x1 => ?_
  refine op_n' (fun ver => j_boxa rfl) fun v3x2 => ?_
  refine op_v' (j_assign (evo rfl)) ?_
  refine op_nil ?_
  refine a_seq ?_
  refine a_seq ?_
  refine a_region (by kernel_rfl) ?_
  refine op_v' (j_fldp fld43f0 rfl rfl) ?_
  refine op_v' (j_load_box leaf3 rfl rfl rfl) ?_
  refine op_v' (j_fldp fld43f0 rfl rfl) ?_
  refine op_v' (j_load_box leaf3 rfl rfl rfl) ?_
  refine op_v' (j_ne rfl rfl) ?_
  refine op_nil ?_
  refine a_cond rfl (fun h1 => ?_) (fun h1 => ?_)
  ·
    have h1r := h1
    try simp only [Bool.not_eq_true', Bool.not_eq_false', Bool.not_not, bne_iff_ne, bne_eq_false_iff_eq, beq_eq_false_iff_ne, beq_iff_eq, ne_eq, decide_eq_true_eq, decide_eq_false_iff_not, Classical.not_not, List.length_map, List.length_take, Int.toNat_natCast] at h1
    refine a_seq ?_
    refine a_region (by kernel_rfl) ?_
    refine op_v' (j_assign (evo rfl)) ?_
    refine op_nil ?_
    refine a_ret ?_
    exact ⟨[.p _], .p _, [], [], [], ⟨rfl, trivial⟩, rfl, rfl, trivial, rfl, rfl, ⟨boolEq (by symm; rw [decide_eq_false_iff_not]; rintro rfl; simp_all), rfl, rfl⟩⟩
  ·
    have h1r := h1
    try simp only [Bool.not_eq_true', Bool.not_eq_false', Bool.not_not, bne_iff_ne, bne_eq_false_iff_eq, beq_eq_false_iff_ne, beq_iff_eq, ne_eq, decide_eq_true_eq, decide_eq_false_iff_not, Classical.not_not, List.length_map, List.length_take, Int.toNat_natCast] at h1
    refine a_skip ?_
    refine a_seq ?_
    refine a_seq ?_
    refine a_region (by kernel_rfl) ?_
    refine op_v' (j_fldp fld43f1 rfl rfl) ?_
    refine op_v' (j_load_box leaf23 rfl rfl rfl) ?_
    refine op_v' (j_fldp fld43f1 rfl rfl) ?_
    refine op_v' (j_load_box leaf23 rfl rfl rfl) ?_
    refine op_v0' (j_call0 (v := .p _) (hp1 := []) [] false [] ent107 (f_eqIntS a.2.1 b.2.1) ⟨.inl ⟨rfl, rfl⟩, .inl ⟨rfl, rfl⟩, trivial⟩ trivial rfl rfl (fun h => by cases h) rfl (fun _ h => by cases h) (.inl rfl) rfl rfl) ?_
    refine op_v' (j_not rfl) ?_
    refine op_nil ?_
    refine a_cond rfl (fun h2 => ?_) (fun h2 => ?_)
    ·
      have h2r := h2
      try simp only [Bool.not_eq_true', Bool.not_eq_false', Bool.not_not, bne_iff_ne, bne_eq_false_iff_eq, beq_eq_false_iff_ne, beq_iff_eq, ne_eq, decide_eq_true_eq, decide_eq_false_iff_not, Classical.not_not, List.length_map, List.length_take, Int.toNat_natCast] at h2
      refine a_seq ?_
      refine a_region (by kernel_rfl) ?_
      refine op_v' (j_assign (evo rfl)) ?_
      refine op_nil ?_
      refine a_ret ?_
      exact ⟨[.p _], .p _, [], [], [], ⟨rfl, trivial⟩, rfl, rfl, trivial, rfl, rfl, ⟨boolEq (by symm; rw [decide_eq_false_iff_not]; rintro rfl; simp_all), rfl, rfl⟩⟩
    ·
      have h2r := h2
      try simp only [Bool.not_eq_true', Bool.not_eq_false', Bool.not_not, bne_iff_ne, bne_eq_false_iff_eq, beq_eq_false_iff_ne, beq_iff_eq, ne_eq, decide_eq_true_eq, decide_eq_false_iff_not, Classical.not_not, List.length_map, List.length_take, Int.toNat_natCast] at h2
      refine a_skip ?_
      refine a_seq ?_
      refine a_seq ?_
      refine a_region (by kernel_rfl) ?_
      refine op_v' (j_fldp fld43f2 rfl rfl) ?_
      refine op_v' (j_load_box leaf23 rfl rfl rfl) ?_
      refine op_v' (j_fldp fld43f2 rfl rfl) ?_
      refine op_v' (j_load_box leaf23 rfl rfl rfl) ?_
      refine op_v0' (j_call0 (v := .p _) (hp1 := []) [] false [] ent107 (f_eqIntS a.2.2.1 b.2.2.1) ⟨.inl ⟨rfl, rfl⟩, .inl ⟨rfl, rfl⟩, trivial⟩ trivial rfl rfl (fun h => by cases h) rfl (fun _ h => by cases h) (.inl rfl) rfl rfl) ?_
      refine op_v' (j_not rfl) ?_
      refine op_nil ?_
      refine a_cond rfl (fun h3 => ?_) (fun h3 => ?_)
      ·
        have h3r := h3
        try simp only [Bool.not_eq_true', Bool.not_eq_false', Bool.not_not, bne_iff_ne, bne_eq_false_iff_eq, beq_eq_false_iff_ne, beq_iff_eq, ne_eq, decide_eq_true_eq, decide_eq_false_iff_not, Classical.not_not, List.length_map, List.length_take, Int.toNat_natCast] at h3
        refine a_seq ?_
        refine a_region (by kernel_rfl) ?_
        refine op_v' (j_assign (evo rfl)) ?_
        refine op_nil ?_
        refine a_ret ?_
        exact ⟨[.p _], .p _, [], [], [], ⟨rfl, trivial⟩, rfl, rfl, trivial, rfl, rfl, ⟨boolEq (by symm; rw [decide_eq_false_iff_not]; rintro rfl; simp_all), rfl, rfl⟩⟩
      ·
        have h3r := h3
        try simp only [Bool.not_eq_true', Bool.not_eq_false', Bool.not_not, bne_iff_ne, bne_eq_false_iff_eq, beq_eq_false_iff_ne, beq_iff_eq, ne_eq, decide_eq_true_eq, decide_eq_false_iff_not, Classical.not_not, List.length_map, List.length_take, Int.toNat_natCast] at h3
        refine a_skip ?_
        refine a_seq ?_
        refine a_seq ?_
        refine a_region (by kernel_rfl) ?_
        refine op_v' (j_fldp fld43f3 rfl rfl) ?_
        refine op_v' (j_load_box leaf3 rfl rfl rfl) ?_
        refine op_v' (j_fldp fld43f3 rfl rfl) ?_
        refine op_v' (j_load_box leaf3 rfl rfl rfl) ?_
        refine op_v' (j_ne rfl rfl) ?_
        refine op_nil ?_
        refine a_cond rfl (fun h4 => ?_) (fun h4 => ?_)
        ·
          have h4r := h4
          try simp only [Bool.not_eq_true', Bool.not_eq_false', Bool.not_not, bne_iff_ne, bne_eq_false_iff_eq, beq_eq_false_iff_ne, beq_iff_eq, ne_eq, decide_eq_true_eq, decide_eq_false_iff_not, Classical.not_not, List.length_map, List.length_take, Int.toNat_natCast] at h4
          refine a_seq ?_
          refine a_region (by kernel_rfl) ?_
          refine op_v' (j_assign (evo rfl)) ?_
          refine op_nil ?_
          refine a_ret ?_
          exact ⟨[.p _], .p _, [], [], [], ⟨rfl, trivial⟩, rfl, rfl, trivial, rfl, rfl, ⟨boolEq (by symm; rw [decide_eq_false_iff_not]; rintro rfl; simp_all), rfl, rfl⟩⟩
        ·
          have h4r := h4
          try simp only [Bool.not_eq_true', Bool.not_eq_false', Bool.not_not, bne_iff_ne, bne_eq_false_iff_eq, beq_eq_false_iff_ne, beq_iff_eq, ne_eq, decide_eq_true_eq, decide_eq_false_iff_not, Classical.not_not, List.length_map, List.length_take, Int.toNat_natCast] at h4
          refine a_skip ?_
          refine a_seq ?_
          refine a_seq ?_
          refine a_region (by kernel_rfl) ?_
          refine op_v' (j_fldp fld43f4 rfl rfl) ?_
          refine op_v' (j_load_box leaf41 rfl rfl rfl) ?_
          refine op_v' (j_fldp fld43f4 rfl rfl) ?_
          refine op_v' (j_load_box leaf41 rfl rfl rfl) ?_
          refine op_v0' (j_call0 (v := .p _) (hp1 := []) [] false [] ent147 (f_eqIntSS a.2.2.2.2 b.2.2.2.2) ⟨.inl ⟨rfl, rfl⟩, .inl ⟨rfl, rfl⟩, trivial⟩ trivial rfl rfl (fun h => by cases h) rfl (fun _ h => by cases h) (.inl rfl) rfl rfl) ?_
          refine op_v' (j_not rfl) ?_
          refine op_nil ?_
          refine a_cond rfl (fun h5 => ?_) (fun h5 => ?_)
          ·
            have h5r := h5
            try simp only [Bool.not_eq_true', Bool.not_eq_false', Bool.not_not, bne_iff_ne, bne_eq_false_iff_eq, beq_eq_false_iff_ne, beq_iff_eq, ne_eq, decide_eq_true_eq, decide_eq_false_iff_not, Classical.not_not, List.length_map, List.length_take, Int.toNat_natCast] at h5
            refine a_seq ?_
            refine a_region (by kernel_rfl) ?_
            refine op_v' (j_assign (evo rfl)) ?_
            refine op_nil ?_
            refine a_ret ?_
            exact ⟨[.p _], .p _, [], [], [], ⟨rfl, trivial⟩, rfl, rfl, trivial, rfl, rfl, ⟨boolEq (by symm; rw [decide_eq_false_iff_not]; rintro rfl; simp_all), rfl, rfl⟩⟩
          ·
            have h5r := h5
            try simp only [Bool.not_eq_true', Bool.not_eq_false', Bool.not_not, bne_iff_ne, bne_eq_false_iff_eq, beq_eq_false_iff_ne, beq_iff_eq, ne_eq, decide_eq_true_eq, decide_eq_false_iff_not, Classical.not_not, List.length_map, List.length_take, Int.toNat_natCast] at h5
            refine a_skip ?_
            refine a_seq ?_
            refine a_region (by kernel_rfl) ?_
            refine op_v' (j_assign (evo rfl)) ?_
            refine op_nil ?_
            refine a_ret ?_
            exact ⟨[.p _], .p _, [], [], [], ⟨rfl, trivial⟩, rfl, rfl, trivial, rfl, rfl, ⟨boolEq (by symm; rw [decide_eq_true_eq]; exact Prod.ext h1 (Prod.ext h2 (Prod.ext h3 (Prod.ext h4 h5)))), rfl, rfl⟩⟩


theorem f_eqRuleS (a b : List Rl) : Fn Try.prog 108 [.sl (a.map dR), .sl (b.map dR)] [] (fun rr ii nn => rr = .p (.bool (decide (a = b))) ∧ ii = [] ∧ nn = []) := by
  refine fn_of Try.func108 rfl (Nat.le_of_ble_eq_true rfl) fun w X g => ?_
  show AWp _ _ _ ⟨[(0, .sl (a.map dR)), (1, .sl (b.map dR))], []⟩
  refine a_len_map 0 rfl fun hla => ?_
  refine a_seq ?_
  refine a_region (by kernel_rfl) ?_
  refine op_v' (j_assign (evo rfl)) ?_
  refine op_nil ?_
  refine a_seq ?_
  refine a_seq ?_
  refine a_region (by kernel_rfl) ?_
  refine op_v' (j_move (evo rfl)) ?_
  refine op_v' (j_len_map Try.underlying24 rfl) ?_
  refine op_v' (j_move (evo rfl)) ?_
  refine op_v' (j_len_map Try.underlying24 rfl) ?_
  refine op_v' (j_ne rfl rfl) ?_
  refine op_nil ?_
  refine a_cond rfl (fun h1 => ?_) (fun h1 => ?_)
  ·
    have h1r := h1
    try simp only [Bool.not_eq_true', Bool.not_eq_false', Bool.not_not, bne_iff_ne, bne_eq_false_iff_eq, beq_eq_false_iff_ne, beq_iff_eq, ne_eq, decide_eq_true_eq, decide_eq_false_iff_not, Classical.not_not, List.length_map, List.length_take, Int.toNat_natCast] at h1
    refine a_seq ?_
    refine a_region (by kernel_rfl) ?_
    refine op_v' (j_assign (evo rfl)) ?_
    refine op_nil ?_
    refine a_ret ?_
    exact ⟨[.p _], .p _, [], [], [], ⟨rfl, trivial⟩, rfl, rfl, trivial, rfl, rfl, ⟨boolEq (by symm; rw [decide_eq_false_iff_not]; rintro rfl; exact h1 rfl), rfl, rfl⟩⟩
  ·
    have h1r := h1
    try simp only [Bool.not_eq_true', Bool.not_eq_false', Bool.not_not, bne_iff_ne, bne_eq_false_iff_eq, beq_eq_false_iff_ne, beq_iff_eq, ne_eq, decide_eq_true_eq, decide_eq_false_iff_not, Classical.not_not, List.length_map, List.length_take, Int.toNat_natCast] at h1
    refine a_skip ?_
    refine a_seq ?_
    refine a_seq ?_
    refine a_region (by kernel_rfl) ?_
    refine op_v' (j_assign (evo rfl)) ?_
    refine op_nil ?_
    refine a_block ?_
    refine a_loopF' (ι := Nat) (fun k => k ≤ a.length ∧ a.take k = b.take k) (fun k r => (5, .p (.int .i64 ((k : Nat)))) :: r) (fun k r => r) (fun k => a.length - k) (fun _ _ => rfl) (fun _ _ => rfl) 0 ⟨Nat.zero_le _, rfl⟩ ⟨⟨rfl, rfl⟩, ⟨rfl, trivial⟩, trivial, ⟨rfl, rfl⟩, ⟨rfl, rfl⟩⟩ ?_
    intro k hpre0
    refine a_seq ?_
    refine a_seq ?_
    refine a_region (by kernel_rfl) ?_
    refine op_v' (j_move (evo rfl)) ?_
    refine op_v' (j_move (evo rfl)) ?_
    refine op_v' (j_len_map Try.underlying24 rfl) ?_
    refine op_v' (j_lt rfl rfl) ?_
    refine op_nil ?_
    refine a_cond rfl (fun h2 => ?_) (fun h2 => ?_)
    ·
      have h2r := h2
      try simp only [Bool.not_eq_true', Bool.not_eq_false', Bool.not_not, bne_iff_ne, bne_eq_false_iff_eq, beq_eq_false_iff_ne, beq_iff_eq, ne_eq, decide_eq_true_eq, decide_eq_false_iff_not, Classical.not_not, List.length_map, List.length_take, Int.toNat_natCast] at h2
      refine a_skip ?_
      refine a_seq ?_
      refine a_block ?_
      refine a_seq ?_
      refine a_draw mixed (by kernel_rfl) (by kernel_rfl) fun vf => ?_
      refine d_v' (j_move (evo rfl)) ?_
      refine d_v' (j_move (evo rfl)) ?_
      refine d_v' (j_elemN slt24 rfl rfl rfl (at_map (by omega)) rfl) ?_
      refine d_v' (j_loada_el (ys := [.p _, .sl _, .sl _, .p _, .sl _]) agg43 rfl (at_map (by omega)) rfl (Nat.le_refl _)) ?_
      refine d_v' (j_move (evo rfl)) ?_
      refine d_v' (j_move (evo rfl)) ?_
      refine d_v' (j_elemN slt24 rfl rfl rfl (at_map (by omega)) rfl) ?_
      refine d_v' (j_loada_el (ys := [.p _, .sl _, .sl _, .p _, .sl _]) agg43 rfl (at_map (by omega)) rfl (Nat.le_refl _)) ?_
      refine d_v0' (j_call0 (v := .p _) (hp1 := []) [] false [] ent135 (f_eqRule (a.getD k default) (b.getD k default)) ⟨.inl ⟨rfl, rfl⟩, .inl ⟨rfl, rfl⟩, trivial⟩ trivial rfl rfl (fun h => by cases h) rfl (fun _ h => by cases h) (.inl rfl) rfl rfl) ?_
      refine d_v' (j_not rfl) ?_
      refine d_nil (by kernel_rfl) (by kernel_rfl) ?_
      refine a_cond rfl (fun h3 => ?_) (fun h3 => ?_)
      ·
        have h3r := h3
        try simp only [Bool.not_eq_true', Bool.not_eq_false', Bool.not_not, bne_iff_ne, bne_eq_false_iff_eq, beq_eq_false_iff_ne, beq_iff_eq, ne_eq, decide_eq_true_eq, decide_eq_false_iff_not, Classical.not_not, List.length_map, List.length_take, Int.toNat_natCast] at h3
        refine a_seq ?_
        refine a_region (by kernel_rfl) ?_
        refine op_v' (j_assign (evo rfl)) ?_
        refine op_nil ?_
        refine a_ret ?_
        exact ⟨[.p _], .p _, [], [], [], ⟨rfl, trivial⟩, rfl, rfl, trivial, rfl, rfl, ⟨boolEq (by symm; rw [decide_eq_false_iff_not]; rintro rfl; exact h3 rfl), rfl, rfl⟩⟩
      ·
        have h3r := h3
        try simp only [Bool.not_eq_true', Bool.not_eq_false', Bool.not_not, bne_iff_ne, bne_eq_false_iff_eq, beq_eq_false_iff_ne, beq_iff_eq, ne_eq, decide_eq_true_eq, decide_eq_false_iff_not, Classical.not_not, List.length_map, List.length_take, Int.toNat_natCast] at h3
        refine a_skip ?_
        refine a_region (by kernel_rfl) ?_
        refine op_v' (j_move (evo rfl)) ?_
        refine op_v' (j_add rfl rfl (by omega) (by omega)) ?_
        refine op_v' (j_assign (evo rfl)) ?_
        refine op_nil ?_
        exact ⟨k + 1, ⟨(by omega), take_next hpre0.2 (by omega) (by omega) h3⟩, ⟨⟨rfl, rfl⟩, ⟨rfl, trivial⟩, trivial, ⟨rfl, rfl⟩, ⟨rfl, rfl⟩⟩, (by omega)⟩
    ·
      have h2r := h2
      try simp only [Bool.not_eq_true', Bool.not_eq_false', Bool.not_not, bne_iff_ne, bne_eq_false_iff_eq, beq_eq_false_iff_ne, beq_iff_eq, ne_eq, decide_eq_true_eq, decide_eq_false_iff_not, Classical.not_not, List.length_map, List.length_take, Int.toNat_natCast] at h2
      refine a_exit ?_
      refine a_seq ?_
      refine a_region (by kernel_rfl) ?_
      refine op_v' (j_assign (evo rfl)) ?_
      refine op_nil ?_
      refine a_ret ?_
      exact ⟨[.p _], .p _, [], [], [], ⟨rfl, trivial⟩, rfl, rfl, trivial, rfl, rfl, ⟨boolEq (by symm; rw [decide_eq_true_eq]; exact take_eq hpre0.2 (by omega) (by omega)), rfl, rfl⟩⟩


theorem f_eqModel (a b : Md) : Fn Try.prog 49 [.agg [.sl (a.1.map dI), .sl (a.2.map dR)], .agg [.sl (b.1.map dI), .sl (b.2.map dR)]] [] (fun rr ii nn => rr = .p (.bool (decide ((a : List Int × List Rl) = b))) ∧ ii = [] ∧ nn = []) := by
  refine fn_of Try.func49 rfl (Nat.le_of_ble_eq_true rfl) fun w X g => ?_
  show AWp _ _ _ ⟨[(0, .agg [.sl (a.1.map dI), .sl (a.2.map dR)]), (1, .agg [.sl (b.1.map dI), .sl (b.2.map dR)])], []⟩
  refine a_seq ?_
  refine a_region (by kernel_rfl) ?_
  refine op_n' (fun ver => j_boxa rfl) fun v2x1 => ?_
  refine op_n' (fun ver => j_boxa rfl) fun v3x2 => ?_
  refine op_v' (j_assign (evo rfl)) ?_
  refine op_nil ?_
  refine a_seq ?_
  refine a_seq ?_
  refine a_region (by kernel_rfl) ?_
  refine op_v' (j_fldp fld26f0 rfl rfl) ?_
  refine op_v' (j_load_box leaf23 rfl rfl rfl) ?_
  refine op_v' (j_fldp fld26f0 rfl rfl) ?_
  refine op_v' (j_load_box leaf23 rfl rfl rfl) ?_
  refine op_v0' (j_call0 (v := .p _) (hp1 := []) [] false [] ent107 (f_eqIntS a.1 b.1) ⟨.inl ⟨rfl, rfl⟩, .inl ⟨rfl, rfl⟩, trivial⟩ trivial rfl rfl (fun h => by cases h) rfl (fun _ h => by cases h) (.inl rfl) rfl rfl) ?_
  refine op_v' (j_not rfl) ?_
  refine op_nil ?_
  refine a_cond rfl (fun h1 => ?_) (fun h1 => ?_)
  ·
    have h1r := h1
    try simp only [Bool.not_eq_true', Bool.not_eq_false', Bool.not_not, bne_iff_ne, bne_eq_false_iff_eq, beq_eq_false_iff_ne, beq_iff_eq, ne_eq, decide_eq_true_eq, decide_eq_false_iff_not, Classical.not_not, List.length_map, List.length_take, Int.toNat_natCast] at h1
    refine a_seq ?_
    refine a_region (by kernel_rfl) ?_
    refine op_v' (j_assign (evo rfl)) ?_
    refine op_nil ?_
    refine a_ret ?_
    exact ⟨[.p _], .p _, [], [], [], ⟨rfl, trivial⟩, rfl, rfl, trivial, rfl, rfl, ⟨boolEq (by symm; rw [decide_eq_false_iff_not]; rintro rfl; simp_all), rfl, rfl⟩⟩
  ·
    have h1r := h1
    try simp only [Bool.not_eq_true', Bool.not_eq_false', Bool.not_not, bne_iff_ne, bne_eq_false_iff_eq, beq_eq_false_iff_ne, beq_iff_eq, ne_eq, decide_eq_true_eq, decide_eq_false_iff_not, Classical.not_not, List.length_map, List.length_take, Int.toNat_natCast] at h1
    refine a_skip ?_
    refine a_seq ?_
    refine a_seq ?_
    refine a_region (by kernel_rfl) ?_
    refine op_v' (j_fldp fld26f1 rfl rfl) ?_
    refine op_v' (j_load_box leaf24 rfl rfl rfl) ?_
    refine op_v' (j_fldp fld26f1 rfl rfl) ?_
    refine op_v' (j_load_box leaf24 rfl rfl rfl) ?_
    refine op_v0' (j_call0 (v := .p _) (hp1 := []) [] false [] ent108 (f_eqRuleS a.2 b.2) ⟨.inl ⟨rfl, rfl⟩, .inl ⟨rfl, rfl⟩, trivial⟩ trivial rfl rfl (fun h => by cases h) rfl (fun _ h => by cases h) (.inl rfl) rfl rfl) ?_
    refine op_v' (j_not rfl) ?_
    refine op_nil ?_
    refine a_cond rfl (fun h2 => ?_) (fun h2 => ?_)
    ·
      have h2r := h2
      try simp only [Bool.not_eq_true', Bool.not_eq_false', Bool.not_not, bne_iff_ne, bne_eq_false_iff_eq, beq_eq_false_iff_ne, beq_iff_eq, ne_eq, decide_eq_true_eq, decide_eq_false_iff_not, Classical.not_not, List.length_map, List.length_take, Int.toNat_natCast] at h2
      refine a_seq ?_
      refine a_region (by kernel_rfl) ?_
      refine op_v' (j_assign (evo rfl)) ?_
      refine op_nil ?_
      refine a_ret ?_
      exact ⟨[.p _], .p _, [], [], [], ⟨rfl, trivial⟩, rfl, rfl, trivial, rfl, rfl, ⟨boolEq (by symm; rw [decide_eq_false_iff_not]; rintro rfl; simp_all), rfl, rfl⟩⟩
    ·
      have h2r := h2
      try simp only [Bool.not_eq_true', Bool.not_eq_false', Bool.not_not, bne_iff_ne, bne_eq_false_iff_eq, beq_eq_false_iff_ne, beq_iff_eq, ne_eq, decide_eq_true_eq, decide_eq_false_iff_not, Classical.not_not, List.length_map, List.length_take, Int.toNat_natCast] at h2
      refine a_skip ?_
      refine a_seq ?_
      refine a_region (by kernel_rfl) ?_
      refine op_v' (j_assign (evo rfl)) ?_
      refine op_nil ?_
      refine a_ret ?_
      exact ⟨[.p _], .p _, [], [], [], ⟨rfl, trivial⟩, rfl, rfl, trivial, rfl, rfl, ⟨boolEq (by symm; rw [decide_eq_true_eq]; exact Prod.ext h1 h2), rfl, rfl⟩⟩


theorem f_markBoolSS (k : Nat) (l : List (List Bool)) (hb : k + sumW List.length l ≤ 4611686018427387904) (hl : l.length ≤ 1048576) : Fn Try.prog 51 [.own 0 0, .p (.int .i64 ((k : Nat)))] [.deep (.mk 34 1 [(0, .mk 4 1 [])]) ((l).map dD) none] (fun rr ii nn => rr = .p (.int .i64 (((k + sumW List.length l : Nat) : Int))) ∧ ii = [.deep (.mk 34 1 [(0, .mk 4 1 [])]) ((marksLB k l).map dD) none] ∧ nn = []) := by
  refine fn_of Try.func51 rfl (Nat.le_of_ble_eq_true rfl) fun w X g => ?_
  show AWp _ _ _ ⟨[(0, .own 0 0), (1, .p (.int .i64 ((k : Nat))))], [(0, some (0, .deep (.mk 34 1 [(0, .mk 4 1 [])]) ((l).map dD) none))]⟩
  have hlb := lenW_le (l := l)
  refine a_seq ?_
  refine a_region (by kernel_rfl) ?_
  refine op_v' (j_assign (evo rfl)) ?_
  refine op_nil ?_
  refine a_seq ?_
  refine a_seq ?_
  refine a_region (by kernel_rfl) ?_
  refine op_v' (j_assign (evo rfl)) ?_
  refine op_nil ?_
  refine a_block ?_
  refine a_loopF' (ι := Nat) (fun i => i ≤ l.length) (fun i r => (5, .p (.int .i64 ((i : Nat)))) :: (1, .p (.int .i64 (((k + sumW List.length (l.take i) : Nat) : Int)))) :: r) (fun i r => (0, some (0, .deep (.mk 34 1 [(0, .mk 4 1 [])]) (wo dD (marksLB k l) l i) none)) :: r) (fun i => l.length - i) (fun _ _ => rfl) (fun _ _ => rfl) 0 (by first | omega | (simp only [List.length_map, List.length_take, Int.toNat_natCast, wo_length, marksLB_length, List.length_set]; omega)) ⟨⟨rfl, rfl⟩, ⟨rfl, intEq (by simp [sumW]), trivial⟩, ⟨deepEq wo_zero.symm, trivial⟩, ⟨rfl, rfl⟩, ⟨rfl, rfl⟩⟩ ?_
  intro i hpre0
  refine a_seq ?_
  refine a_seq ?_
  refine a_region (by kernel_rfl) ?_
  refine op_v' (j_move (evo rfl)) ?_
  refine op_v' (j_move (evo rfl)) ?_
  refine op_v' (j_len_deep Try.underlying28 rfl rfl) ?_
  refine op_v' (j_lt rfl rfl) ?_
  refine op_nil ?_
  refine a_cond rfl (fun h1 => ?_) (fun h1 => ?_)
  ·
    have h1r := h1
    try simp only [Bool.not_eq_true', Bool.not_eq_false', Bool.not_not, bne_iff_ne, bne_eq_false_iff_eq, beq_eq_false_iff_ne, beq_iff_eq, ne_eq, decide_eq_true_eq, decide_eq_false_iff_not, Classical.not_not, List.length_map, List.length_take, Int.toNat_natCast, wo_length, marksLB_length, List.length_set] at h1
    refine a_skip ?_
    refine a_seq ?_
    refine a_block ?_
    have hs2 := sumW_take (w := List.length) (d := default) (l := l) (k := i) (by first | omega | (simp only [List.length_map, List.length_take, Int.toNat_natCast, wo_length, marksLB_length, List.length_set]; omega))
    have hs3 := sumW_le (w := List.length) (l := l) (k := i + 1)
    refine a_region (by kernel_rfl) ?_
    refine op_v' (j_move (evo rfl)) ?_
    refine op_v' (j_move (evo rfl)) ?_
    refine op_v' (j_elem_deepN slt28 rfl rfl rfl rfl rfl (by first | omega | (simp only [List.length_map, List.length_take, Int.toNat_natCast, wo_length, marksLB_length, List.length_set]; omega))) ?_
    refine op_n1' (fun ver => j_out leaf34 (by decide) rfl rfl rfl (wo_at (by first | omega | (simp only [List.length_map, List.length_take, Int.toNat_natCast, wo_length, marksLB_length, List.length_set]; omega)) (by first | omega | (simp only [List.length_map, List.length_take, Int.toNat_natCast, wo_length, marksLB_length, List.length_set]; omega))) rfl rfl) fun v15x1 => ?_
    refine op_v' (j_move (evo rfl)) ?_
    refine op_v0' (j_call0 (v := .p _) (hp1 := [(15, some (v15x1, .row 4 1 _))]) [(15, v15x1)] false [15] ent111 (f_markBoolS (k + sumW List.length (l.take i)) (l.getD i default) (by omega)) ⟨.inl ⟨rfl, rfl⟩, .inl ⟨rfl, rfl⟩, trivial⟩ ⟨⟨rfl, rfl⟩, trivial⟩ rfl rfl (fun h => by cases h) rfl (List.all_eq_true.1 rfl) (.inl rfl) rfl rfl) ?_
    refine op_v' (j_assign (evo rfl)) ?_
    refine op_nil ?_
    refine a_back 0 15 (by decide) rfl rfl rfl rfl (wo_at (by first | omega | (simp only [List.length_map, List.length_take, Int.toNat_natCast, wo_length, marksLB_length, List.length_set]; omega)) (by first | omega | (simp only [List.length_map, List.length_take, Int.toNat_natCast, wo_length, marksLB_length, List.length_set]; omega))) rfl ?_
    refine a_region (by kernel_rfl) ?_
    refine op_v' (j_move (evo rfl)) ?_
    refine op_v' (j_add rfl rfl (by first | omega | (simp only [List.length_map, List.length_take, Int.toNat_natCast, wo_length, marksLB_length, List.length_set]; omega)) (by first | omega | (simp only [List.length_map, List.length_take, Int.toNat_natCast, wo_length, marksLB_length, List.length_set]; omega))) ?_
    refine op_v' (j_assign (evo rfl)) ?_
    refine op_nil ?_
    exact ⟨i + 1, (by first | omega | (simp only [List.length_map, List.length_take, Int.toNat_natCast, wo_length, marksLB_length, List.length_set]; omega)), ⟨⟨rfl, rfl⟩, ⟨rfl, intEq (by omega), trivial⟩, ⟨deepEq (wo_set (d := default) (x := marksB (k + sumW List.length (l.take i)) (l.getD i default).length) (by first | omega | (simp only [List.length_map, List.length_take, Int.toNat_natCast, wo_length, marksLB_length, List.length_set]; omega)) (by first | omega | (simp only [List.length_map, List.length_take, Int.toNat_natCast, wo_length, marksLB_length, List.length_set]; omega)) (marksLB_at (by first | omega | (simp only [List.length_map, List.length_take, Int.toNat_natCast, wo_length, marksLB_length, List.length_set]; omega)))), trivial⟩, ⟨rfl, rfl⟩, ⟨rfl, rfl⟩⟩, (by first | omega | (simp only [List.length_map, List.length_take, Int.toNat_natCast, wo_length, marksLB_length, List.length_set]; omega))⟩
  ·
    have h1r := h1
    try simp only [Bool.not_eq_true', Bool.not_eq_false', Bool.not_not, bne_iff_ne, bne_eq_false_iff_eq, beq_eq_false_iff_ne, beq_iff_eq, ne_eq, decide_eq_true_eq, decide_eq_false_iff_not, Classical.not_not, List.length_map, List.length_take, Int.toNat_natCast, wo_length, marksLB_length, List.length_set] at h1
    refine a_exit ?_
    refine a_seq ?_
    refine a_region (by kernel_rfl) ?_
    refine op_v' (j_move (evo rfl)) ?_
    refine op_v' (j_assign (evo rfl)) ?_
    refine op_nil ?_
    refine a_ret ?_
    exact ⟨[.p _], .p _, [.deep (.mk 34 1 [(0, (.mk 4 1 []))]) _ none], [], [], ⟨rfl, trivial⟩, rfl, rfl, ⟨⟨rfl, rfl⟩, trivial⟩, rfl, rfl, ⟨by rw [show i = l.length by first | omega | (simp only [List.length_map, List.length_take, Int.toNat_natCast, wo_length, marksLB_length, List.length_set]; omega), List.take_length], congrArg (fun x => [Obj.deep _ x none]) (wo_all (by first | omega | (simp only [List.length_map, List.length_take, Int.toNat_natCast, wo_length, marksLB_length, List.length_set]; omega)) (by first | omega | (simp only [List.length_map, List.length_take, Int.toNat_natCast, wo_length, marksLB_length, List.length_set]; omega))), rfl⟩⟩


theorem f_heldBoolSS (k : Nat) (l : List (List Bool)) (hb : k + sumW List.length l ≤ 4611686018427387904) (hl : l.length ≤ 1048576) : Fn Try.prog 52 [.sl ((marksLB k l).map dD), .p (.int .i64 ((k : Nat)))] [] (fun rr ii nn => rr = .p (.int .i64 (((k + sumW List.length l : Nat) : Int))) ∧ ii = [] ∧ nn = []) := by
  refine fn_of Try.func52 rfl (Nat.le_of_ble_eq_true rfl) fun w X g => ?_
  show AWp _ _ _ ⟨[(0, .sl ((marksLB k l).map dD)), (1, .p (.int .i64 ((k : Nat))))], []⟩
  refine a_len_map 0 rfl fun hla => ?_
  refine a_seq ?_
  refine a_region (by kernel_rfl) ?_
  refine op_v' (j_assign (evo rfl)) ?_
  refine op_nil ?_
  refine a_seq ?_
  refine a_seq ?_
  refine a_region (by kernel_rfl) ?_
  refine op_v' (j_assign (evo rfl)) ?_
  refine op_nil ?_
  refine a_block ?_
  refine a_loopF' (ι := Nat) (fun i => i ≤ l.length) (fun i r => (5, .p (.int .i64 ((i : Nat)))) :: (1, .p (.int .i64 (((k + sumW List.length (l.take i) : Nat) : Int)))) :: r) (fun i r => r) (fun i => l.length - i) (fun _ _ => rfl) (fun _ _ => rfl) 0 (by first | omega | (simp only [List.length_map, List.length_take, Int.toNat_natCast, marksLB_length]; omega)) ⟨⟨rfl, rfl⟩, ⟨rfl, intEq (by simp [sumW]), trivial⟩, trivial, ⟨rfl, rfl⟩, ⟨rfl, rfl⟩⟩ ?_
  intro i hpre0
  refine a_seq ?_
  refine a_seq ?_
  refine a_region (by kernel_rfl) ?_
  refine op_v' (j_move (evo rfl)) ?_
  refine op_v' (j_move (evo rfl)) ?_
  refine op_v' (j_len_map Try.underlying28 rfl) ?_
  refine op_v' (j_lt rfl rfl) ?_
  refine op_nil ?_
  refine a_cond rfl (fun h1 => ?_) (fun h1 => ?_)
  ·
    have h1r := h1
    try simp only [Bool.not_eq_true', Bool.not_eq_false', Bool.not_not, bne_iff_ne, bne_eq_false_iff_eq, beq_eq_false_iff_ne, beq_iff_eq, ne_eq, decide_eq_true_eq, decide_eq_false_iff_not, Classical.not_not, List.length_map, List.length_take, Int.toNat_natCast, marksLB_length] at h1
    refine a_skip ?_
    refine a_seq ?_
    refine a_block ?_
    refine a_seq ?_
    have hs2 := sumW_take (w := List.length) (d := default) (l := l) (k := i) (by first | omega | (simp only [List.length_map, List.length_take, Int.toNat_natCast, marksLB_length]; omega))
    have hs3 := sumW_le (w := List.length) (l := l) (k := i + 1)
    refine a_region (by kernel_rfl) ?_
    refine op_v' (j_move (evo rfl)) ?_
    refine op_v' (j_move (evo rfl)) ?_
    refine op_v' (j_elemN slt28 rfl rfl rfl (at_map (by first | omega | (simp only [List.length_map, List.length_take, Int.toNat_natCast, marksLB_length]; omega))) rfl) ?_
    refine op_v' (j_load_el leaf34 rfl (at_map (by first | omega | (simp only [List.length_map, List.length_take, Int.toNat_natCast, marksLB_length]; omega))) rfl) ?_
    refine op_v' (j_move (evo rfl)) ?_
    rw [marksLB_at (k := k) (l := l) (i := i) (by first | omega | (simp only [List.length_map, List.length_take, Int.toNat_natCast, marksLB_length]; omega))]
    refine op_v0' (j_call0 (v := .p _) (hp1 := []) [] false [] ent112 (f_heldBoolS (k + sumW List.length (l.take i)) (l.getD i default).length (by omega)) ⟨.inl ⟨rfl, rfl⟩, .inl ⟨rfl, rfl⟩, trivial⟩ trivial rfl rfl (fun h => by cases h) rfl (fun _ h => by cases h) (.inl rfl) rfl rfl) ?_
    refine op_v' (j_assign (evo rfl)) ?_
    refine op_nil ?_
    refine a_seq ?_
    refine a_region (by kernel_rfl) ?_
    refine op_v' (j_move (evo rfl)) ?_
    refine op_v' (j_lt rfl rfl) ?_
    refine op_nil ?_
    refine a_cond rfl (fun h2 => ?_) (fun h2 => ?_)
    ·
      have h2r := h2
      try simp only [Bool.not_eq_true', Bool.not_eq_false', Bool.not_not, bne_iff_ne, bne_eq_false_iff_eq, beq_eq_false_iff_ne, beq_iff_eq, ne_eq, decide_eq_true_eq, decide_eq_false_iff_not, Classical.not_not, List.length_map, List.length_take, Int.toNat_natCast, marksLB_length] at h2
      refine a_seq ?_
      refine a_region (by kernel_rfl) ?_
      refine op_v' (j_assign (evo rfl)) ?_
      refine op_nil ?_
      refine a_ret ?_
      exact absurd h2 (by omega)
    ·
      have h2r := h2
      try simp only [Bool.not_eq_true', Bool.not_eq_false', Bool.not_not, bne_iff_ne, bne_eq_false_iff_eq, beq_eq_false_iff_ne, beq_iff_eq, ne_eq, decide_eq_true_eq, decide_eq_false_iff_not, Classical.not_not, List.length_map, List.length_take, Int.toNat_natCast, marksLB_length] at h2
      refine a_skip ?_
      refine a_region (by kernel_rfl) ?_
      refine op_v' (j_move (evo rfl)) ?_
      refine op_v' (j_add rfl rfl (by first | omega | (simp only [List.length_map, List.length_take, Int.toNat_natCast, marksLB_length]; omega)) (by first | omega | (simp only [List.length_map, List.length_take, Int.toNat_natCast, marksLB_length]; omega))) ?_
      refine op_v' (j_assign (evo rfl)) ?_
      refine op_nil ?_
      exact ⟨i + 1, (by first | omega | (simp only [List.length_map, List.length_take, Int.toNat_natCast, marksLB_length]; omega)), ⟨⟨rfl, rfl⟩, ⟨rfl, intEq (by omega), trivial⟩, trivial, ⟨rfl, rfl⟩, ⟨rfl, rfl⟩⟩, (by first | omega | (simp only [List.length_map, List.length_take, Int.toNat_natCast, marksLB_length]; omega))⟩
  ·
    have h1r := h1
    try simp only [Bool.not_eq_true', Bool.not_eq_false', Bool.not_not, bne_iff_ne, bne_eq_false_iff_eq, beq_eq_false_iff_ne, beq_iff_eq, ne_eq, decide_eq_true_eq, decide_eq_false_iff_not, Classical.not_not, List.length_map, List.length_take, Int.toNat_natCast, marksLB_length] at h1
    refine a_exit ?_
    refine a_seq ?_
    refine a_region (by kernel_rfl) ?_
    refine op_v' (j_move (evo rfl)) ?_
    refine op_v' (j_assign (evo rfl)) ?_
    refine op_nil ?_
    refine a_ret ?_
    exact ⟨[.p _], .p _, [], [], [], ⟨rfl, trivial⟩, rfl, rfl, trivial, rfl, rfl, ⟨by rw [show i = l.length by first | omega | (simp only [List.length_map, List.length_take, Int.toNat_natCast, marksLB_length]; omega), List.take_length], rfl, rfl⟩⟩


theorem f_markIntSS (k : Nat) (xs : List (List Int)) (hb : k + sumW List.length xs ≤ 4611686018427387904) (hl : xs.length ≤ 1048576) : Fn Try.prog 136 [.own 0 0, .p (.int .i64 ((k : Nat)))] [.deep (.mk 23 1 [(0, .mk 3 1 [])]) ((xs).map dL) none] (fun rr ii nn => ∃ x : List (List Int), (True) ∧ rr = .p (.int .i64 (((k + sumW List.length xs : Nat) : Int))) ∧ ii = [.deep (.mk 23 1 [(0, .mk 3 1 [])]) ((x).map dL) none] ∧ nn = []) := by
  refine fn_of Try.func136 rfl (Nat.le_of_ble_eq_true rfl) fun w X g => ?_
  show AWp _ _ _ ⟨[(0, .own 0 0), (1, .p (.int .i64 ((k : Nat))))], [(0, some (0, .deep (.mk 23 1 [(0, .mk 3 1 [])]) ((xs).map dL) none))]⟩
  refine a_seq ?_
  refine a_region (by kernel_rfl) ?_
  refine op_v' (j_assign (evo rfl)) ?_
  refine op_nil ?_
  refine a_seq ?_
  refine a_seq ?_
  refine a_region (by kernel_rfl) ?_
  refine op_v' (j_assign (evo rfl)) ?_
  refine op_nil ?_
  refine a_block ?_
  refine a_loopF' (ι := List (List Int)) (fun p => p.length ≤ xs.length) (fun p r => (5, .p (.int .i64 ((p.length : Nat)))) :: (1, .p (.int .i64 (((k + sumW List.length (xs.take p.length) : Nat) : Int)))) :: r) (fun p r => (0, some (0, .deep (.mk 23 1 [(0, .mk 3 1 [])]) (((p ++ xs.drop p.length)).map dL) none)) :: r) (fun p => xs.length - p.length) (fun _ _ => rfl) (fun _ _ => rfl) [] (by first | exact (Nat.zero_le _) | (dsimp only; exact (Nat.zero_le _))) ⟨⟨rfl, rfl⟩, ⟨rfl, intEq (by simp [sumW]), trivial⟩, ⟨deepEq (by simp), trivial⟩, ⟨rfl, rfl⟩, ⟨rfl, rfl⟩⟩ ?_
  intro p hp
  refine a_seq ?_
  refine a_seq ?_
  refine a_region (by kernel_rfl) ?_
  refine op_v' (j_move (evo rfl)) ?_
  refine op_v' (j_move (evo rfl)) ?_
  refine op_v' (j_len_deep Try.underlying41 rfl rfl) ?_
  refine op_v' (j_lt rfl rfl) ?_
  refine op_nil ?_
  refine a_cond rfl (fun h1 => ?_) (fun h1 => ?_)
  ·
    have h1r := h1
    try simp only [Bool.not_eq_true', Bool.not_eq_false', Bool.not_not, bne_iff_ne, bne_eq_false_iff_eq, beq_eq_false_iff_ne, beq_iff_eq, ne_eq, decide_eq_true_eq, decide_eq_false_iff_not, Classical.not_not, List.length_map, List.length_take, Int.toNat_natCast, List.length_map, List.length_append, List.length_drop, List.length_cons, List.length_nil] at h1
    refine a_skip ?_
    refine a_seq ?_
    refine a_block ?_
    have hs2 := sumW_take (w := List.length) (d := default) (l := xs) (k := p.length) (by first | omega | (simp only [List.length_map, List.length_take, Int.toNat_natCast, List.length_map, List.length_append, List.length_drop, List.length_cons, List.length_nil]; omega))
    have hs3 := sumW_le (w := List.length) (l := xs) (k := p.length + 1)
    refine a_region (by kernel_rfl) ?_
    refine op_v' (j_move (evo rfl)) ?_
    refine op_v' (j_move (evo rfl)) ?_
    refine op_v' (j_elem_deepN slt41 rfl rfl rfl rfl rfl (by first | omega | (simp only [List.length_map, List.length_take, Int.toNat_natCast, List.length_map, List.length_append, List.length_drop, List.length_cons, List.length_nil]; omega))) ?_
    refine op_n1' (fun ver => j_out leaf23 (by decide) rfl rfl rfl (ps_at (by first | omega | (simp only [List.length_map, List.length_take, Int.toNat_natCast, List.length_map, List.length_append, List.length_drop, List.length_cons, List.length_nil]; omega))) rfl rfl) fun v15x1 => ?_
    refine op_v' (j_move (evo rfl)) ?_
    refine op_v0' (j_call0 (v := .p _) (hp1 := [(15, some (v15x1, .row 3 1 _))]) [(15, v15x1)] false [15] ent109 (f_markIntS (k + sumW List.length (xs.take p.length)) (xs.getD p.length default) (by omega)) ⟨.inl ⟨rfl, rfl⟩, .inl ⟨rfl, rfl⟩, trivial⟩ ⟨⟨rfl, rfl⟩, trivial⟩ rfl rfl (fun h => by cases h) rfl (List.all_eq_true.1 rfl) (.inl rfl) rfl rfl) ?_
    refine op_v' (j_assign (evo rfl)) ?_
    refine op_nil ?_
    refine a_back 0 15 (by decide) rfl rfl rfl rfl (ps_at (by first | omega | (simp only [List.length_map, List.length_take, Int.toNat_natCast, List.length_map, List.length_append, List.length_drop, List.length_cons, List.length_nil]; omega))) rfl ?_
    refine a_region (by kernel_rfl) ?_
    refine op_v' (j_move (evo rfl)) ?_
    refine op_v' (j_add rfl rfl (by first | omega | (simp only [List.length_map, List.length_take, Int.toNat_natCast, List.length_map, List.length_append, List.length_drop, List.length_cons, List.length_nil]; omega)) (by first | omega | (simp only [List.length_map, List.length_take, Int.toNat_natCast, List.length_map, List.length_append, List.length_drop, List.length_cons, List.length_nil]; omega))) ?_
    refine op_v' (j_assign (evo rfl)) ?_
    refine op_nil ?_
    exact ⟨(p ++ [marksI (k + sumW List.length (xs.take p.length)) (xs.getD p.length default).length]), (by first | exact (by first | omega | (simp only [List.length_map, List.length_take, Int.toNat_natCast, List.length_map, List.length_append, List.length_drop, List.length_cons, List.length_nil]; omega)) | (dsimp only; exact (by first | omega | (simp only [List.length_map, List.length_take, Int.toNat_natCast, List.length_map, List.length_append, List.length_drop, List.length_cons, List.length_nil]; omega)))), ⟨⟨rfl, rfl⟩, ⟨intEq (by simp), intEq (by rw [List.length_append]; simp only [List.length_cons, List.length_nil, Nat.zero_add]; omega), trivial⟩, ⟨deepEq (ps_set (y := marksI (k + sumW List.length (xs.take p.length)) (xs.getD p.length default).length) (by first | omega | (simp only [List.length_map, List.length_take, Int.toNat_natCast, List.length_map, List.length_append, List.length_drop, List.length_cons, List.length_nil]; omega))), trivial⟩, ⟨rfl, rfl⟩, ⟨rfl, rfl⟩⟩, (by first | exact (by first | omega | (simp only [List.length_map, List.length_take, Int.toNat_natCast, List.length_map, List.length_append, List.length_drop, List.length_cons, List.length_nil]; omega)) | (dsimp only; exact (by first | omega | (simp only [List.length_map, List.length_take, Int.toNat_natCast, List.length_map, List.length_append, List.length_drop, List.length_cons, List.length_nil]; omega))))⟩
  ·
    have h1r := h1
    try simp only [Bool.not_eq_true', Bool.not_eq_false', Bool.not_not, bne_iff_ne, bne_eq_false_iff_eq, beq_eq_false_iff_ne, beq_iff_eq, ne_eq, decide_eq_true_eq, decide_eq_false_iff_not, Classical.not_not, List.length_map, List.length_take, Int.toNat_natCast, List.length_map, List.length_append, List.length_drop, List.length_cons, List.length_nil] at h1
    refine a_exit ?_
    refine a_seq ?_
    refine a_region (by kernel_rfl) ?_
    refine op_v' (j_move (evo rfl)) ?_
    refine op_v' (j_assign (evo rfl)) ?_
    refine op_nil ?_
    refine a_ret ?_
    exact ⟨[.p _], .p _, [.deep (.mk 23 1 [(0, (.mk 3 1 []))]) _ none], [], [], ⟨rfl, trivial⟩, rfl, rfl, ⟨⟨rfl, rfl⟩, trivial⟩, rfl, rfl, ⟨(p ++ xs.drop p.length), trivial, intEq (by rw [List.take_of_length_le (by first | omega | (simp only [List.length_map, List.length_take, Int.toNat_natCast, List.length_map, List.length_append, List.length_drop, List.length_cons, List.length_nil]; omega))]), rfl, rfl⟩⟩


end Go.Ab

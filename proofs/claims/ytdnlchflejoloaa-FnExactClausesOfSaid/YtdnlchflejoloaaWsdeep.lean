/- Walks. -/
import Derived.Test.YtdnlchflejoloaaBase
import Derived.Test.YtdnlchflejoloaaDeep
import Derived.Test.YtdnlchflejoloaaWsexcl
namespace Go.Ab
open Go.Proofs
set_option maxRecDepth 100000
set_option maxHeartbeats 8000000
set_option linter.unusedSimpArgs false
set_option linter.unusedVariables false
theorem f_eqConS (a b : List Con) : Fn Try.prog 26 [.sl (a.map dC), .sl (b.map dC)] [] (fun rr ii nn => rr = .p (.bool (decide (a = b))) ∧ ii = [] ∧ nn = []) := by
  refine fn_of Try.func26 rfl (Nat.le_of_ble_eq_true rfl) fun w X g => ?_
  show AWp _ _ _ ⟨[(0, .sl (a.map dC)), (1, .sl (b.map dC))], []⟩
  refine a_len_map 0 rfl fun hla => ?_
  refine a_seq ?_
  refine a_region (by kernel_rfl) ?_
  refine op_v' (j_assign (evo rfl)) ?_
  refine op_nil ?_
  refine a_seq ?_
  refine a_seq ?_
  refine a_region (by kernel_rfl) ?_
  refine op_v' (j_move (evo rfl)) ?_
  refine op_v' (j_len_map Try.underlying27 rfl) ?_
  refine op_v' (j_move (evo rfl)) ?_
  refine op_v' (j_len_map Try.underlying27 rfl) ?_
  refine op_v' (j_ne rfl rfl) ?_
  refine op_nil ?_
  refine a_cond rfl (fun h1 => ?_) (fun h1 => ?_)
  ·
    have h1r := h1
    try simp only [Bool.not_eq_true', Bool.not_eq_false', Bool.not_not, bne_iff_ne, bne_eq_false_iff_eq, beq_eq_false_iff_ne, beq_iff_eq, ne_eq, decide_eq_true_eq, decide_eq_false_iff_not, Classical.not_not, List.length_map, List.length_take, Int.toNat_natCast] at h1
    refine a_seq ?_
    refine a_region (by kernel_rfl) ?_
    refine op_v' (j_assign (evo rfl)) ?_
    refine op_nil ?_
    refine a_ret ?_
    exact ⟨[.p _], .p _, [], [], [], ⟨rfl, trivial⟩, rfl, rfl, trivial, rfl, rfl, ⟨boolEq (by symm; rw [decide_eq_false_iff_not]; rintro rfl; exact h1 rfl), rfl, rfl⟩⟩
  ·
    have h1r := h1
    try simp only [Bool.not_eq_true', Bool.not_eq_false', Bool.not_not, bne_iff_ne, bne_eq_false_iff_eq, beq_eq_false_iff_ne, beq_iff_eq, ne_eq, decide_eq_true_eq, decide_eq_false_iff_not, Classical.not_not, List.length_map, List.length_take, Int.toNat_natCast] at h1
    refine a_skip ?_
    refine a_seq ?_
    refine a_seq ?_
    refine a_region (by kernel_rfl) ?_
    refine op_v' (j_assign (evo rfl)) ?_
    refine op_nil ?_
    refine a_block ?_
    refine a_loopF' (ι := Nat) (fun k => k ≤ a.length ∧ a.take k = b.take k) (fun k r => (5, .p (.int .i64 ((k : Nat)))) :: r) (fun k r => r) (fun k => a.length - k) (fun _ _ => rfl) (fun _ _ => rfl) 0 ⟨Nat.zero_le _, rfl⟩ ⟨⟨rfl, rfl⟩, ⟨rfl, trivial⟩, trivial, ⟨rfl, rfl⟩, ⟨rfl, rfl⟩⟩ ?_
    intro k hpre0
    refine a_seq ?_
    refine a_seq ?_
    refine a_region (by kernel_rfl) ?_
    refine op_v' (j_move (evo rfl)) ?_
    refine op_v' (j_move (evo rfl)) ?_
    refine op_v' (j_len_map Try.underlying27 rfl) ?_
    refine op_v' (j_lt rfl rfl) ?_
    refine op_nil ?_
    refine a_cond rfl (fun h2 => ?_) (fun h2 => ?_)
    ·
      have h2r := h2
      try simp only [Bool.not_eq_true', Bool.not_eq_false', Bool.not_not, bne_iff_ne, bne_eq_false_iff_eq, beq_eq_false_iff_ne, beq_iff_eq, ne_eq, decide_eq_true_eq, decide_eq_false_iff_not, Classical.not_not, List.length_map, List.length_take, Int.toNat_natCast] at h2
      refine a_skip ?_
      refine a_seq ?_
      refine a_block ?_
      refine a_seq ?_
      refine a_draw mixed (by kernel_rfl) (by kernel_rfl) fun vf => ?_
      refine d_v' (j_move (evo rfl)) ?_
      refine d_v' (j_move (evo rfl)) ?_
      refine d_v' (j_elemN slt27 rfl rfl rfl (at_map (by omega)) rfl) ?_
      refine d_v' (j_loada_el (ys := [.sl _, .p _]) agg25 rfl (at_map (by omega)) rfl (Nat.le_refl _)) ?_
      refine d_v' (j_move (evo rfl)) ?_
      refine d_v' (j_move (evo rfl)) ?_
      refine d_v' (j_elemN slt27 rfl rfl rfl (at_map (by omega)) rfl) ?_
      refine d_v' (j_loada_el (ys := [.sl _, .p _]) agg25 rfl (at_map (by omega)) rfl (Nat.le_refl _)) ?_
      refine d_v0' (j_call0 (v := .p _) (hp1 := []) [] false [] ent32 (f_eqCon (a.getD k default) (b.getD k default)) ⟨.inl ⟨rfl, rfl⟩, .inl ⟨rfl, rfl⟩, trivial⟩ trivial rfl rfl (fun h => by cases h) rfl (fun _ h => by cases h) (.inl rfl) rfl rfl) ?_
      refine d_v' (j_not rfl) ?_
      refine d_nil (by kernel_rfl) (by kernel_rfl) ?_
      refine a_cond rfl (fun h3 => ?_) (fun h3 => ?_)
      ·
        have h3r := h3
        try simp only [Bool.not_eq_true', Bool.not_eq_false', Bool.not_not, bne_iff_ne, bne_eq_false_iff_eq, beq_eq_false_iff_ne, beq_iff_eq, ne_eq, decide_eq_true_eq, decide_eq_false_iff_not, Classical.not_not, List.length_map, List.length_take, Int.toNat_natCast] at h3
        refine a_seq ?_
        refine a_region (by kernel_rfl) ?_
        refine op_v' (j_assign (evo rfl)) ?_
        refine op_nil ?_
        refine a_ret ?_
        exact ⟨[.p _], .p _, [], [], [], ⟨rfl, trivial⟩, rfl, rfl, trivial, rfl, rfl, ⟨boolEq (by symm; rw [decide_eq_false_iff_not]; rintro rfl; exact h3 rfl), rfl, rfl⟩⟩
      ·
        have h3r := h3
        try simp only [Bool.not_eq_true', Bool.not_eq_false', Bool.not_not, bne_iff_ne, bne_eq_false_iff_eq, beq_eq_false_iff_ne, beq_iff_eq, ne_eq, decide_eq_true_eq, decide_eq_false_iff_not, Classical.not_not, List.length_map, List.length_take, Int.toNat_natCast] at h3
        refine a_skip ?_
        refine a_region (by kernel_rfl) ?_
        refine op_v' (j_move (evo rfl)) ?_
        refine op_v' (j_add rfl rfl (by omega) (by omega)) ?_
        refine op_v' (j_assign (evo rfl)) ?_
        refine op_nil ?_
        exact ⟨k + 1, ⟨(by omega), take_next hpre0.2 (by omega) (by omega) h3⟩, ⟨⟨rfl, rfl⟩, ⟨rfl, trivial⟩, trivial, ⟨rfl, rfl⟩, ⟨rfl, rfl⟩⟩, (by omega)⟩
    ·
      have h2r := h2
      try simp only [Bool.not_eq_true', Bool.not_eq_false', Bool.not_not, bne_iff_ne, bne_eq_false_iff_eq, beq_eq_false_iff_ne, beq_iff_eq, ne_eq, decide_eq_true_eq, decide_eq_false_iff_not, Classical.not_not, List.length_map, List.length_take, Int.toNat_natCast] at h2
      refine a_exit ?_
      refine a_seq ?_
      refine a_region (by kernel_rfl) ?_
      refine op_v' (j_assign (evo rfl)) ?_
      refine op_nil ?_
      refine a_ret ?_
      exact ⟨[.p _], .p _, [], [], [], ⟨rfl, trivial⟩, rfl, rfl, trivial, rfl, rfl, ⟨boolEq (by symm; rw [decide_eq_true_eq]; exact take_eq hpre0.2 (by omega) (by omega)), rfl, rfl⟩⟩


theorem f_markConS (k : Nat) (l : List Con) (hb : endC k l ≤ 4611686018427387904) : Fn Try.prog 27 [.own 0 0, .p (.int .i64 ((k : Nat)))] [.deep (.mk 25 2 [(0, .mk 99 2 [])]) (l.map dC) none] (fun rr ii nn => rr = .p (.int .i64 (((endC k l : Nat) : Int))) ∧ ii = [.deep (.mk 25 2 [(0, .mk 99 2 [])]) ((marksC k l).map dC) none] ∧ nn = []) := by
  refine fn_of Try.func27 rfl (Nat.le_of_ble_eq_true rfl) fun w X g => ?_
  show AWp _ _ _ ⟨[(0, .own 0 0), (1, .p (.int .i64 ((k : Nat))))], [(0, some (0, .deep (.mk 25 2 [(0, .mk 99 2 [])]) (l.map dC) none))]⟩
  have hke := endC_ge (k := k) (l := l)
  refine a_seq ?_
  refine a_region (by kernel_rfl) ?_
  refine op_v' (j_assign (evo rfl)) ?_
  refine op_nil ?_
  refine a_seq ?_
  refine a_seq ?_
  refine a_region (by kernel_rfl) ?_
  refine op_v' (j_assign (evo rfl)) ?_
  refine op_nil ?_
  refine a_block ?_
  refine a_loopF' (ι := Nat) (fun i => i ≤ l.length) (fun i r => (5, .p (.int .i64 ((i : Nat)))) :: (1, .p (.int .i64 (((endC k (l.take i) : Nat) : Int)))) :: r) (fun i r => (0, some (0, .deep (.mk 25 2 [(0, .mk 99 2 [])]) (wo dC (marksC k l) l i) none)) :: r) (fun i => l.length - i) (fun _ _ => rfl) (fun _ _ => rfl) 0 (by first | omega | (simp only [List.length_map, List.length_take, Int.toNat_natCast, wo_length, marksC_length, List.length_set]; omega)) ⟨⟨rfl, rfl⟩, ⟨rfl, rfl, trivial⟩, ⟨deepEq wo_zero.symm, trivial⟩, ⟨rfl, rfl⟩, ⟨rfl, rfl⟩⟩ ?_
  intro i hpre0
  refine a_seq ?_
  refine a_seq ?_
  refine a_region (by kernel_rfl) ?_
  refine op_v' (j_move (evo rfl)) ?_
  refine op_v' (j_move (evo rfl)) ?_
  refine op_v' (j_len_deep Try.underlying27 rfl rfl) ?_
  refine op_v' (j_lt rfl rfl) ?_
  refine op_nil ?_
  refine a_cond rfl (fun h1 => ?_) (fun h1 => ?_)
  ·
    have h1r := h1
    try simp only [Bool.not_eq_true', Bool.not_eq_false', Bool.not_not, bne_iff_ne, bne_eq_false_iff_eq, beq_eq_false_iff_ne, beq_iff_eq, ne_eq, decide_eq_true_eq, decide_eq_false_iff_not, Classical.not_not, List.length_map, List.length_take, Int.toNat_natCast, wo_length, marksC_length, List.length_set] at h1
    refine a_skip ?_
    refine a_seq ?_
    refine a_block ?_
    refine a_seq ?_
    have hke2 := endC_at (k := k) (l := l) (i := i) (by first | omega | (simp only [List.length_map, List.length_take, Int.toNat_natCast, wo_length, marksC_length, List.length_set]; omega))
    refine a_region (by kernel_rfl) ?_
    refine op_v' (j_move (evo rfl)) ?_
    refine op_v' (j_move (evo rfl)) ?_
    refine op_v' (j_elem_deepN slt27 rfl rfl rfl rfl rfl (by first | omega | (simp only [List.length_map, List.length_take, Int.toNat_natCast, wo_length, marksC_length, List.length_set]; omega))) ?_
    refine op_v' (j_fldpel fld25f0 rfl rfl) ?_
    refine op_n1' (fun ver => j_out leaf23 (by decide) rfl rfl rfl (wo_at (by first | omega | (simp only [List.length_map, List.length_take, Int.toNat_natCast, wo_length, marksC_length, List.length_set]; omega)) (by first | omega | (simp only [List.length_map, List.length_take, Int.toNat_natCast, wo_length, marksC_length, List.length_set]; omega))) rfl rfl) fun v16x1 => ?_
    refine op_v' (j_move (evo rfl)) ?_
    refine op_v0' (j_call0 (v := .p _) (hp1 := [(16, some (v16x1, .row 99 2 _))]) [(16, v16x1)] false [16] ent85 (f_markTermS (endC k (l.take i)) (l.getD i default).1 (by omega)) ⟨.inl ⟨rfl, rfl⟩, .inl ⟨rfl, rfl⟩, trivial⟩ ⟨⟨rfl, rfl⟩, trivial⟩ rfl rfl (fun h => by cases h) rfl (List.all_eq_true.1 rfl) (.inl rfl) rfl rfl) ?_
    refine op_v' (j_assign (evo rfl)) ?_
    refine op_nil ?_
    refine a_back 0 16 (by decide) rfl rfl rfl rfl (wo_at (by first | omega | (simp only [List.length_map, List.length_take, Int.toNat_natCast, wo_length, marksC_length, List.length_set]; omega)) (by first | omega | (simp only [List.length_map, List.length_take, Int.toNat_natCast, wo_length, marksC_length, List.length_set]; omega))) rfl ?_
    refine a_seq ?_
    refine a_region (by kernel_rfl) ?_
    refine op_v' (j_move (evo rfl)) ?_
    refine op_v' (j_move (evo rfl)) ?_
    refine op_v' (j_move (evo rfl)) ?_
    refine op_v' (j_elem_deepN slt27 rfl rfl rfl rfl rfl (by first | omega | (simp only [List.length_map, List.length_take, Int.toNat_natCast, wo_length, marksC_length, List.length_set]; omega))) ?_
    refine op_v' (j_fldpel fld25f1 rfl rfl) ?_
    refine op_s' (j_store_deep leaf3 rfl rfl rfl (List.getElem?_set_self (by first | omega | (simp only [List.length_map, List.length_take, Int.toNat_natCast, wo_length, marksC_length, List.length_set]; omega))) (Nat.le_of_ble_eq_true rfl) (evo rfl) rfl rfl) ?_
    refine op_nil ?_
    refine a_region (by kernel_rfl) ?_
    refine op_v' (j_move (evo rfl)) ?_
    refine op_v' (j_add rfl rfl (by first | omega | (simp only [List.length_map, List.length_take, Int.toNat_natCast, wo_length, marksC_length, List.length_set]; omega)) (by first | omega | (simp only [List.length_map, List.length_take, Int.toNat_natCast, wo_length, marksC_length, List.length_set]; omega))) ?_
    refine op_v' (j_assign (evo rfl)) ?_
    refine op_nil ?_
    refine a_region (by kernel_rfl) ?_
    refine op_v' (j_move (evo rfl)) ?_
    refine op_v' (j_add rfl rfl (by first | omega | (simp only [List.length_map, List.length_take, Int.toNat_natCast, wo_length, marksC_length, List.length_set]; omega)) (by first | omega | (simp only [List.length_map, List.length_take, Int.toNat_natCast, wo_length, marksC_length, List.length_set]; omega))) ?_
    refine op_v' (j_assign (evo rfl)) ?_
    refine op_nil ?_
    exact ⟨i + 1, (by first | omega | (simp only [List.length_map, List.length_take, Int.toNat_natCast, wo_length, marksC_length, List.length_set]; omega)), ⟨⟨rfl, rfl⟩, ⟨rfl, intEq (by rw [endC_take (by first | omega | (simp only [List.length_map, List.length_take, Int.toNat_natCast, wo_length, marksC_length, List.length_set]; omega))]; omega), trivial⟩, ⟨deepEq ((List.set_set ..).trans (wo_set (d := default) (x := markC (endC k (l.take i)) (l.getD i default)) (by first | omega | (simp only [List.length_map, List.length_take, Int.toNat_natCast, wo_length, marksC_length, List.length_set]; omega)) (by first | omega | (simp only [List.length_map, List.length_take, Int.toNat_natCast, wo_length, marksC_length, List.length_set]; omega)) (marksC_at (by first | omega | (simp only [List.length_map, List.length_take, Int.toNat_natCast, wo_length, marksC_length, List.length_set]; omega))))), trivial⟩, ⟨rfl, rfl⟩, ⟨rfl, rfl⟩⟩, (by first | omega | (simp only [List.length_map, List.length_take, Int.toNat_natCast, wo_length, marksC_length, List.length_set]; omega))⟩
  ·
    have h1r := h1
    try simp only [Bool.not_eq_true', Bool.not_eq_false', Bool.not_not, bne_iff_ne, bne_eq_false_iff_eq, beq_eq_false_iff_ne, beq_iff_eq, ne_eq, decide_eq_true_eq, decide_eq_false_iff_not, Classical.not_not, List.length_map, List.length_take, Int.toNat_natCast, wo_length, marksC_length, List.length_set] at h1
    refine a_exit ?_
    refine a_seq ?_
    refine a_region (by kernel_rfl) ?_
    refine op_v' (j_move (evo rfl)) ?_
    refine op_v' (j_assign (evo rfl)) ?_
    refine op_nil ?_
    refine a_ret ?_
    exact ⟨[.p _], .p _, [.deep (.mk 25 2 [(0, (.mk 99 2 []))]) _ none], [], [], ⟨rfl, trivial⟩, rfl, rfl, ⟨⟨rfl, rfl⟩, trivial⟩, rfl, rfl, ⟨by rw [show i = l.length by first | omega | (simp only [List.length_map, List.length_take, Int.toNat_natCast, wo_length, marksC_length, List.length_set]; omega), List.take_length], congrArg (fun x => [Obj.deep _ x none]) (wo_all (by first | omega | (simp only [List.length_map, List.length_take, Int.toNat_natCast, wo_length, marksC_length, List.length_set]; omega)) (by first | omega | (simp only [List.length_map, List.length_take, Int.toNat_natCast, wo_length, marksC_length, List.length_set]; omega))), rfl⟩⟩


theorem f_heldConS (k : Nat) (l : List Con) (hb : endC k l ≤ 4611686018427387904) : Fn Try.prog 34 [.sl ((marksC k l).map dC), .p (.int .i64 ((k : Nat)))] [] (fun rr ii nn => rr = .p (.int .i64 (((endC k l : Nat) : Int))) ∧ ii = [] ∧ nn = []) := by
  refine fn_of Try.func34 rfl (Nat.le_of_ble_eq_true rfl) fun w X g => ?_
  show AWp _ _ _ ⟨[(0, .sl ((marksC k l).map dC)), (1, .p (.int .i64 ((k : Nat))))], []⟩
  have hke := endC_ge (k := k) (l := l)
  refine a_seq ?_
  refine a_region (by kernel_rfl) ?_
  refine op_v' (j_assign (evo rfl)) ?_
  refine op_nil ?_
  refine a_seq ?_
  refine a_seq ?_
  refine a_region (by kernel_rfl) ?_
  refine op_v' (j_assign (evo rfl)) ?_
  refine op_nil ?_
  refine a_block ?_
  refine a_loopF' (ι := Nat) (fun i => i ≤ l.length) (fun i r => (5, .p (.int .i64 ((i : Nat)))) :: (1, .p (.int .i64 (((endC k (l.take i) : Nat) : Int)))) :: r) (fun i r => r) (fun i => l.length - i) (fun _ _ => rfl) (fun _ _ => rfl) 0 (by first | omega | (simp only [List.length_map, List.length_take, Int.toNat_natCast, marksC_length]; omega)) ⟨⟨rfl, rfl⟩, ⟨rfl, rfl, trivial⟩, trivial, ⟨rfl, rfl⟩, ⟨rfl, rfl⟩⟩ ?_
  intro i hpre0
  refine a_seq ?_
  refine a_seq ?_
  refine a_region (by kernel_rfl) ?_
  refine op_v' (j_move (evo rfl)) ?_
  refine op_v' (j_move (evo rfl)) ?_
  refine op_v' (j_len_map Try.underlying27 rfl) ?_
  refine op_v' (j_lt rfl rfl) ?_
  refine op_nil ?_
  refine a_cond rfl (fun h1 => ?_) (fun h1 => ?_)
  ·
    have h1r := h1
    try simp only [Bool.not_eq_true', Bool.not_eq_false', Bool.not_not, bne_iff_ne, bne_eq_false_iff_eq, beq_eq_false_iff_ne, beq_iff_eq, ne_eq, decide_eq_true_eq, decide_eq_false_iff_not, Classical.not_not, List.length_map, List.length_take, Int.toNat_natCast, marksC_length] at h1
    refine a_skip ?_
    refine a_seq ?_
    refine a_block ?_
    refine a_seq ?_
    have hke2 := endC_at (k := k) (l := l) (i := i) (by first | omega | (simp only [List.length_map, List.length_take, Int.toNat_natCast, marksC_length]; omega))
    refine a_region (by kernel_rfl) ?_
    refine op_v' (j_move (evo rfl)) ?_
    refine op_v' (j_move (evo rfl)) ?_
    refine op_v' (j_elemN slt27 rfl rfl rfl (at_map (by first | omega | (simp only [List.length_map, List.length_take, Int.toNat_natCast, marksC_length]; omega))) rfl) ?_
    refine op_v' (j_fldel fld25f0 rfl) ?_
    refine op_v' (j_load_el leaf23 rfl (at_map (by first | omega | (simp only [List.length_map, List.length_take, Int.toNat_natCast, marksC_length]; omega))) rfl) ?_
    refine op_v' (j_move (evo rfl)) ?_
    rw [marksC_at (k := k) (l := l) (i := i) (by first | omega | (simp only [List.length_map, List.length_take, Int.toNat_natCast, marksC_length]; omega))]
    refine op_v0' (j_call0 (v := .p _) (hp1 := []) [] false [] ent89 (f_heldTermS (endC k (l.take i)) (l.getD i default).1.length (by omega)) ⟨.inl ⟨rfl, rfl⟩, .inl ⟨rfl, rfl⟩, trivial⟩ trivial rfl rfl (fun h => by cases h) rfl (fun _ h => by cases h) (.inl rfl) rfl rfl) ?_
    refine op_v' (j_assign (evo rfl)) ?_
    refine op_nil ?_
    refine a_seq ?_
    refine a_seq ?_
    refine a_region (by kernel_rfl) ?_
    refine op_v' (j_move (evo rfl)) ?_
    refine op_v' (j_lt rfl rfl) ?_
    refine op_nil ?_
    refine a_cond rfl (fun h2 => ?_) (fun h2 => ?_)
    ·
      have h2r := h2
      try simp only [Bool.not_eq_true', Bool.not_eq_false', Bool.not_not, bne_iff_ne, bne_eq_false_iff_eq, beq_eq_false_iff_ne, beq_iff_eq, ne_eq, decide_eq_true_eq, decide_eq_false_iff_not, Classical.not_not, List.length_map, List.length_take, Int.toNat_natCast, marksC_length] at h2
      refine a_seq ?_
      refine a_region (by kernel_rfl) ?_
      refine op_v' (j_assign (evo rfl)) ?_
      refine op_nil ?_
      refine a_ret ?_
      exact absurd h2 (by omega)
    ·
      have h2r := h2
      try simp only [Bool.not_eq_true', Bool.not_eq_false', Bool.not_not, bne_iff_ne, bne_eq_false_iff_eq, beq_eq_false_iff_ne, beq_iff_eq, ne_eq, decide_eq_true_eq, decide_eq_false_iff_not, Classical.not_not, List.length_map, List.length_take, Int.toNat_natCast, marksC_length] at h2
      refine a_skip ?_
      refine a_seq ?_
      refine a_seq ?_
      refine a_region (by kernel_rfl) ?_
      refine op_v' (j_move (evo rfl)) ?_
      refine op_v' (j_move (evo rfl)) ?_
      refine op_v' (j_elemN slt27 rfl rfl rfl (at_map (by first | omega | (simp only [List.length_map, List.length_take, Int.toNat_natCast, marksC_length]; omega))) rfl) ?_
      refine op_v' (j_fldel fld25f1 rfl) ?_
      refine op_v' (j_load_el leaf3 rfl (at_map (by first | omega | (simp only [List.length_map, List.length_take, Int.toNat_natCast, marksC_length]; omega))) rfl) ?_
      refine op_v' (j_move (evo rfl)) ?_
      refine op_v' (j_ne rfl rfl) ?_
      refine op_nil ?_
      refine a_cond rfl (fun h3 => ?_) (fun h3 => ?_)
      ·
        have h3r := h3
        try simp only [Bool.not_eq_true', Bool.not_eq_false', Bool.not_not, bne_iff_ne, bne_eq_false_iff_eq, beq_eq_false_iff_ne, beq_iff_eq, ne_eq, decide_eq_true_eq, decide_eq_false_iff_not, Classical.not_not, List.length_map, List.length_take, Int.toNat_natCast, marksC_length] at h3
        refine a_seq ?_
        refine a_region (by kernel_rfl) ?_
        refine op_v' (j_assign (evo rfl)) ?_
        refine op_nil ?_
        refine a_ret ?_
        exact absurd h3 (by rw [marksC_at (by first | omega | (simp only [List.length_map, List.length_take, Int.toNat_natCast, marksC_length]; omega))]; simp [markC])
      ·
        have h3r := h3
        try simp only [Bool.not_eq_true', Bool.not_eq_false', Bool.not_not, bne_iff_ne, bne_eq_false_iff_eq, beq_eq_false_iff_ne, beq_iff_eq, ne_eq, decide_eq_true_eq, decide_eq_false_iff_not, Classical.not_not, List.length_map, List.length_take, Int.toNat_natCast, marksC_length] at h3
        refine a_skip ?_
        refine a_region (by kernel_rfl) ?_
        refine op_v' (j_move (evo rfl)) ?_
        refine op_v' (j_add rfl rfl (by first | omega | (simp only [List.length_map, List.length_take, Int.toNat_natCast, marksC_length]; omega)) (by first | omega | (simp only [List.length_map, List.length_take, Int.toNat_natCast, marksC_length]; omega))) ?_
        refine op_v' (j_assign (evo rfl)) ?_
        refine op_nil ?_
        refine a_region (by kernel_rfl) ?_
        refine op_v' (j_move (evo rfl)) ?_
        refine op_v' (j_add rfl rfl (by first | omega | (simp only [List.length_map, List.length_take, Int.toNat_natCast, marksC_length]; omega)) (by first | omega | (simp only [List.length_map, List.length_take, Int.toNat_natCast, marksC_length]; omega))) ?_
        refine op_v' (j_assign (evo rfl)) ?_
        refine op_nil ?_
        exact ⟨i + 1, (by first | omega | (simp only [List.length_map, List.length_take, Int.toNat_natCast, marksC_length]; omega)), ⟨⟨rfl, rfl⟩, ⟨rfl, intEq (by rw [endC_take (by first | omega | (simp only [List.length_map, List.length_take, Int.toNat_natCast, marksC_length]; omega))]; omega), trivial⟩, trivial, ⟨rfl, rfl⟩, ⟨rfl, rfl⟩⟩, (by first | omega | (simp only [List.length_map, List.length_take, Int.toNat_natCast, marksC_length]; omega))⟩
  ·
    have h1r := h1
    try simp only [Bool.not_eq_true', Bool.not_eq_false', Bool.not_not, bne_iff_ne, bne_eq_false_iff_eq, beq_eq_false_iff_ne, beq_iff_eq, ne_eq, decide_eq_true_eq, decide_eq_false_iff_not, Classical.not_not, List.length_map, List.length_take, Int.toNat_natCast, marksC_length] at h1
    refine a_exit ?_
    refine a_seq ?_
    refine a_region (by kernel_rfl) ?_
    refine op_v' (j_move (evo rfl)) ?_
    refine op_v' (j_assign (evo rfl)) ?_
    refine op_nil ?_
    refine a_ret ?_
    exact ⟨[.p _], .p _, [], [], [], ⟨rfl, trivial⟩, rfl, rfl, trivial, rfl, rfl, ⟨by rw [show i = l.length by first | omega | (simp only [List.length_map, List.length_take, Int.toNat_natCast, marksC_length]; omega), List.take_length], rfl, rfl⟩⟩


end Go.Ab

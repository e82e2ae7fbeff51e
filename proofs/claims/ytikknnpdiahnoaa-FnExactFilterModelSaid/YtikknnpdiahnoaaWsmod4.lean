/- Walks. -/
import Derived.Test.YtikknnpdiahnoaaBase
import Derived.Test.YtikknnpdiahnoaaWsmod3
import Derived.Test.YtikknnpdiahnoaaWsexcl
namespace Go.Ab
open Go.Proofs
set_option maxRecDepth 100000
set_option maxHeartbeats 8000000
set_option linter.unusedSimpArgs false
set_option linter.unusedVariables false
theorem f_toIntSS (xs : List (List Int)) (hx : wLL xs ≤ 1048576) : Fn Try.prog 146 [.sl (xs.map dL)] [] (fun rr ii nn => rr = .own 0 0 ∧ ii = [] ∧ nn = [.deep (.mk 23 1 [(0, .mk 3 1 [])]) ((xs).map dL) none]) := by
  refine fn_of Try.func146 rfl (Nat.le_of_ble_eq_true rfl) fun w X g => ?_
  show AWp _ _ _ ⟨[(0, .sl (xs.map dL))], []⟩
  have hxl : xs.length ≤ 1048576 := by unfold wLL at hx; omega
  refine a_seq ?_
  refine a_region (by kernel_rfl) ?_
  refine op_v' (j_assign (evo rfl)) ?_
  refine op_nil ?_
  refine a_seq ?_
  refine a_region (by kernel_rfl) ?_
  refine op_v' (j_move (evo rfl)) ?_
  refine op_v' (j_len_map Try.underlying41 rfl) ?_
  refine op_n' (fun ver => j_make slt41 elt23 rfl rfl (by decide) rfl rfl rfl rfl (by first | omega | (simp only [List.length_map, List.length_take, Int.toNat_natCast, wr_length]; omega)) (by rw [maxLen_eq]; first | omega | (simp only [List.length_map, List.length_take, Int.toNat_natCast, wr_length]; omega))) fun v7x1 => ?_
  refine op_todeep 7 (xs.length) (.mk 23 1 [(0, (.mk 3 1 []))]) rfl rfl rfl rfl (eat_nils rfl eat_end) rfl ?_
  refine op_v' (j_assign (evo rfl)) ?_
  refine op_nil ?_
  refine a_seq ?_
  refine a_seq ?_
  refine a_region (by kernel_rfl) ?_
  refine op_v' (j_assign (evo rfl)) ?_
  refine op_nil ?_
  refine a_block ?_
  refine a_loopF' (ι := Nat) (fun k => k ≤ xs.length) (fun k r => (4, .p (.int .i64 ((k : Nat)))) :: r) (fun k r => (7, some (v7x1, .deep (.mk 23 1 [(0, .mk 3 1 [])]) (wr dL xs k (dL [])) none)) :: r) (fun k => xs.length - k) (fun _ _ => rfl) (fun _ _ => rfl) 0 (by first | omega | (simp only [List.length_map, List.length_take, Int.toNat_natCast, wr_length]; omega)) ⟨⟨rfl, rfl⟩, ⟨rfl, trivial⟩, ⟨deepEq (by rw [wr_zero]; rfl), trivial⟩, ⟨rfl, rfl⟩, ⟨rfl, rfl⟩⟩ ?_
  intro k hpre0
  refine a_seq ?_
  refine a_seq ?_
  refine a_region (by kernel_rfl) ?_
  refine op_v' (j_move (evo rfl)) ?_
  refine op_v' (j_move (evo rfl)) ?_
  refine op_v' (j_len_map Try.underlying41 rfl) ?_
  refine op_v' (j_lt rfl rfl) ?_
  refine op_nil ?_
  refine a_cond rfl (fun h1 => ?_) (fun h1 => ?_)
  ·
    have h1r := h1
    try simp only [Bool.not_eq_true', Bool.not_eq_false', Bool.not_not, bne_iff_ne, bne_eq_false_iff_eq, beq_eq_false_iff_ne, beq_iff_eq, ne_eq, decide_eq_true_eq, decide_eq_false_iff_not, Classical.not_not, List.length_map, List.length_take, Int.toNat_natCast, wr_length] at h1
    refine a_skip ?_
    refine a_seq ?_
    refine a_block ?_
    refine a_region (by kernel_rfl) ?_
    refine op_v' (j_move (evo rfl)) ?_
    refine op_v' (j_move (evo rfl)) ?_
    refine op_v' (j_move (evo rfl)) ?_
    refine op_v' (j_move (evo rfl)) ?_
    refine op_v' (j_elemN slt41 rfl rfl rfl (at_map (by first | omega | (simp only [List.length_map, List.length_take, Int.toNat_natCast, wr_length]; omega))) rfl) ?_
    refine op_v' (j_load_el leaf23 rfl (at_map (by first | omega | (simp only [List.length_map, List.length_take, Int.toNat_natCast, wr_length]; omega))) rfl) ?_
    refine op_n1' (fun ver => j_call1 (v := .own 20 ver) (hp1 := [(20, some (ver, .row 3 1 _))]) [] false [] ent103 (f_toIntS (xs.getD k default) (by have := sumW_at (w := List.length) (l := xs) (k := k) (by first | omega | (simp only [List.length_map, List.length_take, Int.toNat_natCast, wr_length]; omega)); unfold wLL at hx; omega)) ⟨.inl ⟨rfl, rfl⟩, trivial⟩ trivial rfl rfl rfl (fun h => by cases h) rfl (List.all_eq_true.1 rfl) (.inl rfl) rfl rfl) fun v20x2 => ?_
    refine op_v' (j_elem_deepN slt41 rfl rfl rfl rfl rfl (by first | omega | (simp only [List.length_map, List.length_take, Int.toNat_natCast, wr_length]; omega))) ?_
    refine op_s1' (j_storel_deep leaf23 rfl rfl (fun _ _ _ _ h => by cases h) rfl (by first | omega | (simp only [List.length_map, List.length_take, Int.toNat_natCast, wr_length]; omega)) rfl (eat_own rfl rfl rfl eat_end) rfl rfl) ?_
    dsimp only [List.map_cons, List.map_nil, List.cons_append, List.nil_append]
    refine op_nil ?_
    refine a_region (by kernel_rfl) ?_
    refine op_v' (j_move (evo rfl)) ?_
    refine op_v' (j_add rfl rfl (by first | omega | (simp only [List.length_map, List.length_take, Int.toNat_natCast, wr_length]; omega)) (by first | omega | (simp only [List.length_map, List.length_take, Int.toNat_natCast, wr_length]; omega))) ?_
    refine op_v' (j_assign (evo rfl)) ?_
    refine op_nil ?_
    exact ⟨k + 1, (by first | omega | (simp only [List.length_map, List.length_take, Int.toNat_natCast, wr_length]; omega)), ⟨⟨rfl, rfl⟩, ⟨rfl, trivial⟩, ⟨deepEq (wr_set (d := default) (by first | omega | (simp only [List.length_map, List.length_take, Int.toNat_natCast, wr_length]; omega))), trivial⟩, ⟨rfl, rfl⟩, ⟨rfl, rfl⟩⟩, (by first | omega | (simp only [List.length_map, List.length_take, Int.toNat_natCast, wr_length]; omega))⟩
  ·
    have h1r := h1
    try simp only [Bool.not_eq_true', Bool.not_eq_false', Bool.not_not, bne_iff_ne, bne_eq_false_iff_eq, beq_eq_false_iff_ne, beq_iff_eq, ne_eq, decide_eq_true_eq, decide_eq_false_iff_not, Classical.not_not, List.length_map, List.length_take, Int.toNat_natCast, wr_length] at h1
    refine a_exit ?_
    refine a_seq ?_
    refine a_region (by kernel_rfl) ?_
    refine op_v' (j_move (evo rfl)) ?_
    refine op_v' (j_assign (evo rfl)) ?_
    refine op_nil ?_
    refine a_ret ?_
    exact ⟨[.own 7 v7x1], .own 0 0, [], [.deep (.mk 23 1 [(0, (.mk 3 1 []))]) _ none], [(7, v7x1)], ⟨rfl, trivial⟩, rfl, rfl, ⟨⟨rfl, rfl⟩, trivial⟩, rfl, rfl, ⟨rfl, rfl, congrArg (fun x => [Obj.deep _ x none]) (wr_all (by first | omega | (simp only [List.length_map, List.length_take, Int.toNat_natCast, wr_length]; omega)))⟩⟩


theorem f_toRule (r : Rl) (hr : wR r ≤ 1048576) : Fn Try.prog 134 [.agg [.p (.int .i64 r.1), .sl (r.2.1.map dI), .sl (r.2.2.1.map dI), .p (.int .i64 r.2.2.2.1), .sl (r.2.2.2.2.map dL)]] [] (fun rr ii nn => rr = .agg [.p (.int .i64 r.1), .own 0 0, .own 1 0, .p (.int .i64 r.2.2.2.1), .own 2 0] ∧ ii = [] ∧ nn = [.row 3 1 ((r.2.1).map dI), .row 3 1 ((r.2.2.1).map dI), .deep (.mk 23 1 [(0, .mk 3 1 [])]) ((r.2.2.2.2).map dL) none]) := by
  refine fn_of Try.func134 rfl (Nat.le_of_ble_eq_true rfl) fun w X g => ?_
  show AWp _ _ _ ⟨[(0, .agg [.p (.int .i64 r.1), .sl (r.2.1.map dI), .sl (r.2.2.1.map dI), .p (.int .i64 r.2.2.2.1), .sl (r.2.2.2.2.map dL)])], []⟩
  have hw : wR r = r.2.1.length + r.2.2.1.length + wLL r.2.2.2.2 := rfl
  refine a_seq ?_
  refine a_region (by kernel_rfl) ?_
  refine op_n' (fun ver => j_boxa rfl) fun v1x1 => ?_
  refine op_n' (fun ver => j_alloc elt43 rfl) fun v2x2 => ?_
  refine op_nil ?_
  refine a_seq ?_
  refine a_region (by kernel_rfl) ?_
  refine op_n' (fun ver => j_alloc elt43 rfl) fun v3x3 => ?_
  refine op_nil ?_
  refine a_seq ?_
  refine a_region (by kernel_rfl) ?_
  refine op_v' (j_fldp fld119f0 rfl rfl) ?_
  refine op_v' (j_load_box leaf3 rfl rfl rfl) ?_
  refine op_v' (j_fldp fld43f0 rfl rfl) ?_
  refine op_s' (j_store_box leaf3 rfl rfl (Nat.le_of_ble_eq_true rfl) (evo rfl) rfl) ?_
  refine op_nil ?_
  refine a_seq ?_
  refine a_region (by kernel_rfl) ?_
  refine op_v' (j_fldp fld119f1 rfl rfl) ?_
  refine op_v' (j_load_box leaf23 rfl rfl rfl) ?_
  refine op_n1' (fun ver => j_call1 (v := .own 9 ver) (hp1 := [(9, some (ver, .row 3 1 _))]) [] false [] ent103 (f_toIntS r.2.1 (by omega)) ⟨.inl ⟨rfl, rfl⟩, trivial⟩ trivial rfl rfl rfl (fun h => by cases h) rfl (List.all_eq_true.1 rfl) (.inl rfl) rfl rfl) fun v9x4 => ?_
  refine op_v' (j_fldp fld43f1 rfl rfl) ?_
  refine op_s' (j_store_box leaf23 rfl rfl (Nat.le_of_ble_eq_true rfl) (evo rfl) rfl) ?_
  refine op_nil ?_
  refine a_seq ?_
  refine a_region (by kernel_rfl) ?_
  refine op_v' (j_fldp fld119f2 rfl rfl) ?_
  refine op_v' (j_load_box leaf23 rfl rfl rfl) ?_
  refine op_n1' (fun ver => j_call1 (v := .own 13 ver) (hp1 := [(13, some (ver, .row 3 1 _))]) [] false [] ent103 (f_toIntS r.2.2.1 (by omega)) ⟨.inl ⟨rfl, rfl⟩, trivial⟩ trivial rfl rfl rfl (fun h => by cases h) rfl (List.all_eq_true.1 rfl) (.inl rfl) rfl rfl) fun v13x5 => ?_
  refine op_v' (j_fldp fld43f2 rfl rfl) ?_
  refine op_s' (j_store_box leaf23 rfl rfl (Nat.le_of_ble_eq_true rfl) (evo rfl) rfl) ?_
  refine op_nil ?_
  refine a_seq ?_
  refine a_region (by kernel_rfl) ?_
  refine op_v' (j_fldp fld119f3 rfl rfl) ?_
  refine op_v' (j_load_box leaf3 rfl rfl rfl) ?_
  refine op_v' (j_fldp fld43f3 rfl rfl) ?_
  refine op_s' (j_store_box leaf3 rfl rfl (Nat.le_of_ble_eq_true rfl) (evo rfl) rfl) ?_
  refine op_nil ?_
  refine a_seq ?_
  refine a_region (by kernel_rfl) ?_
  refine op_v' (j_fldp fld119f4 rfl rfl) ?_
  refine op_v' (j_load_box leaf41 rfl rfl rfl) ?_
  refine op_n1' (fun ver => j_call1 (v := .own 20 ver) (hp1 := [(20, some (ver, .deep (.mk 23 1 [(0, (.mk 3 1 []))]) _ none))]) [] false [] ent146 (f_toIntSS r.2.2.2.2 (by omega)) ⟨.inl ⟨rfl, rfl⟩, trivial⟩ trivial rfl rfl rfl (fun h => by cases h) rfl (List.all_eq_true.1 rfl) (.inl rfl) rfl rfl) fun v20x6 => ?_
  refine op_v' (j_fldp fld43f4 rfl rfl) ?_
  refine op_s' (j_store_box leaf41 rfl rfl (Nat.le_of_ble_eq_true rfl) (evo rfl) rfl) ?_
  refine op_nil ?_
  refine a_seq ?_
  refine a_region (by kernel_rfl) ?_
  refine op_v' (j_loada_box (ys := [.p _, .own 9 v9x4, .own 13 v13x5, .p _, .own 20 v20x6]) agg43 rfl rfl rfl (Nat.le_of_ble_eq_true rfl)) ?_
  refine op_s' (j_storea_box0 agg43 rfl rfl rfl rfl rfl rfl) ?_
  refine op_nil ?_
  refine a_ret ?_
  exact ⟨[.agg [.p _, .own 9 v9x4, .own 13 v13x5, .p _, .own 20 v20x6]], .agg [.p _, .own 0 0, .own 1 0, .p _, .own 2 0], [], [.row 3 1 _, .row 3 1 _, .deep (.mk 23 1 [(0, (.mk 3 1 []))]) _ none], [(9, v9x4), (13, v13x5), (20, v20x6)], ⟨⟨_, _, _, _, rfl, rfl, agg43, rfl⟩, trivial⟩, rfl, rfl, ⟨⟨rfl, rfl⟩, ⟨rfl, rfl⟩, ⟨rfl, rfl⟩, trivial⟩, rfl, rfl, ⟨rfl, rfl, rfl⟩⟩


theorem f_toRuleS (l : List Rl) (hl : wRS l ≤ 1048576) : Fn Try.prog 104 [.sl (l.map dR)] [] (fun rr ii nn => rr = .own 0 0 ∧ ii = [] ∧ nn = [.deep (.mk 43 5 [(1, .mk 3 1 []), (2, .mk 3 1 []), (4, (.mk 23 1 [(0, .mk 3 1 [])]))]) ((l).map dR) none]) := by
  refine fn_of Try.func104 rfl (Nat.le_of_ble_eq_true rfl) fun w X g => ?_
  show AWp _ _ _ ⟨[(0, .sl (l.map dR))], []⟩
  have hxl : l.length ≤ 1048576 := by unfold wRS at hl; omega
  refine a_seq ?_
  refine a_region (by kernel_rfl) ?_
  refine op_v' (j_assign (evo rfl)) ?_
  refine op_nil ?_
  refine a_seq ?_
  refine a_region (by kernel_rfl) ?_
  refine op_v' (j_move (evo rfl)) ?_
  refine op_v' (j_len_map Try.underlying56 rfl) ?_
  refine op_n' (fun ver => j_make slt24 elt43 rfl rfl (by decide) rfl rfl rfl rfl (by first | omega | (simp only [List.length_map, List.length_take, Int.toNat_natCast, wr_length]; omega)) (by rw [maxLen_eq]; first | omega | (simp only [List.length_map, List.length_take, Int.toNat_natCast, wr_length]; omega))) fun v7x1 => ?_
  refine op_todeep 7 (l.length) (.mk 43 5 [(1, (.mk 3 1 [])), (2, (.mk 3 1 [])), (4, (.mk 23 1 [(0, (.mk 3 1 []))]))]) rfl rfl rfl rfl (eat_leaf rfl rfl rfl (eat_nils rfl (eat_nils rfl (eat_leaf rfl rfl rfl (eat_nils rfl eat_end))))) rfl ?_
  refine op_v' (j_assign (evo rfl)) ?_
  refine op_nil ?_
  refine a_seq ?_
  refine a_seq ?_
  refine a_region (by kernel_rfl) ?_
  refine op_v' (j_assign (evo rfl)) ?_
  refine op_nil ?_
  refine a_block ?_
  refine a_loopF' (ι := Nat) (fun k => k ≤ l.length) (fun k r => (4, .p (.int .i64 ((k : Nat)))) :: r) (fun k r => (7, some (v7x1, .deep (.mk 43 5 [(1, .mk 3 1 []), (2, .mk 3 1 []), (4, (.mk 23 1 [(0, .mk 3 1 [])]))]) (wr dR l k (dR ((0, [], [], 0, []) : Rl))) none)) :: r) (fun k => l.length - k) (fun _ _ => rfl) (fun _ _ => rfl) 0 (by first | omega | (simp only [List.length_map, List.length_take, Int.toNat_natCast, wr_length]; omega)) ⟨⟨rfl, rfl⟩, ⟨rfl, trivial⟩, ⟨deepEq (by rw [wr_zero]; rfl), trivial⟩, ⟨rfl, rfl⟩, ⟨rfl, rfl⟩⟩ ?_
  intro k hpre0
  refine a_seq ?_
  refine a_seq ?_
  refine a_region (by kernel_rfl) ?_
  refine op_v' (j_move (evo rfl)) ?_
  refine op_v' (j_move (evo rfl)) ?_
  refine op_v' (j_len_map Try.underlying56 rfl) ?_
  refine op_v' (j_lt rfl rfl) ?_
  refine op_nil ?_
  refine a_cond rfl (fun h1 => ?_) (fun h1 => ?_)
  ·
    have h1r := h1
    try simp only [Bool.not_eq_true', Bool.not_eq_false', Bool.not_not, bne_iff_ne, bne_eq_false_iff_eq, beq_eq_false_iff_ne, beq_iff_eq, ne_eq, decide_eq_true_eq, decide_eq_false_iff_not, Classical.not_not, List.length_map, List.length_take, Int.toNat_natCast, wr_length] at h1
    refine a_skip ?_
    refine a_seq ?_
    refine a_block ?_
    refine a_region (by kernel_rfl) ?_
    refine op_v' (j_move (evo rfl)) ?_
    refine op_v' (j_move (evo rfl)) ?_
    refine op_v' (j_move (evo rfl)) ?_
    refine op_v' (j_move (evo rfl)) ?_
    refine op_v' (j_elemN slt56 rfl rfl rfl (at_map (by first | omega | (simp only [List.length_map, List.length_take, Int.toNat_natCast, wr_length]; omega))) rfl) ?_
    refine op_v' (j_loada_el (ys := [.p _, .sl _, .sl _, .p _, .sl _]) agg119 rfl (at_map (by first | omega | (simp only [List.length_map, List.length_take, Int.toNat_natCast, wr_length]; omega))) rfl (Nat.le_refl _)) ?_
    refine op_call3 (v := fun ver ver2 ver3 => .agg [.p _, .own 20 ver, .own 100020 ver2, .p _, .own 200020 ver3]) (hp1 := fun ver ver2 ver3 => [(20, some (ver, .row 3 1 _)), (100020, some (ver2, .row 3 1 _)), (200020, some (ver3, .deep (.mk 23 1 [(0, (.mk 3 1 []))]) _ none))]) [] false ent134 (f_toRule (l.getD k default) (by have := sumW_at (w := wR) (l := l) (k := k) (by first | omega | (simp only [List.length_map, List.length_take, Int.toNat_natCast, wr_length]; omega)); unfold wRS at hl; omega)) ⟨.inl ⟨rfl, rfl⟩, trivial⟩ trivial rfl rfl rfl rfl (.inl rfl) (fun _ _ _ => rfl) (fun _ _ _ => rfl) ?_
    rintro  v20x2 v100020x2 v200020x2
    dsimp only [List.cons_append, List.nil_append]
    refine op_v' (j_elem_deepN slt24 rfl rfl rfl rfl rfl (by first | omega | (simp only [List.length_map, List.length_take, Int.toNat_natCast, wr_length]; omega))) ?_
    refine op_s1' (j_storea_deep agg43 rfl rfl rfl (by first | omega | (simp only [List.length_map, List.length_take, Int.toNat_natCast, wr_length]; omega)) rfl rfl (eat_leaf rfl rfl rfl (eat_own rfl rfl rfl (eat_own rfl rfl rfl (eat_leaf rfl rfl rfl (eat_own rfl rfl rfl eat_end))))) rfl rfl) ?_
    dsimp only [List.map_cons, List.map_nil, List.cons_append, List.nil_append]
    refine op_nil ?_
    refine a_region (by kernel_rfl) ?_
    refine op_v' (j_move (evo rfl)) ?_
    refine op_v' (j_add rfl rfl (by first | omega | (simp only [List.length_map, List.length_take, Int.toNat_natCast, wr_length]; omega)) (by first | omega | (simp only [List.length_map, List.length_take, Int.toNat_natCast, wr_length]; omega))) ?_
    refine op_v' (j_assign (evo rfl)) ?_
    refine op_nil ?_
    exact ⟨k + 1, (by first | omega | (simp only [List.length_map, List.length_take, Int.toNat_natCast, wr_length]; omega)), ⟨⟨rfl, rfl⟩, ⟨rfl, trivial⟩, ⟨deepEq (wr_set (d := default) (by first | omega | (simp only [List.length_map, List.length_take, Int.toNat_natCast, wr_length]; omega))), trivial⟩, ⟨rfl, rfl⟩, ⟨rfl, rfl⟩⟩, (by first | omega | (simp only [List.length_map, List.length_take, Int.toNat_natCast, wr_length]; omega))⟩
  ·
    have h1r := h1
    try simp only [Bool.not_eq_true', Bool.not_eq_false', Bool.not_not, bne_iff_ne, bne_eq_false_iff_eq, beq_eq_false_iff_ne, beq_iff_eq, ne_eq, decide_eq_true_eq, decide_eq_false_iff_not, Classical.not_not, List.length_map, List.length_take, Int.toNat_natCast, wr_length] at h1
    refine a_exit ?_
    refine a_seq ?_
    refine a_region (by kernel_rfl) ?_
    refine op_v' (j_move (evo rfl)) ?_
    refine op_v' (j_assign (evo rfl)) ?_
    refine op_nil ?_
    refine a_ret ?_
    exact ⟨[.own 7 v7x1], .own 0 0, [], [.deep (.mk 43 5 [(1, (.mk 3 1 [])), (2, (.mk 3 1 [])), (4, (.mk 23 1 [(0, (.mk 3 1 []))]))]) _ none], [(7, v7x1)], ⟨rfl, trivial⟩, rfl, rfl, ⟨⟨rfl, rfl⟩, trivial⟩, rfl, rfl, ⟨rfl, rfl, congrArg (fun x => [Obj.deep _ x none]) (wr_all (by first | omega | (simp only [List.length_map, List.length_take, Int.toNat_natCast, wr_length]; omega)))⟩⟩


theorem f_toModelF (m : Md) (hm : wM m ≤ 1048576) : Fn Try.prog 46 [.agg [.sl (m.1.map dI), .sl (m.2.map dR)]] [] (fun rr ii nn => rr = .agg [.sl (m.1.map dI), .sl (m.2.map dR)] ∧ ii = [] ∧ nn = []) := by
  refine fn_of Try.func46 rfl (Nat.le_of_ble_eq_true rfl) fun w X g => ?_
  show AWp _ _ _ ⟨[(0, .agg [.sl (m.1.map dI), .sl (m.2.map dR)])], []⟩
  have hw : wM m = m.1.length + wRS m.2 := rfl
  refine a_seq ?_
  refine a_region (by kernel_rfl) ?_
  refine op_n' (fun ver => j_boxa rfl) fun v1x1 => ?_
  refine op_n' (fun ver => j_alloc elt26 rfl) fun v2x2 => ?_
  refine op_nil ?_
  refine a_seq ?_
  refine a_region (by kernel_rfl) ?_
  refine op_n' (fun ver => j_alloc elt26 rfl) fun v3x3 => ?_
  refine op_nil ?_
  refine a_seq ?_
  refine a_region (by kernel_rfl) ?_
  refine op_v' (j_fldp fld58f0 rfl rfl) ?_
  refine op_v' (j_load_box leaf23 rfl rfl rfl) ?_
  refine op_n1' (fun ver => j_call1 (v := .own 6 ver) (hp1 := [(6, some (ver, .row 3 1 _))]) [] false [] ent103 (f_toIntS m.1 (by omega)) ⟨.inl ⟨rfl, rfl⟩, trivial⟩ trivial rfl rfl rfl (fun h => by cases h) rfl (List.all_eq_true.1 rfl) (.inl rfl) rfl rfl) fun v6x4 => ?_
  refine op_v' (j_fldp fld26f0 rfl rfl) ?_
  refine op_s' (j_store_box leaf23 rfl rfl (Nat.le_of_ble_eq_true rfl) (evo rfl) rfl) ?_
  refine op_nil ?_
  refine a_seq ?_
  refine a_region (by kernel_rfl) ?_
  refine op_v' (j_fldp fld58f1 rfl rfl) ?_
  refine op_v' (j_load_box leaf56 rfl rfl rfl) ?_
  refine op_n1' (fun ver => j_call1 (v := .own 10 ver) (hp1 := [(10, some (ver, .deep (.mk 43 5 [(1, (.mk 3 1 [])), (2, (.mk 3 1 [])), (4, (.mk 23 1 [(0, (.mk 3 1 []))]))]) _ none))]) [] false [] ent104 (f_toRuleS m.2 (by omega)) ⟨.inl ⟨rfl, rfl⟩, trivial⟩ trivial rfl rfl rfl (fun h => by cases h) rfl (List.all_eq_true.1 rfl) (.inl rfl) rfl rfl) fun v10x5 => ?_
  refine op_v' (j_fldp fld26f1 rfl rfl) ?_
  refine op_s' (j_store_box leaf24 rfl rfl (Nat.le_of_ble_eq_true rfl) (evo rfl) rfl) ?_
  refine op_nil ?_
  refine a_seq ?_
  refine a_freezeboxK 0 3 (by decide) trivial rfl rfl rfl rfl ?_
  try dsimp only [List.set]
  refine a_freezeboxG 1 3 (by decide) trivial rfl rfl rfl rfl rfl ?_
  try dsimp only [List.set]
  refine a_region (by kernel_rfl) ?_
  refine op_v' (j_loada_box (ys := [.sl _, .sl _]) agg26 rfl rfl rfl (Nat.le_of_ble_eq_true rfl)) ?_
  refine op_s' (j_storea_box0 agg26 rfl rfl rfl rfl rfl rfl) ?_
  refine op_nil ?_
  refine a_ret ?_
  exact ⟨[.agg [.sl _, .sl _]], .agg [.sl _, .sl _], [], [], [], ⟨⟨_, _, _, _, rfl, rfl, agg26, rfl⟩, trivial⟩, rfl, rfl, trivial, rfl, rfl, ⟨rfl, rfl, rfl⟩⟩


theorem f_toModel (m : Md) (hm : wM m ≤ 1048576) : Fn Try.prog 46 [.agg [.sl (m.1.map dI), .sl (m.2.map dR)]] [] (fun rr ii nn => rr = .agg [.own 0 0, .own 1 0] ∧ ii = [] ∧ nn = [.row 3 1 ((m.1).map dI), .deep (.mk 43 5 [(1, .mk 3 1 []), (2, .mk 3 1 []), (4, (.mk 23 1 [(0, .mk 3 1 [])]))]) ((m.2).map dR) none]) := by
  refine fn_of Try.func46 rfl (Nat.le_of_ble_eq_true rfl) fun w X g => ?_
  show AWp _ _ _ ⟨[(0, .agg [.sl (m.1.map dI), .sl (m.2.map dR)])], []⟩
  have hw : wM m = m.1.length + wRS m.2 := rfl
  refine a_seq ?_
  refine a_region (by kernel_rfl) ?_
  refine op_n' (fun ver => j_boxa rfl) fun v1x1 => ?_
  refine op_n' (fun ver => j_alloc elt26 rfl) fun v2x2 => ?_
  refine op_nil ?_
  refine a_seq ?_
  refine a_region (by kernel_rfl) ?_
  refine op_n' (fun ver => j_alloc elt26 rfl) fun v3x3 => ?_
  refine op_nil ?_
  refine a_seq ?_
  refine a_region (by kernel_rfl) ?_
  refine op_v' (j_fldp fld58f0 rfl rfl) ?_
  refine op_v' (j_load_box leaf23 rfl rfl rfl) ?_
  refine op_n1' (fun ver => j_call1 (v := .own 6 ver) (hp1 := [(6, some (ver, .row 3 1 _))]) [] false [] ent103 (f_toIntS m.1 (by omega)) ⟨.inl ⟨rfl, rfl⟩, trivial⟩ trivial rfl rfl rfl (fun h => by cases h) rfl (List.all_eq_true.1 rfl) (.inl rfl) rfl rfl) fun v6x4 => ?_
  refine op_v' (j_fldp fld26f0 rfl rfl) ?_
  refine op_s' (j_store_box leaf23 rfl rfl (Nat.le_of_ble_eq_true rfl) (evo rfl) rfl) ?_
  refine op_nil ?_
  refine a_seq ?_
  refine a_region (by kernel_rfl) ?_
  refine op_v' (j_fldp fld58f1 rfl rfl) ?_
  refine op_v' (j_load_box leaf56 rfl rfl rfl) ?_
  refine op_n1' (fun ver => j_call1 (v := .own 10 ver) (hp1 := [(10, some (ver, .deep (.mk 43 5 [(1, (.mk 3 1 [])), (2, (.mk 3 1 [])), (4, (.mk 23 1 [(0, (.mk 3 1 []))]))]) _ none))]) [] false [] ent104 (f_toRuleS m.2 (by omega)) ⟨.inl ⟨rfl, rfl⟩, trivial⟩ trivial rfl rfl rfl (fun h => by cases h) rfl (List.all_eq_true.1 rfl) (.inl rfl) rfl rfl) fun v10x5 => ?_
  refine op_v' (j_fldp fld26f1 rfl rfl) ?_
  refine op_s' (j_store_box leaf24 rfl rfl (Nat.le_of_ble_eq_true rfl) (evo rfl) rfl) ?_
  refine op_nil ?_
  refine a_seq ?_
  refine a_region (by kernel_rfl) ?_
  refine op_v' (j_loada_box (ys := [.own 6 v6x4, .own 10 v10x5]) agg26 rfl rfl rfl (Nat.le_of_ble_eq_true rfl)) ?_
  refine op_s' (j_storea_box0 agg26 rfl rfl rfl rfl rfl rfl) ?_
  refine op_nil ?_
  refine a_ret ?_
  exact ⟨[.agg [.own 6 v6x4, .own 10 v10x5]], .agg [.own 0 0, .own 1 0], [], [.row 3 1 _, .deep (.mk 43 5 [(1, (.mk 3 1 [])), (2, (.mk 3 1 [])), (4, (.mk 23 1 [(0, (.mk 3 1 []))]))]) _ none], [(6, v6x4), (10, v10x5)], ⟨⟨_, _, _, _, rfl, rfl, agg26, rfl⟩, trivial⟩, rfl, rfl, ⟨⟨rfl, rfl⟩, ⟨rfl, rfl⟩, trivial⟩, rfl, rfl, ⟨rfl, rfl, rfl⟩⟩


theorem f_markRuleS (k : Nat) (l : List Rl) (hb : k + sumW cR l ≤ 4611686018427387904) (hl : wRS l ≤ 1048576) : Fn Try.prog 110 [.own 0 0, .p (.int .i64 ((k : Nat)))] [.deep (.mk 43 5 [(1, .mk 3 1 []), (2, .mk 3 1 []), (4, (.mk 23 1 [(0, .mk 3 1 [])]))]) ((l).map dR) none] (fun rr ii nn => ∃ x : List Rl, (True) ∧ rr = .p (.int .i64 (((k + sumW cR l : Nat) : Int))) ∧ ii = [.deep (.mk 43 5 [(1, .mk 3 1 []), (2, .mk 3 1 []), (4, (.mk 23 1 [(0, .mk 3 1 [])]))]) ((x).map dR) none] ∧ nn = []) := by
  refine fn_of Try.func110 rfl (Nat.le_of_ble_eq_true rfl) fun w X g => ?_
  show AWp _ _ _ ⟨[(0, .own 0 0), (1, .p (.int .i64 ((k : Nat))))], [(0, some (0, .deep (.mk 43 5 [(1, .mk 3 1 []), (2, .mk 3 1 []), (4, (.mk 23 1 [(0, .mk 3 1 [])]))]) ((l).map dR) none))]⟩
  have hll : l.length ≤ 1048576 := by unfold wRS at hl; omega
  refine a_seq ?_
  refine a_region (by kernel_rfl) ?_
  refine op_v' (j_assign (evo rfl)) ?_
  refine op_nil ?_
  refine a_seq ?_
  refine a_seq ?_
  refine a_region (by kernel_rfl) ?_
  refine op_v' (j_assign (evo rfl)) ?_
  refine op_nil ?_
  refine a_block ?_
  refine a_loopF' (ι := List Rl) (fun p => p.length ≤ l.length) (fun p r => (5, .p (.int .i64 ((p.length : Nat)))) :: (1, .p (.int .i64 ((((k + sumW cR (l.take p.length)) : Nat) : Int)))) :: r) (fun p r => (0, some (0, .deep (.mk 43 5 [(1, .mk 3 1 []), (2, .mk 3 1 []), (4, (.mk 23 1 [(0, .mk 3 1 [])]))]) (((p ++ l.drop p.length)).map dR) none)) :: r) (fun p => l.length - p.length) (fun _ _ => rfl) (fun _ _ => rfl) [] (by first | exact (Nat.zero_le _) | (dsimp only; exact (Nat.zero_le _))) ⟨⟨rfl, rfl⟩, ⟨rfl, intEq (by simp [sumW]), trivial⟩, ⟨deepEq (by simp), trivial⟩, ⟨rfl, rfl⟩, ⟨rfl, rfl⟩⟩ ?_
  intro p hp
  refine a_seq ?_
  refine a_seq ?_
  refine a_region (by kernel_rfl) ?_
  refine op_v' (j_move (evo rfl)) ?_
  refine op_v' (j_move (evo rfl)) ?_
  refine op_v' (j_len_deep Try.underlying24 rfl rfl) ?_
  refine op_v' (j_lt rfl rfl) ?_
  refine op_nil ?_
  refine a_cond rfl (fun h1 => ?_) (fun h1 => ?_)
  ·
    have h1r := h1
    try simp only [Bool.not_eq_true', Bool.not_eq_false', Bool.not_not, bne_iff_ne, bne_eq_false_iff_eq, beq_eq_false_iff_ne, beq_iff_eq, ne_eq, decide_eq_true_eq, decide_eq_false_iff_not, Classical.not_not, List.length_map, List.length_take, Int.toNat_natCast, List.length_map, List.length_append, List.length_drop, List.length_cons, List.length_nil, List.length_set] at h1
    refine a_skip ?_
    refine a_seq ?_
    refine a_block ?_
    refine a_seq ?_
    have hs2 := sumW_take (w := cR) (d := default) (l := l) (k := p.length) (by first | omega | (simp only [List.length_map, List.length_take, Int.toNat_natCast, List.length_map, List.length_append, List.length_drop, List.length_cons, List.length_nil, List.length_set]; omega))
    have hs3 := sumW_le (w := cR) (l := l) (k := p.length + 1)
    have hc : cR (l.getD p.length default) = 2 + (l.getD p.length default).2.1.length + (l.getD p.length default).2.2.1.length + sumW List.length (l.getD p.length default).2.2.2.2 := rfl
    have hwr := sumW_at (w := wR) (l := l) (k := p.length) (by first | omega | (simp only [List.length_map, List.length_take, Int.toNat_natCast, List.length_map, List.length_append, List.length_drop, List.length_cons, List.length_nil, List.length_set]; omega))
    have hwd : wR (l.getD p.length default) = (l.getD p.length default).2.1.length + (l.getD p.length default).2.2.1.length + ((l.getD p.length default).2.2.2.2.length + sumW List.length (l.getD p.length default).2.2.2.2) := rfl
    have hwl : sumW wR l ≤ 1048576 := by unfold wRS at hl; omega
    refine a_region (by kernel_rfl) ?_
    refine op_v' (j_move (evo rfl)) ?_
    refine op_v' (j_move (evo rfl)) ?_
    refine op_v' (j_move (evo rfl)) ?_
    refine op_v' (j_elem_deepN slt24 rfl rfl rfl rfl rfl (by first | omega | (simp only [List.length_map, List.length_take, Int.toNat_natCast, List.length_map, List.length_append, List.length_drop, List.length_cons, List.length_nil, List.length_set]; omega))) ?_
    refine op_v' (j_fldpel fld43f0 rfl rfl) ?_
    refine op_s' (j_store_deep leaf3 rfl rfl rfl (ps_at (by first | omega | (simp only [List.length_map, List.length_take, Int.toNat_natCast, List.length_map, List.length_append, List.length_drop, List.length_cons, List.length_nil, List.length_set]; omega))) (Nat.le_of_ble_eq_true rfl) (evo rfl) rfl rfl) ?_
    refine op_nil ?_
    refine a_seq ?_
    refine a_region (by kernel_rfl) ?_
    refine op_v' (j_move (evo rfl)) ?_
    refine op_v' (j_add rfl rfl (by first | omega | (simp only [List.length_map, List.length_take, Int.toNat_natCast, List.length_map, List.length_append, List.length_drop, List.length_cons, List.length_nil, List.length_set]; omega)) (by first | omega | (simp only [List.length_map, List.length_take, Int.toNat_natCast, List.length_map, List.length_append, List.length_drop, List.length_cons, List.length_nil, List.length_set]; omega))) ?_
    refine op_v' (j_assign (evo rfl)) ?_
    refine op_nil ?_
    refine a_seq ?_
    refine a_region (by kernel_rfl) ?_
    refine op_v' (j_move (evo rfl)) ?_
    refine op_v' (j_move (evo rfl)) ?_
    refine op_v' (j_elem_deepN slt24 rfl rfl rfl rfl rfl (by first | omega | (simp only [List.length_map, List.length_take, Int.toNat_natCast, List.length_map, List.length_append, List.length_drop, List.length_cons, List.length_nil, List.length_set]; omega))) ?_
    refine op_v' (j_fldpel fld43f1 rfl rfl) ?_
    refine op_n1' (fun ver => j_out leaf23 (by decide) rfl rfl rfl (List.getElem?_set_self (by first | omega | (simp only [List.length_map, List.length_take, Int.toNat_natCast, List.length_map, List.length_append, List.length_drop, List.length_cons, List.length_nil, List.length_set]; omega))) rfl rfl) fun v23x1 => ?_
    refine op_v' (j_move (evo rfl)) ?_
    refine op_v0' (j_call0 (v := .p _) (hp1 := [(23, some (v23x1, .row 3 1 _))]) [(23, v23x1)] false [23] ent109 (f_markIntS ((k + sumW cR (l.take p.length)) + 1) (l.getD p.length default).2.1 (by omega)) ⟨.inl ⟨rfl, rfl⟩, .inl ⟨rfl, rfl⟩, trivial⟩ ⟨⟨rfl, rfl⟩, trivial⟩ rfl rfl (fun h => by cases h) rfl (List.all_eq_true.1 rfl) (.inl rfl) rfl rfl) ?_
    refine op_v' (j_assign (evo rfl)) ?_
    refine op_nil ?_
    refine a_back 0 23 (by decide) rfl rfl rfl rfl (List.getElem?_set_self (by first | omega | (simp only [List.length_map, List.length_take, Int.toNat_natCast, List.length_map, List.length_append, List.length_drop, List.length_cons, List.length_nil, List.length_set]; omega))) rfl ?_
    refine a_seq ?_
    refine a_region (by kernel_rfl) ?_
    refine op_v' (j_move (evo rfl)) ?_
    refine op_v' (j_move (evo rfl)) ?_
    refine op_v' (j_elem_deepN slt24 rfl rfl rfl rfl rfl (by first | omega | (simp only [List.length_map, List.length_take, Int.toNat_natCast, List.length_map, List.length_append, List.length_drop, List.length_cons, List.length_nil, List.length_set]; omega))) ?_
    refine op_v' (j_fldpel fld43f2 rfl rfl) ?_
    refine op_n1' (fun ver => j_out leaf23 (by decide) rfl rfl rfl (List.getElem?_set_self (by first | omega | (simp only [List.length_map, List.length_take, Int.toNat_natCast, List.length_map, List.length_append, List.length_drop, List.length_cons, List.length_nil, List.length_set]; omega))) rfl rfl) fun v30x2 => ?_
    refine op_v' (j_move (evo rfl)) ?_
    refine op_v0' (j_call0 (v := .p _) (hp1 := [(30, some (v30x2, .row 3 1 _))]) [(30, v30x2)] false [30] ent109 (f_markIntS ((k + sumW cR (l.take p.length)) + 1 + (l.getD p.length default).2.1.length) (l.getD p.length default).2.2.1 (by omega)) ⟨.inl ⟨rfl, rfl⟩, .inl ⟨rfl, rfl⟩, trivial⟩ ⟨⟨rfl, rfl⟩, trivial⟩ rfl rfl (fun h => by cases h) rfl (List.all_eq_true.1 rfl) (.inl rfl) rfl rfl) ?_
    refine op_v' (j_assign (evo rfl)) ?_
    refine op_nil ?_
    refine a_back 0 30 (by decide) rfl rfl rfl rfl (List.getElem?_set_self (by first | omega | (simp only [List.length_map, List.length_take, Int.toNat_natCast, List.length_map, List.length_append, List.length_drop, List.length_cons, List.length_nil, List.length_set]; omega))) rfl ?_
    refine a_seq ?_
    refine a_region (by kernel_rfl) ?_
    refine op_v' (j_move (evo rfl)) ?_
    refine op_v' (j_move (evo rfl)) ?_
    refine op_v' (j_move (evo rfl)) ?_
    refine op_v' (j_elem_deepN slt24 rfl rfl rfl rfl rfl (by first | omega | (simp only [List.length_map, List.length_take, Int.toNat_natCast, List.length_map, List.length_append, List.length_drop, List.length_cons, List.length_nil, List.length_set]; omega))) ?_
    refine op_v' (j_fldpel fld43f3 rfl rfl) ?_
    refine op_s' (j_store_deep leaf3 rfl rfl rfl (List.getElem?_set_self (by first | omega | (simp only [List.length_map, List.length_take, Int.toNat_natCast, List.length_map, List.length_append, List.length_drop, List.length_cons, List.length_nil, List.length_set]; omega))) (Nat.le_of_ble_eq_true rfl) (evo rfl) rfl rfl) ?_
    refine op_nil ?_
    refine a_seq ?_
    refine a_region (by kernel_rfl) ?_
    refine op_v' (j_move (evo rfl)) ?_
    refine op_v' (j_add rfl rfl (by first | omega | (simp only [List.length_map, List.length_take, Int.toNat_natCast, List.length_map, List.length_append, List.length_drop, List.length_cons, List.length_nil, List.length_set]; omega)) (by first | omega | (simp only [List.length_map, List.length_take, Int.toNat_natCast, List.length_map, List.length_append, List.length_drop, List.length_cons, List.length_nil, List.length_set]; omega))) ?_
    refine op_v' (j_assign (evo rfl)) ?_
    refine op_nil ?_
    refine a_region (by kernel_rfl) ?_
    refine op_v' (j_move (evo rfl)) ?_
    refine op_v' (j_move (evo rfl)) ?_
    refine op_v' (j_elem_deepN slt24 rfl rfl rfl rfl rfl (by first | omega | (simp only [List.length_map, List.length_take, Int.toNat_natCast, List.length_map, List.length_append, List.length_drop, List.length_cons, List.length_nil, List.length_set]; omega))) ?_
    refine op_v' (j_fldpel fld43f4 rfl rfl) ?_
    refine op_n1' (fun ver => j_out leaf41 (by decide) rfl rfl rfl (List.getElem?_set_self (by first | omega | (simp only [List.length_map, List.length_take, Int.toNat_natCast, List.length_map, List.length_append, List.length_drop, List.length_cons, List.length_nil, List.length_set]; omega))) rfl rfl) fun v44x3 => ?_
    refine op_v' (j_move (evo rfl)) ?_
    refine op_callE (v := fun x => .p _) (hp1 := fun x => [(44, some (v44x3, .deep (.mk 23 1 [(0, (.mk 3 1 []))]) _ none))]) [(44, v44x3)] false ent136 (f_markIntSS ((k + sumW cR (l.take p.length)) + 1 + (l.getD p.length default).2.1.length + (l.getD p.length default).2.2.1.length + 1) (l.getD p.length default).2.2.2.2 (by omega) (by omega)) ⟨.inl ⟨rfl, rfl⟩, .inl ⟨rfl, rfl⟩, trivial⟩ ⟨⟨rfl, rfl⟩, trivial⟩ rfl (fun _ => rfl) (fun _ => rfl) (.inl rfl) (fun _ => rfl) (fun _ => rfl) ?_
    rintro ys46 -
    dsimp only [List.cons_append, List.nil_append]
    refine op_v' (j_assign (evo rfl)) ?_
    refine op_nil ?_
    refine a_back 0 44 (by decide) rfl rfl rfl rfl (List.getElem?_set_self (by first | omega | (simp only [List.length_map, List.length_take, Int.toNat_natCast, List.length_map, List.length_append, List.length_drop, List.length_cons, List.length_nil, List.length_set]; omega))) rfl ?_
    refine a_region (by kernel_rfl) ?_
    refine op_v' (j_move (evo rfl)) ?_
    refine op_v' (j_add rfl rfl (by first | omega | (simp only [List.length_map, List.length_take, Int.toNat_natCast, List.length_map, List.length_append, List.length_drop, List.length_cons, List.length_nil, List.length_set]; omega)) (by first | omega | (simp only [List.length_map, List.length_take, Int.toNat_natCast, List.length_map, List.length_append, List.length_drop, List.length_cons, List.length_nil, List.length_set]; omega))) ?_
    refine op_v' (j_assign (evo rfl)) ?_
    refine op_nil ?_
    exact ⟨(p ++ [(((((k + sumW cR (l.take p.length)) : Nat) : Int), marksI ((k + sumW cR (l.take p.length)) + 1) (l.getD p.length default).2.1.length, marksI ((k + sumW cR (l.take p.length)) + 1 + (l.getD p.length default).2.1.length) (l.getD p.length default).2.2.1.length, ((((k + sumW cR (l.take p.length)) + 1 + (l.getD p.length default).2.1.length + (l.getD p.length default).2.2.1.length : Nat)) : Int), ys46) : Rl)]), (by first | exact (by first | omega | (simp only [List.length_map, List.length_take, Int.toNat_natCast, List.length_map, List.length_append, List.length_drop, List.length_cons, List.length_nil, List.length_set]; omega)) | (dsimp only; exact (by first | omega | (simp only [List.length_map, List.length_take, Int.toNat_natCast, List.length_map, List.length_append, List.length_drop, List.length_cons, List.length_nil, List.length_set]; omega)))), ⟨⟨rfl, rfl⟩, ⟨intEq (by simp), intEq (by rw [List.length_append]; simp only [List.length_cons, List.length_nil, Nat.zero_add]; omega), trivial⟩, ⟨deepEq (by simp only [List.set_set]; exact ps_set (y := (((((k + sumW cR (l.take p.length)) : Nat) : Int), marksI ((k + sumW cR (l.take p.length)) + 1) (l.getD p.length default).2.1.length, marksI ((k + sumW cR (l.take p.length)) + 1 + (l.getD p.length default).2.1.length) (l.getD p.length default).2.2.1.length, ((((k + sumW cR (l.take p.length)) + 1 + (l.getD p.length default).2.1.length + (l.getD p.length default).2.2.1.length : Nat)) : Int), ys46) : Rl)) (by first | omega | (simp only [List.length_map, List.length_take, Int.toNat_natCast, List.length_map, List.length_append, List.length_drop, List.length_cons, List.length_nil, List.length_set]; omega))), trivial⟩, ⟨rfl, rfl⟩, ⟨rfl, rfl⟩⟩, (by first | exact (by first | omega | (simp only [List.length_map, List.length_take, Int.toNat_natCast, List.length_map, List.length_append, List.length_drop, List.length_cons, List.length_nil, List.length_set]; omega)) | (dsimp only; exact (by first | omega | (simp only [List.length_map, List.length_take, Int.toNat_natCast, List.length_map, List.length_append, List.length_drop, List.length_cons, List.length_nil, List.length_set]; omega))))⟩
  ·
    have h1r := h1
    try simp only [Bool.not_eq_true', Bool.not_eq_false', Bool.not_not, bne_iff_ne, bne_eq_false_iff_eq, beq_eq_false_iff_ne, beq_iff_eq, ne_eq, decide_eq_true_eq, decide_eq_false_iff_not, Classical.not_not, List.length_map, List.length_take, Int.toNat_natCast, List.length_map, List.length_append, List.length_drop, List.length_cons, List.length_nil, List.length_set] at h1
    refine a_exit ?_
    refine a_seq ?_
    refine a_region (by kernel_rfl) ?_
    refine op_v' (j_move (evo rfl)) ?_
    refine op_v' (j_assign (evo rfl)) ?_
    refine op_nil ?_
    refine a_ret ?_
    exact ⟨[.p _], .p _, [.deep (.mk 43 5 [(1, (.mk 3 1 [])), (2, (.mk 3 1 [])), (4, (.mk 23 1 [(0, (.mk 3 1 []))]))]) _ none], [], [], ⟨rfl, trivial⟩, rfl, rfl, ⟨⟨rfl, rfl⟩, trivial⟩, rfl, rfl, ⟨(p ++ l.drop p.length), trivial, intEq (by rw [List.take_of_length_le (by first | omega | (simp only [List.length_map, List.length_take, Int.toNat_natCast, List.length_map, List.length_append, List.length_drop, List.length_cons, List.length_nil, List.length_set]; omega))]), rfl, rfl⟩⟩


theorem f_markModel (k : Nat) (m : Md) (hb : k + m.1.length + sumW cR m.2 ≤ 4611686018427387904) (hl : wRS m.2 ≤ 1048576) : Fn Try.prog 50 [.agg [.own 0 0, .own 1 0], .p (.int .i64 ((k : Nat)))] [.row 3 1 ((m.1).map dI), .deep (.mk 43 5 [(1, .mk 3 1 []), (2, .mk 3 1 []), (4, (.mk 23 1 [(0, .mk 3 1 [])]))]) ((m.2).map dR) none] (fun rr ii nn => ∃ x : Md, (True) ∧ rr = .p (.int .i64 (((k + m.1.length + sumW cR m.2 : Nat) : Int))) ∧ ii = [.row 3 1 ((x.1).map dI), .deep (.mk 43 5 [(1, .mk 3 1 []), (2, .mk 3 1 []), (4, (.mk 23 1 [(0, .mk 3 1 [])]))]) ((x.2).map dR) none] ∧ nn = []) := by
  refine fn_of Try.func50 rfl (Nat.le_of_ble_eq_true rfl) fun w X g => ?_
  show AWp _ _ _ ⟨[(0, .agg [.own 0 0, .own 1 0]), (1, .p (.int .i64 ((k : Nat))))], [(0, some (0, .row 3 1 ((m.1).map dI))), (1, some (0, .deep (.mk 43 5 [(1, .mk 3 1 []), (2, .mk 3 1 []), (4, (.mk 23 1 [(0, .mk 3 1 [])]))]) ((m.2).map dR) none))]⟩
  refine a_seq ?_
  refine a_region (by kernel_rfl) ?_
  refine op_n' (fun ver => j_boxa rfl) fun v2x1 => ?_
  refine op_v' (j_assign (evo rfl)) ?_
  refine op_nil ?_
  refine a_seq ?_
  refine a_region (by kernel_rfl) ?_
  refine op_v' (j_fldp fld26f0 rfl rfl) ?_
  refine op_v' (j_load_box leaf23 rfl rfl rfl) ?_
  refine op_v' (j_move (evo rfl)) ?_
  refine op_v0' (j_call0 (v := .p _) (hp1 := [(0, some (0, .row 3 1 _))]) [(0, 0)] false [0] ent109 (f_markIntS k m.1 (by omega)) ⟨.inl ⟨rfl, rfl⟩, .inl ⟨rfl, rfl⟩, trivial⟩ ⟨⟨rfl, rfl⟩, trivial⟩ rfl rfl (fun h => by cases h) rfl (List.all_eq_true.1 rfl) (.inl rfl) rfl rfl) ?_
  refine op_v' (j_assign (evo rfl)) ?_
  refine op_nil ?_
  refine a_seq ?_
  refine a_region (by kernel_rfl) ?_
  refine op_v' (j_fldp fld26f1 rfl rfl) ?_
  refine op_v' (j_load_box leaf24 rfl rfl rfl) ?_
  refine op_v' (j_move (evo rfl)) ?_
  refine op_callE (v := fun x => .p _) (hp1 := fun x => [(1, some (0, .deep (.mk 43 5 [(1, (.mk 3 1 [])), (2, (.mk 3 1 [])), (4, (.mk 23 1 [(0, (.mk 3 1 []))]))]) _ none))]) [(1, 0)] false ent110 (f_markRuleS (k + m.1.length) m.2 hb hl) ⟨.inl ⟨rfl, rfl⟩, .inl ⟨rfl, rfl⟩, trivial⟩ ⟨⟨rfl, rfl⟩, trivial⟩ rfl (fun _ => rfl) (fun _ => rfl) (.inl rfl) (fun _ => rfl) (fun _ => rfl) ?_
  rintro ys12 -
  dsimp only [List.cons_append, List.nil_append]
  refine op_v' (j_assign (evo rfl)) ?_
  refine op_nil ?_
  refine a_seq ?_
  refine a_region (by kernel_rfl) ?_
  refine op_v' (j_move (evo rfl)) ?_
  refine op_v' (j_assign (evo rfl)) ?_
  refine op_nil ?_
  refine a_ret ?_
  exact ⟨[.p _], .p _, [.row 3 1 _, .deep (.mk 43 5 [(1, (.mk 3 1 [])), (2, (.mk 3 1 [])), (4, (.mk 23 1 [(0, (.mk 3 1 []))]))]) _ none], [], [], ⟨rfl, trivial⟩, rfl, rfl, ⟨⟨rfl, rfl⟩, ⟨rfl, rfl⟩, trivial⟩, rfl, rfl, ⟨(marksI k m.1.length, ys12), trivial, rfl, rfl, rfl⟩⟩


end Go.Ab

/- Walks. -/
import Derived.Test.YtnfddmchognlgaaBase
import Derived.Test.YtnfddmchognlgaaDraw
import Derived.Test.YtnfddmchognlgaaWstight
import Derived.Test.YtnfddmchognlgaaWsparse
namespace Go.Ab
open Go.Proofs
set_option maxRecDepth 100000
set_option maxHeartbeats 8000000
set_option linter.unusedSimpArgs false
set_option linter.unusedVariables false
theorem f_pick (b : List Int) (p : Nat) (n : Int) (hb : okB b) (hp : p ≤ 1099511627776) : Fn Try.prog 85 [.ptr 0 0 0, .p (.int .i64 (n))] [.box 90 [.sl (b.map dU), .p (.int .i64 ((p : Nat) : Int))]] (fun rr ii nn => rr = .p (.int .i64 (pickV b p n)) ∧ ii = [.box 90 [.sl (b.map dU), .p (.int .i64 ((p + 1 : Nat) : Int))]] ∧ nn = []) := by
  refine fn_of Try.func85 rfl (Nat.le_of_ble_eq_true rfl) fun w X g => ?_
  show AWp _ _ _ ⟨[(0, .ptr 0 0 0), (1, .p (.int .i64 (n)))], [(0, some (0, .box 90 [.sl (b.map dU), .p (.int .i64 ((p : Nat) : Int))]))]⟩
  have hbl := hb.1
  refine a_seq ?_
  refine a_region (by kernel_rfl) ?_
  refine op_v' (j_assign (evo rfl)) ?_
  refine op_nil ?_
  refine a_seq ?_
  refine a_region (by kernel_rfl) ?_
  refine op_v' (j_move (evo rfl)) ?_
  refine op_v' (j_move (evo rfl)) ?_
  refine op_v' (j_nil_ptr rfl rfl) ?_
  refine op_v' (j_fldp fld90f1 rfl rfl) ?_
  refine op_v' (j_load_box leaf3 rfl rfl rfl) ?_
  refine op_v' (j_add rfl rfl (by first | omega | (simp only [List.length_map, List.length_take, Int.toNat_natCast, List.length_map]; omega)) (by first | omega | (simp only [List.length_map, List.length_take, Int.toNat_natCast, List.length_map]; omega))) ?_
  refine op_v' (j_nil_ptr rfl rfl) ?_
  refine op_v' (j_fldp fld90f1 rfl rfl) ?_
  refine op_s' (j_store_box leaf3 rfl rfl (Nat.le_of_ble_eq_true rfl) (evo rfl) rfl) ?_
  refine op_nil ?_
  refine a_seq ?_
  refine a_seq ?_
  refine a_region (by kernel_rfl) ?_
  refine op_v' (j_move (evo rfl)) ?_
  refine op_v' (j_lt rfl rfl) ?_
  refine op_v' (j_move (evo rfl)) ?_
  refine op_split' 17 rfl (fun h1 => ?_) (fun h1 => ?_)
  ·
    have h1r := h1
    try simp only [Bool.not_eq_true', Bool.not_eq_false', Bool.not_not, bne_iff_ne, bne_eq_false_iff_eq, beq_eq_false_iff_ne, beq_iff_eq, ne_eq, decide_eq_true_eq, decide_eq_false_iff_not, Classical.not_not, List.length_map, List.length_take, Int.toNat_natCast, List.length_map] at h1
    refine op_v' (j_unwantV rfl rfl h1r) ?_
    refine op_v' (j_unwantV rfl rfl h1r) ?_
    refine op_v' (j_unwantV rfl rfl h1r) ?_
    refine op_v' (j_unwantV rfl rfl h1r) ?_
    refine op_v' (j_unwantV rfl rfl h1r) ?_
    refine op_v' (j_unwantV rfl rfl h1r) ?_
    refine op_v' (j_pick_t rfl h1r (evo rfl)) ?_
    refine op_nil ?_
    refine a_tt rfl ?_
    refine a_seq ?_
    refine a_region (by kernel_rfl) ?_
    refine op_v' (j_assign (evo rfl)) ?_
    refine op_nil ?_
    refine a_ret ?_
    exact ⟨[.p _], .p _, [.box 90 [.sl _, .p _]], [], [], ⟨rfl, trivial⟩, rfl, rfl, ⟨⟨rfl, rfl⟩, trivial⟩, rfl, rfl, ⟨intEq (by unfold pickV; rw [if_pos (by omega)]), rfl, rfl⟩⟩
  ·
    have h1r := h1
    try simp only [Bool.not_eq_true', Bool.not_eq_false', Bool.not_not, bne_iff_ne, bne_eq_false_iff_eq, beq_eq_false_iff_ne, beq_iff_eq, ne_eq, decide_eq_true_eq, decide_eq_false_iff_not, Classical.not_not, List.length_map, List.length_take, Int.toNat_natCast, List.length_map] at h1
    refine op_v' (j_want rfl rfl h1r (j_move (evo rfl))) ?_
    refine op_v' (j_want rfl rfl h1r (j_nil_ptr rfl rfl)) ?_
    refine op_v' (j_want rfl rfl h1r (j_fldp fld90f0 rfl rfl)) ?_
    refine op_v' (j_want rfl rfl h1r (j_load_box leaf31 rfl rfl rfl)) ?_
    refine op_v' (j_want rfl rfl h1r (j_len_map Try.underlying31 rfl)) ?_
    refine op_v' (j_want rfl rfl h1r (j_eq rfl rfl)) ?_
    refine op_v' (j_pick_f rfl h1r (evo rfl)) ?_
    refine op_nil ?_
    refine a_cond rfl (fun h2 => ?_) (fun h2 => ?_)
    ·
      have h2r := h2
      try simp only [Bool.not_eq_true', Bool.not_eq_false', Bool.not_not, bne_iff_ne, bne_eq_false_iff_eq, beq_eq_false_iff_ne, beq_iff_eq, ne_eq, decide_eq_true_eq, decide_eq_false_iff_not, Classical.not_not, List.length_map, List.length_take, Int.toNat_natCast, List.length_map] at h2
      refine a_seq ?_
      refine a_region (by kernel_rfl) ?_
      refine op_v' (j_assign (evo rfl)) ?_
      refine op_nil ?_
      refine a_ret ?_
      exact ⟨[.p _], .p _, [.box 90 [.sl _, .p _]], [], [], ⟨rfl, trivial⟩, rfl, rfl, ⟨⟨rfl, rfl⟩, trivial⟩, rfl, rfl, ⟨intEq (by unfold pickV; rw [if_pos (by omega)]), rfl, rfl⟩⟩
    ·
      have h2r := h2
      try simp only [Bool.not_eq_true', Bool.not_eq_false', Bool.not_not, bne_iff_ne, bne_eq_false_iff_eq, beq_eq_false_iff_ne, beq_iff_eq, ne_eq, decide_eq_true_eq, decide_eq_false_iff_not, Classical.not_not, List.length_map, List.length_take, Int.toNat_natCast, List.length_map] at h2
      refine a_skip ?_
      refine a_seq ?_
      have hl0 : b.length ≠ 0 := by omega
      have hba := okB_at hb p
      refine a_region (by kernel_rfl) ?_
      refine op_v' (j_move (evo rfl)) ?_
      refine op_v' (j_nil_ptr rfl rfl) ?_
      refine op_v' (j_fldp fld90f1 rfl rfl) ?_
      refine op_v' (j_load_box leaf3 rfl rfl rfl) ?_
      refine op_v' (j_sub rfl rfl (by first | omega | (simp only [List.length_map, List.length_take, Int.toNat_natCast, List.length_map]; omega)) (by first | omega | (simp only [List.length_map, List.length_take, Int.toNat_natCast, List.length_map]; omega))) ?_
      refine op_v' (j_assign (evo rfl)) ?_
      refine op_nil ?_
      rw [Int.add_sub_cancel]
      refine a_seq ?_
      refine a_seq ?_
      refine a_region (by kernel_rfl) ?_
      refine op_v' (j_move (evo rfl)) ?_
      refine op_v' (j_move (evo rfl)) ?_
      refine op_v' (j_nil_ptr rfl rfl) ?_
      refine op_v' (j_fldp fld90f0 rfl rfl) ?_
      refine op_v' (j_load_box leaf31 rfl rfl rfl) ?_
      refine op_v' (j_len_map Try.underlying31 rfl) ?_
      refine op_v' (j_lt rfl rfl) ?_
      refine op_nil ?_
      refine a_cond rfl (fun h3 => ?_) (fun h3 => ?_)
      ·
        have h3r := h3
        try simp only [Bool.not_eq_true', Bool.not_eq_false', Bool.not_not, bne_iff_ne, bne_eq_false_iff_eq, beq_eq_false_iff_ne, beq_iff_eq, ne_eq, decide_eq_true_eq, decide_eq_false_iff_not, Classical.not_not, List.length_map, List.length_take, Int.toNat_natCast, List.length_map] at h3
        refine a_seq ?_
        refine a_region (by kernel_rfl) ?_
        refine op_v' (j_move (evo rfl)) ?_
        refine op_v' (j_nil_ptr rfl rfl) ?_
        refine op_v' (j_fldp fld90f0 rfl rfl) ?_
        refine op_v' (j_load_box leaf31 rfl rfl rfl) ?_
        refine op_v' (j_move (evo rfl)) ?_
        refine op_v' (j_elemN (n := p) slt31 rfl rfl (by first | omega | (simp only [List.length_map, List.length_take, Int.toNat_natCast, List.length_map]; omega)) (at_map (by first | omega | (simp only [List.length_map, List.length_take, Int.toNat_natCast, List.length_map]; omega))) rfl) ?_
        refine op_v' (j_load_el leaf5 rfl (at_map (by first | omega | (simp only [List.length_map, List.length_take, Int.toNat_natCast, List.length_map]; omega))) rfl) ?_
        refine op_v' (j_conv64 Try.underlying5 Try.underlying3 rfl (by first | omega | (simp only [List.length_map, List.length_take, Int.toNat_natCast, List.length_map]; omega))) ?_
        refine op_v' (j_move (evo rfl)) ?_
        refine op_v' (j_rem rfl rfl (by first | omega | (simp only [List.length_map, List.length_take, Int.toNat_natCast, List.length_map]; omega)) (by first | omega | (simp only [List.length_map, List.length_take, Int.toNat_natCast, List.length_map]; omega))) ?_
        refine op_v' (j_assign (evo rfl)) ?_
        refine op_nil ?_
        refine a_ret ?_
        exact ⟨[.p _], .p _, [.box 90 [.sl _, .p _]], [], [], ⟨rfl, trivial⟩, rfl, rfl, ⟨⟨rfl, rfl⟩, trivial⟩, rfl, rfl, ⟨intEq (by unfold pickV; rw [if_neg (by omega), if_pos (by omega)]), rfl, rfl⟩⟩
      ·
        have h3r := h3
        try simp only [Bool.not_eq_true', Bool.not_eq_false', Bool.not_not, bne_iff_ne, bne_eq_false_iff_eq, beq_eq_false_iff_ne, beq_iff_eq, ne_eq, decide_eq_true_eq, decide_eq_false_iff_not, Classical.not_not, List.length_map, List.length_take, Int.toNat_natCast, List.length_map] at h3
        refine a_skip ?_
        refine a_seq ?_
        refine a_draw mixed (by kernel_rfl) (by kernel_rfl) fun vf => ?_
        refine d_v' (j_move (evo rfl)) ?_
        refine d_v' (j_nil_ptr rfl rfl) ?_
        refine d_v' (j_fldp fld90f0 rfl rfl) ?_
        refine d_v' (j_load_box leaf31 rfl rfl rfl) ?_
        refine d_v' (j_move (evo rfl)) ?_
        refine d_v' (j_move (evo rfl)) ?_
        refine d_v' (j_nil_ptr rfl rfl) ?_
        refine d_v' (j_fldp fld90f0 rfl rfl) ?_
        refine d_v' (j_load_box leaf31 rfl rfl rfl) ?_
        refine d_v' (j_len_map Try.underlying31 rfl) ?_
        have hx1 := okB_at hb (p % b.length)
        have hx2 := okB_at hb ((p * 7 + 3) % b.length)
        have hx3 : 0 ≤ (p : Int) / (b.length : Int) := Int.ediv_nonneg (by omega) (by omega)
        have hx4 : (p : Int) / (b.length : Int) ≤ p := Int.ediv_le_self _ (by omega)
        have hx5 : p % b.length < b.length := Nat.mod_lt _ (by omega)
        have hx6 : (p * 7 + 3) % b.length < b.length := Nat.mod_lt _ (by omega)
        have hx7 := mix_bounds hb hp hl0
        refine d_v' (j_rem rfl rfl (by first | omega | (simp only [List.length_map, List.length_take, Int.toNat_natCast, List.length_map]; omega)) (by first | omega | (simp only [List.length_map, List.length_take, Int.toNat_natCast, List.length_map]; omega))) ?_
        refine d_v' (j_elemN (n := p % b.length) slt31 rfl rfl (by simp) (at_map (by first | omega | (simp only [List.length_map, List.length_take, Int.toNat_natCast, List.length_map]; omega))) rfl) ?_
        refine d_v' (j_load_el leaf5 rfl (at_map (by first | omega | (simp only [List.length_map, List.length_take, Int.toNat_natCast, List.length_map]; omega))) rfl) ?_
        refine d_v' (j_conv64 Try.underlying5 Try.underlying3 rfl (by first | omega | (simp only [List.length_map, List.length_take, Int.toNat_natCast, List.length_map]; omega))) ?_
        refine d_v' (j_mul rfl rfl (by first | omega | (simp only [List.length_map, List.length_take, Int.toNat_natCast, List.length_map]; omega)) (by first | omega | (simp only [List.length_map, List.length_take, Int.toNat_natCast, List.length_map]; omega))) ?_
        refine d_v' (j_move (evo rfl)) ?_
        refine d_v' (j_nil_ptr rfl rfl) ?_
        refine d_v' (j_fldp fld90f0 rfl rfl) ?_
        refine d_v' (j_load_box leaf31 rfl rfl rfl) ?_
        refine d_v' (j_move (evo rfl)) ?_
        refine d_v' (j_mul rfl rfl (by first | omega | (simp only [List.length_map, List.length_take, Int.toNat_natCast, List.length_map]; omega)) (by first | omega | (simp only [List.length_map, List.length_take, Int.toNat_natCast, List.length_map]; omega))) ?_
        refine d_v' (j_add rfl rfl (by first | omega | (simp only [List.length_map, List.length_take, Int.toNat_natCast, List.length_map]; omega)) (by first | omega | (simp only [List.length_map, List.length_take, Int.toNat_natCast, List.length_map]; omega))) ?_
        refine d_v' (j_move (evo rfl)) ?_
        refine d_v' (j_nil_ptr rfl rfl) ?_
        refine d_v' (j_fldp fld90f0 rfl rfl) ?_
        refine d_v' (j_load_box leaf31 rfl rfl rfl) ?_
        refine d_v' (j_len_map Try.underlying31 rfl) ?_
        refine d_v' (j_rem rfl rfl (by first | omega | (simp only [List.length_map, List.length_take, Int.toNat_natCast, List.length_map]; omega)) (by first | omega | (simp only [List.length_map, List.length_take, Int.toNat_natCast, List.length_map]; omega))) ?_
        refine d_v' (j_elemN (n := (p * 7 + 3) % b.length) slt31 rfl rfl (by simp) (at_map (by first | omega | (simp only [List.length_map, List.length_take, Int.toNat_natCast, List.length_map]; omega))) rfl) ?_
        refine d_v' (j_load_el leaf5 rfl (at_map (by first | omega | (simp only [List.length_map, List.length_take, Int.toNat_natCast, List.length_map]; omega))) rfl) ?_
        refine d_v' (j_conv64 Try.underlying5 Try.underlying3 rfl (by first | omega | (simp only [List.length_map, List.length_take, Int.toNat_natCast, List.length_map]; omega))) ?_
        refine d_v' (j_mul rfl rfl (by first | omega | (simp only [List.length_map, List.length_take, Int.toNat_natCast, List.length_map]; omega)) (by first | omega | (simp only [List.length_map, List.length_take, Int.toNat_natCast, List.length_map]; omega))) ?_
        refine d_v' (j_add rfl rfl (by first | omega | (simp only [List.length_map, List.length_take, Int.toNat_natCast, List.length_map]; omega)) (by first | omega | (simp only [List.length_map, List.length_take, Int.toNat_natCast, List.length_map]; omega))) ?_
        refine d_v' (j_move (evo rfl)) ?_
        refine d_v' (j_mul rfl rfl (by first | omega | (simp only [List.length_map, List.length_take, Int.toNat_natCast, List.length_map]; omega)) (by first | omega | (simp only [List.length_map, List.length_take, Int.toNat_natCast, List.length_map]; omega))) ?_
        refine d_v' (j_add rfl rfl (by first | omega | (simp only [List.length_map, List.length_take, Int.toNat_natCast, List.length_map]; omega)) (by first | omega | (simp only [List.length_map, List.length_take, Int.toNat_natCast, List.length_map]; omega))) ?_
        refine d_v' (j_move (evo rfl)) ?_
        refine d_v' (j_move (evo rfl)) ?_
        refine d_v' (j_nil_ptr rfl rfl) ?_
        refine d_v' (j_fldp fld90f0 rfl rfl) ?_
        refine d_v' (j_load_box leaf31 rfl rfl rfl) ?_
        refine d_v' (j_len_map Try.underlying31 rfl) ?_
        refine d_v' (j_quo rfl rfl (by first | omega | (simp only [List.length_map, List.length_take, Int.toNat_natCast, List.length_map]; omega)) (by first | omega | (simp only [List.length_map, List.length_take, Int.toNat_natCast, List.length_map]; omega)) (by first | omega | (simp only [List.length_map, List.length_take, Int.toNat_natCast, List.length_map]; omega))) ?_
        refine d_v' (j_mul rfl rfl (by first | omega | (simp only [List.length_map, List.length_take, Int.toNat_natCast, List.length_map]; omega)) (by first | omega | (simp only [List.length_map, List.length_take, Int.toNat_natCast, List.length_map]; omega))) ?_
        refine d_v' (j_add rfl rfl (by first | omega | (simp only [List.length_map, List.length_take, Int.toNat_natCast, List.length_map]; omega)) (by first | omega | (simp only [List.length_map, List.length_take, Int.toNat_natCast, List.length_map]; omega))) ?_
        refine d_v' (j_assign (evo rfl)) ?_
        refine d_nil (by kernel_rfl) (by kernel_rfl) ?_
        refine a_seq ?_
        refine a_region (by kernel_rfl) ?_
        refine op_v' (j_move (evo rfl)) ?_
        refine op_v' (j_move (evo rfl)) ?_
        refine op_v' (j_quo rfl rfl (by first | omega | (simp only [List.length_map, List.length_take, Int.toNat_natCast, List.length_map]; omega)) (by first | omega | (simp only [List.length_map, List.length_take, Int.toNat_natCast, List.length_map]; omega)) (by first | omega | (simp only [List.length_map, List.length_take, Int.toNat_natCast, List.length_map]; omega))) ?_
        refine op_v' (j_bits rfl rfl (fun w => run_xor (a := (mixI b p).toNat) (b := (mixI b p / 64).toNat) (by show mixI b p = _; omega) (by show mixI b p / 64 = _; omega) (by omega) (by omega) w)) ?_
        refine op_v' (j_assign (evo rfl)) ?_
        refine op_nil ?_
        refine a_seq ?_
        refine a_region (by kernel_rfl) ?_
        refine op_v' (j_move (evo rfl)) ?_
        refine op_v' (j_move (evo rfl)) ?_
        refine op_v' (j_rem rfl rfl (by first | omega | (simp only [List.length_map, List.length_take, Int.toNat_natCast, List.length_map]; omega)) (by first | omega | (simp only [List.length_map, List.length_take, Int.toNat_natCast, List.length_map]; omega))) ?_
        refine op_v' (j_assign (evo rfl)) ?_
        refine op_nil ?_
        refine a_ret ?_
        exact ⟨[.p _], .p _, [.box 90 [.sl _, .p _]], [], [], ⟨rfl, trivial⟩, rfl, rfl, ⟨⟨rfl, rfl⟩, trivial⟩, rfl, rfl, ⟨intEq (by unfold pickV; rw [if_neg (by omega), if_neg (by omega)]), rfl, rfl⟩⟩


theorem f_num (b : List Int) (p : Nat) (l : List Int) (hb : okB b) (hp : p ≤ 1099511627776) (hl : 0 < l.length) (hl2 : l.length ≤ 1048576) : Fn Try.prog 91 [.ptr 0 0 0, .own 1 0] [.box 90 [.sl (b.map dU), .p (.int .i64 ((p : Nat) : Int))], .row 3 1 (l.map dI)] (fun rr ii nn => rr = .p (.int .i64 (ofV b p l)) ∧ ii = [.box 90 [.sl (b.map dU), .p (.int .i64 ((p + 1 : Nat) : Int))], .row 3 1 (l.map dI)] ∧ nn = []) := by
  refine fn_of Try.func91 rfl (Nat.le_of_ble_eq_true rfl) fun w X g => ?_
  show AWp _ _ _ ⟨[(0, .ptr 0 0 0), (1, .own 1 0)], [(0, some (0, .box 90 [.sl (b.map dU), .p (.int .i64 ((p : Nat) : Int))])), (1, some (0, .row 3 1 (l.map dI)))]⟩
  have hlt := ofV_lt (b := b) (p := p) hl
  refine a_seq ?_
  refine a_region (by kernel_rfl) ?_
  refine op_v' (j_assign (evo rfl)) ?_
  refine op_nil ?_
  refine a_seq ?_
  refine a_region (by kernel_rfl) ?_
  refine op_v' (j_move (evo rfl)) ?_
  refine op_v' (j_move (evo rfl)) ?_
  refine op_v' (j_move (evo rfl)) ?_
  refine op_v' (j_len_own_map Try.underlying46 rfl rfl) ?_
  refine op_v0' (j_call0 (v := .p _) (hp1 := [(0, some (0, .box 90 [.sl _, .p _]))]) [(0, 0)] false [0] ent85 (f_pick _ _ _ hb (by omega)) ⟨.inl ⟨rfl, rfl⟩, .inl ⟨rfl, rfl⟩, trivial⟩ ⟨⟨rfl, rfl⟩, trivial⟩ rfl rfl (fun h => by cases h) rfl (List.all_eq_true.1 rfl) (.inl rfl) rfl rfl) ?_
  refine op_v' (j_elem_ownN (n := (pickV b p (l.length : Nat)).toNat) slt46 rfl rfl rfl (by first | omega | (simp only [List.length_map, List.length_take, Int.toNat_natCast, List.length_map]; omega)) (by first | omega | (simp only [List.length_map, List.length_take, Int.toNat_natCast, List.length_map]; omega))) ?_
  refine op_v' (j_load_pel leaf3 rfl rfl (at_map (by first | omega | (simp only [List.length_map, List.length_take, Int.toNat_natCast, List.length_map]; omega))) rfl) ?_
  refine op_v' (j_assign (evo rfl)) ?_
  refine op_nil ?_
  refine a_ret ?_
  exact ⟨[.p _], .p _, [.box 90 [.sl _, .p _], .row 3 1 _], [], [], ⟨rfl, trivial⟩, rfl, rfl, ⟨⟨rfl, rfl⟩, ⟨rfl, rfl⟩, trivial⟩, rfl, rfl, ⟨rfl, rfl, rfl⟩⟩


theorem f_of (b : List Int) (p : Nat) (l : List ByteArray) (hb : okB b) (hp : p ≤ 1099511627776) (hl : 0 < l.length) (hl2 : l.length ≤ 1048576) : Fn Try.prog 86 [.ptr 0 0 0, .own 1 0] [.box 90 [.sl (b.map dU), .p (.int .i64 ((p : Nat) : Int))], .row 9 1 (l.map dS)] (fun rr ii nn => rr = .p (.string (ofV b p l)) ∧ ii = [.box 90 [.sl (b.map dU), .p (.int .i64 ((p + 1 : Nat) : Int))], .row 9 1 (l.map dS)] ∧ nn = []) := by
  refine fn_of Try.func86 rfl (Nat.le_of_ble_eq_true rfl) fun w X g => ?_
  show AWp _ _ _ ⟨[(0, .ptr 0 0 0), (1, .own 1 0)], [(0, some (0, .box 90 [.sl (b.map dU), .p (.int .i64 ((p : Nat) : Int))])), (1, some (0, .row 9 1 (l.map dS)))]⟩
  have hlt := ofV_lt (b := b) (p := p) hl
  refine a_seq ?_
  refine a_region (by kernel_rfl) ?_
  refine op_v' (j_assign (evo rfl)) ?_
  refine op_nil ?_
  refine a_seq ?_
  refine a_region (by kernel_rfl) ?_
  refine op_v' (j_move (evo rfl)) ?_
  refine op_v' (j_move (evo rfl)) ?_
  refine op_v' (j_move (evo rfl)) ?_
  refine op_v' (j_len_own_map Try.underlying69 rfl rfl) ?_
  refine op_v0' (j_call0 (v := .p _) (hp1 := [(0, some (0, .box 90 [.sl _, .p _]))]) [(0, 0)] false [0] ent85 (f_pick _ _ _ hb (by omega)) ⟨.inl ⟨rfl, rfl⟩, .inl ⟨rfl, rfl⟩, trivial⟩ ⟨⟨rfl, rfl⟩, trivial⟩ rfl rfl (fun h => by cases h) rfl (List.all_eq_true.1 rfl) (.inl rfl) rfl rfl) ?_
  refine op_v' (j_elem_ownN (n := (pickV b p (l.length : Nat)).toNat) slt69 rfl rfl rfl (by first | omega | (simp only [List.length_map, List.length_take, Int.toNat_natCast, List.length_map]; omega)) (by first | omega | (simp only [List.length_map, List.length_take, Int.toNat_natCast, List.length_map]; omega))) ?_
  refine op_v' (j_load_pel leaf9 rfl rfl (at_map (by first | omega | (simp only [List.length_map, List.length_take, Int.toNat_natCast, List.length_map]; omega))) rfl) ?_
  refine op_v' (j_assign (evo rfl)) ?_
  refine op_nil ?_
  refine a_ret ?_
  exact ⟨[.p _], .p _, [.box 90 [.sl _, .p _], .row 9 1 _], [], [], ⟨rfl, trivial⟩, rfl, rfl, ⟨⟨rfl, rfl⟩, ⟨rfl, rfl⟩, trivial⟩, rfl, rfl, ⟨rfl, rfl, rfl⟩⟩


theorem f_open (b : List Int) : Fn Try.prog 56 [.sl (b.map dU)] [] (fun rr ii nn => rr = .ptr 0 0 0 ∧ ii = [] ∧ nn = [.box 90 [.sl ((b.take 2000).map dU), .p (.int .i64 ((0 : Nat) : Int))]]) := by
  refine fn_of Try.func56 rfl (Nat.le_of_ble_eq_true rfl) fun w X g => ?_
  show AWp _ _ _ ⟨[(0, .sl (b.map dU))], []⟩
  refine a_len_map 0 rfl fun hlen => ?_
  refine a_seq ?_
  refine a_region (by kernel_rfl) ?_
  refine op_v' (j_assign (evo rfl)) ?_
  refine op_nil ?_
  refine a_seq ?_
  refine a_seq ?_
  refine a_region (by kernel_rfl) ?_
  refine op_v' (j_move (evo rfl)) ?_
  refine op_v' (j_len_map Try.underlying31 rfl) ?_
  refine op_v' (j_gt rfl rfl) ?_
  refine op_nil ?_
  refine a_cond rfl (fun h1 => ?_) (fun h1 => ?_)
  ·
    have h1r := h1
    try simp only [Bool.not_eq_true', Bool.not_eq_false', Bool.not_not, bne_iff_ne, bne_eq_false_iff_eq, beq_eq_false_iff_ne, beq_iff_eq, ne_eq, decide_eq_true_eq, decide_eq_false_iff_not, Classical.not_not, List.length_map, List.length_take, Int.toNat_natCast, List.length_map] at h1
    refine a_region (by kernel_rfl) ?_
    refine op_v' (j_move (evo rfl)) ?_
    refine op_v' (j_cut slt31 rfl (fun y hy => by obtain ⟨t, _, rfl⟩ := List.mem_map.1 hy; rfl) Bd.none (Bd.some rfl rfl) (by first | omega | (simp only [List.length_map, List.length_take, Int.toNat_natCast, List.length_map]; omega)) (by first | omega | (simp only [List.length_map, List.length_take, Int.toNat_natCast, List.length_map]; omega))) ?_
    refine op_v' (j_assign (evo rfl)) ?_
    refine op_nil ?_
    refine a_seq ?_
    refine a_region (by kernel_rfl) ?_
    refine op_v' (j_move (evo rfl)) ?_
    refine op_v' (j_build (parts := [(0, .tmp 8)]) str90 elt90 rfl rfl) ?_
    refine op_n' (fun ver => j_boxa rfl) fun v10x1 => ?_
    refine op_v' (j_assign (evo rfl)) ?_
    refine op_nil ?_
    refine a_ret ?_
    exact ⟨[.ptr 10 v10x1 0], .ptr 0 0 0, [], [.box 90 [.sl _, .p _]], [(10, v10x1)], ⟨rfl, trivial⟩, rfl, rfl, ⟨⟨rfl, rfl⟩, trivial⟩, rfl, rfl, ⟨rfl, rfl, by first | (simp only [List.drop_zero, ← List.map_take]; rfl) | (rw [List.take_of_length_le (by omega)]; rfl)⟩⟩
  ·
    have h1r := h1
    try simp only [Bool.not_eq_true', Bool.not_eq_false', Bool.not_not, bne_iff_ne, bne_eq_false_iff_eq, beq_eq_false_iff_ne, beq_iff_eq, ne_eq, decide_eq_true_eq, decide_eq_false_iff_not, Classical.not_not, List.length_map, List.length_take, Int.toNat_natCast, List.length_map] at h1
    refine a_skip ?_
    refine a_seq ?_
    refine a_region (by kernel_rfl) ?_
    refine op_v' (j_move (evo rfl)) ?_
    refine op_v' (j_build (parts := [(0, .tmp 8)]) str90 elt90 rfl rfl) ?_
    refine op_n' (fun ver => j_boxa rfl) fun v10x2 => ?_
    refine op_v' (j_assign (evo rfl)) ?_
    refine op_nil ?_
    refine a_ret ?_
    exact ⟨[.ptr 10 v10x2 0], .ptr 0 0 0, [], [.box 90 [.sl _, .p _]], [(10, v10x2)], ⟨rfl, trivial⟩, rfl, rfl, ⟨⟨rfl, rfl⟩, trivial⟩, rfl, rfl, ⟨rfl, rfl, by first | (simp only [List.drop_zero, ← List.map_take]; rfl) | (rw [List.take_of_length_le (by omega)]; rfl)⟩⟩


theorem f_values (b : List Int) (p : Nat) (hb : okB b) (hp : p ≤ 1099511627000) : Fn Try.prog 55 [.ptr 0 0 0] [.box 90 [.sl (b.map dU), .p (.int .i64 ((p : Nat) : Int))]] (fun rr ii nn => ∃ x : List Bool × Nat, ((x.1.length = 11 ∨ x.1.length = 12) ∧ p ≤ x.2 ∧ x.2 ≤ p + 13) ∧ rr = .sl (x.1.map dB) ∧ ii = [.box 90 [.sl (b.map dU), .p (.int .i64 ((x.2 : Nat) : Int))]] ∧ nn = []) := by
  refine fn_of Try.func55 rfl (Nat.le_of_ble_eq_true rfl) fun w X g => ?_
  show AWp _ _ _ ⟨[(0, .ptr 0 0 0)], [(0, some (0, .box 90 [.sl (b.map dU), .p (.int .i64 ((p : Nat) : Int))]))]⟩
  refine a_seq ?_
  refine a_region (by kernel_rfl) ?_
  refine op_v' (j_assign (evo rfl)) ?_
  refine op_nil ?_
  refine a_seq ?_
  refine a_region (by kernel_rfl) ?_
  refine op_n' (fun ver => j_buildSlice (parts := []) (es := []) slt22 elt4 rfl rfl (by decide) (by decide) rfl rfl (by simp) rfl) fun v5x1 => ?_
  refine op_v' (j_assign (evo rfl)) ?_
  refine op_nil ?_
  refine a_seq ?_
  refine a_seq ?_
  refine a_region (by kernel_rfl) ?_
  refine op_v' (j_assign (evo rfl)) ?_
  refine op_nil ?_
  refine a_block ?_
  refine a_loopF' (ι := List Bool × Nat × Nat) (fun x => x.1.length ≤ 12 ∧ x.2.1 = p + x.1.length) (fun x r => (4, .p (.int .i64 ((x.1.length : Nat)))) :: (3, .own 5 x.2.2) :: r) (fun x r => (0, some (0, .box 90 [.sl (b.map dU), .p (.int .i64 ((x.2.1 : Nat) : Int))])) :: (5, some (x.2.2, .row 4 1 (x.1.map dB))) :: r) (fun x => 12 - x.1.length) (fun _ _ => rfl) (fun _ _ => rfl) ([], p, v5x1) ⟨Nat.zero_le _, rfl⟩ ⟨⟨rfl, rfl⟩, ⟨rfl, rfl, trivial⟩, ⟨rfl, rfl, trivial⟩, ⟨rfl, rfl⟩, ⟨rfl, rfl⟩⟩ ?_
  rintro ⟨l, q, v⟩ hpre; dsimp only at hpre ⊢
  refine a_seq ?_
  refine a_seq ?_
  refine a_region (by kernel_rfl) ?_
  refine op_v' (j_move (evo rfl)) ?_
  refine op_v' (j_lt rfl rfl) ?_
  refine op_nil ?_
  refine a_cond rfl (fun h1 => ?_) (fun h1 => ?_)
  ·
    have h1r := h1
    try simp only [Bool.not_eq_true', Bool.not_eq_false', Bool.not_not, bne_iff_ne, bne_eq_false_iff_eq, beq_eq_false_iff_ne, beq_iff_eq, ne_eq, decide_eq_true_eq, decide_eq_false_iff_not, Classical.not_not, List.length_map, List.length_take, Int.toNat_natCast, List.length_map, List.length_append, List.length_cons, List.length_nil] at h1
    refine a_skip ?_
    refine a_seq ?_
    refine a_block ?_
    refine a_region (by kernel_rfl) ?_
    refine op_v' (j_move (evo rfl)) ?_
    refine op_v' (j_move (evo rfl)) ?_
    refine op_v0' (j_call0 (v := .p _) (hp1 := [(0, some (0, .box 90 [.sl _, .p _]))]) [(0, 0)] false [0] ent85 (f_pick _ _ _ hb (by omega)) ⟨.inl ⟨rfl, rfl⟩, .inl ⟨rfl, rfl⟩, trivial⟩ ⟨⟨rfl, rfl⟩, trivial⟩ rfl rfl (fun h => by cases h) rfl (List.all_eq_true.1 rfl) (.inl rfl) rfl rfl) ?_
    refine op_v' (j_eq rfl rfl) ?_
    refine op_n' (fun ver => j_buildSlice (parts := [(0, .tmp 13)]) (es := [[_]]) slt22 elt4 rfl rfl (by decide) (by decide) rfl rfl (by simp) rfl) fun v14x2 => ?_
    refine op_n' (fun ver => j_append_own slt22 elt4 rfl rfl rfl rfl rfl rfl (by rw [maxLen_eq]; first | omega | (simp only [List.length_map, List.length_take, Int.toNat_natCast, List.length_map, List.length_append, List.length_cons, List.length_nil]; omega)) (by first | omega | (simp only [List.length_map, List.length_take, Int.toNat_natCast, List.length_map, List.length_append, List.length_cons, List.length_nil]; omega))) fun v5x3 => ?_
    refine op_v' (j_assign (evo rfl)) ?_
    refine op_nil ?_
    refine a_region (by kernel_rfl) ?_
    refine op_v' (j_move (evo rfl)) ?_
    refine op_v' (j_add rfl rfl (by first | omega | (simp only [List.length_map, List.length_take, Int.toNat_natCast, List.length_map, List.length_append, List.length_cons, List.length_nil]; omega)) (by first | omega | (simp only [List.length_map, List.length_take, Int.toNat_natCast, List.length_map, List.length_append, List.length_cons, List.length_nil]; omega))) ?_
    refine op_v' (j_assign (evo rfl)) ?_
    refine op_nil ?_
    exact ⟨(l ++ [decide (pickV b q 2 = 0)], q + 1, v5x3), (by first | exact ⟨by first | omega | (simp only [List.length_map, List.length_take, Int.toNat_natCast, List.length_map, List.length_append, List.length_cons, List.length_nil]; omega), by first | omega | (simp only [List.length_map, List.length_take, Int.toNat_natCast, List.length_map, List.length_append, List.length_cons, List.length_nil]; omega)⟩ | (dsimp only; exact ⟨by first | omega | (simp only [List.length_map, List.length_take, Int.toNat_natCast, List.length_map, List.length_append, List.length_cons, List.length_nil]; omega), by first | omega | (simp only [List.length_map, List.length_take, Int.toNat_natCast, List.length_map, List.length_append, List.length_cons, List.length_nil]; omega)⟩)), ⟨⟨rfl, rfl⟩, ⟨intEq (by simp), rfl, trivial⟩, ⟨rfl, rowEq (by rw [List.map_append]; rfl), trivial⟩, ⟨rfl, rfl⟩, ⟨rfl, rfl⟩⟩, (by first | exact (by first | omega | (simp only [List.length_map, List.length_take, Int.toNat_natCast, List.length_map, List.length_append, List.length_cons, List.length_nil]; omega)) | (dsimp only; exact (by first | omega | (simp only [List.length_map, List.length_take, Int.toNat_natCast, List.length_map, List.length_append, List.length_cons, List.length_nil]; omega))))⟩
  ·
    have h1r := h1
    try simp only [Bool.not_eq_true', Bool.not_eq_false', Bool.not_not, bne_iff_ne, bne_eq_false_iff_eq, beq_eq_false_iff_ne, beq_iff_eq, ne_eq, decide_eq_true_eq, decide_eq_false_iff_not, Classical.not_not, List.length_map, List.length_take, Int.toNat_natCast, List.length_map, List.length_append, List.length_cons, List.length_nil] at h1
    refine a_exit ?_
    refine a_seq ?_
    refine a_seq ?_
    refine a_region (by kernel_rfl) ?_
    refine op_v' (j_move (evo rfl)) ?_
    refine op_v0' (j_call0 (v := .p _) (hp1 := [(0, some (0, .box 90 [.sl _, .p _]))]) [(0, 0)] false [0] ent85 (f_pick _ _ _ hb (by omega)) ⟨.inl ⟨rfl, rfl⟩, .inl ⟨rfl, rfl⟩, trivial⟩ ⟨⟨rfl, rfl⟩, trivial⟩ rfl rfl (fun h => by cases h) rfl (List.all_eq_true.1 rfl) (.inl rfl) rfl rfl) ?_
    refine op_v' (j_eq rfl rfl) ?_
    refine op_nil ?_
    refine a_freezeK 3 ⟨⟨_, rfl⟩, trivial⟩ rfl rfl rfl ?_
    refine a_cond rfl (fun h2 => ?_) (fun h2 => ?_)
    ·
      have h2r := h2
      try simp only [Bool.not_eq_true', Bool.not_eq_false', Bool.not_not, bne_iff_ne, bne_eq_false_iff_eq, beq_eq_false_iff_ne, beq_iff_eq, ne_eq, decide_eq_true_eq, decide_eq_false_iff_not, Classical.not_not, List.length_map, List.length_take, Int.toNat_natCast, List.length_map, List.length_append, List.length_cons, List.length_nil] at h2
      refine a_seq ?_
      refine a_region (by kernel_rfl) ?_
      refine op_v' (j_move (evo rfl)) ?_
      refine op_v' (j_cut slt22 rfl (by intro y hy; obtain ⟨t, _, rfl⟩ := List.mem_map.1 hy; rfl) Bd.none (Bd.some rfl rfl) (by first | omega | (simp only [List.length_map, List.length_take, Int.toNat_natCast, List.length_map, List.length_append, List.length_cons, List.length_nil]; omega)) (by first | omega | (simp only [List.length_map, List.length_take, Int.toNat_natCast, List.length_map, List.length_append, List.length_cons, List.length_nil]; omega))) ?_
      refine op_v' (j_assign (evo rfl)) ?_
      refine op_nil ?_
      refine a_ret ?_
      exact ⟨[.sl _], .sl _, [.box 90 [.sl _, .p _]], [], [], ⟨rfl, trivial⟩, rfl, rfl, ⟨⟨rfl, rfl⟩, trivial⟩, rfl, rfl, ⟨(l.take 11, q + 1), ⟨.inl (by dsimp only; rw [List.length_take]; omega), by dsimp only; omega⟩, by simp [List.map_take], rfl, rfl⟩⟩
    ·
      have h2r := h2
      try simp only [Bool.not_eq_true', Bool.not_eq_false', Bool.not_not, bne_iff_ne, bne_eq_false_iff_eq, beq_eq_false_iff_ne, beq_iff_eq, ne_eq, decide_eq_true_eq, decide_eq_false_iff_not, Classical.not_not, List.length_map, List.length_take, Int.toNat_natCast, List.length_map, List.length_append, List.length_cons, List.length_nil] at h2
      refine a_skip ?_
      refine a_seq ?_
      refine a_region (by kernel_rfl) ?_
      refine op_v' (j_move (evo rfl)) ?_
      refine op_v' (j_assign (evo rfl)) ?_
      refine op_nil ?_
      refine a_ret ?_
      exact ⟨[.sl _], .sl _, [.box 90 [.sl _, .p _]], [], [], ⟨rfl, trivial⟩, rfl, rfl, ⟨⟨rfl, rfl⟩, trivial⟩, rfl, rfl, ⟨(l, q + 1), ⟨.inr (by dsimp only; omega), by dsimp only; omega⟩, rfl, rfl, rfl⟩⟩


theorem f_dFmt (b : List Int) (hb : ∀ a ∈ b, 0 ≤ a ∧ a ≤ 255) : Fn Try.prog 23 [.sl (b.map dU)] [] (fun rr ii nn => ∃ x : List Bool, (x.length = 11 ∨ x.length = 12) ∧ rr = .sl (x.map dB) ∧ ii = [] ∧ nn = []) := by
  refine fn_of Try.func23 rfl (Nat.le_of_ble_eq_true rfl) fun w X g => ?_
  show AWp _ _ _ ⟨[(0, .sl (b.map dU))], []⟩
  refine a_seq ?_
  refine a_region (by kernel_rfl) ?_
  refine op_v' (j_assign (evo rfl)) ?_
  refine op_nil ?_
  refine a_seq ?_
  refine a_region (by kernel_rfl) ?_
  refine op_v' (j_move (evo rfl)) ?_
  refine op_n1' (fun ver => j_call1 (v := .ptr 4 ver 0) (hp1 := [(4, some (ver, .box 90 [.sl _, .p _]))]) [] false [] ent56 (f_open _) ⟨.inl ⟨rfl, rfl⟩, trivial⟩ trivial rfl rfl rfl (fun h => by cases h) rfl (List.all_eq_true.1 rfl) (.inl rfl) rfl rfl) fun v4x1 => ?_
  refine op_callE (v := fun x => .sl _) (hp1 := fun x => [(4, some (v4x1, .box 90 [.sl _, .p _]))]) [(4, v4x1)] false ent55 (f_values (b.take 2000) 0 (okB_take (Nat.le_refl _) hb) (by decide)) ⟨.inl ⟨rfl, rfl⟩, trivial⟩ ⟨⟨rfl, rfl⟩, trivial⟩ rfl (fun _ => rfl) (fun _ => rfl) (.inl rfl) (fun _ => rfl) (fun _ => rfl) ?_
  rintro ⟨bs5, p5⟩ ⟨hl5, hp5⟩
  try dsimp only at hl5
  try dsimp only at hp5
  dsimp only [List.cons_append, List.nil_append]
  refine op_v' (j_assign (evo rfl)) ?_
  refine op_nil ?_
  refine a_ret ?_
  exact ⟨[.sl _], .sl _, [], [], [], ⟨rfl, trivial⟩, rfl, rfl, trivial, rfl, rfl, ⟨bs5, hl5, rfl, rfl, rfl⟩⟩


theorem f_bend (b : List Int) (p : Nat) (s : ByteArray) (l : List ByteArray) (hb : okB b) (hp : p ≤ 1099511627000) (hl : 0 < l.length) (hl2 : l.length ≤ 1048576) (hs : s.size ≤ 100000) (hls : ∀ y ∈ l, y.size ≤ 100000) : Fn Try.prog 57 [.ptr 0 0 0, .p (.string s), .own 1 0] [.box 90 [.sl (b.map dU), .p (.int .i64 ((p : Nat) : Int))], .row 9 1 (l.map dS)] (fun rr ii nn => ∃ x : ByteArray × Nat, (x.1.size ≤ 300000 ∧ p ≤ x.2 ∧ x.2 ≤ p + 4) ∧ rr = .p (.string x.1) ∧ ii = [.box 90 [.sl (b.map dU), .p (.int .i64 ((x.2 : Nat) : Int))], .row 9 1 (l.map dS)] ∧ nn = []) := by
  refine fn_of Try.func57 rfl (Nat.le_of_ble_eq_true rfl) fun w X g => ?_
  show AWp _ _ _ ⟨[(0, .ptr 0 0 0), (1, .p (.string s)), (2, .own 1 0)], [(0, some (0, .box 90 [.sl (b.map dU), .p (.int .i64 ((p : Nat) : Int))])), (1, some (0, .row 9 1 (l.map dS)))]⟩
  refine a_seq ?_
  refine a_region (by kernel_rfl) ?_
  refine op_v' (j_assign (evo rfl)) ?_
  refine op_nil ?_
  refine a_seq ?_
  refine a_seq ?_
  refine a_region (by kernel_rfl) ?_
  refine op_v' (j_move (evo rfl)) ?_
  refine op_v' (j_len_str Try.underlying9 rfl) ?_
  refine op_v' (j_eq rfl rfl) ?_
  refine op_v' (j_move (evo rfl)) ?_
  refine op_split' 11 rfl (fun h1 => ?_) (fun h1 => ?_)
  ·
    have h1r := h1
    try simp only [Bool.not_eq_true', Bool.not_eq_false', Bool.not_not, bne_iff_ne, bne_eq_false_iff_eq, beq_eq_false_iff_ne, beq_iff_eq, ne_eq, decide_eq_true_eq, decide_eq_false_iff_not, Classical.not_not, List.length_map, List.length_take, Int.toNat_natCast, ByteArray.size_append, ByteArray.size_extract] at h1
    refine op_v' (j_unwantV rfl rfl h1r) ?_
    refine op_v' (j_unwantV rfl rfl h1r) ?_
    refine op_v' (j_unwantV rfl rfl h1r) ?_
    refine op_v' (j_pick_t rfl h1r (evo rfl)) ?_
    refine op_nil ?_
    refine a_tt rfl ?_
    refine a_seq ?_
    refine a_region (by kernel_rfl) ?_
    refine op_v' (j_move (evo rfl)) ?_
    refine op_v' (j_assign (evo rfl)) ?_
    refine op_nil ?_
    refine a_ret ?_
    exact ⟨[.p _], .p _, [.box 90 [.sl _, .p _], .row 9 1 _], [], [], ⟨rfl, trivial⟩, rfl, rfl, ⟨⟨rfl, rfl⟩, ⟨rfl, rfl⟩, trivial⟩, rfl, rfl, ⟨(s, _), ⟨by dsimp only; omega, by dsimp only; omega⟩, rfl, rfl, rfl⟩⟩
  ·
    have h1r := h1
    try simp only [Bool.not_eq_true', Bool.not_eq_false', Bool.not_not, bne_iff_ne, bne_eq_false_iff_eq, beq_eq_false_iff_ne, beq_iff_eq, ne_eq, decide_eq_true_eq, decide_eq_false_iff_not, Classical.not_not, List.length_map, List.length_take, Int.toNat_natCast, ByteArray.size_append, ByteArray.size_extract] at h1
    refine op_v' (j_want rfl rfl h1r (j_move (evo rfl))) ?_
    refine op_v0' (j_want rfl rfl h1r (j_call0 (v := .p _) (hp1 := [(0, some (0, .box 90 [.sl _, .p _]))]) [(0, 0)] false [0] ent85 (f_pick _ _ _ hb (by omega)) ⟨.inl ⟨rfl, rfl⟩, .inl ⟨rfl, rfl⟩, trivial⟩ ⟨⟨rfl, rfl⟩, trivial⟩ rfl rfl (fun h => by cases h) rfl (List.all_eq_true.1 rfl) (.inl rfl) rfl rfl)) ?_
    refine op_v' (j_want rfl rfl h1r (j_eq rfl rfl)) ?_
    refine op_v' (j_pick_f rfl h1r (evo rfl)) ?_
    refine op_nil ?_
    refine a_cond rfl (fun h2 => ?_) (fun h2 => ?_)
    ·
      have h2r := h2
      try simp only [Bool.not_eq_true', Bool.not_eq_false', Bool.not_not, bne_iff_ne, bne_eq_false_iff_eq, beq_eq_false_iff_ne, beq_iff_eq, ne_eq, decide_eq_true_eq, decide_eq_false_iff_not, Classical.not_not, List.length_map, List.length_take, Int.toNat_natCast, ByteArray.size_append, ByteArray.size_extract] at h2
      refine a_seq ?_
      refine a_region (by kernel_rfl) ?_
      refine op_v' (j_move (evo rfl)) ?_
      refine op_v' (j_assign (evo rfl)) ?_
      refine op_nil ?_
      refine a_ret ?_
      exact ⟨[.p _], .p _, [.box 90 [.sl _, .p _], .row 9 1 _], [], [], ⟨rfl, trivial⟩, rfl, rfl, ⟨⟨rfl, rfl⟩, ⟨rfl, rfl⟩, trivial⟩, rfl, rfl, ⟨(s, _), ⟨by dsimp only; omega, by dsimp only; omega⟩, rfl, rfl, rfl⟩⟩
    ·
      have h2r := h2
      try simp only [Bool.not_eq_true', Bool.not_eq_false', Bool.not_not, bne_iff_ne, bne_eq_false_iff_eq, beq_eq_false_iff_ne, beq_iff_eq, ne_eq, decide_eq_true_eq, decide_eq_false_iff_not, Classical.not_not, List.length_map, List.length_take, Int.toNat_natCast, ByteArray.size_append, ByteArray.size_extract] at h2
      refine a_skip ?_
      refine a_seq ?_
      refine a_region (by kernel_rfl) ?_
      refine op_v' (j_move (evo rfl)) ?_
      refine op_v' (j_move (evo rfl)) ?_
      refine op_v' (j_len_str Try.underlying9 rfl) ?_
      refine op_v0' (j_call0 (v := .p _) (hp1 := [(0, some (0, .box 90 [.sl _, .p _]))]) [(0, 0)] false [0] ent85 (f_pick _ _ _ hb (by omega)) ⟨.inl ⟨rfl, rfl⟩, .inl ⟨rfl, rfl⟩, trivial⟩ ⟨⟨rfl, rfl⟩, trivial⟩ rfl rfl (fun h => by cases h) rfl (List.all_eq_true.1 rfl) (.inl rfl) rfl rfl) ?_
      refine op_v' (j_assign (evo rfl)) ?_
      refine op_nil ?_
      refine a_seq ?_
      have hsz : s.size ≠ 0 := by omega
      have hk := pickV_lt (b := b) (p := p + 1) (n := (s.size : Nat)) (by omega)
      have hk2 := pickV_lt (b := b) (p := p + 1 + 1 + 1) (n := 2) (by omega)
      have hk3 := hls _ (ofV_mem (b := b) (p := p + 1 + 1) hl)
      refine a_draw mixed (by kernel_rfl) (by kernel_rfl) fun vf => ?_
      refine d_v' (j_move (evo rfl)) ?_
      refine d_v' (j_move (evo rfl)) ?_
      refine d_v' (j_cut_str Try.underlying9 rfl Bd.none (Bd.some rfl (Int.toNat_of_nonneg hk.1).symm) (by first | omega | (simp only [List.length_map, List.length_take, Int.toNat_natCast, ByteArray.size_append, ByteArray.size_extract]; omega)) (by first | omega | (simp only [List.length_map, List.length_take, Int.toNat_natCast, ByteArray.size_append, ByteArray.size_extract]; omega))) ?_
      refine d_v' (j_move (evo rfl)) ?_
      refine d_v' (j_move (evo rfl)) ?_
      refine d_v0' (j_call0 (v := .p _) (hp1 := [(0, some (0, .box 90 [.sl _, .p _])), (1, some (0, .row 9 1 _))]) [(0, 0), (1, 0)] false [0, 1] ent86 (f_of _ _ _ hb (by omega) (by first | assumption | decide) (by first | assumption | decide)) ⟨.inl ⟨rfl, rfl⟩, .inl ⟨rfl, rfl⟩, trivial⟩ ⟨⟨rfl, rfl⟩, ⟨rfl, rfl⟩, trivial⟩ rfl rfl (fun h => by cases h) rfl (List.all_eq_true.1 rfl) (.inl rfl) rfl rfl) ?_
      refine d_v' (j_cat rfl rfl (by first | omega | (simp only [List.length_map, List.length_take, Int.toNat_natCast, ByteArray.size_append, ByteArray.size_extract]; omega))) ?_
      refine d_v' (j_move (evo rfl)) ?_
      refine d_v' (j_move (evo rfl)) ?_
      refine d_v' (j_move (evo rfl)) ?_
      refine d_v0' (j_call0 (v := .p _) (hp1 := [(0, some (0, .box 90 [.sl _, .p _]))]) [(0, 0)] false [0] ent85 (f_pick _ _ _ hb (by omega)) ⟨.inl ⟨rfl, rfl⟩, .inl ⟨rfl, rfl⟩, trivial⟩ ⟨⟨rfl, rfl⟩, trivial⟩ rfl rfl (fun h => by cases h) rfl (List.all_eq_true.1 rfl) (.inl rfl) rfl rfl) ?_
      refine d_v' (j_add rfl rfl (by first | omega | (simp only [List.length_map, List.length_take, Int.toNat_natCast, ByteArray.size_append, ByteArray.size_extract]; omega)) (by first | omega | (simp only [List.length_map, List.length_take, Int.toNat_natCast, ByteArray.size_append, ByteArray.size_extract]; omega))) ?_
      refine d_v' (j_cut_str Try.underlying9 rfl (Bd.some rfl (Int.toNat_of_nonneg (Int.add_nonneg hk.1 hk2.1)).symm) Bd.none (by first | omega | (simp only [List.length_map, List.length_take, Int.toNat_natCast, ByteArray.size_append, ByteArray.size_extract]; omega)) (by first | omega | (simp only [List.length_map, List.length_take, Int.toNat_natCast, ByteArray.size_append, ByteArray.size_extract]; omega))) ?_
      refine d_v' (j_cat rfl rfl (by first | omega | (simp only [List.length_map, List.length_take, Int.toNat_natCast, ByteArray.size_append, ByteArray.size_extract]; omega))) ?_
      refine d_v' (j_assign (evo rfl)) ?_
      refine d_nil (by kernel_rfl) (by kernel_rfl) ?_
      refine a_ret ?_
      exact ⟨[.p _], .p _, [.box 90 [.sl _, .p _], .row 9 1 _], [], [], ⟨rfl, trivial⟩, rfl, rfl, ⟨⟨rfl, rfl⟩, ⟨rfl, rfl⟩, trivial⟩, rfl, rfl, ⟨(_, p + 4), ⟨by simp only [ByteArray.size_append, ByteArray.size_extract]; omega, by dsimp only; omega⟩, rfl, rfl, rfl⟩⟩


theorem f_dParse (b : List Int) (hb : ∀ a ∈ b, 0 ≤ a ∧ a ≤ 255) : Fn Try.prog 25 [.sl (b.map dU)] [] (fun rr ii nn => ∃ x : ByteArray, (x.size ≤ 300000) ∧ rr = .p (.string x) ∧ ii = [] ∧ nn = []) := by
  refine fn_of Try.func25 rfl (Nat.le_of_ble_eq_true rfl) fun w X g => ?_
  show AWp _ _ _ ⟨[(0, .sl (b.map dU))], []⟩
  refine a_seq ?_
  refine a_region (by kernel_rfl) ?_
  refine op_v' (j_assign (evo rfl)) ?_
  refine op_nil ?_
  refine a_seq ?_
  refine a_region (by kernel_rfl) ?_
  refine op_v' (j_move (evo rfl)) ?_
  refine op_n1' (fun ver => j_call1 (v := .ptr 5 ver 0) (hp1 := [(5, some (ver, .box 90 [.sl _, .p _]))]) [] false [] ent56 (f_open _) ⟨.inl ⟨rfl, rfl⟩, trivial⟩ trivial rfl rfl rfl (fun h => by cases h) rfl (List.all_eq_true.1 rfl) (.inl rfl) rfl rfl) fun v5x1 => ?_
  refine op_v' (j_assign (evo rfl)) ?_
  refine op_nil ?_
  refine a_seq ?_
  have hbt := okB_take (Nat.le_refl _) hb
  refine a_region (by kernel_rfl) ?_
  refine op_v' (j_move (evo rfl)) ?_
  refine op_v' (j_move (evo rfl)) ?_
  refine op_callE (v := fun x => .sl _) (hp1 := fun x => [(5, some (v5x1, .box 90 [.sl _, .p _]))]) [(5, v5x1)] false ent55 (f_values (b.take 2000) 0 hbt (by decide)) ⟨.inl ⟨rfl, rfl⟩, trivial⟩ ⟨⟨rfl, rfl⟩, trivial⟩ rfl (fun _ => rfl) (fun _ => rfl) (.inl rfl) (fun _ => rfl) (fun _ => rfl) ?_
  rintro ⟨bs8, p8⟩ ⟨hl8, hp8⟩
  try dsimp only at hl8
  try dsimp only at hp8
  have hfl := fmt_le (bs := bs8)
  dsimp only [List.cons_append, List.nil_append]
  refine op_v0' (j_call0 (v := .p _) (hp1 := []) [] false [] ent15 (f_fmtSpec _) ⟨.inl ⟨rfl, rfl⟩, trivial⟩ trivial rfl rfl (fun h => by cases h) rfl (fun _ h => by cases h) (.inl rfl) rfl rfl) ?_
  refine op_n' (fun ver => j_buildSlice (parts := [(0, .const (.string ⟨#[]⟩)), (1, .const (.string ⟨#[48]⟩)), (2, .const (.string ⟨#[49]⟩)), (3, .const (.string ⟨#[50]⟩)), (4, .const (.string ⟨#[32]⟩))]) (es := [[_], [_], [_], [_], [_]]) slt69 elt9 rfl rfl (by decide) (by decide) rfl rfl (by simp) rfl) fun v10x2 => ?_
  refine op_callE (v := fun x => .p _) (hp1 := fun x => [(5, some (v5x1, .box 90 [.sl _, .p _])), (10, some (v10x2, .row 9 1 _))]) [(5, v5x1), (10, v10x2)] false ent57 (f_bend (b.take 2000) p8 (fmt bs8) [⟨#[]⟩, ⟨#[48]⟩, ⟨#[49]⟩, ⟨#[50]⟩, ⟨#[32]⟩] hbt (by omega) (by decide) (by decide) (by omega) (by decide)) ⟨.inl ⟨rfl, rfl⟩, .inl ⟨rfl, rfl⟩, .inl ⟨rfl, rfl⟩, trivial⟩ ⟨⟨rfl, rfl⟩, ⟨rfl, rfl⟩, trivial⟩ rfl (fun _ => rfl) (fun _ => rfl) (.inl rfl) (fun _ => rfl) (fun _ => rfl) ?_
  rintro ⟨s11, p11⟩ ⟨hz11, hp11⟩
  try dsimp only at hz11
  try dsimp only at hp11
  dsimp only [List.cons_append, List.nil_append]
  refine op_v' (j_assign (evo rfl)) ?_
  refine op_nil ?_
  refine a_ret ?_
  exact ⟨[.p _], .p _, [], [], [], ⟨rfl, trivial⟩, rfl, rfl, trivial, rfl, rfl, ⟨s11, hz11, rfl, rfl, rfl⟩⟩


theorem f_cpBools (a b : List Bool) : Fn Try.prog 24 [.sl (a.map dB), .sl (b.map dB)] [] (fun rr ii nn => rr = .p (.bool (decide (a = b))) ∧ ii = [] ∧ nn = []) := by
  refine fn_of Try.func24 rfl (Nat.le_of_ble_eq_true rfl) fun w X g => ?_
  show AWp _ _ _ ⟨[(0, .sl (a.map dB)), (1, .sl (b.map dB))], []⟩
  refine a_len_map 0 rfl fun hla => ?_
  refine a_seq ?_
  refine a_region (by kernel_rfl) ?_
  refine op_v' (j_assign (evo rfl)) ?_
  refine op_nil ?_
  refine a_seq ?_
  refine a_seq ?_
  refine a_region (by kernel_rfl) ?_
  refine op_v' (j_move (evo rfl)) ?_
  refine op_v' (j_len_map Try.underlying22 rfl) ?_
  refine op_v' (j_move (evo rfl)) ?_
  refine op_v' (j_len_map Try.underlying22 rfl) ?_
  refine op_v' (j_ne rfl rfl) ?_
  refine op_nil ?_
  refine a_cond rfl (fun h1 => ?_) (fun h1 => ?_)
  ·
    have h1r := h1
    try simp only [Bool.not_eq_true', Bool.not_eq_false', Bool.not_not, bne_iff_ne, bne_eq_false_iff_eq, beq_eq_false_iff_ne, beq_iff_eq, ne_eq, decide_eq_true_eq, decide_eq_false_iff_not, Classical.not_not, List.length_map, List.length_take, Int.toNat_natCast] at h1
    refine a_seq ?_
    refine a_region (by kernel_rfl) ?_
    refine op_v' (j_assign (evo rfl)) ?_
    refine op_nil ?_
    refine a_ret ?_
    exact ⟨[.p _], .p _, [], [], [], ⟨rfl, trivial⟩, rfl, rfl, trivial, rfl, rfl, ⟨boolEq (by symm; rw [decide_eq_false_iff_not]; rintro rfl; exact h1 rfl), rfl, rfl⟩⟩
  ·
    have h1r := h1
    try simp only [Bool.not_eq_true', Bool.not_eq_false', Bool.not_not, bne_iff_ne, bne_eq_false_iff_eq, beq_eq_false_iff_ne, beq_iff_eq, ne_eq, decide_eq_true_eq, decide_eq_false_iff_not, Classical.not_not, List.length_map, List.length_take, Int.toNat_natCast] at h1
    refine a_skip ?_
    refine a_seq ?_
    refine a_seq ?_
    refine a_region (by kernel_rfl) ?_
    refine op_v' (j_assign (evo rfl)) ?_
    refine op_nil ?_
    refine a_block ?_
    refine a_loopF' (ι := Nat) (fun k => k ≤ a.length ∧ a.take k = b.take k) (fun k r => (5, .p (.int .i64 ((k : Nat)))) :: r) (fun k r => r) (fun k => a.length - k) (fun _ _ => rfl) (fun _ _ => rfl) 0 ⟨Nat.zero_le _, rfl⟩ ⟨⟨rfl, rfl⟩, ⟨rfl, trivial⟩, trivial, ⟨rfl, rfl⟩, ⟨rfl, rfl⟩⟩ ?_
    intro k hpre0
    have hpre := hpre0.1
    refine a_seq ?_
    refine a_seq ?_
    refine a_region (by kernel_rfl) ?_
    refine op_v' (j_move (evo rfl)) ?_
    refine op_v' (j_move (evo rfl)) ?_
    refine op_v' (j_len_map Try.underlying22 rfl) ?_
    refine op_v' (j_lt rfl rfl) ?_
    refine op_nil ?_
    refine a_cond rfl (fun h2 => ?_) (fun h2 => ?_)
    ·
      have h2r := h2
      try simp only [Bool.not_eq_true', Bool.not_eq_false', Bool.not_not, bne_iff_ne, bne_eq_false_iff_eq, beq_eq_false_iff_ne, beq_iff_eq, ne_eq, decide_eq_true_eq, decide_eq_false_iff_not, Classical.not_not, List.length_map, List.length_take, Int.toNat_natCast] at h2
      refine a_skip ?_
      refine a_seq ?_
      refine a_block ?_
      refine a_seq ?_
      refine a_draw mixed (by kernel_rfl) (by kernel_rfl) fun vf => ?_
      refine d_v' (j_move (evo rfl)) ?_
      refine d_v' (j_move (evo rfl)) ?_
      refine d_v' (j_elemN slt22 rfl rfl rfl (at_map (by omega)) rfl) ?_
      refine d_v' (j_load_el leaf4 rfl (at_map (by omega)) rfl) ?_
      refine d_v' (j_move (evo rfl)) ?_
      refine d_v' (j_move (evo rfl)) ?_
      refine d_v' (j_elemN slt22 rfl rfl rfl (at_map (by omega)) rfl) ?_
      refine d_v' (j_load_el leaf4 rfl (at_map (by omega)) rfl) ?_
      refine d_v' (j_neb Try.underlying4 rfl rfl) ?_
      refine d_nil (by kernel_rfl) (by kernel_rfl) ?_
      refine a_cond rfl (fun h3 => ?_) (fun h3 => ?_)
      ·
        have h3r := h3
        try simp only [Bool.not_eq_true', Bool.not_eq_false', Bool.not_not, bne_iff_ne, bne_eq_false_iff_eq, beq_eq_false_iff_ne, beq_iff_eq, ne_eq, decide_eq_true_eq, decide_eq_false_iff_not, Classical.not_not, List.length_map, List.length_take, Int.toNat_natCast] at h3
        refine a_seq ?_
        refine a_region (by kernel_rfl) ?_
        refine op_v' (j_assign (evo rfl)) ?_
        refine op_nil ?_
        refine a_ret ?_
        exact ⟨[.p _], .p _, [], [], [], ⟨rfl, trivial⟩, rfl, rfl, trivial, rfl, rfl, ⟨boolEq (by symm; rw [decide_eq_false_iff_not]; rintro rfl; exact h3 rfl), rfl, rfl⟩⟩
      ·
        have h3r := h3
        try simp only [Bool.not_eq_true', Bool.not_eq_false', Bool.not_not, bne_iff_ne, bne_eq_false_iff_eq, beq_eq_false_iff_ne, beq_iff_eq, ne_eq, decide_eq_true_eq, decide_eq_false_iff_not, Classical.not_not, List.length_map, List.length_take, Int.toNat_natCast] at h3
        refine a_skip ?_
        refine a_region (by kernel_rfl) ?_
        refine op_v' (j_move (evo rfl)) ?_
        refine op_v' (j_add rfl rfl (by omega) (by omega)) ?_
        refine op_v' (j_assign (evo rfl)) ?_
        refine op_nil ?_
        exact ⟨k + 1, ⟨(by omega), take_next hpre0.2 (by omega) (by omega) h3⟩, ⟨⟨rfl, rfl⟩, ⟨rfl, trivial⟩, trivial, ⟨rfl, rfl⟩, ⟨rfl, rfl⟩⟩, (by omega)⟩
    ·
      have h2r := h2
      try simp only [Bool.not_eq_true', Bool.not_eq_false', Bool.not_not, bne_iff_ne, bne_eq_false_iff_eq, beq_eq_false_iff_ne, beq_iff_eq, ne_eq, decide_eq_true_eq, decide_eq_false_iff_not, Classical.not_not, List.length_map, List.length_take, Int.toNat_natCast] at h2
      refine a_exit ?_
      refine a_seq ?_
      refine a_region (by kernel_rfl) ?_
      refine op_v' (j_assign (evo rfl)) ?_
      refine op_nil ?_
      refine a_ret ?_
      exact ⟨[.p _], .p _, [], [], [], ⟨rfl, trivial⟩, rfl, rfl, trivial, rfl, rfl, ⟨boolEq (by symm; rw [decide_eq_true_eq]; exact take_eq hpre0.2 (by omega) (by omega)), rfl, rfl⟩⟩


theorem f_law5 (b1 b2 : List Int) (hb1 : ∀ a ∈ b1, 0 ≤ a ∧ a ≤ 255) (hb2 : ∀ a ∈ b2, 0 ≤ a ∧ a ≤ 255) : Fn Try.prog 5 [.sl (b1.map dU), .sl (b2.map dU)] [] (fun rr ii nn => rr = .p (.bool true) ∧ ii = [] ∧ nn = []) := by
  refine fn_of Try.func5 rfl (Nat.le_of_ble_eq_true rfl) fun w X g => ?_
  show AWp _ _ _ ⟨[(0, .sl (b1.map dU)), (1, .sl (b2.map dU))], []⟩
  refine a_seq ?_
  refine a_region (by kernel_rfl) ?_
  refine op_v' (j_assign (evo rfl)) ?_
  refine op_nil ?_
  refine a_seq ?_
  refine a_seq ?_
  refine a_region (by kernel_rfl) ?_
  refine op_v' (j_move (evo rfl)) ?_
  refine op_v' (j_len_map Try.underlying31 rfl) ?_
  refine op_v' (j_gt rfl rfl) ?_
  refine op_v' (j_move (evo rfl)) ?_
  refine op_split' 17 rfl (fun h1 => ?_) (fun h1 => ?_)
  ·
    have h1r := h1
    try simp only [Bool.not_eq_true', Bool.not_eq_false', Bool.not_not, bne_iff_ne, bne_eq_false_iff_eq, beq_eq_false_iff_ne, beq_iff_eq, ne_eq, decide_eq_true_eq, decide_eq_false_iff_not, Classical.not_not, List.length_map, List.length_take, Int.toNat_natCast] at h1
    refine op_v' (j_unwantV rfl rfl h1r) ?_
    refine op_v' (j_unwantV rfl rfl h1r) ?_
    refine op_v' (j_unwantV rfl rfl h1r) ?_
    refine op_v' (j_pick_t rfl h1r (evo rfl)) ?_
    refine op_nil ?_
    refine a_tt rfl ?_
    refine a_seq ?_
    refine a_region (by kernel_rfl) ?_
    refine op_v' (j_assign (evo rfl)) ?_
    refine op_nil ?_
    refine a_ret ?_
    exact ⟨[.p _], .p _, [], [], [], ⟨rfl, trivial⟩, rfl, rfl, trivial, rfl, rfl, ⟨rfl, rfl, rfl⟩⟩
  ·
    have h1r := h1
    try simp only [Bool.not_eq_true', Bool.not_eq_false', Bool.not_not, bne_iff_ne, bne_eq_false_iff_eq, beq_eq_false_iff_ne, beq_iff_eq, ne_eq, decide_eq_true_eq, decide_eq_false_iff_not, Classical.not_not, List.length_map, List.length_take, Int.toNat_natCast] at h1
    refine op_v' (j_want rfl rfl h1r (j_move (evo rfl))) ?_
    refine op_v' (j_want rfl rfl h1r (j_len_map Try.underlying31 rfl)) ?_
    refine op_v' (j_want rfl rfl h1r (j_gt rfl rfl)) ?_
    refine op_v' (j_pick_f rfl h1r (evo rfl)) ?_
    refine op_nil ?_
    refine a_cond rfl (fun h2 => ?_) (fun h2 => ?_)
    ·
      have h2r := h2
      try simp only [Bool.not_eq_true', Bool.not_eq_false', Bool.not_not, bne_iff_ne, bne_eq_false_iff_eq, beq_eq_false_iff_ne, beq_iff_eq, ne_eq, decide_eq_true_eq, decide_eq_false_iff_not, Classical.not_not, List.length_map, List.length_take, Int.toNat_natCast] at h2
      refine a_seq ?_
      refine a_region (by kernel_rfl) ?_
      refine op_v' (j_assign (evo rfl)) ?_
      refine op_nil ?_
      refine a_ret ?_
      exact ⟨[.p _], .p _, [], [], [], ⟨rfl, trivial⟩, rfl, rfl, trivial, rfl, rfl, ⟨rfl, rfl, rfl⟩⟩
    ·
      have h2r := h2
      try simp only [Bool.not_eq_true', Bool.not_eq_false', Bool.not_not, bne_iff_ne, bne_eq_false_iff_eq, beq_eq_false_iff_ne, beq_iff_eq, ne_eq, decide_eq_true_eq, decide_eq_false_iff_not, Classical.not_not, List.length_map, List.length_take, Int.toNat_natCast] at h2
      refine a_skip ?_
      refine a_seq ?_
      refine a_region (by kernel_rfl) ?_
      refine op_v' (j_move (evo rfl)) ?_
      refine op_callE (v := fun x => .sl _) (hp1 := fun x => []) [] false ent23 (f_dFmt b1 hb1) ⟨.inl ⟨rfl, rfl⟩, trivial⟩ trivial rfl (fun _ => rfl) (fun _ => rfl) (.inl rfl) (fun _ => rfl) (fun _ => rfl) ?_
      rintro bs23 hl23
      try dsimp only at hl23
      have hfl := fmt_le (bs := bs23)
      dsimp only [List.cons_append, List.nil_append]
      refine op_v' (j_assign (evo rfl)) ?_
      refine op_nil ?_
      refine a_seq ?_
      refine a_region (by kernel_rfl) ?_
      refine op_v' (j_move (evo rfl)) ?_
      refine op_v0' (j_call0 (v := .p _) (hp1 := []) [] false [] ent17 (f_fmtImpl bs23) ⟨.inl ⟨rfl, rfl⟩, trivial⟩ trivial rfl rfl (fun h => by cases h) rfl (fun _ h => by cases h) (.inl rfl) rfl rfl) ?_
      refine op_v' (j_assign (evo rfl)) ?_
      refine op_nil ?_
      refine a_seq ?_
      refine a_region (by kernel_rfl) ?_
      refine op_v' (j_move (evo rfl)) ?_
      refine op_n1' (fun ver => j_call1 (v := .tup [.own 28 ver, .p _]) (hp1 := [(28, some (ver, .row 4 1 _))]) [] false [] ent20 (f_parseImpl (fmt bs23) (by omega)) ⟨.inl ⟨rfl, rfl⟩, trivial⟩ trivial rfl rfl rfl (fun h => by cases h) rfl (List.all_eq_true.1 rfl) (.inl rfl) rfl rfl) fun v28x1 => ?_
      refine op_v' (j_move (evo rfl)) ?_
      refine op_v' (j_extract rfl rfl) ?_
      refine op_v' (j_extract rfl rfl) ?_
      refine op_v' (j_assign (evo rfl)) ?_
      refine op_v' (j_assign (evo rfl)) ?_
      refine op_nil ?_
      refine a_seq ?_
      refine a_seq ?_
      refine a_region (by kernel_rfl) ?_
      refine op_v' (j_move (evo rfl)) ?_
      refine op_v' (j_move (evo rfl)) ?_
      refine op_v0' (j_call0 (v := .p _) (hp1 := []) [] false [] ent15 (f_fmtSpec bs23) ⟨.inl ⟨rfl, rfl⟩, trivial⟩ trivial rfl rfl (fun h => by cases h) rfl (fun _ h => by cases h) (.inl rfl) rfl rfl) ?_
      refine op_v' (j_nes rfl rfl) ?_
      refine op_v' (j_move (evo rfl)) ?_
      refine op_split' 35 rfl (fun h3 => ?_) (fun h3 => ?_)
      ·
        have h3r := h3
        try simp only [Bool.not_eq_true', Bool.not_eq_false', Bool.not_not, bne_iff_ne, bne_eq_false_iff_eq, beq_eq_false_iff_ne, beq_iff_eq, ne_eq, decide_eq_true_eq, decide_eq_false_iff_not, Classical.not_not, List.length_map, List.length_take, Int.toNat_natCast] at h3
        exact absurd h3r (by simp)
      ·
        have h3r := h3
        try simp only [Bool.not_eq_true', Bool.not_eq_false', Bool.not_not, bne_iff_ne, bne_eq_false_iff_eq, beq_eq_false_iff_ne, beq_iff_eq, ne_eq, decide_eq_true_eq, decide_eq_false_iff_not, Classical.not_not, List.length_map, List.length_take, Int.toNat_natCast] at h3
        refine op_v' (j_want rfl rfl h3r (j_move (evo rfl))) ?_
        refine op_v' (j_want rfl rfl h3r (j_move (evo rfl))) ?_
        refine op_v' (j_want rfl rfl h3r (j_len_map Try.underlying22 rfl)) ?_
        refine op_v' (j_want rfl rfl h3r (j_eq rfl rfl)) ?_
        refine op_v' (j_want rfl rfl h3r (j_neb Try.underlying4 rfl rfl)) ?_
        refine op_v' (j_pick_f rfl h3r (evo rfl)) ?_
        refine op_v' (j_move (evo rfl)) ?_
        refine op_split' 42 rfl (fun h4 => ?_) (fun h4 => ?_)
        ·
          have h4r := h4
          try simp only [Bool.not_eq_true', Bool.not_eq_false', Bool.not_not, bne_iff_ne, bne_eq_false_iff_eq, beq_eq_false_iff_ne, beq_iff_eq, ne_eq, decide_eq_true_eq, decide_eq_false_iff_not, Classical.not_not, List.length_map, List.length_take, Int.toNat_natCast] at h4
          exact absurd h4r (by rw [pok_fmt]; simp only [bne_eq_false_iff_eq, Bool.not_eq_true]; exact decide_eq_decide.2 (by omega))
        ·
          have h4r := h4
          try simp only [Bool.not_eq_true', Bool.not_eq_false', Bool.not_not, bne_iff_ne, bne_eq_false_iff_eq, beq_eq_false_iff_ne, beq_iff_eq, ne_eq, decide_eq_true_eq, decide_eq_false_iff_not, Classical.not_not, List.length_map, List.length_take, Int.toNat_natCast] at h4
          refine op_v' (j_want rfl rfl h4r (j_move (evo rfl))) ?_
          refine op_v' (j_want rfl rfl h4r (j_move (evo rfl))) ?_
          refine op_split' 44 rfl (fun h5 => ?_) (fun h5 => ?_)
          ·
            have h5r := h5
            try simp only [Bool.not_eq_true', Bool.not_eq_false', Bool.not_not, bne_iff_ne, bne_eq_false_iff_eq, beq_eq_false_iff_ne, beq_iff_eq, ne_eq, decide_eq_true_eq, decide_eq_false_iff_not, Classical.not_not, List.length_map, List.length_take, Int.toNat_natCast] at h5
            refine op_v' (j_want rfl rfl h5r (j_move (evo rfl))) ?_
            refine op_v' (j_want rfl rfl h5r (j_move (evo rfl))) ?_
            refine op_v0' (j_want rfl rfl h5r (j_call0 (v := .p _) (hp1 := []) [] true [28] ent24 (f_cpBools _ bs23) ⟨.inr ⟨rfl, view_own rfl rfl, rfl⟩, .inl ⟨rfl, rfl⟩, trivial⟩ trivial rfl rfl (fun _ => rfl) rfl (fun _ h => by cases h) (.inr ⟨rfl, by first | exact pl_new1 (fun _ => rfl) | (simp [plO, plV, plV.plL]; done)⟩) rfl rfl)) ?_
            refine op_v' (j_want rfl rfl h5r (j_not rfl)) ?_
            refine op_v' (j_want rfl rfl h4r (j_pick_t rfl h5r (evo rfl))) ?_
            refine op_v' (j_pick_f rfl h4r (evo rfl)) ?_
            refine op_nil ?_
            refine a_cond rfl (fun h6 => ?_) (fun h6 => ?_)
            ·
              have h6r := h6
              try simp only [Bool.not_eq_true', Bool.not_eq_false', Bool.not_not, bne_iff_ne, bne_eq_false_iff_eq, beq_eq_false_iff_ne, beq_iff_eq, ne_eq, decide_eq_true_eq, decide_eq_false_iff_not, Classical.not_not, List.length_map, List.length_take, Int.toNat_natCast] at h6
              exact absurd h6r (by rw [pv_fmt]; (· simp); rw [pok_fmt] at *; simp at *; omega)
            ·
              have h6r := h6
              try simp only [Bool.not_eq_true', Bool.not_eq_false', Bool.not_not, bne_iff_ne, bne_eq_false_iff_eq, beq_eq_false_iff_ne, beq_iff_eq, ne_eq, decide_eq_true_eq, decide_eq_false_iff_not, Classical.not_not, List.length_map, List.length_take, Int.toNat_natCast] at h6
              refine a_skip ?_
              refine a_seq ?_
              refine a_region (by kernel_rfl) ?_
              refine op_v' (j_move (evo rfl)) ?_
              refine op_callE (v := fun x => .p _) (hp1 := fun x => []) [] false ent25 (f_dParse b2 hb2) ⟨.inl ⟨rfl, rfl⟩, trivial⟩ trivial rfl (fun _ => rfl) (fun _ => rfl) (.inl rfl) (fun _ => rfl) (fun _ => rfl) ?_
              rintro s52 hz52
              try dsimp only at hz52
              have hzz := hz52
              dsimp only [List.cons_append, List.nil_append]
              refine op_v' (j_assign (evo rfl)) ?_
              refine op_nil ?_
              refine a_seq ?_
              refine a_region (by kernel_rfl) ?_
              refine op_v' (j_move (evo rfl)) ?_
              refine op_n1' (fun ver => j_call1 (v := .tup [.own 55 ver, .p _]) (hp1 := [(55, some (ver, .row 4 1 _))]) [] false [] ent20 (f_parseImpl s52 (by omega)) ⟨.inl ⟨rfl, rfl⟩, trivial⟩ trivial rfl rfl rfl (fun h => by cases h) rfl (List.all_eq_true.1 rfl) (.inl rfl) rfl rfl) fun v55x2 => ?_
              refine op_v' (j_move (evo rfl)) ?_
              refine op_v' (j_extract rfl rfl) ?_
              refine op_v' (j_extract rfl rfl) ?_
              refine op_v' (j_assign (evo rfl)) ?_
              refine op_v' (j_assign (evo rfl)) ?_
              refine op_nil ?_
              refine a_seq ?_
              refine a_region (by kernel_rfl) ?_
              refine op_v' (j_move (evo rfl)) ?_
              refine op_n1' (fun ver => j_call1 (v := .tup [.own 60 ver, .p _]) (hp1 := [(60, some (ver, .row 4 1 _))]) [] false [] ent19 (f_parseSpec s52) ⟨.inl ⟨rfl, rfl⟩, trivial⟩ trivial rfl rfl rfl (fun h => by cases h) rfl (List.all_eq_true.1 rfl) (.inl rfl) rfl rfl) fun v60x3 => ?_
              refine op_v' (j_move (evo rfl)) ?_
              refine op_v' (j_extract rfl rfl) ?_
              refine op_v' (j_extract rfl rfl) ?_
              refine op_v' (j_assign (evo rfl)) ?_
              refine op_v' (j_assign (evo rfl)) ?_
              refine op_nil ?_
              refine a_seq ?_
              refine a_region (by kernel_rfl) ?_
              refine op_v' (j_move (evo rfl)) ?_
              refine op_v' (j_move (evo rfl)) ?_
              refine op_v' (j_eqb Try.underlying4 rfl rfl) ?_
              refine op_v' (j_move (evo rfl)) ?_
              refine op_split' 66 rfl (fun h7 => ?_) (fun h7 => ?_)
              ·
                have h7r := h7
                try simp only [Bool.not_eq_true', Bool.not_eq_false', Bool.not_not, bne_iff_ne, bne_eq_false_iff_eq, beq_eq_false_iff_ne, beq_iff_eq, ne_eq, decide_eq_true_eq, decide_eq_false_iff_not, Classical.not_not, List.length_map, List.length_take, Int.toNat_natCast] at h7
                refine op_v' (j_want rfl rfl h7r (j_move (evo rfl))) ?_
                refine op_v' (j_want rfl rfl h7r (j_move (evo rfl))) ?_
                refine op_v0' (j_want rfl rfl h7r (j_call0 (v := .p _) (hp1 := []) [] true [55, 60] ent24 (f_cpBools _ _) ⟨.inr ⟨rfl, view_own rfl rfl, rfl⟩, .inr ⟨rfl, view_own rfl rfl, rfl⟩, trivial⟩ trivial rfl rfl (fun _ => rfl) rfl (fun _ h => by cases h) (.inr ⟨rfl, by first | exact pl_new1 (fun _ => rfl) | (simp [plO, plV, plV.plL]; done)⟩) rfl rfl)) ?_
                refine op_v' (j_pick_t rfl h7r (evo rfl)) ?_
                refine op_v' (j_move (evo rfl)) ?_
                refine op_split' 71 rfl (fun h8 => ?_) (fun h8 => ?_)
                ·
                  have h8r := h8
                  try simp only [Bool.not_eq_true', Bool.not_eq_false', Bool.not_not, bne_iff_ne, bne_eq_false_iff_eq, beq_eq_false_iff_ne, beq_iff_eq, ne_eq, decide_eq_true_eq, decide_eq_false_iff_not, Classical.not_not, List.length_map, List.length_take, Int.toNat_natCast] at h8
                  refine op_v' (j_want rfl rfl h8r (j_move (evo rfl))) ?_
                  refine op_v' (j_want rfl rfl h8r (j_not rfl)) ?_
                  refine op_v' (j_want rfl rfl h8r (j_move (evo rfl))) ?_
                  refine op_split' 74 rfl (fun h9 => ?_) (fun h9 => ?_)
                  ·
                    have h9r := h9
                    try simp only [Bool.not_eq_true', Bool.not_eq_false', Bool.not_not, bne_iff_ne, bne_eq_false_iff_eq, beq_eq_false_iff_ne, beq_iff_eq, ne_eq, decide_eq_true_eq, decide_eq_false_iff_not, Classical.not_not, List.length_map, List.length_take, Int.toNat_natCast] at h9
                    refine op_v' (j_unwantV rfl rfl h9r) ?_
                    refine op_v' (j_unwantV rfl rfl h9r) ?_
                    refine op_v' (j_unwantV rfl rfl h9r) ?_
                    refine op_v' (j_unwantV rfl rfl h9r) ?_
                    refine op_v' (j_want rfl rfl h8r (j_pick_t rfl h9r (evo rfl))) ?_
                    refine op_v' (j_pick_t rfl h8r (evo rfl)) ?_
                    refine op_v' (j_assign (evo rfl)) ?_
                    refine op_nil ?_
                    refine a_ret ?_
                    exact ⟨[.p _], .p _, [], [], [], ⟨rfl, trivial⟩, rfl, rfl, trivial, rfl, rfl, ⟨boolEq (by first | rfl | exact decide_eq_true (fmt_pv (by assumption))), rfl, rfl⟩⟩
                  ·
                    have h9r := h9
                    try simp only [Bool.not_eq_true', Bool.not_eq_false', Bool.not_not, bne_iff_ne, bne_eq_false_iff_eq, beq_eq_false_iff_ne, beq_iff_eq, ne_eq, decide_eq_true_eq, decide_eq_false_iff_not, Classical.not_not, List.length_map, List.length_take, Int.toNat_natCast] at h9
                    refine op_v' (j_want rfl rfl h9r (j_move (evo rfl))) ?_
                    refine op_v0' (j_want rfl rfl h9r (j_call0 (v := .p _) (hp1 := []) [] true [55] ent17 (f_fmtImpl _) ⟨.inr ⟨rfl, view_own rfl rfl, rfl⟩, trivial⟩ trivial rfl rfl (fun _ => rfl) rfl (fun _ h => by cases h) (.inr ⟨rfl, by first | exact pl_new1 (fun _ => rfl) | (simp [plO, plV, plV.plL]; done)⟩) rfl rfl)) ?_
                    refine op_v' (j_want rfl rfl h9r (j_move (evo rfl))) ?_
                    refine op_v' (j_want rfl rfl h9r (j_eqs rfl rfl)) ?_
                    refine op_v' (j_want rfl rfl h8r (j_pick_f rfl h9r (evo rfl))) ?_
                    refine op_v' (j_pick_t rfl h8r (evo rfl)) ?_
                    refine op_v' (j_assign (evo rfl)) ?_
                    refine op_nil ?_
                    refine a_ret ?_
                    exact ⟨[.p _], .p _, [], [], [], ⟨rfl, trivial⟩, rfl, rfl, trivial, rfl, rfl, ⟨boolEq (by first | rfl | exact decide_eq_true (fmt_pv (by assumption))), rfl, rfl⟩⟩
                ·
                  have h8r := h8
                  try simp only [Bool.not_eq_true', Bool.not_eq_false', Bool.not_not, bne_iff_ne, bne_eq_false_iff_eq, beq_eq_false_iff_ne, beq_iff_eq, ne_eq, decide_eq_true_eq, decide_eq_false_iff_not, Classical.not_not, List.length_map, List.length_take, Int.toNat_natCast] at h8
                  exact absurd h8r (by simp)
              ·
                have h7r := h7
                try simp only [Bool.not_eq_true', Bool.not_eq_false', Bool.not_not, bne_iff_ne, bne_eq_false_iff_eq, beq_eq_false_iff_ne, beq_iff_eq, ne_eq, decide_eq_true_eq, decide_eq_false_iff_not, Classical.not_not, List.length_map, List.length_take, Int.toNat_natCast] at h7
                exact absurd h7r (by simp)
          ·
            have h5r := h5
            try simp only [Bool.not_eq_true', Bool.not_eq_false', Bool.not_not, bne_iff_ne, bne_eq_false_iff_eq, beq_eq_false_iff_ne, beq_iff_eq, ne_eq, decide_eq_true_eq, decide_eq_false_iff_not, Classical.not_not, List.length_map, List.length_take, Int.toNat_natCast] at h5
            refine op_v' (j_unwantV rfl rfl h5r) ?_
            refine op_v' (j_unwantV rfl rfl h5r) ?_
            refine op_v' (j_unwantV rfl rfl h5r) ?_
            refine op_v' (j_unwantV rfl rfl h5r) ?_
            refine op_v' (j_want rfl rfl h4r (j_pick_f rfl h5r (evo rfl))) ?_
            refine op_v' (j_pick_f rfl h4r (evo rfl)) ?_
            refine op_nil ?_
            refine a_ff rfl ?_
            refine a_skip ?_
            refine a_seq ?_
            refine a_region (by kernel_rfl) ?_
            refine op_v' (j_move (evo rfl)) ?_
            refine op_callE (v := fun x => .p _) (hp1 := fun x => []) [] false ent25 (f_dParse b2 hb2) ⟨.inl ⟨rfl, rfl⟩, trivial⟩ trivial rfl (fun _ => rfl) (fun _ => rfl) (.inl rfl) (fun _ => rfl) (fun _ => rfl) ?_
            rintro s52 hz52
            try dsimp only at hz52
            have hzz := hz52
            dsimp only [List.cons_append, List.nil_append]
            refine op_v' (j_assign (evo rfl)) ?_
            refine op_nil ?_
            refine a_seq ?_
            refine a_region (by kernel_rfl) ?_
            refine op_v' (j_move (evo rfl)) ?_
            refine op_n1' (fun ver => j_call1 (v := .tup [.own 55 ver, .p _]) (hp1 := [(55, some (ver, .row 4 1 _))]) [] false [] ent20 (f_parseImpl s52 (by omega)) ⟨.inl ⟨rfl, rfl⟩, trivial⟩ trivial rfl rfl rfl (fun h => by cases h) rfl (List.all_eq_true.1 rfl) (.inl rfl) rfl rfl) fun v55x4 => ?_
            refine op_v' (j_move (evo rfl)) ?_
            refine op_v' (j_extract rfl rfl) ?_
            refine op_v' (j_extract rfl rfl) ?_
            refine op_v' (j_assign (evo rfl)) ?_
            refine op_v' (j_assign (evo rfl)) ?_
            refine op_nil ?_
            refine a_seq ?_
            refine a_region (by kernel_rfl) ?_
            refine op_v' (j_move (evo rfl)) ?_
            refine op_n1' (fun ver => j_call1 (v := .tup [.own 60 ver, .p _]) (hp1 := [(60, some (ver, .row 4 1 _))]) [] false [] ent19 (f_parseSpec s52) ⟨.inl ⟨rfl, rfl⟩, trivial⟩ trivial rfl rfl rfl (fun h => by cases h) rfl (List.all_eq_true.1 rfl) (.inl rfl) rfl rfl) fun v60x5 => ?_
            refine op_v' (j_move (evo rfl)) ?_
            refine op_v' (j_extract rfl rfl) ?_
            refine op_v' (j_extract rfl rfl) ?_
            refine op_v' (j_assign (evo rfl)) ?_
            refine op_v' (j_assign (evo rfl)) ?_
            refine op_nil ?_
            refine a_seq ?_
            refine a_region (by kernel_rfl) ?_
            refine op_v' (j_move (evo rfl)) ?_
            refine op_v' (j_move (evo rfl)) ?_
            refine op_v' (j_eqb Try.underlying4 rfl rfl) ?_
            refine op_v' (j_move (evo rfl)) ?_
            refine op_split' 66 rfl (fun h10 => ?_) (fun h10 => ?_)
            ·
              have h10r := h10
              try simp only [Bool.not_eq_true', Bool.not_eq_false', Bool.not_not, bne_iff_ne, bne_eq_false_iff_eq, beq_eq_false_iff_ne, beq_iff_eq, ne_eq, decide_eq_true_eq, decide_eq_false_iff_not, Classical.not_not, List.length_map, List.length_take, Int.toNat_natCast] at h10
              refine op_v' (j_want rfl rfl h10r (j_move (evo rfl))) ?_
              refine op_v' (j_want rfl rfl h10r (j_move (evo rfl))) ?_
              refine op_v0' (j_want rfl rfl h10r (j_call0 (v := .p _) (hp1 := []) [] true [55, 60] ent24 (f_cpBools _ _) ⟨.inr ⟨rfl, view_own rfl rfl, rfl⟩, .inr ⟨rfl, view_own rfl rfl, rfl⟩, trivial⟩ trivial rfl rfl (fun _ => rfl) rfl (fun _ h => by cases h) (.inr ⟨rfl, by first | exact pl_new1 (fun _ => rfl) | (simp [plO, plV, plV.plL]; done)⟩) rfl rfl)) ?_
              refine op_v' (j_pick_t rfl h10r (evo rfl)) ?_
              refine op_v' (j_move (evo rfl)) ?_
              refine op_split' 71 rfl (fun h11 => ?_) (fun h11 => ?_)
              ·
                have h11r := h11
                try simp only [Bool.not_eq_true', Bool.not_eq_false', Bool.not_not, bne_iff_ne, bne_eq_false_iff_eq, beq_eq_false_iff_ne, beq_iff_eq, ne_eq, decide_eq_true_eq, decide_eq_false_iff_not, Classical.not_not, List.length_map, List.length_take, Int.toNat_natCast] at h11
                refine op_v' (j_want rfl rfl h11r (j_move (evo rfl))) ?_
                refine op_v' (j_want rfl rfl h11r (j_not rfl)) ?_
                refine op_v' (j_want rfl rfl h11r (j_move (evo rfl))) ?_
                refine op_split' 74 rfl (fun h12 => ?_) (fun h12 => ?_)
                ·
                  have h12r := h12
                  try simp only [Bool.not_eq_true', Bool.not_eq_false', Bool.not_not, bne_iff_ne, bne_eq_false_iff_eq, beq_eq_false_iff_ne, beq_iff_eq, ne_eq, decide_eq_true_eq, decide_eq_false_iff_not, Classical.not_not, List.length_map, List.length_take, Int.toNat_natCast] at h12
                  refine op_v' (j_unwantV rfl rfl h12r) ?_
                  refine op_v' (j_unwantV rfl rfl h12r) ?_
                  refine op_v' (j_unwantV rfl rfl h12r) ?_
                  refine op_v' (j_unwantV rfl rfl h12r) ?_
                  refine op_v' (j_want rfl rfl h11r (j_pick_t rfl h12r (evo rfl))) ?_
                  refine op_v' (j_pick_t rfl h11r (evo rfl)) ?_
                  refine op_v' (j_assign (evo rfl)) ?_
                  refine op_nil ?_
                  refine a_ret ?_
                  exact ⟨[.p _], .p _, [], [], [], ⟨rfl, trivial⟩, rfl, rfl, trivial, rfl, rfl, ⟨boolEq (by first | rfl | exact decide_eq_true (fmt_pv (by assumption))), rfl, rfl⟩⟩
                ·
                  have h12r := h12
                  try simp only [Bool.not_eq_true', Bool.not_eq_false', Bool.not_not, bne_iff_ne, bne_eq_false_iff_eq, beq_eq_false_iff_ne, beq_iff_eq, ne_eq, decide_eq_true_eq, decide_eq_false_iff_not, Classical.not_not, List.length_map, List.length_take, Int.toNat_natCast] at h12
                  refine op_v' (j_want rfl rfl h12r (j_move (evo rfl))) ?_
                  refine op_v0' (j_want rfl rfl h12r (j_call0 (v := .p _) (hp1 := []) [] true [55] ent17 (f_fmtImpl _) ⟨.inr ⟨rfl, view_own rfl rfl, rfl⟩, trivial⟩ trivial rfl rfl (fun _ => rfl) rfl (fun _ h => by cases h) (.inr ⟨rfl, by first | exact pl_new1 (fun _ => rfl) | (simp [plO, plV, plV.plL]; done)⟩) rfl rfl)) ?_
                  refine op_v' (j_want rfl rfl h12r (j_move (evo rfl))) ?_
                  refine op_v' (j_want rfl rfl h12r (j_eqs rfl rfl)) ?_
                  refine op_v' (j_want rfl rfl h11r (j_pick_f rfl h12r (evo rfl))) ?_
                  refine op_v' (j_pick_t rfl h11r (evo rfl)) ?_
                  refine op_v' (j_assign (evo rfl)) ?_
                  refine op_nil ?_
                  refine a_ret ?_
                  exact ⟨[.p _], .p _, [], [], [], ⟨rfl, trivial⟩, rfl, rfl, trivial, rfl, rfl, ⟨boolEq (by first | rfl | exact decide_eq_true (fmt_pv (by assumption))), rfl, rfl⟩⟩
              ·
                have h11r := h11
                try simp only [Bool.not_eq_true', Bool.not_eq_false', Bool.not_not, bne_iff_ne, bne_eq_false_iff_eq, beq_eq_false_iff_ne, beq_iff_eq, ne_eq, decide_eq_true_eq, decide_eq_false_iff_not, Classical.not_not, List.length_map, List.length_take, Int.toNat_natCast] at h11
                exact absurd h11r (by simp)
            ·
              have h10r := h10
              try simp only [Bool.not_eq_true', Bool.not_eq_false', Bool.not_not, bne_iff_ne, bne_eq_false_iff_eq, beq_eq_false_iff_ne, beq_iff_eq, ne_eq, decide_eq_true_eq, decide_eq_false_iff_not, Classical.not_not, List.length_map, List.length_take, Int.toNat_natCast] at h10
              exact absurd h10r (by simp)


end Go.Ab

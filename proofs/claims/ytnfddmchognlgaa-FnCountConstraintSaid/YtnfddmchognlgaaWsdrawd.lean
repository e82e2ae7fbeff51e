/- Walks. -/
import Derived.Test.YtnfddmchognlgaaBase
import Derived.Test.YtnfddmchognlgaaLaws1
import Derived.Test.YtnfddmchognlgaaWsdrawc
namespace Go.Ab
open Go.Proofs
set_option maxRecDepth 100000
set_option maxHeartbeats 8000000
set_option linter.unusedSimpArgs false
set_option linter.unusedVariables false
theorem f_l1Draw (b : List Int) (p : Nat) (most : Int) (hb : okB b) (hp : p ≤ 1099511000000) (hm : 0 ≤ most ∧ most ≤ 12) : Fn Try.prog 100 [.ptr 0 0 0, .p (.int .i64 (most))] [.box 90 [.sl (b.map dU), .p (.int .i64 ((p : Nat) : Int))]] (fun rr ii nn => ∃ x : Con × Nat, ((∀ t ∈ x.1.1, 1 ≤ t.1 ∧ t.1 ≤ 5) ∧ x.1.1.length ≤ 12 ∧ p ≤ x.2 ∧ x.2 ≤ p + 40) ∧ rr = .agg [.own 1 0, .p (.int .i64 x.1.2)] ∧ ii = [.box 90 [.sl (b.map dU), .p (.int .i64 ((x.2 : Nat) : Int))]] ∧ nn = [.row 73 2 (x.1.1.map dT)]) := by
  refine fn_of Try.func100 rfl (Nat.le_of_ble_eq_true rfl) fun w X g => ?_
  show AWp _ _ _ ⟨[(0, .ptr 0 0 0), (1, .p (.int .i64 (most)))], [(0, some (0, .box 90 [.sl (b.map dU), .p (.int .i64 ((p : Nat) : Int))]))]⟩
  refine a_seq ?_
  refine a_region (by kernel_rfl) ?_
  refine op_n' (fun ver => j_alloc elt42 rfl) fun v4x1 => ?_
  refine op_nil ?_
  refine a_seq ?_
  refine a_region (by kernel_rfl) ?_
  refine op_v' (j_build (parts := []) str42 elt42 rfl rfl) ?_
  refine op_n' (fun ver => j_alloc elt42 rfl) fun v5x2 => ?_
  refine op_s' (j_storea_box0 agg42 rfl rfl rfl rfl rfl rfl) ?_
  refine op_nil ?_
  refine a_adopt_box' 0 1005 73 2 (by decide) (id := 5) rfl rfl fun v1005x3 => ?_
  refine a_seq ?_
  refine a_seq ?_
  refine a_region (by kernel_rfl) ?_
  refine op_v' (j_assign (evo rfl)) ?_
  refine op_nil ?_
  refine a_block ?_
  refine a_loopF' (ι := List Term × Nat × Nat × Nat) (fun x => x.2.1 ≤ most.toNat ∧ x.1.length ≤ x.2.1 ∧ x.2.2.1 ≤ p + 3 * x.2.1 ∧ p ≤ x.2.2.1 ∧ ∀ t ∈ x.1, 1 ≤ t.1 ∧ t.1 ≤ 5) (fun x r => (6, .p (.int .i64 ((x.2.1 : Nat) + 1))) :: r) (fun x r => (0, some (0, .box 90 [.sl (b.map dU), .p (.int .i64 ((x.2.2.1 : Nat) : Int))])) :: (5, some (v5x2, .box 42 [.own 1005 x.2.2.2, .p (.int .i64 0)])) :: (1005, some (x.2.2.2, .row 73 2 (x.1.map dT))) :: r) (fun x => most.toNat - x.2.1) (fun _ _ => rfl) (fun _ _ => rfl) ([], 0, p, v1005x3) ⟨Nat.zero_le _, Nat.zero_le _, Nat.le_refl _, Nat.le_refl _, fun t ht => by cases ht⟩ ⟨⟨rfl, rfl⟩, ⟨rfl, trivial⟩, ⟨rfl, rfl, rfl, trivial⟩, ⟨rfl, rfl⟩, ⟨rfl, rfl⟩⟩ ?_
  rintro ⟨ts, k, q, v⟩ hpre; dsimp only at hpre ⊢
  refine a_seq ?_
  refine a_seq ?_
  refine a_region (by kernel_rfl) ?_
  refine op_v' (j_move (evo rfl)) ?_
  refine op_v' (j_move (evo rfl)) ?_
  refine op_v' (j_le rfl rfl) ?_
  refine op_nil ?_
  refine a_cond rfl (fun h1 => ?_) (fun h1 => ?_)
  ·
    have h1r := h1
    try simp only [Bool.not_eq_true', Bool.not_eq_false', Bool.not_not, bne_iff_ne, bne_eq_false_iff_eq, beq_eq_false_iff_ne, beq_iff_eq, ne_eq, decide_eq_true_eq, decide_eq_false_iff_not, Classical.not_not, List.length_map, List.length_take, Int.toNat_natCast, List.length_map, List.length_append, List.length_cons, List.length_nil] at h1
    refine a_skip ?_
    refine a_seq ?_
    refine a_block ?_
    refine a_seq ?_
    refine a_region (by kernel_rfl) ?_
    refine op_v' (j_move (evo rfl)) ?_
    refine op_v0' (j_call0 (v := .p _) (hp1 := [(0, some (0, .box 90 [.sl _, .p _]))]) [(0, 0)] false [0] ent85 (f_pick _ _ _ hb (by omega)) ⟨.inl ⟨rfl, rfl⟩, .inl ⟨rfl, rfl⟩, trivial⟩ ⟨⟨rfl, rfl⟩, trivial⟩ rfl rfl (fun h => by cases h) rfl (List.all_eq_true.1 rfl) (.inl rfl) rfl rfl) ?_
    refine op_v' (j_eq rfl rfl) ?_
    refine op_nil ?_
    refine a_cond rfl (fun h2 => ?_) (fun h2 => ?_)
    ·
      have h2r := h2
      try simp only [Bool.not_eq_true', Bool.not_eq_false', Bool.not_not, bne_iff_ne, bne_eq_false_iff_eq, beq_eq_false_iff_ne, beq_iff_eq, ne_eq, decide_eq_true_eq, decide_eq_false_iff_not, Classical.not_not, List.length_map, List.length_take, Int.toNat_natCast, List.length_map, List.length_append, List.length_cons, List.length_nil] at h2
      refine a_seq ?_
      have hco : (1 : Int) ≤ ofV b (q + 1) ([1, 1, 2, 3, 1, 5, 4] : List Int) ∧ ofV b (q + 1) ([1, 1, 2, 3, 1, 5, 4] : List Int) ≤ 5 := ofV_in (l := [1, 1, 2, 3, 1, 5, 4]) (lo := 1) (hi := 5) (by decide) (by decide)
      refine a_region (by kernel_rfl) ?_
      refine op_v' (j_move (evo rfl)) ?_
      refine op_n' (fun ver => j_buildSlice (parts := [(0, .const (.int .i64 1)), (1, .const (.int .i64 1)), (2, .const (.int .i64 2)), (3, .const (.int .i64 3)), (4, .const (.int .i64 1)), (5, .const (.int .i64 5)), (6, .const (.int .i64 4))]) (es := [[_], [_], [_], [_], [_], [_], [_]]) slt46 elt3 rfl rfl (by decide) (by decide) rfl rfl (by simp) rfl) fun v19x4 => ?_
      refine op_v0' (j_call0 (v := .p _) (hp1 := [(0, some (0, .box 90 [.sl _, .p _])), (19, some (v19x4, .row 3 1 _))]) [(0, 0), (19, v19x4)] false [0, 19] ent91 (f_num b (q + 1) [1, 1, 2, 3, 1, 5, 4] hb (by omega) (by decide) (by decide)) ⟨.inl ⟨rfl, rfl⟩, .inl ⟨rfl, rfl⟩, trivial⟩ ⟨⟨rfl, rfl⟩, ⟨rfl, rfl⟩, trivial⟩ rfl rfl (fun h => by cases h) rfl (List.all_eq_true.1 rfl) (.inl rfl) rfl rfl) ?_
      refine op_v' (j_move (evo rfl)) ?_
      refine op_v' (j_build (parts := [(0, .tmp 20), (1, .tmp 21)]) str73 elt73 rfl rfl) ?_
      refine op_n' (fun ver => j_alloc elt73 rfl) fun v7x5 => ?_
      refine op_s' (j_storea_box0 agg73 rfl rfl rfl rfl rfl rfl) ?_
      refine op_nil ?_
      refine a_seq ?_
      refine a_seq ?_
      refine a_region (by kernel_rfl) ?_
      refine op_v' (j_move (evo rfl)) ?_
      refine op_v0' (j_call0 (v := .p _) (hp1 := [(0, some (0, .box 90 [.sl _, .p _]))]) [(0, 0)] false [0] ent85 (f_pick _ _ _ hb (by omega)) ⟨.inl ⟨rfl, rfl⟩, .inl ⟨rfl, rfl⟩, trivial⟩ ⟨⟨rfl, rfl⟩, trivial⟩ rfl rfl (fun h => by cases h) rfl (List.all_eq_true.1 rfl) (.inl rfl) rfl rfl) ?_
      refine op_v' (j_eq rfl rfl) ?_
      refine op_nil ?_
      refine a_cond rfl (fun h3 => ?_) (fun h3 => ?_)
      ·
        have h3r := h3
        try simp only [Bool.not_eq_true', Bool.not_eq_false', Bool.not_not, bne_iff_ne, bne_eq_false_iff_eq, beq_eq_false_iff_ne, beq_iff_eq, ne_eq, decide_eq_true_eq, decide_eq_false_iff_not, Classical.not_not, List.length_map, List.length_take, Int.toNat_natCast, List.length_map, List.length_append, List.length_cons, List.length_nil] at h3
        refine a_region (by kernel_rfl) ?_
        refine op_v' (j_move (evo rfl)) ?_
        refine op_v' (j_neg rfl (by first | omega | (simp only [List.length_map, List.length_take, Int.toNat_natCast, List.length_map, List.length_append, List.length_cons, List.length_nil]; omega)) (by first | omega | (simp only [List.length_map, List.length_take, Int.toNat_natCast, List.length_map, List.length_append, List.length_cons, List.length_nil]; omega))) ?_
        refine op_v' (j_fldp fld73f1 rfl rfl) ?_
        refine op_s' (j_store_box leaf3 rfl rfl (Nat.le_of_ble_eq_true rfl) (evo rfl) rfl) ?_
        refine op_nil ?_
        refine a_region (by kernel_rfl) ?_
        refine op_v' (j_fldp fld42f0 rfl rfl) ?_
        refine op_v' (j_load_box leaf40 rfl rfl rfl) ?_
        refine op_v' (j_loada_box (ys := [.p _, .p _]) agg73 rfl rfl rfl (Nat.le_of_ble_eq_true rfl)) ?_
        refine op_n' (fun ver => j_buildSlice (parts := [(0, .tmp 31)]) (es := [[_, _]]) slt40 elt73 rfl rfl (by decide) (by decide) rfl rfl (by simp) rfl) fun v32x6 => ?_
        refine op_n' (fun ver => j_append_own slt40 elt73 rfl rfl rfl rfl rfl rfl (by rw [maxLen_eq]; first | omega | (simp only [List.length_map, List.length_take, Int.toNat_natCast, List.length_map, List.length_append, List.length_cons, List.length_nil]; omega)) (by first | omega | (simp only [List.length_map, List.length_take, Int.toNat_natCast, List.length_map, List.length_append, List.length_cons, List.length_nil]; omega))) fun v1005x7 => ?_
        refine op_v' (j_fldp fld42f0 rfl rfl) ?_
        refine op_s' (j_store_box leaf40 rfl rfl (Nat.le_of_ble_eq_true rfl) (evo rfl) rfl) ?_
        refine op_nil ?_
        refine a_region (by kernel_rfl) ?_
        refine op_v' (j_move (evo rfl)) ?_
        refine op_v' (j_add rfl rfl (by first | omega | (simp only [List.length_map, List.length_take, Int.toNat_natCast, List.length_map, List.length_append, List.length_cons, List.length_nil]; omega)) (by first | omega | (simp only [List.length_map, List.length_take, Int.toNat_natCast, List.length_map, List.length_append, List.length_cons, List.length_nil]; omega))) ?_
        refine op_v' (j_assign (evo rfl)) ?_
        refine op_nil ?_
        exact ⟨(ts ++ [(ofV b (q + 1) [1, 1, 2, 3, 1, 5, 4], -((k : Int) + 1))], k + 1, q + 3, v1005x7), (by first | exact ⟨by omega, by first | omega | (simp only [List.length_map, List.length_take, Int.toNat_natCast, List.length_map, List.length_append, List.length_cons, List.length_nil]; omega), by omega, by omega, coef_snoc hpre.2.2.2.2 hco⟩ | (dsimp only; exact ⟨by omega, by first | omega | (simp only [List.length_map, List.length_take, Int.toNat_natCast, List.length_map, List.length_append, List.length_cons, List.length_nil]; omega), by omega, by omega, coef_snoc hpre.2.2.2.2 hco⟩)), ⟨⟨rfl, rfl⟩, ⟨rfl, trivial⟩, ⟨rfl, rfl, rowEq (by rw [List.map_append]; rfl), trivial⟩, ⟨rfl, rfl⟩, ⟨rfl, rfl⟩⟩, (by first | exact (by first | omega | (simp only [List.length_map, List.length_take, Int.toNat_natCast, List.length_map, List.length_append, List.length_cons, List.length_nil]; omega)) | (dsimp only; exact (by first | omega | (simp only [List.length_map, List.length_take, Int.toNat_natCast, List.length_map, List.length_append, List.length_cons, List.length_nil]; omega))))⟩
      ·
        have h3r := h3
        try simp only [Bool.not_eq_true', Bool.not_eq_false', Bool.not_not, bne_iff_ne, bne_eq_false_iff_eq, beq_eq_false_iff_ne, beq_iff_eq, ne_eq, decide_eq_true_eq, decide_eq_false_iff_not, Classical.not_not, List.length_map, List.length_take, Int.toNat_natCast, List.length_map, List.length_append, List.length_cons, List.length_nil] at h3
        refine a_skip ?_
        refine a_region (by kernel_rfl) ?_
        refine op_v' (j_fldp fld42f0 rfl rfl) ?_
        refine op_v' (j_load_box leaf40 rfl rfl rfl) ?_
        refine op_v' (j_loada_box (ys := [.p _, .p _]) agg73 rfl rfl rfl (Nat.le_of_ble_eq_true rfl)) ?_
        refine op_n' (fun ver => j_buildSlice (parts := [(0, .tmp 31)]) (es := [[_, _]]) slt40 elt73 rfl rfl (by decide) (by decide) rfl rfl (by simp) rfl) fun v32x8 => ?_
        refine op_n' (fun ver => j_append_own slt40 elt73 rfl rfl rfl rfl rfl rfl (by rw [maxLen_eq]; first | omega | (simp only [List.length_map, List.length_take, Int.toNat_natCast, List.length_map, List.length_append, List.length_cons, List.length_nil]; omega)) (by first | omega | (simp only [List.length_map, List.length_take, Int.toNat_natCast, List.length_map, List.length_append, List.length_cons, List.length_nil]; omega))) fun v1005x9 => ?_
        refine op_v' (j_fldp fld42f0 rfl rfl) ?_
        refine op_s' (j_store_box leaf40 rfl rfl (Nat.le_of_ble_eq_true rfl) (evo rfl) rfl) ?_
        refine op_nil ?_
        refine a_region (by kernel_rfl) ?_
        refine op_v' (j_move (evo rfl)) ?_
        refine op_v' (j_add rfl rfl (by first | omega | (simp only [List.length_map, List.length_take, Int.toNat_natCast, List.length_map, List.length_append, List.length_cons, List.length_nil]; omega)) (by first | omega | (simp only [List.length_map, List.length_take, Int.toNat_natCast, List.length_map, List.length_append, List.length_cons, List.length_nil]; omega))) ?_
        refine op_v' (j_assign (evo rfl)) ?_
        refine op_nil ?_
        exact ⟨(ts ++ [(ofV b (q + 1) [1, 1, 2, 3, 1, 5, 4], (k : Int) + 1)], k + 1, q + 3, v1005x9), (by first | exact ⟨by omega, by first | omega | (simp only [List.length_map, List.length_take, Int.toNat_natCast, List.length_map, List.length_append, List.length_cons, List.length_nil]; omega), by omega, by omega, coef_snoc hpre.2.2.2.2 hco⟩ | (dsimp only; exact ⟨by omega, by first | omega | (simp only [List.length_map, List.length_take, Int.toNat_natCast, List.length_map, List.length_append, List.length_cons, List.length_nil]; omega), by omega, by omega, coef_snoc hpre.2.2.2.2 hco⟩)), ⟨⟨rfl, rfl⟩, ⟨rfl, trivial⟩, ⟨rfl, rfl, rowEq (by rw [List.map_append]; rfl), trivial⟩, ⟨rfl, rfl⟩, ⟨rfl, rfl⟩⟩, (by first | exact (by first | omega | (simp only [List.length_map, List.length_take, Int.toNat_natCast, List.length_map, List.length_append, List.length_cons, List.length_nil]; omega)) | (dsimp only; exact (by first | omega | (simp only [List.length_map, List.length_take, Int.toNat_natCast, List.length_map, List.length_append, List.length_cons, List.length_nil]; omega))))⟩
    ·
      have h2r := h2
      try simp only [Bool.not_eq_true', Bool.not_eq_false', Bool.not_not, bne_iff_ne, bne_eq_false_iff_eq, beq_eq_false_iff_ne, beq_iff_eq, ne_eq, decide_eq_true_eq, decide_eq_false_iff_not, Classical.not_not, List.length_map, List.length_take, Int.toNat_natCast, List.length_map, List.length_append, List.length_cons, List.length_nil] at h2
      refine a_skip ?_
      refine a_region (by kernel_rfl) ?_
      refine op_v' (j_move (evo rfl)) ?_
      refine op_v' (j_add rfl rfl (by first | omega | (simp only [List.length_map, List.length_take, Int.toNat_natCast, List.length_map, List.length_append, List.length_cons, List.length_nil]; omega)) (by first | omega | (simp only [List.length_map, List.length_take, Int.toNat_natCast, List.length_map, List.length_append, List.length_cons, List.length_nil]; omega))) ?_
      refine op_v' (j_assign (evo rfl)) ?_
      refine op_nil ?_
      exact ⟨(ts, k + 1, q + 1, v), (by first | exact ⟨by omega, by omega, by omega, by omega, hpre.2.2.2.2⟩ | (dsimp only; exact ⟨by omega, by omega, by omega, by omega, hpre.2.2.2.2⟩)), ⟨⟨rfl, rfl⟩, ⟨rfl, trivial⟩, ⟨rfl, rfl, rfl, trivial⟩, ⟨rfl, rfl⟩, ⟨rfl, rfl⟩⟩, (by first | exact (by first | omega | (simp only [List.length_map, List.length_take, Int.toNat_natCast, List.length_map, List.length_append, List.length_cons, List.length_nil]; omega)) | (dsimp only; exact (by first | omega | (simp only [List.length_map, List.length_take, Int.toNat_natCast, List.length_map, List.length_append, List.length_cons, List.length_nil]; omega))))⟩
  ·
    have h1r := h1
    try simp only [Bool.not_eq_true', Bool.not_eq_false', Bool.not_not, bne_iff_ne, bne_eq_false_iff_eq, beq_eq_false_iff_ne, beq_iff_eq, ne_eq, decide_eq_true_eq, decide_eq_false_iff_not, Classical.not_not, List.length_map, List.length_take, Int.toNat_natCast, List.length_map, List.length_append, List.length_cons, List.length_nil] at h1
    refine a_exit ?_
    refine a_seq ?_
    have hcw := coef_wide hpre.2.2.2.2 (by decide) (by decide)
    have htt := tot_all hcw
    refine a_region (by kernel_rfl) ?_
    refine op_v' (j_loada_box (ys := [.own 1005 v, .p _]) agg42 rfl rfl rfl (Nat.le_of_ble_eq_true rfl)) ?_
    refine op_v0' (j_call0 (v := .p _) (hp1 := []) [] true [1005] ent76 (f_l1TotalG (ts, 0) hcw (by dsimp only; omega)) ⟨.inr ⟨rfl, view_agg rfl (view_cons (view_own rfl rfl) (view_cons rfl rfl)), rfl⟩, trivial⟩ trivial rfl rfl (fun _ => rfl) rfl (fun _ h => by cases h) (.inr ⟨rfl, by first | exact pl_new1 (fun _ => rfl) | (simp [plO, plV, plV.plL]; done)⟩) rfl rfl) ?_
    refine op_v' (j_assign (evo rfl)) ?_
    refine op_nil ?_
    refine a_seq ?_
    refine a_region (by kernel_rfl) ?_
    refine op_v' (j_move (evo rfl)) ?_
    refine op_n' (fun ver => j_buildSlice (parts := [(0, .const (.int .i64 1)), (1, .const (.int .i64 2)), (2, .const (.int .i64 1)), (3, .const (.int .i64 3)), (4, .const (.int .i64 0))]) (es := [[_], [_], [_], [_], [_]]) slt46 elt3 rfl rfl (by decide) (by decide) rfl rfl (by simp) rfl) fun v38x10 => ?_
    refine op_v0' (j_call0 (v := .p _) (hp1 := [(0, some (0, .box 90 [.sl _, .p _])), (38, some (v38x10, .row 3 1 _))]) [(0, 0), (38, v38x10)] false [0, 38] ent91 (f_num b q [1, 2, 1, 3, 0] hb (by omega) (by decide) (by decide)) ⟨.inl ⟨rfl, rfl⟩, .inl ⟨rfl, rfl⟩, trivial⟩ ⟨⟨rfl, rfl⟩, ⟨rfl, rfl⟩, trivial⟩ rfl rfl (fun h => by cases h) rfl (List.all_eq_true.1 rfl) (.inl rfl) rfl rfl) ?_
    refine op_v' (j_fldp fld42f1 rfl rfl) ?_
    refine op_s' (j_store_box leaf3 rfl rfl (Nat.le_of_ble_eq_true rfl) (evo rfl) rfl) ?_
    refine op_nil ?_
    refine a_seq ?_
    refine a_seq ?_
    refine a_region (by kernel_rfl) ?_
    refine op_v' (j_move (evo rfl)) ?_
    refine op_v0' (j_call0 (v := .p _) (hp1 := [(0, some (0, .box 90 [.sl _, .p _]))]) [(0, 0)] false [0] ent85 (f_pick _ _ _ hb (by omega)) ⟨.inl ⟨rfl, rfl⟩, .inl ⟨rfl, rfl⟩, trivial⟩ ⟨⟨rfl, rfl⟩, trivial⟩ rfl rfl (fun h => by cases h) rfl (List.all_eq_true.1 rfl) (.inl rfl) rfl rfl) ?_
    refine op_v' (j_eq rfl rfl) ?_
    refine op_nil ?_
    refine a_cond rfl (fun h4 => ?_) (fun h4 => ?_)
    ·
      have h4r := h4
      try simp only [Bool.not_eq_true', Bool.not_eq_false', Bool.not_not, bne_iff_ne, bne_eq_false_iff_eq, beq_eq_false_iff_ne, beq_iff_eq, ne_eq, decide_eq_true_eq, decide_eq_false_iff_not, Classical.not_not, List.length_map, List.length_take, Int.toNat_natCast, List.length_map, List.length_append, List.length_cons, List.length_nil] at h4
      refine a_region (by kernel_rfl) ?_
      refine op_v' (j_move (evo rfl)) ?_
      refine op_v' (j_move (evo rfl)) ?_
      refine op_v' (j_add rfl rfl (by first | omega | (simp only [List.length_map, List.length_take, Int.toNat_natCast, List.length_map, List.length_append, List.length_cons, List.length_nil]; omega)) (by first | omega | (simp only [List.length_map, List.length_take, Int.toNat_natCast, List.length_map, List.length_append, List.length_cons, List.length_nil]; omega))) ?_
      refine op_v0' (j_call0 (v := .p _) (hp1 := [(0, some (0, .box 90 [.sl _, .p _]))]) [(0, 0)] false [0] ent85 (f_pick _ _ _ hb (by omega)) ⟨.inl ⟨rfl, rfl⟩, .inl ⟨rfl, rfl⟩, trivial⟩ ⟨⟨rfl, rfl⟩, trivial⟩ rfl rfl (fun h => by cases h) rfl (List.all_eq_true.1 rfl) (.inl rfl) rfl rfl) ?_
      refine op_v' (j_fldp fld42f1 rfl rfl) ?_
      refine op_s' (j_store_box leaf3 rfl rfl (Nat.le_of_ble_eq_true rfl) (evo rfl) rfl) ?_
      refine op_nil ?_
      refine a_seq ?_
      refine a_region (by kernel_rfl) ?_
      refine op_v' (j_loada_box (ys := [.own 1005 v, .p _]) agg42 rfl rfl rfl (Nat.le_of_ble_eq_true rfl)) ?_
      refine op_s' (j_storea_box0 agg42 rfl rfl rfl rfl rfl rfl) ?_
      refine op_nil ?_
      refine a_ret ?_
      exact ⟨[.agg [.own 1005 v, .p _]], .agg [.own 1 0, .p _], [.box 90 [.sl _, .p _]], [.row 73 2 _], [(1005, v)], ⟨⟨_, _, _, _, rfl, rfl, agg42, rfl⟩, trivial⟩, rfl, rfl, ⟨⟨rfl, rfl⟩, ⟨rfl, rfl⟩, trivial⟩, rfl, rfl, ⟨((ts, _), q + 3), ⟨hpre.2.2.2.2, by dsimp only; omega, by dsimp only; omega, by dsimp only; omega⟩, rfl, rfl, rfl⟩⟩
    ·
      have h4r := h4
      try simp only [Bool.not_eq_true', Bool.not_eq_false', Bool.not_not, bne_iff_ne, bne_eq_false_iff_eq, beq_eq_false_iff_ne, beq_iff_eq, ne_eq, decide_eq_true_eq, decide_eq_false_iff_not, Classical.not_not, List.length_map, List.length_take, Int.toNat_natCast, List.length_map, List.length_append, List.length_cons, List.length_nil] at h4
      refine a_skip ?_
      refine a_seq ?_
      refine a_region (by kernel_rfl) ?_
      refine op_v' (j_loada_box (ys := [.own 1005 v, .p _]) agg42 rfl rfl rfl (Nat.le_of_ble_eq_true rfl)) ?_
      refine op_s' (j_storea_box0 agg42 rfl rfl rfl rfl rfl rfl) ?_
      refine op_nil ?_
      refine a_ret ?_
      exact ⟨[.agg [.own 1005 v, .p _]], .agg [.own 1 0, .p _], [.box 90 [.sl _, .p _]], [.row 73 2 _], [(1005, v)], ⟨⟨_, _, _, _, rfl, rfl, agg42, rfl⟩, trivial⟩, rfl, rfl, ⟨⟨rfl, rfl⟩, ⟨rfl, rfl⟩, trivial⟩, rfl, rfl, ⟨((ts, _), q + 2), ⟨hpre.2.2.2.2, by dsimp only; omega, by dsimp only; omega, by dsimp only; omega⟩, rfl, rfl, rfl⟩⟩


theorem f_l1Mutate (b : List Int) (p : Nat) (c : Con) (hb : okB b) (hp : p ≤ 1099511000000) (hcl : c.1.length ≤ 100000) : Fn Try.prog 97 [.ptr 0 0 0, .agg [.sl (c.1.map dT), .p (.int .i64 c.2)]] [.box 90 [.sl (b.map dU), .p (.int .i64 ((p : Nat) : Int))]] (fun rr ii nn => ∃ x : Con × Nat, (x.1.1.length ≤ c.1.length + 1 ∧ p ≤ x.2 ∧ x.2 ≤ p + 2) ∧ rr = .agg [.sl (x.1.1.map dT), .p (.int .i64 x.1.2)] ∧ ii = [.box 90 [.sl (b.map dU), .p (.int .i64 ((x.2 : Nat) : Int))]] ∧ nn = []) := by
  refine fn_of Try.func97 rfl (Nat.le_of_ble_eq_true rfl) fun w X g => ?_
  show AWp _ _ _ ⟨[(0, .ptr 0 0 0), (1, .agg [.sl (c.1.map dT), .p (.int .i64 c.2)])], [(0, some (0, .box 90 [.sl (b.map dU), .p (.int .i64 ((p : Nat) : Int))]))]⟩
  refine a_seq ?_
  refine a_region (by kernel_rfl) ?_
  refine op_n' (fun ver => j_boxa rfl) fun v3x1 => ?_
  refine op_n' (fun ver => j_alloc elt42 rfl) fun v4x2 => ?_
  refine op_nil ?_
  refine a_seq ?_
  refine a_region (by kernel_rfl) ?_
  refine op_v' (j_loada_box (ys := [.sl _, .p _]) agg42 rfl rfl rfl (Nat.le_of_ble_eq_true rfl)) ?_
  refine op_n1' (fun ver => j_call1 (v := .agg [.own 8 ver, .p _]) (hp1 := [(8, some (ver, .row 73 2 _))]) [] false [] ent83 (f_copy c (by omega)) ⟨.inl ⟨rfl, rfl⟩, trivial⟩ trivial rfl rfl rfl (fun h => by cases h) rfl (List.all_eq_true.1 rfl) (.inl rfl) rfl rfl) fun v8x3 => ?_
  refine op_n' (fun ver => j_alloc elt42 rfl) fun v5x4 => ?_
  refine op_s' (j_storea_box0 agg42 rfl rfl rfl rfl rfl rfl) ?_
  refine op_nil ?_
  refine a_seq ?_
  refine a_region (by kernel_rfl) ?_
  refine op_v' (j_fldp fld42f0 rfl rfl) ?_
  refine op_v' (j_load_box leaf40 rfl rfl rfl) ?_
  refine op_v' (j_len_own_map Try.underlying40 rfl rfl) ?_
  refine op_v' (j_assign (evo rfl)) ?_
  refine op_nil ?_
  refine a_seq ?_
  refine a_seq ?_
  refine a_region (by kernel_rfl) ?_
  refine op_v' (j_move (evo rfl)) ?_
  refine op_v0' (j_call0 (v := .p _) (hp1 := [(0, some (0, .box 90 [.sl _, .p _]))]) [(0, 0)] false [0] ent85 (f_pick _ _ _ hb (by omega)) ⟨.inl ⟨rfl, rfl⟩, .inl ⟨rfl, rfl⟩, trivial⟩ ⟨⟨rfl, rfl⟩, trivial⟩ rfl rfl (fun h => by cases h) rfl (List.all_eq_true.1 rfl) (.inl rfl) rfl rfl) ?_
  refine op_nil ?_
  refine a_block ?_
  refine a_seq ?_
  refine a_region (by kernel_rfl) ?_
  refine op_v' (j_eq rfl rfl) ?_
  refine op_v' (j_assign (evo rfl)) ?_
  refine op_nil ?_
  refine a_cond rfl (fun h1 => ?_) (fun h1 => ?_)
  ·
    have h1r := h1
    try simp only [Bool.not_eq_true', Bool.not_eq_false', Bool.not_not, bne_iff_ne, bne_eq_false_iff_eq, beq_eq_false_iff_ne, beq_iff_eq, ne_eq, decide_eq_true_eq, decide_eq_false_iff_not, Classical.not_not, List.length_map, List.length_take, Int.toNat_natCast, List.length_map, List.length_append, List.length_cons, List.length_nil, List.length_set] at h1
    refine a_region (by kernel_rfl) ?_
    refine op_v' (j_move (evo rfl)) ?_
    refine op_n' (fun ver => j_buildSlice (parts := [(0, .const (.int .i64 (-1))), (1, .const (.int .i64 20001)), (2, .const (.int .i64 9223372036854775807))]) (es := [[_], [_], [_]]) slt46 elt3 rfl rfl (by decide) (by decide) rfl rfl (by simp) rfl) fun v17x5 => ?_
    refine op_v0' (j_call0 (v := .p _) (hp1 := [(0, some (0, .box 90 [.sl _, .p _])), (17, some (v17x5, .row 3 1 _))]) [(0, 0), (17, v17x5)] false [0, 17] ent91 (f_num b (p + 1) [-1, 20001, 9223372036854775807] hb (by omega) (by decide) (by decide)) ⟨.inl ⟨rfl, rfl⟩, .inl ⟨rfl, rfl⟩, trivial⟩ ⟨⟨rfl, rfl⟩, ⟨rfl, rfl⟩, trivial⟩ rfl rfl (fun h => by cases h) rfl (List.all_eq_true.1 rfl) (.inl rfl) rfl rfl) ?_
    refine op_v' (j_fldp fld42f1 rfl rfl) ?_
    refine op_s' (j_store_box leaf3 rfl rfl (Nat.le_of_ble_eq_true rfl) (evo rfl) rfl) ?_
    refine op_nil ?_
    refine a_seq ?_
    refine a_region (by kernel_rfl) ?_
    refine op_v' (j_loada_box (ys := [.own 8 v8x3, .p _]) agg42 rfl rfl rfl (Nat.le_of_ble_eq_true rfl)) ?_
    refine op_s' (j_storea_box0 agg42 rfl rfl rfl rfl rfl rfl) ?_
    refine op_nil ?_
    refine a_freezeboxK 0 4 (by decide) ⟨⟨_, rfl⟩, trivial⟩ rfl rfl rfl rfl ?_
    dsimp only [List.set]
    refine a_ret ?_
    exact ⟨[.agg [.sl _, .p _]], .agg [.sl _, .p _], [.box 90 [.sl _, .p _]], [], [], ⟨⟨_, _, _, _, rfl, rfl, agg42, rfl⟩, trivial⟩, rfl, rfl, ⟨⟨rfl, rfl⟩, trivial⟩, rfl, rfl, ⟨((c.1, ofV b (p + 1) [-1, 20001, 9223372036854775807]), p + 2), ⟨by first | omega | (simp only [List.length_map, List.length_take, Int.toNat_natCast, List.length_map, List.length_append, List.length_cons, List.length_nil, List.length_set]; omega), by dsimp only; omega, by dsimp only; omega⟩, rfl, rfl, rfl⟩⟩
  ·
    have h1r := h1
    try simp only [Bool.not_eq_true', Bool.not_eq_false', Bool.not_not, bne_iff_ne, bne_eq_false_iff_eq, beq_eq_false_iff_ne, beq_iff_eq, ne_eq, decide_eq_true_eq, decide_eq_false_iff_not, Classical.not_not, List.length_map, List.length_take, Int.toNat_natCast, List.length_map, List.length_append, List.length_cons, List.length_nil, List.length_set] at h1
    refine a_seq ?_
    refine a_region (by kernel_rfl) ?_
    refine op_v' (j_eq rfl rfl) ?_
    refine op_v' (j_assign (evo rfl)) ?_
    refine op_nil ?_
    refine a_cond rfl (fun h2 => ?_) (fun h2 => ?_)
    ·
      have h2r := h2
      try simp only [Bool.not_eq_true', Bool.not_eq_false', Bool.not_not, bne_iff_ne, bne_eq_false_iff_eq, beq_eq_false_iff_ne, beq_iff_eq, ne_eq, decide_eq_true_eq, decide_eq_false_iff_not, Classical.not_not, List.length_map, List.length_take, Int.toNat_natCast, List.length_map, List.length_append, List.length_cons, List.length_nil, List.length_set] at h2
      refine a_seq ?_
      refine a_region (by kernel_rfl) ?_
      refine op_v' (j_move (evo rfl)) ?_
      refine op_v' (j_gt rfl rfl) ?_
      refine op_nil ?_
      refine a_cond rfl (fun h3 => ?_) (fun h3 => ?_)
      ·
        have h3r := h3
        try simp only [Bool.not_eq_true', Bool.not_eq_false', Bool.not_not, bne_iff_ne, bne_eq_false_iff_eq, beq_eq_false_iff_ne, beq_iff_eq, ne_eq, decide_eq_true_eq, decide_eq_false_iff_not, Classical.not_not, List.length_map, List.length_take, Int.toNat_natCast, List.length_map, List.length_append, List.length_cons, List.length_nil, List.length_set] at h3
        refine a_draw mixed (by kernel_rfl) (by kernel_rfl) fun vf => ?_
        refine d_v' (j_fldp fld42f0 rfl rfl) ?_
        refine d_v' (j_load_box leaf40 rfl rfl rfl) ?_
        refine d_v' (j_move (evo rfl)) ?_
        refine d_n' (fun ver => j_buildSlice (parts := [(0, .const (.int .i64 0)), (1, .const (.int .i64 (-1))), (2, .const (.int .i64 1001))]) (es := [[_], [_], [_]]) slt46 elt3 rfl rfl (by decide) (by decide) rfl rfl (by simp) rfl) ?_
        refine d_v0' (j_call0 (v := .p _) (hp1 := [(0, some (0, .box 90 [.sl _, .p _])), (27, some ((vf 27), .row 3 1 _))]) [(0, 0), (27, (vf 27))] false [0, 27] ent91 (f_num b (p + 1) [0, -1, 1001] hb (by omega) (by decide) (by decide)) ⟨.inl ⟨rfl, rfl⟩, .inl ⟨rfl, rfl⟩, trivial⟩ ⟨⟨rfl, rfl⟩, ⟨rfl, rfl⟩, trivial⟩ rfl rfl (fun h => by cases h) rfl (List.all_eq_true.1 rfl) (.inl rfl) rfl rfl) ?_
        refine d_v' (j_elem_ownN slt40 rfl rfl rfl rfl (by first | omega | (simp only [List.length_map, List.length_take, Int.toNat_natCast, List.length_map, List.length_append, List.length_cons, List.length_nil, List.length_set]; omega))) ?_
        refine d_v' (j_fldpel fld73f0 rfl rfl) ?_
        refine d_s' (j_storef_row leaf3 rfl rfl (at_map (by first | omega | (simp only [List.length_map, List.length_take, Int.toNat_natCast, List.length_map, List.length_append, List.length_cons, List.length_nil, List.length_set]; omega))) (Nat.le_of_ble_eq_true rfl) (evo rfl) rfl rfl) ?_
        refine d_nil (by kernel_rfl) (by kernel_rfl) ?_
        refine a_row 8 (es' := (c.1.set 0 (ofV b (p + 1) [0, -1, 1001], (c.1.getD 0 default).2)).map dT) rfl (set_coef (i := 0) (by omega)) ?_
        refine a_seq ?_
        refine a_region (by kernel_rfl) ?_
        refine op_v' (j_loada_box (ys := [.own 8 v8x3, .p _]) agg42 rfl rfl rfl (Nat.le_of_ble_eq_true rfl)) ?_
        refine op_s' (j_storea_box0 agg42 rfl rfl rfl rfl rfl rfl) ?_
        refine op_nil ?_
        refine a_freezeboxK 0 4 (by decide) ⟨⟨_, rfl⟩, trivial⟩ rfl rfl rfl rfl ?_
        dsimp only [List.set]
        refine a_ret ?_
        exact ⟨[.agg [.sl _, .p _]], .agg [.sl _, .p _], [.box 90 [.sl _, .p _]], [], [], ⟨⟨_, _, _, _, rfl, rfl, agg42, rfl⟩, trivial⟩, rfl, rfl, ⟨⟨rfl, rfl⟩, trivial⟩, rfl, rfl, ⟨((c.1.set 0 (ofV b (p + 1) [0, -1, 1001], (c.1.getD 0 default).2), c.2), p + 2), ⟨by first | omega | (simp only [List.length_map, List.length_take, Int.toNat_natCast, List.length_map, List.length_append, List.length_cons, List.length_nil, List.length_set]; omega), by dsimp only; omega, by dsimp only; omega⟩, rfl, rfl, rfl⟩⟩
      ·
        have h3r := h3
        try simp only [Bool.not_eq_true', Bool.not_eq_false', Bool.not_not, bne_iff_ne, bne_eq_false_iff_eq, beq_eq_false_iff_ne, beq_iff_eq, ne_eq, decide_eq_true_eq, decide_eq_false_iff_not, Classical.not_not, List.length_map, List.length_take, Int.toNat_natCast, List.length_map, List.length_append, List.length_cons, List.length_nil, List.length_set] at h3
        refine a_skip ?_
        refine a_seq ?_
        refine a_region (by kernel_rfl) ?_
        refine op_v' (j_loada_box (ys := [.own 8 v8x3, .p _]) agg42 rfl rfl rfl (Nat.le_of_ble_eq_true rfl)) ?_
        refine op_s' (j_storea_box0 agg42 rfl rfl rfl rfl rfl rfl) ?_
        refine op_nil ?_
        refine a_freezeboxK 0 4 (by decide) ⟨⟨_, rfl⟩, trivial⟩ rfl rfl rfl rfl ?_
        dsimp only [List.set]
        refine a_ret ?_
        exact ⟨[.agg [.sl _, .p _]], .agg [.sl _, .p _], [.box 90 [.sl _, .p _]], [], [], ⟨⟨_, _, _, _, rfl, rfl, agg42, rfl⟩, trivial⟩, rfl, rfl, ⟨⟨rfl, rfl⟩, trivial⟩, rfl, rfl, ⟨(c, p + 1), ⟨by first | omega | (simp only [List.length_map, List.length_take, Int.toNat_natCast, List.length_map, List.length_append, List.length_cons, List.length_nil, List.length_set]; omega), by dsimp only; omega, by dsimp only; omega⟩, rfl, rfl, rfl⟩⟩
    ·
      have h2r := h2
      try simp only [Bool.not_eq_true', Bool.not_eq_false', Bool.not_not, bne_iff_ne, bne_eq_false_iff_eq, beq_eq_false_iff_ne, beq_iff_eq, ne_eq, decide_eq_true_eq, decide_eq_false_iff_not, Classical.not_not, List.length_map, List.length_take, Int.toNat_natCast, List.length_map, List.length_append, List.length_cons, List.length_nil, List.length_set] at h2
      refine a_seq ?_
      refine a_region (by kernel_rfl) ?_
      refine op_v' (j_eq rfl rfl) ?_
      refine op_v' (j_assign (evo rfl)) ?_
      refine op_nil ?_
      refine a_cond rfl (fun h4 => ?_) (fun h4 => ?_)
      ·
        have h4r := h4
        try simp only [Bool.not_eq_true', Bool.not_eq_false', Bool.not_not, bne_iff_ne, bne_eq_false_iff_eq, beq_eq_false_iff_ne, beq_iff_eq, ne_eq, decide_eq_true_eq, decide_eq_false_iff_not, Classical.not_not, List.length_map, List.length_take, Int.toNat_natCast, List.length_map, List.length_append, List.length_cons, List.length_nil, List.length_set] at h4
        refine a_seq ?_
        refine a_region (by kernel_rfl) ?_
        refine op_v' (j_move (evo rfl)) ?_
        refine op_v' (j_gt rfl rfl) ?_
        refine op_nil ?_
        refine a_cond rfl (fun h5 => ?_) (fun h5 => ?_)
        ·
          have h5r := h5
          try simp only [Bool.not_eq_true', Bool.not_eq_false', Bool.not_not, bne_iff_ne, bne_eq_false_iff_eq, beq_eq_false_iff_ne, beq_iff_eq, ne_eq, decide_eq_true_eq, decide_eq_false_iff_not, Classical.not_not, List.length_map, List.length_take, Int.toNat_natCast, List.length_map, List.length_append, List.length_cons, List.length_nil, List.length_set] at h5
          refine a_draw mixed (by kernel_rfl) (by kernel_rfl) fun vf => ?_
          refine d_v' (j_fldp fld42f0 rfl rfl) ?_
          refine d_v' (j_load_box leaf40 rfl rfl rfl) ?_
          refine d_v' (j_move (evo rfl)) ?_
          refine d_v' (j_sub rfl rfl (by first | omega | (simp only [List.length_map, List.length_take, Int.toNat_natCast, List.length_map, List.length_append, List.length_cons, List.length_nil, List.length_set]; omega)) (by first | omega | (simp only [List.length_map, List.length_take, Int.toNat_natCast, List.length_map, List.length_append, List.length_cons, List.length_nil, List.length_set]; omega))) ?_
          refine d_v' (j_move (evo rfl)) ?_
          refine d_n' (fun ver => j_buildSlice (parts := [(0, .const (.int .i64 0)), (1, .const (.int .i64 13)), (2, .const (.int .i64 (-13))), (3, .const (.int .i64 1)), (4, .const (.int .i64 (-9223372036854775808)))]) (es := [[_], [_], [_], [_], [_]]) slt46 elt3 rfl rfl (by decide) (by decide) rfl rfl (by simp) rfl) ?_
          refine d_v0' (j_call0 (v := .p _) (hp1 := [(0, some (0, .box 90 [.sl _, .p _])), (40, some ((vf 40), .row 3 1 _))]) [(0, 0), (40, (vf 40))] false [0, 40] ent91 (f_num b (p + 1) [0, 13, -13, 1, -9223372036854775808] hb (by omega) (by decide) (by decide)) ⟨.inl ⟨rfl, rfl⟩, .inl ⟨rfl, rfl⟩, trivial⟩ ⟨⟨rfl, rfl⟩, ⟨rfl, rfl⟩, trivial⟩ rfl rfl (fun h => by cases h) rfl (List.all_eq_true.1 rfl) (.inl rfl) rfl rfl) ?_
          refine d_v' (j_elem_ownN (n := c.1.length - 1) slt40 rfl rfl rfl (by first | omega | (simp only [List.length_map, List.length_take, Int.toNat_natCast, List.length_map, List.length_append, List.length_cons, List.length_nil, List.length_set]; omega)) (by first | omega | (simp only [List.length_map, List.length_take, Int.toNat_natCast, List.length_map, List.length_append, List.length_cons, List.length_nil, List.length_set]; omega))) ?_
          refine d_v' (j_fldpel fld73f1 rfl rfl) ?_
          refine d_s' (j_storef_row leaf3 rfl rfl (at_map (by first | omega | (simp only [List.length_map, List.length_take, Int.toNat_natCast, List.length_map, List.length_append, List.length_cons, List.length_nil, List.length_set]; omega))) (Nat.le_of_ble_eq_true rfl) (evo rfl) rfl rfl) ?_
          refine d_nil (by kernel_rfl) (by kernel_rfl) ?_
          refine a_row 8 (es' := (c.1.set (c.1.length - 1) ((c.1.getD (c.1.length - 1) default).1, ofV b (p + 1) [0, 13, -13, 1, -9223372036854775808])).map dT) rfl (set_lit (by omega)) ?_
          refine a_seq ?_
          refine a_region (by kernel_rfl) ?_
          refine op_v' (j_loada_box (ys := [.own 8 v8x3, .p _]) agg42 rfl rfl rfl (Nat.le_of_ble_eq_true rfl)) ?_
          refine op_s' (j_storea_box0 agg42 rfl rfl rfl rfl rfl rfl) ?_
          refine op_nil ?_
          refine a_freezeboxK 0 4 (by decide) ⟨⟨_, rfl⟩, trivial⟩ rfl rfl rfl rfl ?_
          dsimp only [List.set]
          refine a_ret ?_
          exact ⟨[.agg [.sl _, .p _]], .agg [.sl _, .p _], [.box 90 [.sl _, .p _]], [], [], ⟨⟨_, _, _, _, rfl, rfl, agg42, rfl⟩, trivial⟩, rfl, rfl, ⟨⟨rfl, rfl⟩, trivial⟩, rfl, rfl, ⟨((c.1.set (c.1.length - 1) ((c.1.getD (c.1.length - 1) default).1, ofV b (p + 1) [0, 13, -13, 1, -9223372036854775808]), c.2), p + 2), ⟨by first | omega | (simp only [List.length_map, List.length_take, Int.toNat_natCast, List.length_map, List.length_append, List.length_cons, List.length_nil, List.length_set]; omega), by dsimp only; omega, by dsimp only; omega⟩, rfl, rfl, rfl⟩⟩
        ·
          have h5r := h5
          try simp only [Bool.not_eq_true', Bool.not_eq_false', Bool.not_not, bne_iff_ne, bne_eq_false_iff_eq, beq_eq_false_iff_ne, beq_iff_eq, ne_eq, decide_eq_true_eq, decide_eq_false_iff_not, Classical.not_not, List.length_map, List.length_take, Int.toNat_natCast, List.length_map, List.length_append, List.length_cons, List.length_nil, List.length_set] at h5
          refine a_skip ?_
          refine a_seq ?_
          refine a_region (by kernel_rfl) ?_
          refine op_v' (j_loada_box (ys := [.own 8 v8x3, .p _]) agg42 rfl rfl rfl (Nat.le_of_ble_eq_true rfl)) ?_
          refine op_s' (j_storea_box0 agg42 rfl rfl rfl rfl rfl rfl) ?_
          refine op_nil ?_
          refine a_freezeboxK 0 4 (by decide) ⟨⟨_, rfl⟩, trivial⟩ rfl rfl rfl rfl ?_
          dsimp only [List.set]
          refine a_ret ?_
          exact ⟨[.agg [.sl _, .p _]], .agg [.sl _, .p _], [.box 90 [.sl _, .p _]], [], [], ⟨⟨_, _, _, _, rfl, rfl, agg42, rfl⟩, trivial⟩, rfl, rfl, ⟨⟨rfl, rfl⟩, trivial⟩, rfl, rfl, ⟨(c, p + 1), ⟨by first | omega | (simp only [List.length_map, List.length_take, Int.toNat_natCast, List.length_map, List.length_append, List.length_cons, List.length_nil, List.length_set]; omega), by dsimp only; omega, by dsimp only; omega⟩, rfl, rfl, rfl⟩⟩
      ·
        have h4r := h4
        try simp only [Bool.not_eq_true', Bool.not_eq_false', Bool.not_not, bne_iff_ne, bne_eq_false_iff_eq, beq_eq_false_iff_ne, beq_iff_eq, ne_eq, decide_eq_true_eq, decide_eq_false_iff_not, Classical.not_not, List.length_map, List.length_take, Int.toNat_natCast, List.length_map, List.length_append, List.length_cons, List.length_nil, List.length_set] at h4
        refine a_seq ?_
        refine a_region (by kernel_rfl) ?_
        refine op_v' (j_eq rfl rfl) ?_
        refine op_v' (j_assign (evo rfl)) ?_
        refine op_nil ?_
        refine a_cond rfl (fun h6 => ?_) (fun h6 => ?_)
        ·
          have h6r := h6
          try simp only [Bool.not_eq_true', Bool.not_eq_false', Bool.not_not, bne_iff_ne, bne_eq_false_iff_eq, beq_eq_false_iff_ne, beq_iff_eq, ne_eq, decide_eq_true_eq, decide_eq_false_iff_not, Classical.not_not, List.length_map, List.length_take, Int.toNat_natCast, List.length_map, List.length_append, List.length_cons, List.length_nil, List.length_set] at h6
          refine a_region (by kernel_rfl) ?_
          refine op_v' (j_fldp fld42f0 rfl rfl) ?_
          refine op_v' (j_load_box leaf40 rfl rfl rfl) ?_
          refine op_v' (j_build (parts := [(0, .const (.int .i64 1)), (1, .const (.int .i64 1))]) str73 elt73 rfl rfl) ?_
          refine op_n' (fun ver => j_buildSlice (parts := [(0, .tmp 48)]) (es := [[_, _]]) slt40 elt73 rfl rfl (by decide) (by decide) rfl rfl (by simp) rfl) fun v49x6 => ?_
          refine op_n' (fun ver => j_append_own slt40 elt73 rfl rfl rfl rfl rfl rfl (by rw [maxLen_eq]; first | omega | (simp only [List.length_map, List.length_take, Int.toNat_natCast, List.length_map, List.length_append, List.length_cons, List.length_nil, List.length_set]; omega)) (by first | omega | (simp only [List.length_map, List.length_take, Int.toNat_natCast, List.length_map, List.length_append, List.length_cons, List.length_nil, List.length_set]; omega))) fun v8x7 => ?_
          refine op_v' (j_fldp fld42f0 rfl rfl) ?_
          refine op_s' (j_store_box leaf40 rfl rfl (Nat.le_of_ble_eq_true rfl) (evo rfl) rfl) ?_
          refine op_nil ?_
          refine a_seq ?_
          refine a_region (by kernel_rfl) ?_
          refine op_v' (j_loada_box (ys := [.own 8 v8x7, .p _]) agg42 rfl rfl rfl (Nat.le_of_ble_eq_true rfl)) ?_
          refine op_s' (j_storea_box0 agg42 rfl rfl rfl rfl rfl rfl) ?_
          refine op_nil ?_
          refine a_freezeboxK 0 4 (by decide) ⟨⟨_, rfl⟩, trivial⟩ rfl rfl rfl rfl ?_
          dsimp only [List.set]
          refine a_ret ?_
          exact ⟨[.agg [.sl _, .p _]], .agg [.sl _, .p _], [.box 90 [.sl _, .p _]], [], [], ⟨⟨_, _, _, _, rfl, rfl, agg42, rfl⟩, trivial⟩, rfl, rfl, ⟨⟨rfl, rfl⟩, trivial⟩, rfl, rfl, ⟨((c.1 ++ [(1, 1)], c.2), p + 1), ⟨by first | omega | (simp only [List.length_map, List.length_take, Int.toNat_natCast, List.length_map, List.length_append, List.length_cons, List.length_nil, List.length_set]; omega), by dsimp only; omega, by dsimp only; omega⟩, by rw [List.map_append]; rfl, rfl, rfl⟩⟩
        ·
          have h6r := h6
          try simp only [Bool.not_eq_true', Bool.not_eq_false', Bool.not_not, bne_iff_ne, bne_eq_false_iff_eq, beq_eq_false_iff_ne, beq_iff_eq, ne_eq, decide_eq_true_eq, decide_eq_false_iff_not, Classical.not_not, List.length_map, List.length_take, Int.toNat_natCast, List.length_map, List.length_append, List.length_cons, List.length_nil, List.length_set] at h6
          refine a_skip ?_
          refine a_seq ?_
          refine a_region (by kernel_rfl) ?_
          refine op_v' (j_loada_box (ys := [.own 8 v8x3, .p _]) agg42 rfl rfl rfl (Nat.le_of_ble_eq_true rfl)) ?_
          refine op_s' (j_storea_box0 agg42 rfl rfl rfl rfl rfl rfl) ?_
          refine op_nil ?_
          refine a_freezeboxK 0 4 (by decide) ⟨⟨_, rfl⟩, trivial⟩ rfl rfl rfl rfl ?_
          dsimp only [List.set]
          refine a_ret ?_
          exact ⟨[.agg [.sl _, .p _]], .agg [.sl _, .p _], [.box 90 [.sl _, .p _]], [], [], ⟨⟨_, _, _, _, rfl, rfl, agg42, rfl⟩, trivial⟩, rfl, rfl, ⟨⟨rfl, rfl⟩, trivial⟩, rfl, rfl, ⟨(c, p + 1), ⟨by first | omega | (simp only [List.length_map, List.length_take, Int.toNat_natCast, List.length_map, List.length_append, List.length_cons, List.length_nil, List.length_set]; omega), by dsimp only; omega, by dsimp only; omega⟩, rfl, rfl, rfl⟩⟩


theorem f_l15Draw (b : List Int) (p : Nat) (hb : okB b) (hp : p ≤ 1099510000000) : Fn Try.prog 98 [.ptr 0 0 0] [.box 90 [.sl (b.map dU), .p (.int .i64 ((p : Nat) : Int))]] (fun rr ii nn => ∃ x : Con × Nat, ((∀ t ∈ x.1.1, 1 ≤ t.1 ∧ t.1 ≤ 15) ∧ x.1.1.length ≤ 12 ∧ p ≤ x.2 ∧ x.2 ≤ p + 50) ∧ rr = .agg [.sl (x.1.1.map dT), .p (.int .i64 x.1.2)] ∧ ii = [.box 90 [.sl (b.map dU), .p (.int .i64 ((x.2 : Nat) : Int))]] ∧ nn = []) := by
  refine fn_of Try.func98 rfl (Nat.le_of_ble_eq_true rfl) fun w X g => ?_
  show AWp _ _ _ ⟨[(0, .ptr 0 0 0)], [(0, some (0, .box 90 [.sl (b.map dU), .p (.int .i64 ((p : Nat) : Int))]))]⟩
  refine a_seq ?_
  refine a_region (by kernel_rfl) ?_
  refine op_n' (fun ver => j_alloc elt42 rfl) fun v2x1 => ?_
  refine op_nil ?_
  refine a_seq ?_
  refine a_region (by kernel_rfl) ?_
  refine op_v' (j_move (evo rfl)) ?_
  refine op_v' (j_move (evo rfl)) ?_
  refine op_n' (fun ver => j_buildSlice (parts := [(0, .const (.int .i64 4)), (1, .const (.int .i64 5)), (2, .const (.int .i64 3)), (3, .const (.int .i64 8))]) (es := [[_], [_], [_], [_]]) slt46 elt3 rfl rfl (by decide) (by decide) rfl rfl (by simp) rfl) fun v8x2 => ?_
  refine op_v0' (j_call0 (v := .p _) (hp1 := [(0, some (0, .box 90 [.sl _, .p _])), (8, some (v8x2, .row 3 1 _))]) [(0, 0), (8, v8x2)] false [0, 8] ent91 (f_num b p [4, 5, 3, 8] hb (by omega) (by decide) (by decide)) ⟨.inl ⟨rfl, rfl⟩, .inl ⟨rfl, rfl⟩, trivial⟩ ⟨⟨rfl, rfl⟩, ⟨rfl, rfl⟩, trivial⟩ rfl rfl (fun h => by cases h) rfl (List.all_eq_true.1 rfl) (.inl rfl) rfl rfl) ?_
  refine op_callE1 (v := fun x ver => .agg [.own 10 ver, .p _]) (hp1 := fun x ver => [(0, some (0, .box 90 [.sl _, .p _])), (10, some (ver, .row 73 2 _))]) [(0, 0)] false ent100 (f_l1Draw b (p + 1) (ofV b p [4, 5, 3, 8]) hb (by omega) (by have := ofV_in (b := b) (p := p) (l := [4, 5, 3, 8]) (lo := 0) (hi := 12) (by decide) (by decide); omega)) ⟨.inl ⟨rfl, rfl⟩, .inl ⟨rfl, rfl⟩, trivial⟩ ⟨⟨rfl, rfl⟩, trivial⟩ rfl rfl (fun _ => rfl) (fun _ => rfl) (.inl rfl) (fun _ _ => rfl) (fun _ _ => rfl) ?_
  rintro ⟨⟨ts10, bd10⟩, q10⟩ ⟨hc10, hl10, hq10⟩ v10x3
  try dsimp only at hc10
  try dsimp only at hl10
  try dsimp only at hq10
  dsimp only [List.cons_append, List.nil_append]
  refine op_n' (fun ver => j_alloc elt42 rfl) fun v3x4 => ?_
  refine op_s' (j_storea_box0 agg42 rfl rfl rfl rfl rfl rfl) ?_
  refine op_nil ?_
  refine a_seq ?_
  have hkk : (1 : Int) ≤ ofV b q10 ([1, 2, 3, 1] : List Int) ∧ ofV b q10 ([1, 2, 3, 1] : List Int) ≤ 3 := ofV_in (l := [1, 2, 3, 1]) (lo := 1) (hi := 3) (by decide) (by decide)
  have hsc := scl_coef hc10 hkk
  have hcw := coef_wide hsc (by decide) (by decide)
  have htt := tot_all hcw
  rw [List.length_map] at htt
  refine a_region (by kernel_rfl) ?_
  refine op_v' (j_move (evo rfl)) ?_
  refine op_n' (fun ver => j_buildSlice (parts := [(0, .const (.int .i64 1)), (1, .const (.int .i64 2)), (2, .const (.int .i64 3)), (3, .const (.int .i64 1))]) (es := [[_], [_], [_], [_]]) slt46 elt3 rfl rfl (by decide) (by decide) rfl rfl (by simp) rfl) fun v12x5 => ?_
  refine op_v0' (j_call0 (v := .p _) (hp1 := [(0, some (0, .box 90 [.sl _, .p _])), (12, some (v12x5, .row 3 1 _))]) [(0, 0), (12, v12x5)] false [0, 12] ent91 (f_num b q10 [1, 2, 3, 1] hb (by omega) (by decide) (by decide)) ⟨.inl ⟨rfl, rfl⟩, .inl ⟨rfl, rfl⟩, trivial⟩ ⟨⟨rfl, rfl⟩, ⟨rfl, rfl⟩, trivial⟩ rfl rfl (fun h => by cases h) rfl (List.all_eq_true.1 rfl) (.inl rfl) rfl rfl) ?_
  refine op_v' (j_assign (evo rfl)) ?_
  refine op_nil ?_
  refine a_seq ?_
  refine a_seq ?_
  refine a_region (by kernel_rfl) ?_
  refine op_v' (j_assign (evo rfl)) ?_
  refine op_nil ?_
  refine a_block ?_
  refine a_loopF' (ι := Nat) (fun k => k ≤ ts10.length) (fun k r => (5, .p (.int .i64 ((k : Nat)))) :: r) (fun k r => (10, some (v10x3, .row 73 2 (wo dT (ts10.map (sclT (ofV b q10 [1, 2, 3, 1]))) ts10 k))) :: r) (fun k => ts10.length - k) (fun _ _ => rfl) (fun _ _ => rfl) 0 (by first | omega | (simp only [List.length_map, List.length_take, Int.toNat_natCast, List.length_map, wo_length]; omega)) ⟨⟨rfl, rfl⟩, ⟨rfl, trivial⟩, ⟨rowEq wo_zero.symm, trivial⟩, ⟨rfl, rfl⟩, ⟨rfl, rfl⟩⟩ ?_
  intro k hpre0
  refine a_seq ?_
  refine a_seq ?_
  refine a_region (by kernel_rfl) ?_
  refine op_v' (j_move (evo rfl)) ?_
  refine op_v' (j_fldp fld42f0 rfl rfl) ?_
  refine op_v' (j_load_box leaf40 rfl rfl rfl) ?_
  refine op_v' (j_len_own Try.underlying40 rfl rfl) ?_
  refine op_v' (j_lt rfl rfl) ?_
  refine op_nil ?_
  refine a_cond rfl (fun h1 => ?_) (fun h1 => ?_)
  ·
    have h1r := h1
    try simp only [Bool.not_eq_true', Bool.not_eq_false', Bool.not_not, bne_iff_ne, bne_eq_false_iff_eq, beq_eq_false_iff_ne, beq_iff_eq, ne_eq, decide_eq_true_eq, decide_eq_false_iff_not, Classical.not_not, List.length_map, List.length_take, Int.toNat_natCast, List.length_map, wo_length] at h1
    refine a_skip ?_
    refine a_seq ?_
    refine a_block ?_
    have hti := hc10 _ (getD_mem (d := default) (l := ts10) (k := k) (by first | omega | (simp only [List.length_map, List.length_take, Int.toNat_natCast, List.length_map, wo_length]; omega)))
    have hmu : (ts10.getD k default).1 * ofV b q10 [1, 2, 3, 1] ≤ 15 ∧ 1 ≤ (ts10.getD k default).1 * ofV b q10 [1, 2, 3, 1] := by have := hsc ((sclT (ofV b q10 [1, 2, 3, 1])) (ts10.getD k default)) (List.mem_map.2 ⟨_, getD_mem (by first | omega | (simp only [List.length_map, List.length_take, Int.toNat_natCast, List.length_map, wo_length]; omega)), rfl⟩); unfold sclT at this; dsimp only at this; omega
    refine a_draw mixed (by kernel_rfl) (by kernel_rfl) fun vf => ?_
    refine d_v' (j_fldp fld42f0 rfl rfl) ?_
    refine d_v' (j_load_box leaf40 rfl rfl rfl) ?_
    refine d_v' (j_move (evo rfl)) ?_
    refine d_v' (j_fldp fld42f0 rfl rfl) ?_
    refine d_v' (j_load_box leaf40 rfl rfl rfl) ?_
    refine d_v' (j_move (evo rfl)) ?_
    refine d_v' (j_elem_ownN slt40 rfl rfl rfl rfl (by first | omega | (simp only [List.length_map, List.length_take, Int.toNat_natCast, List.length_map, wo_length]; omega))) ?_
    refine d_v' (j_fldpel fld73f0 rfl rfl) ?_
    refine d_v' (j_load_pel leaf3 rfl rfl (wo_at (by first | omega | (simp only [List.length_map, List.length_take, Int.toNat_natCast, List.length_map, wo_length]; omega)) (by first | omega | (simp only [List.length_map, List.length_take, Int.toNat_natCast, List.length_map, wo_length]; omega))) rfl) ?_
    refine d_v' (j_move (evo rfl)) ?_
    refine d_v' (j_mul rfl rfl (by first | omega | (simp only [List.length_map, List.length_take, Int.toNat_natCast, List.length_map, wo_length]; omega)) (by first | omega | (simp only [List.length_map, List.length_take, Int.toNat_natCast, List.length_map, wo_length]; omega))) ?_
    refine d_v' (j_elem_ownN slt40 rfl rfl rfl rfl (by first | omega | (simp only [List.length_map, List.length_take, Int.toNat_natCast, List.length_map, wo_length]; omega))) ?_
    refine d_v' (j_fldpel fld73f0 rfl rfl) ?_
    refine d_s' (j_storef_row leaf3 rfl rfl (wo_at (by first | omega | (simp only [List.length_map, List.length_take, Int.toNat_natCast, List.length_map, wo_length]; omega)) (by first | omega | (simp only [List.length_map, List.length_take, Int.toNat_natCast, List.length_map, wo_length]; omega))) (Nat.le_of_ble_eq_true rfl) (evo rfl) rfl rfl) ?_
    refine d_nil (by kernel_rfl) (by kernel_rfl) ?_
    refine a_region (by kernel_rfl) ?_
    refine op_v' (j_move (evo rfl)) ?_
    refine op_v' (j_add rfl rfl (by first | omega | (simp only [List.length_map, List.length_take, Int.toNat_natCast, List.length_map, wo_length]; omega)) (by first | omega | (simp only [List.length_map, List.length_take, Int.toNat_natCast, List.length_map, wo_length]; omega))) ?_
    refine op_v' (j_assign (evo rfl)) ?_
    refine op_nil ?_
    exact ⟨k + 1, (by first | omega | (simp only [List.length_map, List.length_take, Int.toNat_natCast, List.length_map, wo_length]; omega)), ⟨⟨rfl, rfl⟩, ⟨rfl, trivial⟩, ⟨rowEq (wo_set (d := default) (x := sclT (ofV b q10 [1, 2, 3, 1]) (ts10.getD k default)) (by first | omega | (simp only [List.length_map, List.length_take, Int.toNat_natCast, List.length_map, wo_length]; omega)) (by first | omega | (simp only [List.length_map, List.length_take, Int.toNat_natCast, List.length_map, wo_length]; omega)) (mapD_at (by first | omega | (simp only [List.length_map, List.length_take, Int.toNat_natCast, List.length_map, wo_length]; omega)))), trivial⟩, ⟨rfl, rfl⟩, ⟨rfl, rfl⟩⟩, (by first | omega | (simp only [List.length_map, List.length_take, Int.toNat_natCast, List.length_map, wo_length]; omega))⟩
  ·
    have h1r := h1
    try simp only [Bool.not_eq_true', Bool.not_eq_false', Bool.not_not, bne_iff_ne, bne_eq_false_iff_eq, beq_eq_false_iff_ne, beq_iff_eq, ne_eq, decide_eq_true_eq, decide_eq_false_iff_not, Classical.not_not, List.length_map, List.length_take, Int.toNat_natCast, List.length_map, wo_length] at h1
    refine a_exit ?_
    refine a_seq ?_
    refine a_row 10 (es' := (ts10.map (sclT (ofV b q10 [1, 2, 3, 1]))).map dT) rfl (wo_all (by first | omega | (simp only [List.length_map, List.length_take, Int.toNat_natCast, List.length_map, wo_length]; omega)) (by first | omega | (simp only [List.length_map, List.length_take, Int.toNat_natCast, List.length_map, wo_length]; omega))) ?_
    refine a_region (by kernel_rfl) ?_
    refine op_v' (j_move (evo rfl)) ?_
    refine op_v' (j_loada_box (ys := [.own 10 v10x3, .p _]) agg42 rfl rfl rfl (Nat.le_of_ble_eq_true rfl)) ?_
    refine op_v0' (j_call0 (v := .p _) (hp1 := []) [] true [10] ent76 (f_l1TotalG ((ts10.map (sclT (ofV b q10 [1, 2, 3, 1]))), bd10) hcw (by rw [List.length_map]; omega)) ⟨.inr ⟨rfl, view_agg rfl (view_cons (view_own rfl rfl) (view_cons rfl rfl)), rfl⟩, trivial⟩ trivial rfl rfl (fun _ => rfl) rfl (fun _ h => by cases h) (.inr ⟨rfl, by first | exact pl_new1 (fun _ => rfl) | (simp [plO, plV, plV.plL]; done)⟩) rfl rfl) ?_
    refine op_v' (j_add rfl rfl (by first | omega | (simp only [List.length_map, List.length_take, Int.toNat_natCast, List.length_map, wo_length]; omega)) (by first | omega | (simp only [List.length_map, List.length_take, Int.toNat_natCast, List.length_map, wo_length]; omega))) ?_
    refine op_v0' (j_call0 (v := .p _) (hp1 := [(0, some (0, .box 90 [.sl _, .p _]))]) [(0, 0)] false [0] ent85 (f_pick _ _ _ hb (by omega)) ⟨.inl ⟨rfl, rfl⟩, .inl ⟨rfl, rfl⟩, trivial⟩ ⟨⟨rfl, rfl⟩, trivial⟩ rfl rfl (fun h => by cases h) rfl (List.all_eq_true.1 rfl) (.inl rfl) rfl rfl) ?_
    refine op_v' (j_fldp fld42f1 rfl rfl) ?_
    refine op_s' (j_store_box leaf3 rfl rfl (Nat.le_of_ble_eq_true rfl) (evo rfl) rfl) ?_
    refine op_nil ?_
    refine a_seq ?_
    refine a_region (by kernel_rfl) ?_
    refine op_v' (j_loada_box (ys := [.own 10 v10x3, .p _]) agg42 rfl rfl rfl (Nat.le_of_ble_eq_true rfl)) ?_
    refine op_s' (j_storea_box0 agg42 rfl rfl rfl rfl rfl rfl) ?_
    refine op_nil ?_
    refine a_freezeboxK 0 2 (by decide) ⟨⟨_, rfl⟩, trivial⟩ rfl rfl rfl rfl ?_
    dsimp only [List.set]
    refine a_ret ?_
    exact ⟨[.agg [.sl _, .p _]], .agg [.sl _, .p _], [.box 90 [.sl _, .p _]], [], [], ⟨⟨_, _, _, _, rfl, rfl, agg42, rfl⟩, trivial⟩, rfl, rfl, ⟨⟨rfl, rfl⟩, trivial⟩, rfl, rfl, ⟨(((ts10.map (sclT (ofV b q10 [1, 2, 3, 1]))), _), q10 + 2), ⟨hsc, by first | omega | (simp only [List.length_map, List.length_take, Int.toNat_natCast, List.length_map, wo_length]; omega), by dsimp only; omega, by dsimp only; omega⟩, rfl, rfl, rfl⟩⟩


theorem f_dST (b : List Int) (hb : ∀ a ∈ b, 0 ≤ a ∧ a ≤ 255) : Fn Try.prog 81 [.sl (b.map dU)] [] (fun rr ii nn => ∃ x : Con, (x.1.length ≤ 13) ∧ rr = .agg [.sl (x.1.map dT), .p (.int .i64 x.2)] ∧ ii = [] ∧ nn = []) := by
  refine fn_of Try.func81 rfl (Nat.le_of_ble_eq_true rfl) fun w X g => ?_
  show AWp _ _ _ ⟨[(0, .sl (b.map dU))], []⟩
  refine a_seq ?_
  refine a_region (by kernel_rfl) ?_
  refine op_n' (fun ver => j_alloc elt42 rfl) fun v2x1 => ?_
  refine op_nil ?_
  refine a_seq ?_
  refine a_region (by kernel_rfl) ?_
  refine op_v' (j_move (evo rfl)) ?_
  refine op_n1' (fun ver => j_call1 (v := .ptr 5 ver 0) (hp1 := [(5, some (ver, .box 90 [.sl _, .p _]))]) [] false [] ent56 (f_open _) ⟨.inl ⟨rfl, rfl⟩, trivial⟩ trivial rfl rfl rfl (fun h => by cases h) rfl (List.all_eq_true.1 rfl) (.inl rfl) rfl rfl) fun v5x2 => ?_
  refine op_v' (j_assign (evo rfl)) ?_
  refine op_nil ?_
  refine a_seq ?_
  have hbt := okB_take (Nat.le_refl _) hb
  refine a_region (by kernel_rfl) ?_
  refine op_v' (j_move (evo rfl)) ?_
  refine op_v' (j_move (evo rfl)) ?_
  refine op_callE (v := fun x => .agg [.sl _, .p _]) (hp1 := fun x => [(5, some (v5x2, .box 90 [.sl _, .p _]))]) [(5, v5x2)] false ent98 (f_l15Draw (b.take 2000) 0 hbt (by decide)) ⟨.inl ⟨rfl, rfl⟩, trivial⟩ ⟨⟨rfl, rfl⟩, trivial⟩ rfl (fun _ => rfl) (fun _ => rfl) (.inl rfl) (fun _ => rfl) (fun _ => rfl) ?_
  rintro ⟨⟨ts8, bd8⟩, q8⟩ ⟨hc8, hl8, hq8⟩
  try dsimp only at hc8
  try dsimp only at hl8
  try dsimp only at hq8
  dsimp only [List.cons_append, List.nil_append]
  refine op_callE (v := fun x => .agg [.sl _, .p _]) (hp1 := fun x => [(5, some (v5x2, .box 90 [.sl _, .p _]))]) [(5, v5x2)] false ent97 (f_l1Mutate (b.take 2000) q8 (ts8, bd8) hbt (by omega) (by dsimp only; omega)) ⟨.inl ⟨rfl, rfl⟩, .inl ⟨rfl, rfl⟩, trivial⟩ ⟨⟨rfl, rfl⟩, trivial⟩ rfl (fun _ => rfl) (fun _ => rfl) (.inl rfl) (fun _ => rfl) (fun _ => rfl) ?_
  rintro ⟨⟨ts9, bd9⟩, q9⟩ ⟨hl9, hq9⟩
  try dsimp only at hl9
  try dsimp only at hq9
  dsimp only [List.cons_append, List.nil_append]
  refine op_s' (j_storea_box0 agg42 rfl rfl rfl rfl rfl rfl) ?_
  refine op_nil ?_
  refine a_ret ?_
  exact ⟨[.agg [.sl _, .p _]], .agg [.sl _, .p _], [], [], [], ⟨⟨_, _, _, _, rfl, rfl, agg42, rfl⟩, trivial⟩, rfl, rfl, trivial, rfl, rfl, ⟨(ts9, bd9), by dsimp only; omega, rfl, rfl, rfl⟩⟩


theorem f_dCC (b : List Int) (hb : ∀ a ∈ b, 0 ≤ a ∧ a ≤ 255) : Fn Try.prog 49 [.sl (b.map dU)] [] (fun rr ii nn => ∃ x : Con, (x.1.length ≤ 13) ∧ rr = .agg [.sl (x.1.map dT), .p (.int .i64 x.2)] ∧ ii = [] ∧ nn = []) := by
  refine fn_of Try.func49 rfl (Nat.le_of_ble_eq_true rfl) fun w X g => ?_
  show AWp _ _ _ ⟨[(0, .sl (b.map dU))], []⟩
  refine a_seq ?_
  refine a_region (by kernel_rfl) ?_
  refine op_n' (fun ver => j_alloc elt42 rfl) fun v2x1 => ?_
  refine op_nil ?_
  refine a_seq ?_
  refine a_region (by kernel_rfl) ?_
  refine op_v' (j_move (evo rfl)) ?_
  refine op_callE (v := fun x => .agg [.sl _, .p _]) (hp1 := fun x => []) [] false ent81 (f_dST b hb) ⟨.inl ⟨rfl, rfl⟩, trivial⟩ trivial rfl (fun _ => rfl) (fun _ => rfl) (.inl rfl) (fun _ => rfl) (fun _ => rfl) ?_
  rintro ⟨ts4, bd4⟩ hl4
  try dsimp only at hl4
  dsimp only [List.cons_append, List.nil_append]
  refine op_s' (j_storea_box0 agg42 rfl rfl rfl rfl rfl rfl) ?_
  refine op_nil ?_
  refine a_ret ?_
  exact ⟨[.agg [.sl _, .p _]], .agg [.sl _, .p _], [], [], [], ⟨⟨_, _, _, _, rfl, rfl, agg42, rfl⟩, trivial⟩, rfl, rfl, trivial, rfl, rfl, ⟨(ts4, bd4), hl4, rfl, rfl, rfl⟩⟩


theorem f_negation (c : Con) (hc : cOk c = true) : Fn Try.prog 82 [.agg [.sl (c.1.map dT), .p (.int .i64 c.2)]] [] (fun rr ii nn => rr = .agg [.own 0 0, .p (.int .i64 (negC c).2)] ∧ ii = [] ∧ nn = [.row 73 2 ((negC c).1.map dT)]) := by
  refine fn_of Try.func82 rfl (Nat.le_of_ble_eq_true rfl) fun w X g => ?_
  show AWp _ _ _ ⟨[(0, .agg [.sl (c.1.map dT), .p (.int .i64 c.2)])], []⟩
  have htt := tot_all (coef_wide (cOk_coefs hc) (by decide) (by decide))
  have hln := cOk_len hc
  have hbd := cOk_bound hc
  refine a_seq ?_
  refine a_region (by kernel_rfl) ?_
  refine op_n' (fun ver => j_boxa rfl) fun v1x1 => ?_
  refine op_n' (fun ver => j_alloc elt42 rfl) fun v2x2 => ?_
  refine op_nil ?_
  refine a_seq ?_
  refine a_draw mixed (by kernel_rfl) (by kernel_rfl) fun vf => ?_
  refine d_v' (j_loada_box (ys := [.sl _, .p _]) agg42 rfl rfl rfl (Nat.le_of_ble_eq_true rfl)) ?_
  refine d_v0' (j_call0 (v := .p _) (hp1 := []) [] false [] ent96 (f_totImpl c hc) ⟨.inl ⟨rfl, rfl⟩, trivial⟩ trivial rfl rfl (fun h => by cases h) rfl (fun _ h => by cases h) (.inl rfl) rfl rfl) ?_
  refine d_v' (j_fldp fld42f1 rfl rfl) ?_
  refine d_v' (j_load_box leaf3 rfl rfl rfl) ?_
  refine d_v' (j_sub rfl rfl (by first | omega | (simp only [List.length_map, List.length_take, Int.toNat_natCast, List.length_map, List.length_append, List.length_cons, List.length_nil, List.length_take]; omega)) (by first | omega | (simp only [List.length_map, List.length_take, Int.toNat_natCast, List.length_map, List.length_append, List.length_cons, List.length_nil, List.length_take]; omega))) ?_
  refine d_v' (j_add rfl rfl (by first | omega | (simp only [List.length_map, List.length_take, Int.toNat_natCast, List.length_map, List.length_append, List.length_cons, List.length_nil, List.length_take]; omega)) (by first | omega | (simp only [List.length_map, List.length_take, Int.toNat_natCast, List.length_map, List.length_append, List.length_cons, List.length_nil, List.length_take]; omega))) ?_
  refine d_v' (j_max rfl rfl) ?_
  refine d_v' (j_build (parts := [(1, .tmp 12)]) str42 elt42 rfl rfl) ?_
  refine d_n' (fun ver => j_alloc elt42 rfl) ?_
  refine d_s' (j_storea_box0 agg42 rfl rfl rfl rfl rfl rfl) ?_
  refine d_nil (by kernel_rfl) (by kernel_rfl) ?_
  refine a_adopt_box' 0 1003 73 2 (by decide) (id := 3) rfl rfl fun v1003x3 => ?_
  refine a_seq ?_
  refine a_seq ?_
  refine a_region (by kernel_rfl) ?_
  refine op_v' (j_fldp fld42f0 rfl rfl) ?_
  refine op_v' (j_load_box leaf40 rfl rfl rfl) ?_
  refine op_v' (j_len_map Try.underlying40 rfl) ?_
  refine op_v' (j_move (evo rfl)) ?_
  refine op_nil ?_
  refine a_block ?_
  refine a_loopF' (ι := Nat × Nat) (fun x => x.1 ≤ c.1.length) (fun x r => (17, .p (.int .i64 ((x.1 : Nat)))) :: r) (fun x r => (3, some ((vf 3), .box 42 [.own 1003 x.2, .p (.int .i64 (max 0 (totV c.1 - c.2 + 1)))])) :: (1003, some (x.2, .row 73 2 (((c.1.take x.1).map negT).map dT))) :: r) (fun x => c.1.length - x.1) (fun _ _ => rfl) (fun _ _ => rfl) (0, v1003x3) (Nat.zero_le _) ⟨⟨rfl, rfl⟩, ⟨rfl, trivial⟩, ⟨rfl, rfl, trivial⟩, ⟨rfl, rfl⟩, ⟨rfl, rfl⟩⟩ ?_
  rintro ⟨k, v⟩ hpre; dsimp only at hpre ⊢
  refine a_seq ?_
  refine a_region (by kernel_rfl) ?_
  refine op_v' (j_lt rfl rfl) ?_
  refine op_nil ?_
  refine a_seq ?_
  refine a_cond rfl (fun h1 => ?_) (fun h1 => ?_)
  ·
    have h1r := h1
    try simp only [Bool.not_eq_true', Bool.not_eq_false', Bool.not_not, bne_iff_ne, bne_eq_false_iff_eq, beq_eq_false_iff_ne, beq_iff_eq, ne_eq, decide_eq_true_eq, decide_eq_false_iff_not, Classical.not_not, List.length_map, List.length_take, Int.toNat_natCast, List.length_map, List.length_append, List.length_cons, List.length_nil, List.length_take] at h1
    refine a_skip ?_
    refine a_seq ?_
    refine a_block ?_
    refine a_seq ?_
    have htm := cOk_terms hc (k := k) (by omega)
    have hli := litOk_iff.1 htm.1
    refine a_region (by kernel_rfl) ?_
    refine op_v' (j_elemN slt40 rfl rfl rfl (at_map (by first | omega | (simp only [List.length_map, List.length_take, Int.toNat_natCast, List.length_map, List.length_append, List.length_cons, List.length_nil, List.length_take]; omega))) rfl) ?_
    refine op_v' (j_loada_el (ys := [.p _, .p _]) agg73 rfl (at_map (by first | omega | (simp only [List.length_map, List.length_take, Int.toNat_natCast, List.length_map, List.length_append, List.length_cons, List.length_nil, List.length_take]; omega))) rfl (Nat.le_refl _)) ?_
    refine op_n' (fun ver => j_alloc elt73 rfl) fun v5x4 => ?_
    refine op_s' (j_storea_box0 agg73 rfl rfl rfl rfl rfl rfl) ?_
    refine op_nil ?_
    refine a_region (by kernel_rfl) ?_
    refine op_v' (j_fldp fld42f0 rfl rfl) ?_
    refine op_v' (j_load_box leaf40 rfl rfl rfl) ?_
    refine op_v' (j_fldp fld73f0 rfl rfl) ?_
    refine op_v' (j_load_box leaf3 rfl rfl rfl) ?_
    refine op_v' (j_fldp fld73f1 rfl rfl) ?_
    refine op_v' (j_load_box leaf3 rfl rfl rfl) ?_
    refine op_v' (j_neg rfl (by first | omega | (simp only [List.length_map, List.length_take, Int.toNat_natCast, List.length_map, List.length_append, List.length_cons, List.length_nil, List.length_take]; omega)) (by first | omega | (simp only [List.length_map, List.length_take, Int.toNat_natCast, List.length_map, List.length_append, List.length_cons, List.length_nil, List.length_take]; omega))) ?_
    refine op_v' (j_build (parts := [(0, .tmp 24), (1, .tmp 27)]) str73 elt73 rfl rfl) ?_
    refine op_n' (fun ver => j_buildSlice (parts := [(0, .tmp 28)]) (es := [[_, _]]) slt40 elt73 rfl rfl (by decide) (by decide) rfl rfl (by simp) rfl) fun v29x5 => ?_
    refine op_n' (fun ver => j_append_own slt40 elt73 rfl rfl rfl rfl rfl rfl (by rw [maxLen_eq]; first | omega | (simp only [List.length_map, List.length_take, Int.toNat_natCast, List.length_map, List.length_append, List.length_cons, List.length_nil, List.length_take]; omega)) (by first | omega | (simp only [List.length_map, List.length_take, Int.toNat_natCast, List.length_map, List.length_append, List.length_cons, List.length_nil, List.length_take]; omega))) fun v1003x6 => ?_
    refine op_v' (j_fldp fld42f0 rfl rfl) ?_
    refine op_s' (j_store_box leaf40 rfl rfl (Nat.le_of_ble_eq_true rfl) (evo rfl) rfl) ?_
    refine op_nil ?_
    refine a_region (by kernel_rfl) ?_
    refine op_v' (j_add rfl rfl (by first | omega | (simp only [List.length_map, List.length_take, Int.toNat_natCast, List.length_map, List.length_append, List.length_cons, List.length_nil, List.length_take]; omega)) (by first | omega | (simp only [List.length_map, List.length_take, Int.toNat_natCast, List.length_map, List.length_append, List.length_cons, List.length_nil, List.length_take]; omega))) ?_
    refine op_v' (j_move (evo rfl)) ?_
    refine op_nil ?_
    exact ⟨(k + 1, v1003x6), (by first | exact (by first | omega | (simp only [List.length_map, List.length_take, Int.toNat_natCast, List.length_map, List.length_append, List.length_cons, List.length_nil, List.length_take]; omega)) | (dsimp only; exact (by first | omega | (simp only [List.length_map, List.length_take, Int.toNat_natCast, List.length_map, List.length_append, List.length_cons, List.length_nil, List.length_take]; omega)))), ⟨⟨rfl, rfl⟩, ⟨rfl, trivial⟩, ⟨rfl, rowEq (neg_next (by omega)), trivial⟩, ⟨rfl, rfl⟩, ⟨rfl, rfl⟩⟩, (by first | exact (by first | omega | (simp only [List.length_map, List.length_take, Int.toNat_natCast, List.length_map, List.length_append, List.length_cons, List.length_nil, List.length_take]; omega)) | (dsimp only; exact (by first | omega | (simp only [List.length_map, List.length_take, Int.toNat_natCast, List.length_map, List.length_append, List.length_cons, List.length_nil, List.length_take]; omega))))⟩
  ·
    have h1r := h1
    try simp only [Bool.not_eq_true', Bool.not_eq_false', Bool.not_not, bne_iff_ne, bne_eq_false_iff_eq, beq_eq_false_iff_ne, beq_iff_eq, ne_eq, decide_eq_true_eq, decide_eq_false_iff_not, Classical.not_not, List.length_map, List.length_take, Int.toNat_natCast, List.length_map, List.length_append, List.length_cons, List.length_nil, List.length_take] at h1
    refine a_exit ?_
    refine a_seq ?_
    refine a_region (by kernel_rfl) ?_
    refine op_v' (j_loada_box (ys := [.own 1003 v, .p _]) agg42 rfl rfl rfl (Nat.le_of_ble_eq_true rfl)) ?_
    refine op_s' (j_storea_box0 agg42 rfl rfl rfl rfl rfl rfl) ?_
    refine op_nil ?_
    refine a_ret ?_
    exact ⟨[.agg [.own 1003 v, .p _]], .agg [.own 0 0, .p _], [], [.row 73 2 _], [(1003, v)], ⟨⟨_, _, _, _, rfl, rfl, agg42, rfl⟩, trivial⟩, rfl, rfl, ⟨⟨rfl, rfl⟩, trivial⟩, rfl, rfl, ⟨rfl, rfl, by rw [show k = c.1.length by omega, List.take_length]; rfl⟩⟩


theorem f_negate (c : Con) : Fn Try.prog 50 [.agg [.sl (c.1.map dT), .p (.int .i64 c.2)]] [] (fun rr ii nn => rr = .tup [.agg [.own 0 0, .p (.int .i64 (negR c).2)], .p (.bool (cOk c))] ∧ ii = [] ∧ nn = [.row 73 2 ((negR c).1.map dT)]) := by
  refine fn_of Try.func50 rfl (Nat.le_of_ble_eq_true rfl) fun w X g => ?_
  show AWp _ _ _ ⟨[(0, .agg [.sl (c.1.map dT), .p (.int .i64 c.2)])], []⟩
  refine a_seq ?_
  refine a_region (by kernel_rfl) ?_
  refine op_n' (fun ver => j_boxa rfl) fun v1x1 => ?_
  refine op_n' (fun ver => j_alloc elt42 rfl) fun v2x2 => ?_
  refine op_v' (j_assign (evo rfl)) ?_
  refine op_nil ?_
  refine a_seq ?_
  refine a_seq ?_
  refine a_region (by kernel_rfl) ?_
  refine op_v' (j_loada_box (ys := [.sl _, .p _]) agg42 rfl rfl rfl (Nat.le_of_ble_eq_true rfl)) ?_
  refine op_v0' (j_call0 (v := .p _) (hp1 := []) [] false [] ent35 (f_cvImpl _) ⟨.inl ⟨rfl, rfl⟩, trivial⟩ trivial rfl rfl (fun h => by cases h) rfl (fun _ h => by cases h) (.inl rfl) rfl rfl) ?_
  refine op_v' (j_not rfl) ?_
  refine op_nil ?_
  refine a_cond rfl (fun h1 => ?_) (fun h1 => ?_)
  ·
    have h1r := h1
    try simp only [Bool.not_eq_true', Bool.not_eq_false', Bool.not_not, bne_iff_ne, bne_eq_false_iff_eq, beq_eq_false_iff_ne, beq_iff_eq, ne_eq, decide_eq_true_eq, decide_eq_false_iff_not, Classical.not_not, List.length_map, List.length_take, Int.toNat_natCast] at h1
    refine a_seq ?_
    refine a_region (by kernel_rfl) ?_
    refine op_v' (j_build (parts := []) str42 elt42 rfl rfl) ?_
    refine op_s' (j_storea_box0 agg42 rfl rfl rfl rfl rfl rfl) ?_
    refine op_v' (j_assign (evo rfl)) ?_
    refine op_nil ?_
    refine a_adopt_box' 0 1002 73 2 (by decide) (id := 2) rfl rfl fun v1002x3 => ?_
    refine a_ret ?_
    exact ⟨[.agg [.own 1002 v1002x3, .p _], .p _], .tup [.agg [.own 0 0, .p _], .p _], [], [.row 73 2 _], [(1002, v1002x3)], ⟨⟨_, _, _, _, rfl, rfl, agg42, rfl⟩, rfl, trivial⟩, rfl, rfl, ⟨⟨rfl, rfl⟩, trivial⟩, rfl, rfl, ⟨by unfold negR; rw [h1]; rfl, rfl, by unfold negR; rw [h1]; rfl⟩⟩
  ·
    have h1r := h1
    try simp only [Bool.not_eq_true', Bool.not_eq_false', Bool.not_not, bne_iff_ne, bne_eq_false_iff_eq, beq_eq_false_iff_ne, beq_iff_eq, ne_eq, decide_eq_true_eq, decide_eq_false_iff_not, Classical.not_not, List.length_map, List.length_take, Int.toNat_natCast] at h1
    refine a_skip ?_
    refine a_seq ?_
    refine a_region (by kernel_rfl) ?_
    refine op_v' (j_loada_box (ys := [.sl _, .p _]) agg42 rfl rfl rfl (Nat.le_of_ble_eq_true rfl)) ?_
    refine op_n1' (fun ver => j_call1 (v := .agg [.own 9 ver, .p _]) (hp1 := [(9, some (ver, .row 73 2 _))]) [] false [] ent82 (f_negation _ h1) ⟨.inl ⟨rfl, rfl⟩, trivial⟩ trivial rfl rfl rfl (fun h => by cases h) rfl (List.all_eq_true.1 rfl) (.inl rfl) rfl rfl) fun v9x4 => ?_
    refine op_s' (j_storea_box0 agg42 rfl rfl rfl rfl rfl rfl) ?_
    refine op_v' (j_assign (evo rfl)) ?_
    refine op_nil ?_
    refine a_ret ?_
    exact ⟨[.agg [.own 9 v9x4, .p _], .p _], .tup [.agg [.own 0 0, .p _], .p _], [], [.row 73 2 _], [(9, v9x4)], ⟨⟨_, _, _, _, rfl, rfl, agg42, rfl⟩, rfl, trivial⟩, rfl, rfl, ⟨⟨rfl, rfl⟩, trivial⟩, rfl, rfl, ⟨by unfold negR; rw [h1]; rfl, rfl, by unfold negR; rw [h1]; rfl⟩⟩


theorem f_law12 (b1 : List Int) (hb1 : ∀ a ∈ b1, 0 ≤ a ∧ a ≤ 255) : Fn Try.prog 12 [.sl (b1.map dU)] [] (fun rr ii nn => rr = .p (.bool true) ∧ ii = [] ∧ nn = []) := by
  refine fn_of Try.func12 rfl (Nat.le_of_ble_eq_true rfl) fun w X g => ?_
  show AWp _ _ _ ⟨[(0, .sl (b1.map dU))], []⟩
  refine a_seq ?_
  refine a_region (by kernel_rfl) ?_
  refine op_v' (j_assign (evo rfl)) ?_
  refine op_nil ?_
  refine a_seq ?_
  refine a_seq ?_
  refine a_region (by kernel_rfl) ?_
  refine op_v' (j_move (evo rfl)) ?_
  refine op_v' (j_len_map Try.underlying31 rfl) ?_
  refine op_v' (j_gt rfl rfl) ?_
  refine op_nil ?_
  refine a_cond rfl (fun h1 => ?_) (fun h1 => ?_)
  ·
    have h1r := h1
    try simp only [Bool.not_eq_true', Bool.not_eq_false', Bool.not_not, bne_iff_ne, bne_eq_false_iff_eq, beq_eq_false_iff_ne, beq_iff_eq, ne_eq, decide_eq_true_eq, decide_eq_false_iff_not, Classical.not_not, List.length_map, List.length_take, Int.toNat_natCast, List.length_map] at h1
    refine a_seq ?_
    refine a_region (by kernel_rfl) ?_
    refine op_v' (j_assign (evo rfl)) ?_
    refine op_nil ?_
    refine a_ret ?_
    exact ⟨[.p _], .p _, [], [], [], ⟨rfl, trivial⟩, rfl, rfl, trivial, rfl, rfl, ⟨rfl, rfl, rfl⟩⟩
  ·
    have h1r := h1
    try simp only [Bool.not_eq_true', Bool.not_eq_false', Bool.not_not, bne_iff_ne, bne_eq_false_iff_eq, beq_eq_false_iff_ne, beq_iff_eq, ne_eq, decide_eq_true_eq, decide_eq_false_iff_not, Classical.not_not, List.length_map, List.length_take, Int.toNat_natCast, List.length_map] at h1
    refine a_skip ?_
    refine a_seq ?_
    refine a_region (by kernel_rfl) ?_
    refine op_v' (j_move (evo rfl)) ?_
    refine op_callE (v := fun x => .agg [.sl _, .p _]) (hp1 := fun x => []) [] false ent49 (f_dCC b1 hb1) ⟨.inl ⟨rfl, rfl⟩, trivial⟩ trivial rfl (fun _ => rfl) (fun _ => rfl) (.inl rfl) (fun _ => rfl) (fun _ => rfl) ?_
    rintro ⟨ts11, bd11⟩ hl11
    try dsimp only at hl11
    dsimp only [List.cons_append, List.nil_append]
    refine op_n' (fun ver => j_alloc elt42 rfl) fun v3x1 => ?_
    refine op_s' (j_storea_box0 agg42 rfl rfl rfl rfl rfl rfl) ?_
    refine op_nil ?_
    refine a_seq ?_
    refine a_region (by kernel_rfl) ?_
    refine op_v' (j_loada_box (ys := [.sl _, .p _]) agg42 rfl rfl rfl (Nat.le_of_ble_eq_true rfl)) ?_
    refine op_v0' (j_call0 (v := .p _) (hp1 := []) [] false [] ent38 (f_ccImpl (ts11, bd11)) ⟨.inl ⟨rfl, rfl⟩, trivial⟩ trivial rfl rfl (fun h => by cases h) rfl (fun _ h => by cases h) (.inl rfl) rfl rfl) ?_
    refine op_v' (j_assign (evo rfl)) ?_
    refine op_nil ?_
    refine a_seq ?_
    refine a_region (by kernel_rfl) ?_
    refine op_v' (j_loada_box (ys := [.sl _, .p _]) agg42 rfl rfl rfl (Nat.le_of_ble_eq_true rfl)) ?_
    refine op_n1' (fun ver => j_call1 (v := .tup [.agg [.own 16 ver, .p _], .p _]) (hp1 := [(16, some (ver, .row 73 2 _))]) [] false [] ent50 (f_negate (ts11, bd11)) ⟨.inl ⟨rfl, rfl⟩, trivial⟩ trivial rfl rfl rfl (fun h => by cases h) rfl (List.all_eq_true.1 rfl) (.inl rfl) rfl rfl) fun v16x2 => ?_
    refine op_v' (j_move (evo rfl)) ?_
    refine op_v' (j_extract rfl rfl) ?_
    refine op_v' (j_extract rfl rfl) ?_
    refine op_n' (fun ver => j_alloc elt42 rfl) fun v5x3 => ?_
    refine op_s' (j_storea_box0 agg42 rfl rfl rfl rfl rfl rfl) ?_
    refine op_v' (j_assign (evo rfl)) ?_
    refine op_nil ?_
    refine a_seq ?_
    refine a_seq ?_
    refine a_region (by kernel_rfl) ?_
    refine op_v' (j_move (evo rfl)) ?_
    refine op_v' (j_loada_box (ys := [.sl _, .p _]) agg42 rfl rfl rfl (Nat.le_of_ble_eq_true rfl)) ?_
    refine op_v0' (j_call0 (v := .p _) (hp1 := []) [] false [] ent37 (f_ccSpec (ts11, bd11)) ⟨.inl ⟨rfl, rfl⟩, trivial⟩ trivial rfl rfl (fun h => by cases h) rfl (fun _ h => by cases h) (.inl rfl) rfl rfl) ?_
    refine op_v' (j_ne rfl rfl) ?_
    refine op_v' (j_move (evo rfl)) ?_
    refine op_split' 23 rfl (fun h2 => ?_) (fun h2 => ?_)
    ·
      have h2r := h2
      try simp only [Bool.not_eq_true', Bool.not_eq_false', Bool.not_not, bne_iff_ne, bne_eq_false_iff_eq, beq_eq_false_iff_ne, beq_iff_eq, ne_eq, decide_eq_true_eq, decide_eq_false_iff_not, Classical.not_not, List.length_map, List.length_take, Int.toNat_natCast, List.length_map] at h2
      exact absurd h2r (by simp)
    ·
      have h2r := h2
      try simp only [Bool.not_eq_true', Bool.not_eq_false', Bool.not_not, bne_iff_ne, bne_eq_false_iff_eq, beq_eq_false_iff_ne, beq_iff_eq, ne_eq, decide_eq_true_eq, decide_eq_false_iff_not, Classical.not_not, List.length_map, List.length_take, Int.toNat_natCast, List.length_map] at h2
      refine op_v' (j_want rfl rfl h2r (j_move (evo rfl))) ?_
      refine op_v' (j_want rfl rfl h2r (j_not rfl)) ?_
      refine op_v' (j_pick_f rfl h2r (evo rfl)) ?_
      refine op_nil ?_
      refine a_cond rfl (fun h3 => ?_) (fun h3 => ?_)
      ·
        have h3r := h3
        try simp only [Bool.not_eq_true', Bool.not_eq_false', Bool.not_not, bne_iff_ne, bne_eq_false_iff_eq, beq_eq_false_iff_ne, beq_iff_eq, ne_eq, decide_eq_true_eq, decide_eq_false_iff_not, Classical.not_not, List.length_map, List.length_take, Int.toNat_natCast, List.length_map] at h3
        refine a_seq ?_
        refine a_region (by kernel_rfl) ?_
        refine op_v' (j_move (evo rfl)) ?_
        refine op_v' (j_loada_box (ys := [.sl _, .p _]) agg42 rfl rfl rfl (Nat.le_of_ble_eq_true rfl)) ?_
        refine op_v0' (j_call0 (v := .p _) (hp1 := []) [] false [] ent37 (f_ccSpec (ts11, bd11)) ⟨.inl ⟨rfl, rfl⟩, trivial⟩ trivial rfl rfl (fun h => by cases h) rfl (fun _ h => by cases h) (.inl rfl) rfl rfl) ?_
        refine op_v' (j_eq rfl rfl) ?_
        refine op_v' (j_assign (evo rfl)) ?_
        refine op_nil ?_
        refine a_ret ?_
        exact ⟨[.p _], .p _, [], [], [], ⟨rfl, trivial⟩, rfl, rfl, trivial, rfl, rfl, ⟨boolEq (by simp), rfl, rfl⟩⟩
      ·
        have h3r := h3
        try simp only [Bool.not_eq_true', Bool.not_eq_false', Bool.not_not, bne_iff_ne, bne_eq_false_iff_eq, beq_eq_false_iff_ne, beq_iff_eq, ne_eq, decide_eq_true_eq, decide_eq_false_iff_not, Classical.not_not, List.length_map, List.length_take, Int.toNat_natCast, List.length_map] at h3
        refine a_skip ?_
        refine a_seq ?_
        have hc1 := cc_rng (ts11, bd11)
        have hc2 := cc_rng (negR (ts11, bd11))
        refine a_region (by kernel_rfl) ?_
        refine op_v' (j_move (evo rfl)) ?_
        refine op_v' (j_loada_box (ys := [.own 16 v16x2, .p _]) agg42 rfl rfl rfl (Nat.le_of_ble_eq_true rfl)) ?_
        refine op_v0' (j_call0 (v := .p _) (hp1 := []) [] true [16] ent38 (f_ccImpl (negR (ts11, bd11))) ⟨.inr ⟨rfl, view_agg rfl (view_cons (view_own rfl rfl) (view_cons rfl rfl)), rfl⟩, trivial⟩ trivial rfl rfl (fun _ => rfl) rfl (fun _ h => by cases h) (.inr ⟨rfl, by first | exact pl_new1 (fun _ => rfl) | (simp [plO, plV, plV.plL]; done)⟩) rfl rfl) ?_
        refine op_v' (j_add rfl rfl (by first | omega | (simp only [List.length_map, List.length_take, Int.toNat_natCast, List.length_map]; omega)) (by first | omega | (simp only [List.length_map, List.length_take, Int.toNat_natCast, List.length_map]; omega))) ?_
        refine op_v' (j_eq rfl rfl) ?_
        refine op_v' (j_assign (evo rfl)) ?_
        refine op_nil ?_
        refine a_ret ?_
        exact ⟨[.p _], .p _, [], [], [], ⟨rfl, trivial⟩, rfl, rfl, trivial, rfl, rfl, ⟨boolEq (by unfold negR; rw [if_pos (by assumption), cc_neg (by assumption)]; rfl), rfl, rfl⟩⟩


end Go.Ab

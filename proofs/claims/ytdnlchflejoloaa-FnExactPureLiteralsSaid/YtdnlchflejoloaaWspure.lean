/- Walks. -/
import Derived.Test.YtdnlchflejoloaaBase
import Derived.Test.YtdnlchflejoloaaSem
import Derived.Test.YtdnlchflejoloaaFix
import Derived.Test.YtdnlchflejoloaaWsprob
import Derived.Test.YtdnlchflejoloaaLaws1
import Derived.Test.YtdnlchflejoloaaTabs2
import Derived.Test.YtdnlchflejoloaaTabs
import Derived.Test.YtdnlchflejoloaaEnum
import Derived.Test.YtdnlchflejoloaaWscon2
import Derived.Test.YtdnlchflejoloaaWsexcl
import Derived.Test.YtdnlchflejoloaaVals
import Derived.Test.YtdnlchflejoloaaCons
import Derived.Test.YtdnlchflejoloaaWsfun
import Derived.Test.YtdnlchflejoloaaProb
namespace Go.Ab
open Go.Proofs
set_option maxRecDepth 100000
set_option maxHeartbeats 8000000
set_option linter.unusedSimpArgs false
set_option linter.unusedVariables false
theorem f_l2Coef (c : Con) (m : Int) : Fn Try.prog 81 [.agg [.sl (c.1.map dT), .p (.int .i64 c.2)], .p (.int .i64 (m))] [] (fun rr ii nn => rr = .p (.int .i64 (coefF m c.1)) ∧ ii = [] ∧ nn = []) := by
  refine fn_of Try.func81 rfl (Nat.le_of_ble_eq_true rfl) fun w X g => ?_
  show AWp _ _ _ ⟨[(0, .agg [.sl (c.1.map dT), .p (.int .i64 c.2)]), (1, .p (.int .i64 (m)))], []⟩
  refine a_len_map2 0 rfl fun hlen => ?_
  refine a_seq ?_
  refine a_region (by kernel_rfl) ?_
  refine op_n' (fun ver => j_boxa rfl) fun v2x1 => ?_
  refine op_v' (j_assign (evo rfl)) ?_
  refine op_nil ?_
  refine a_seq ?_
  refine a_seq ?_
  refine a_region (by kernel_rfl) ?_
  refine op_v' (j_assign (evo rfl)) ?_
  refine op_nil ?_
  refine a_block ?_
  refine a_loopF' (ι := Nat) (fun k => k ≤ c.1.length ∧ coefF m c.1 = coefF m (c.1.drop k)) (fun k r => (5, .p (.int .i64 ((k : Nat)))) :: r) (fun k r => r) (fun k => c.1.length - k) (fun _ _ => rfl) (fun _ _ => rfl) 0 ⟨Nat.zero_le _, rfl⟩ ⟨⟨rfl, rfl⟩, ⟨rfl, trivial⟩, trivial, ⟨rfl, rfl⟩, ⟨rfl, rfl⟩⟩ ?_
  intro k hpre
  refine a_seq ?_
  refine a_seq ?_
  refine a_region (by kernel_rfl) ?_
  refine op_v' (j_move (evo rfl)) ?_
  refine op_v' (j_fldp fld25f0 rfl rfl) ?_
  refine op_v' (j_load_box leaf23 rfl rfl rfl) ?_
  refine op_v' (j_len_map Try.underlying23 rfl) ?_
  refine op_v' (j_lt rfl rfl) ?_
  refine op_nil ?_
  refine a_cond rfl (fun h1 => ?_) (fun h1 => ?_)
  ·
    have h1r := h1
    try simp only [Bool.not_eq_true', Bool.not_eq_false', Bool.not_not, bne_iff_ne, bne_eq_false_iff_eq, beq_eq_false_iff_ne, beq_iff_eq, ne_eq, decide_eq_true_eq, decide_eq_false_iff_not, Classical.not_not, List.length_map, List.length_take, Int.toNat_natCast] at h1
    refine a_skip ?_
    refine a_seq ?_
    refine a_block ?_
    refine a_seq ?_
    refine a_region (by kernel_rfl) ?_
    refine op_v' (j_fldp fld25f0 rfl rfl) ?_
    refine op_v' (j_load_box leaf23 rfl rfl rfl) ?_
    refine op_v' (j_move (evo rfl)) ?_
    refine op_v' (j_elemN slt23 rfl rfl rfl (at_map (by omega)) rfl) ?_
    refine op_v' (j_fldel fld99f1 rfl) ?_
    refine op_v' (j_load_el leaf3 rfl (at_map (by omega)) rfl) ?_
    refine op_v' (j_move (evo rfl)) ?_
    refine op_v' (j_eq rfl rfl) ?_
    refine op_nil ?_
    refine a_cond rfl (fun h2 => ?_) (fun h2 => ?_)
    ·
      have h2r := h2
      try simp only [Bool.not_eq_true', Bool.not_eq_false', Bool.not_not, bne_iff_ne, bne_eq_false_iff_eq, beq_eq_false_iff_ne, beq_iff_eq, ne_eq, decide_eq_true_eq, decide_eq_false_iff_not, Classical.not_not, List.length_map, List.length_take, Int.toNat_natCast] at h2
      refine a_seq ?_
      refine a_region (by kernel_rfl) ?_
      refine op_v' (j_fldp fld25f0 rfl rfl) ?_
      refine op_v' (j_load_box leaf23 rfl rfl rfl) ?_
      refine op_v' (j_move (evo rfl)) ?_
      refine op_v' (j_elemN slt23 rfl rfl rfl (at_map (by omega)) rfl) ?_
      refine op_v' (j_fldel fld99f0 rfl) ?_
      refine op_v' (j_load_el leaf3 rfl (at_map (by omega)) rfl) ?_
      refine op_v' (j_assign (evo rfl)) ?_
      refine op_nil ?_
      refine a_ret ?_
      exact ⟨[.p _], .p _, [], [], [], ⟨rfl, trivial⟩, rfl, rfl, trivial, rfl, rfl, ⟨intEq (by rw [hpre.2, coefF_hit (by omega) (by assumption)]), rfl, rfl⟩⟩
    ·
      have h2r := h2
      try simp only [Bool.not_eq_true', Bool.not_eq_false', Bool.not_not, bne_iff_ne, bne_eq_false_iff_eq, beq_eq_false_iff_ne, beq_iff_eq, ne_eq, decide_eq_true_eq, decide_eq_false_iff_not, Classical.not_not, List.length_map, List.length_take, Int.toNat_natCast] at h2
      refine a_skip ?_
      refine a_region (by kernel_rfl) ?_
      refine op_v' (j_move (evo rfl)) ?_
      refine op_v' (j_add rfl rfl (by omega) (by omega)) ?_
      refine op_v' (j_assign (evo rfl)) ?_
      refine op_nil ?_
      exact ⟨k + 1, ⟨by omega, by rw [hpre.2, coefF_skip (by omega) (by assumption)]⟩, ⟨⟨rfl, rfl⟩, ⟨rfl, trivial⟩, trivial, ⟨rfl, rfl⟩, ⟨rfl, rfl⟩⟩, (by omega)⟩
  ·
    have h1r := h1
    try simp only [Bool.not_eq_true', Bool.not_eq_false', Bool.not_not, bne_iff_ne, bne_eq_false_iff_eq, beq_eq_false_iff_ne, beq_iff_eq, ne_eq, decide_eq_true_eq, decide_eq_false_iff_not, Classical.not_not, List.length_map, List.length_take, Int.toNat_natCast] at h1
    refine a_exit ?_
    refine a_seq ?_
    refine a_region (by kernel_rfl) ?_
    refine op_v' (j_assign (evo rfl)) ?_
    refine op_nil ?_
    refine a_ret ?_
    exact ⟨[.p _], .p _, [], [], [], ⟨rfl, trivial⟩, rfl, rfl, trivial, rfl, rfl, ⟨intEq (by rw [hpre.2, coefF_end (by omega)]), rfl, rfl⟩⟩


theorem f_coef (c : Con) (m : Int) : Fn Try.prog 78 [.agg [.sl (c.1.map dT), .p (.int .i64 c.2)], .p (.int .i64 (m))] [] (fun rr ii nn => rr = .p (.int .i64 (coefF m c.1)) ∧ ii = [] ∧ nn = []) := by
  refine fn_of Try.func78 rfl (Nat.le_of_ble_eq_true rfl) fun w X g => ?_
  show AWp _ _ _ ⟨[(0, .agg [.sl (c.1.map dT), .p (.int .i64 c.2)]), (1, .p (.int .i64 (m)))], []⟩
  refine a_len_map2 0 rfl fun hlen => ?_
  refine a_seq ?_
  refine a_region (by kernel_rfl) ?_
  refine op_n' (fun ver => j_boxa rfl) fun v2x1 => ?_
  refine op_v' (j_assign (evo rfl)) ?_
  refine op_nil ?_
  refine a_seq ?_
  refine a_seq ?_
  refine a_region (by kernel_rfl) ?_
  refine op_v' (j_fldp fld25f0 rfl rfl) ?_
  refine op_v' (j_load_box leaf23 rfl rfl rfl) ?_
  refine op_v' (j_len_map Try.underlying23 rfl) ?_
  refine op_v' (j_move (evo rfl)) ?_
  refine op_nil ?_
  refine a_block ?_
  refine a_loopF' (ι := Nat) (fun k => k ≤ c.1.length ∧ coefF m c.1 = coefF m (c.1.drop k)) (fun k r => (10, .p (.int .i64 ((k : Nat)))) :: r) (fun k r => r) (fun k => c.1.length - k) (fun _ _ => rfl) (fun _ _ => rfl) 0 ⟨Nat.zero_le _, rfl⟩ ⟨⟨rfl, rfl⟩, ⟨rfl, trivial⟩, trivial, ⟨rfl, rfl⟩, ⟨rfl, rfl⟩⟩ ?_
  intro k hpre
  refine a_seq ?_
  refine a_region (by kernel_rfl) ?_
  refine op_v' (j_lt rfl rfl) ?_
  refine op_nil ?_
  refine a_seq ?_
  refine a_cond rfl (fun h1 => ?_) (fun h1 => ?_)
  ·
    have h1r := h1
    try simp only [Bool.not_eq_true', Bool.not_eq_false', Bool.not_not, bne_iff_ne, bne_eq_false_iff_eq, beq_eq_false_iff_ne, beq_iff_eq, ne_eq, decide_eq_true_eq, decide_eq_false_iff_not, Classical.not_not, List.length_map, List.length_take, Int.toNat_natCast] at h1
    refine a_skip ?_
    refine a_seq ?_
    refine a_block ?_
    refine a_seq ?_
    refine a_region (by kernel_rfl) ?_
    refine op_v' (j_elemN slt23 rfl rfl rfl (at_map (by omega)) rfl) ?_
    refine op_v' (j_loada_el (ys := [.p _, .p _]) agg99 rfl (at_map (by omega)) rfl (Nat.le_refl _)) ?_
    refine op_n' (fun ver => j_alloc elt99 rfl) fun v6x2 => ?_
    refine op_s' (j_storea_box0 agg99 rfl rfl rfl rfl rfl rfl) ?_
    refine op_nil ?_
    refine a_seq ?_
    refine a_region (by kernel_rfl) ?_
    refine op_v' (j_fldp fld99f1 rfl rfl) ?_
    refine op_v' (j_load_box leaf3 rfl rfl rfl) ?_
    refine op_v' (j_move (evo rfl)) ?_
    refine op_v' (j_eq rfl rfl) ?_
    refine op_nil ?_
    refine a_cond rfl (fun h2 => ?_) (fun h2 => ?_)
    ·
      have h2r := h2
      try simp only [Bool.not_eq_true', Bool.not_eq_false', Bool.not_not, bne_iff_ne, bne_eq_false_iff_eq, beq_eq_false_iff_ne, beq_iff_eq, ne_eq, decide_eq_true_eq, decide_eq_false_iff_not, Classical.not_not, List.length_map, List.length_take, Int.toNat_natCast] at h2
      refine a_seq ?_
      refine a_region (by kernel_rfl) ?_
      refine op_v' (j_fldp fld99f0 rfl rfl) ?_
      refine op_v' (j_load_box leaf3 rfl rfl rfl) ?_
      refine op_v' (j_assign (evo rfl)) ?_
      refine op_nil ?_
      refine a_ret ?_
      exact ⟨[.p _], .p _, [], [], [], ⟨rfl, trivial⟩, rfl, rfl, trivial, rfl, rfl, ⟨intEq (by rw [hpre.2, coefF_hit (by omega) (by assumption)]), rfl, rfl⟩⟩
    ·
      have h2r := h2
      try simp only [Bool.not_eq_true', Bool.not_eq_false', Bool.not_not, bne_iff_ne, bne_eq_false_iff_eq, beq_eq_false_iff_ne, beq_iff_eq, ne_eq, decide_eq_true_eq, decide_eq_false_iff_not, Classical.not_not, List.length_map, List.length_take, Int.toNat_natCast] at h2
      refine a_skip ?_
      refine a_region (by kernel_rfl) ?_
      refine op_v' (j_add rfl rfl (by omega) (by omega)) ?_
      refine op_v' (j_move (evo rfl)) ?_
      refine op_nil ?_
      exact ⟨k + 1, ⟨by omega, by rw [hpre.2, coefF_skip (by omega) (by assumption)]⟩, ⟨⟨rfl, rfl⟩, ⟨rfl, trivial⟩, trivial, ⟨rfl, rfl⟩, ⟨rfl, rfl⟩⟩, (by omega)⟩
  ·
    have h1r := h1
    try simp only [Bool.not_eq_true', Bool.not_eq_false', Bool.not_not, bne_iff_ne, bne_eq_false_iff_eq, beq_eq_false_iff_ne, beq_iff_eq, ne_eq, decide_eq_true_eq, decide_eq_false_iff_not, Classical.not_not, List.length_map, List.length_take, Int.toNat_natCast] at h1
    refine a_exit ?_
    refine a_seq ?_
    refine a_region (by kernel_rfl) ?_
    refine op_v' (j_assign (evo rfl)) ?_
    refine op_nil ?_
    refine a_ret ?_
    exact ⟨[.p _], .p _, [], [], [], ⟨rfl, trivial⟩, rfl, rfl, trivial, rfl, rfl, ⟨intEq (by rw [hpre.2, coefF_end (by omega)]), rfl, rfl⟩⟩


theorem f_pure11 (c : Con) (m : Int) : Fn Try.prog 84 [.agg [.sl (c.1.map dT), .p (.int .i64 c.2)], .ptr 0 0 0] [.box 3 [.p (.int .i64 m)]] (fun rr ii nn => rr = .p (.bool (decide (0 < coefF m c.1))) ∧ ii = [.box 3 [.p (.int .i64 m)]] ∧ nn = []) := by
  refine fn_of Try.func84 rfl (Nat.le_of_ble_eq_true rfl) fun w X g => ?_
  show AWp _ _ _ ⟨[(0, .agg [.sl (c.1.map dT), .p (.int .i64 c.2)]), (1, .ptr 0 0 0)], [(0, some (0, .box 3 [.p (.int .i64 m)]))]⟩
  refine a_seq ?_
  refine a_region (by kernel_rfl) ?_
  refine op_n' (fun ver => j_boxa rfl) fun v2x1 => ?_
  refine op_v' (j_assign (evo rfl)) ?_
  refine op_nil ?_
  refine a_seq ?_
  refine a_region (by kernel_rfl) ?_
  refine op_v' (j_loada_box (ys := [.sl _, .p _]) agg25 rfl rfl rfl (Nat.le_of_ble_eq_true rfl)) ?_
  refine op_v' (j_load_box leaf3 rfl rfl rfl) ?_
  refine op_v0' (j_call0 (v := .p _) (hp1 := []) [] false [] ent78 (f_coef c m) ⟨.inl ⟨rfl, rfl⟩, .inl ⟨rfl, rfl⟩, trivial⟩ trivial rfl rfl (fun h => by cases h) rfl (fun _ h => by cases h) (.inl rfl) rfl rfl) ?_
  refine op_v' (j_gt rfl rfl) ?_
  refine op_v' (j_assign (evo rfl)) ?_
  refine op_nil ?_
  refine a_ret ?_
  exact ⟨[.p _], .p _, [.box 3 [.p _]], [], [], ⟨rfl, trivial⟩, rfl, rfl, ⟨⟨rfl, rfl⟩, trivial⟩, rfl, rfl, ⟨rfl, rfl, rfl⟩⟩


theorem f_pure1 (m : Int) (l : List Con) : Fn Try.prog 82 [.p (.int .i64 (m)), .ptr 0 0 0] [.box 27 [.sl (l.map dC)]] (fun rr ii nn => rr = .p (.bool (hasV l m)) ∧ ii = [.box 27 [.sl (l.map dC)]] ∧ nn = []) := by
  refine fn_of Try.func82 rfl (Nat.le_of_ble_eq_true rfl) fun w X g => ?_
  show AWp _ _ _ ⟨[(0, .p (.int .i64 (m))), (1, .ptr 0 0 0)], [(0, some (0, .box 27 [.sl (l.map dC)]))]⟩
  refine a_seq ?_
  refine a_region (by kernel_rfl) ?_
  refine op_n' (fun ver => j_box (evo rfl) rfl) fun v2x1 => ?_
  refine op_v' (j_assign (evo rfl)) ?_
  refine op_nil ?_
  refine a_seq ?_
  refine a_region (by kernel_rfl) ?_
  refine op_v' (j_load_box leaf27 rfl rfl rfl) ?_
  refine op_v' (j_makeFunc (f := 84) (xs := [.tmp 2]) (caps := [.ptr 2 v2x1 0]) rfl) ?_
  refine op_v0' (j_call0 (v := .p _) (hp1 := [(2, some (v2x1, .box 3 [.p _]))]) [(2, v2x1)] false [2] ent83 (f_ctf_Con_p 3 (.int .i64 m) 84 l (fun c => decide (0 < coefF m c.1)) ent84 (fun c _ => f_pure11 c m)) ⟨.inl ⟨rfl, rfl⟩, .inl ⟨rfl, rfl⟩, trivial⟩ ⟨⟨rfl, rfl⟩, trivial⟩ rfl rfl (fun h => by cases h) rfl (List.all_eq_true.1 rfl) (.inl rfl) rfl rfl) ?_
  refine op_v' (j_assign (evo rfl)) ?_
  refine op_nil ?_
  refine a_ret ?_
  exact ⟨[.p _], .p _, [.box 27 [.sl _]], [], [], ⟨rfl, trivial⟩, rfl, rfl, ⟨⟨rfl, rfl⟩, trivial⟩, rfl, rfl, ⟨rfl, rfl, rfl⟩⟩


theorem f_pureSpec (l : List Con) : Fn Try.prog 22 [.sl (l.map dC)] [] (fun rr ii nn => rr = .sl ((pureL l).map dI) ∧ ii = [] ∧ nn = []) := by
  refine fn_of Try.func22 rfl (Nat.le_of_ble_eq_true rfl) fun w X g => ?_
  show AWp _ _ _ ⟨[(0, .sl (l.map dC))], []⟩
  refine a_len_map 0 rfl fun hlen => ?_
  refine a_seq ?_
  refine a_region (by kernel_rfl) ?_
  refine op_v' (j_assign (evo rfl)) ?_
  refine op_nil ?_
  refine a_seq ?_
  refine a_region (by kernel_rfl) ?_
  refine op_n' (fun ver => j_buildSlice (parts := []) (es := []) slt36 elt3 rfl rfl (by decide) (by decide) rfl rfl (by simp) rfl) fun v8x1 => ?_
  refine op_v' (j_assign (evo rfl)) ?_
  refine op_nil ?_
  refine a_seq ?_
  refine a_seq ?_
  refine a_region (by kernel_rfl) ?_
  refine op_v' (j_assign (evo rfl)) ?_
  refine op_nil ?_
  refine a_block ?_
  refine a_loopF' (ι := Nat × Nat) (fun x => x.1 ≤ 12 ∧ (x.1 = 0 ∨ pOk l = true)) (fun x r => (4, .p (.int .i64 ((x.1 : Nat) + 1))) :: (3, .own 8 x.2) :: r) (fun x r => (8, some (x.2, .row 3 1 ((pureN l x.1).map dI))) :: r) (fun x => 12 - x.1) (fun _ _ => rfl) (fun _ _ => rfl) (0, v8x1) (by first | exact ⟨Nat.zero_le _, .inl rfl⟩ | (dsimp only; exact ⟨Nat.zero_le _, .inl rfl⟩)) ⟨⟨rfl, rfl⟩, ⟨rfl, rfl, trivial⟩, ⟨rfl, trivial⟩, ⟨rfl, rfl⟩, ⟨rfl, rfl⟩⟩ ?_
  rintro ⟨k, v⟩ hpre; dsimp only at hpre ⊢
  refine a_seq ?_
  refine a_seq ?_
  refine a_region (by kernel_rfl) ?_
  refine op_v' (j_move (evo rfl)) ?_
  refine op_v' (j_le rfl rfl) ?_
  refine op_v' (j_move (evo rfl)) ?_
  refine op_split' 11 rfl (fun h1 => ?_) (fun h1 => ?_)
  ·
    have h1r := h1
    try simp only [Bool.not_eq_true', Bool.not_eq_false', Bool.not_not, bne_iff_ne, bne_eq_false_iff_eq, beq_eq_false_iff_ne, beq_iff_eq, ne_eq, decide_eq_true_eq, decide_eq_false_iff_not, Classical.not_not, List.length_map, List.length_take, Int.toNat_natCast, List.length_map, List.length_append, List.length_cons, List.length_nil, List.length_take] at h1
    refine op_v' (j_want rfl rfl h1r (j_move (evo rfl))) ?_
    refine op_v0' (j_want rfl rfl h1r (j_call0 (v := .p _) (hp1 := []) [] false [] ent80 (f_pvSpec l) ⟨.inl ⟨rfl, rfl⟩, trivial⟩ trivial rfl rfl (fun h => by cases h) rfl (fun _ h => by cases h) (.inl rfl) rfl rfl)) ?_
    refine op_v' (j_pick_t rfl h1r (evo rfl)) ?_
    refine op_nil ?_
    refine a_cond rfl (fun h2 => ?_) (fun h2 => ?_)
    ·
      have h2r := h2
      try simp only [Bool.not_eq_true', Bool.not_eq_false', Bool.not_not, bne_iff_ne, bne_eq_false_iff_eq, beq_eq_false_iff_ne, beq_iff_eq, ne_eq, decide_eq_true_eq, decide_eq_false_iff_not, Classical.not_not, List.length_map, List.length_take, Int.toNat_natCast, List.length_map, List.length_append, List.length_cons, List.length_nil, List.length_take] at h2
      refine a_skip ?_
      refine a_seq ?_
      refine a_block ?_
      refine a_seq ?_
      have hpl := pureN_len (l := l) (k := k)
      refine a_region (by kernel_rfl) ?_
      refine op_v' (j_assign (evo rfl)) ?_
      refine op_nil ?_
      refine a_seq ?_
      refine a_region (by kernel_rfl) ?_
      refine op_v' (j_assign (evo rfl)) ?_
      refine op_nil ?_
      refine a_seq ?_
      refine a_seq ?_
      refine a_region (by kernel_rfl) ?_
      refine op_v' (j_assign (evo rfl)) ?_
      refine op_nil ?_
      refine a_block ?_
      refine a_loopF' (ι := Nat) (fun j => j ≤ l.length) (fun j r => (7, .p (.int .i64 ((j : Nat)))) :: (5, .p (.bool (hasV (l.take j) ((k : Int) + 1)))) :: (6, .p (.bool (hasV (l.take j) (-((k : Int) + 1))))) :: r) (fun j r => r) (fun j => l.length - j) (fun _ _ => rfl) (fun _ _ => rfl) 0 (by first | omega | (simp only [List.length_map, List.length_take, Int.toNat_natCast, List.length_map, List.length_append, List.length_cons, List.length_nil, List.length_take]; omega)) ⟨⟨rfl, rfl⟩, ⟨rfl, rfl, rfl, trivial⟩, trivial, ⟨rfl, rfl⟩, ⟨rfl, rfl⟩⟩ ?_
      intro j hpre1
      refine a_seq ?_
      refine a_seq ?_
      refine a_region (by kernel_rfl) ?_
      refine op_v' (j_move (evo rfl)) ?_
      refine op_v' (j_move (evo rfl)) ?_
      refine op_v' (j_len_map Try.underlying27 rfl) ?_
      refine op_v' (j_lt rfl rfl) ?_
      refine op_nil ?_
      refine a_cond rfl (fun h3 => ?_) (fun h3 => ?_)
      ·
        have h3r := h3
        try simp only [Bool.not_eq_true', Bool.not_eq_false', Bool.not_not, bne_iff_ne, bne_eq_false_iff_eq, beq_eq_false_iff_ne, beq_iff_eq, ne_eq, decide_eq_true_eq, decide_eq_false_iff_not, Classical.not_not, List.length_map, List.length_take, Int.toNat_natCast, List.length_map, List.length_append, List.length_cons, List.length_nil, List.length_take] at h3
        refine a_skip ?_
        refine a_seq ?_
        refine a_block ?_
        refine a_seq ?_
        refine a_region (by kernel_rfl) ?_
        refine op_v' (j_move (evo rfl)) ?_
        refine op_v' (j_move (evo rfl)) ?_
        refine op_split' 24 rfl (fun h4 => ?_) (fun h4 => ?_)
        ·
          have h4r := h4
          try simp only [Bool.not_eq_true', Bool.not_eq_false', Bool.not_not, bne_iff_ne, bne_eq_false_iff_eq, beq_eq_false_iff_ne, beq_iff_eq, ne_eq, decide_eq_true_eq, decide_eq_false_iff_not, Classical.not_not, List.length_map, List.length_take, Int.toNat_natCast, List.length_map, List.length_append, List.length_cons, List.length_nil, List.length_take] at h4
          refine op_v' (j_unwantV rfl rfl h4r) ?_
          refine op_v' (j_unwantV rfl rfl h4r) ?_
          refine op_v' (j_unwantV rfl rfl h4r) ?_
          refine op_v' (j_unwantV rfl rfl h4r) ?_
          refine op_v' (j_unwantV rfl rfl h4r) ?_
          refine op_v' (j_unwantV rfl rfl h4r) ?_
          refine op_v' (j_unwantV rfl rfl h4r) ?_
          refine op_v' (j_pick_t rfl h4r (evo rfl)) ?_
          refine op_v' (j_assign (evo rfl)) ?_
          refine op_nil ?_
          refine a_region (by kernel_rfl) ?_
          refine op_v' (j_move (evo rfl)) ?_
          refine op_v' (j_move (evo rfl)) ?_
          refine op_split' 34 rfl (fun h5 => ?_) (fun h5 => ?_)
          ·
            have h5r := h5
            try simp only [Bool.not_eq_true', Bool.not_eq_false', Bool.not_not, bne_iff_ne, bne_eq_false_iff_eq, beq_eq_false_iff_ne, beq_iff_eq, ne_eq, decide_eq_true_eq, decide_eq_false_iff_not, Classical.not_not, List.length_map, List.length_take, Int.toNat_natCast, List.length_map, List.length_append, List.length_cons, List.length_nil, List.length_take] at h5
            refine op_v' (j_unwantV rfl rfl h5r) ?_
            refine op_v' (j_unwantV rfl rfl h5r) ?_
            refine op_v' (j_unwantV rfl rfl h5r) ?_
            refine op_v' (j_unwantV rfl rfl h5r) ?_
            refine op_v' (j_unwantV rfl rfl h5r) ?_
            refine op_v' (j_unwantV rfl rfl h5r) ?_
            refine op_v' (j_unwantV rfl rfl h5r) ?_
            refine op_v' (j_unwantV rfl rfl h5r) ?_
            refine op_v' (j_pick_t rfl h5r (evo rfl)) ?_
            refine op_v' (j_assign (evo rfl)) ?_
            refine op_nil ?_
            refine a_region (by kernel_rfl) ?_
            refine op_v' (j_move (evo rfl)) ?_
            refine op_v' (j_add rfl rfl (by first | omega | (simp only [List.length_map, List.length_take, Int.toNat_natCast, List.length_map, List.length_append, List.length_cons, List.length_nil, List.length_take]; omega)) (by first | omega | (simp only [List.length_map, List.length_take, Int.toNat_natCast, List.length_map, List.length_append, List.length_cons, List.length_nil, List.length_take]; omega))) ?_
            refine op_v' (j_assign (evo rfl)) ?_
            refine op_nil ?_
            exact ⟨j + 1, (by first | omega | (simp only [List.length_map, List.length_take, Int.toNat_natCast, List.length_map, List.length_append, List.length_cons, List.length_nil, List.length_take]; omega)), ⟨⟨rfl, rfl⟩, ⟨rfl, boolEq (by rw [hasV_next (by omega)]; simp_all), boolEq (by rw [hasV_next (by omega)]; simp_all), trivial⟩, trivial, ⟨rfl, rfl⟩, ⟨rfl, rfl⟩⟩, (by first | omega | (simp only [List.length_map, List.length_take, Int.toNat_natCast, List.length_map, List.length_append, List.length_cons, List.length_nil, List.length_take]; omega))⟩
          ·
            have h5r := h5
            try simp only [Bool.not_eq_true', Bool.not_eq_false', Bool.not_not, bne_iff_ne, bne_eq_false_iff_eq, beq_eq_false_iff_ne, beq_iff_eq, ne_eq, decide_eq_true_eq, decide_eq_false_iff_not, Classical.not_not, List.length_map, List.length_take, Int.toNat_natCast, List.length_map, List.length_append, List.length_cons, List.length_nil, List.length_take] at h5
            refine op_v' (j_want rfl rfl h5r (j_move (evo rfl))) ?_
            refine op_v' (j_want rfl rfl h5r (j_move (evo rfl))) ?_
            refine op_v' (j_want rfl rfl h5r (j_elemN slt27 rfl rfl rfl (at_map (by first | omega | (simp only [List.length_map, List.length_take, Int.toNat_natCast, List.length_map, List.length_append, List.length_cons, List.length_nil, List.length_take]; omega))) rfl)) ?_
            refine op_v' (j_want rfl rfl h5r (j_loada_el (ys := [.sl _, .p _]) agg25 rfl (at_map (by first | omega | (simp only [List.length_map, List.length_take, Int.toNat_natCast, List.length_map, List.length_append, List.length_cons, List.length_nil, List.length_take]; omega))) rfl (Nat.le_refl _))) ?_
            refine op_v' (j_want rfl rfl h5r (j_move (evo rfl))) ?_
            refine op_v' (j_want rfl rfl h5r (j_neg rfl (by first | omega | (simp only [List.length_map, List.length_take, Int.toNat_natCast, List.length_map, List.length_append, List.length_cons, List.length_nil, List.length_take]; omega)) (by first | omega | (simp only [List.length_map, List.length_take, Int.toNat_natCast, List.length_map, List.length_append, List.length_cons, List.length_nil, List.length_take]; omega)))) ?_
            refine op_v0' (j_want rfl rfl h5r (j_call0 (v := .p _) (hp1 := []) [] false [] ent81 (f_l2Coef (l.getD j default) (-((k : Int) + 1))) ⟨.inl ⟨rfl, rfl⟩, .inl ⟨rfl, rfl⟩, trivial⟩ trivial rfl rfl (fun h => by cases h) rfl (fun _ h => by cases h) (.inl rfl) rfl rfl)) ?_
            refine op_v' (j_want rfl rfl h5r (j_gt rfl rfl)) ?_
            refine op_v' (j_pick_f rfl h5r (evo rfl)) ?_
            refine op_v' (j_assign (evo rfl)) ?_
            refine op_nil ?_
            refine a_region (by kernel_rfl) ?_
            refine op_v' (j_move (evo rfl)) ?_
            refine op_v' (j_add rfl rfl (by first | omega | (simp only [List.length_map, List.length_take, Int.toNat_natCast, List.length_map, List.length_append, List.length_cons, List.length_nil, List.length_take]; omega)) (by first | omega | (simp only [List.length_map, List.length_take, Int.toNat_natCast, List.length_map, List.length_append, List.length_cons, List.length_nil, List.length_take]; omega))) ?_
            refine op_v' (j_assign (evo rfl)) ?_
            refine op_nil ?_
            exact ⟨j + 1, (by first | omega | (simp only [List.length_map, List.length_take, Int.toNat_natCast, List.length_map, List.length_append, List.length_cons, List.length_nil, List.length_take]; omega)), ⟨⟨rfl, rfl⟩, ⟨rfl, boolEq (by rw [hasV_next (by omega)]; simp_all), boolEq (by rw [hasV_next (by omega)]; simp_all), trivial⟩, trivial, ⟨rfl, rfl⟩, ⟨rfl, rfl⟩⟩, (by first | omega | (simp only [List.length_map, List.length_take, Int.toNat_natCast, List.length_map, List.length_append, List.length_cons, List.length_nil, List.length_take]; omega))⟩
        ·
          have h4r := h4
          try simp only [Bool.not_eq_true', Bool.not_eq_false', Bool.not_not, bne_iff_ne, bne_eq_false_iff_eq, beq_eq_false_iff_ne, beq_iff_eq, ne_eq, decide_eq_true_eq, decide_eq_false_iff_not, Classical.not_not, List.length_map, List.length_take, Int.toNat_natCast, List.length_map, List.length_append, List.length_cons, List.length_nil, List.length_take] at h4
          refine op_v' (j_want rfl rfl h4r (j_move (evo rfl))) ?_
          refine op_v' (j_want rfl rfl h4r (j_move (evo rfl))) ?_
          refine op_v' (j_want rfl rfl h4r (j_elemN slt27 rfl rfl rfl (at_map (by first | omega | (simp only [List.length_map, List.length_take, Int.toNat_natCast, List.length_map, List.length_append, List.length_cons, List.length_nil, List.length_take]; omega))) rfl)) ?_
          refine op_v' (j_want rfl rfl h4r (j_loada_el (ys := [.sl _, .p _]) agg25 rfl (at_map (by first | omega | (simp only [List.length_map, List.length_take, Int.toNat_natCast, List.length_map, List.length_append, List.length_cons, List.length_nil, List.length_take]; omega))) rfl (Nat.le_refl _))) ?_
          refine op_v' (j_want rfl rfl h4r (j_move (evo rfl))) ?_
          refine op_v0' (j_want rfl rfl h4r (j_call0 (v := .p _) (hp1 := []) [] false [] ent81 (f_l2Coef (l.getD j default) ((k : Int) + 1)) ⟨.inl ⟨rfl, rfl⟩, .inl ⟨rfl, rfl⟩, trivial⟩ trivial rfl rfl (fun h => by cases h) rfl (fun _ h => by cases h) (.inl rfl) rfl rfl)) ?_
          refine op_v' (j_want rfl rfl h4r (j_gt rfl rfl)) ?_
          refine op_v' (j_pick_f rfl h4r (evo rfl)) ?_
          refine op_v' (j_assign (evo rfl)) ?_
          refine op_nil ?_
          refine a_region (by kernel_rfl) ?_
          refine op_v' (j_move (evo rfl)) ?_
          refine op_v' (j_move (evo rfl)) ?_
          refine op_split' 34 rfl (fun h6 => ?_) (fun h6 => ?_)
          ·
            have h6r := h6
            try simp only [Bool.not_eq_true', Bool.not_eq_false', Bool.not_not, bne_iff_ne, bne_eq_false_iff_eq, beq_eq_false_iff_ne, beq_iff_eq, ne_eq, decide_eq_true_eq, decide_eq_false_iff_not, Classical.not_not, List.length_map, List.length_take, Int.toNat_natCast, List.length_map, List.length_append, List.length_cons, List.length_nil, List.length_take] at h6
            refine op_v' (j_unwantV rfl rfl h6r) ?_
            refine op_v' (j_unwantV rfl rfl h6r) ?_
            refine op_v' (j_unwantV rfl rfl h6r) ?_
            refine op_v' (j_unwantV rfl rfl h6r) ?_
            refine op_v' (j_unwantV rfl rfl h6r) ?_
            refine op_v' (j_unwantV rfl rfl h6r) ?_
            refine op_v' (j_unwantV rfl rfl h6r) ?_
            refine op_v' (j_unwantV rfl rfl h6r) ?_
            refine op_v' (j_pick_t rfl h6r (evo rfl)) ?_
            refine op_v' (j_assign (evo rfl)) ?_
            refine op_nil ?_
            refine a_region (by kernel_rfl) ?_
            refine op_v' (j_move (evo rfl)) ?_
            refine op_v' (j_add rfl rfl (by first | omega | (simp only [List.length_map, List.length_take, Int.toNat_natCast, List.length_map, List.length_append, List.length_cons, List.length_nil, List.length_take]; omega)) (by first | omega | (simp only [List.length_map, List.length_take, Int.toNat_natCast, List.length_map, List.length_append, List.length_cons, List.length_nil, List.length_take]; omega))) ?_
            refine op_v' (j_assign (evo rfl)) ?_
            refine op_nil ?_
            exact ⟨j + 1, (by first | omega | (simp only [List.length_map, List.length_take, Int.toNat_natCast, List.length_map, List.length_append, List.length_cons, List.length_nil, List.length_take]; omega)), ⟨⟨rfl, rfl⟩, ⟨rfl, boolEq (by rw [hasV_next (by omega)]; simp_all), boolEq (by rw [hasV_next (by omega)]; simp_all), trivial⟩, trivial, ⟨rfl, rfl⟩, ⟨rfl, rfl⟩⟩, (by first | omega | (simp only [List.length_map, List.length_take, Int.toNat_natCast, List.length_map, List.length_append, List.length_cons, List.length_nil, List.length_take]; omega))⟩
          ·
            have h6r := h6
            try simp only [Bool.not_eq_true', Bool.not_eq_false', Bool.not_not, bne_iff_ne, bne_eq_false_iff_eq, beq_eq_false_iff_ne, beq_iff_eq, ne_eq, decide_eq_true_eq, decide_eq_false_iff_not, Classical.not_not, List.length_map, List.length_take, Int.toNat_natCast, List.length_map, List.length_append, List.length_cons, List.length_nil, List.length_take] at h6
            refine op_v' (j_want rfl rfl h6r (j_move (evo rfl))) ?_
            refine op_v' (j_want rfl rfl h6r (j_move (evo rfl))) ?_
            refine op_v' (j_want rfl rfl h6r (j_elemN slt27 rfl rfl rfl (at_map (by first | omega | (simp only [List.length_map, List.length_take, Int.toNat_natCast, List.length_map, List.length_append, List.length_cons, List.length_nil, List.length_take]; omega))) rfl)) ?_
            refine op_v' (j_want rfl rfl h6r (j_loada_el (ys := [.sl _, .p _]) agg25 rfl (at_map (by first | omega | (simp only [List.length_map, List.length_take, Int.toNat_natCast, List.length_map, List.length_append, List.length_cons, List.length_nil, List.length_take]; omega))) rfl (Nat.le_refl _))) ?_
            refine op_v' (j_want rfl rfl h6r (j_move (evo rfl))) ?_
            refine op_v' (j_want rfl rfl h6r (j_neg rfl (by first | omega | (simp only [List.length_map, List.length_take, Int.toNat_natCast, List.length_map, List.length_append, List.length_cons, List.length_nil, List.length_take]; omega)) (by first | omega | (simp only [List.length_map, List.length_take, Int.toNat_natCast, List.length_map, List.length_append, List.length_cons, List.length_nil, List.length_take]; omega)))) ?_
            refine op_v0' (j_want rfl rfl h6r (j_call0 (v := .p _) (hp1 := []) [] false [] ent81 (f_l2Coef (l.getD j default) (-((k : Int) + 1))) ⟨.inl ⟨rfl, rfl⟩, .inl ⟨rfl, rfl⟩, trivial⟩ trivial rfl rfl (fun h => by cases h) rfl (fun _ h => by cases h) (.inl rfl) rfl rfl)) ?_
            refine op_v' (j_want rfl rfl h6r (j_gt rfl rfl)) ?_
            refine op_v' (j_pick_f rfl h6r (evo rfl)) ?_
            refine op_v' (j_assign (evo rfl)) ?_
            refine op_nil ?_
            refine a_region (by kernel_rfl) ?_
            refine op_v' (j_move (evo rfl)) ?_
            refine op_v' (j_add rfl rfl (by first | omega | (simp only [List.length_map, List.length_take, Int.toNat_natCast, List.length_map, List.length_append, List.length_cons, List.length_nil, List.length_take]; omega)) (by first | omega | (simp only [List.length_map, List.length_take, Int.toNat_natCast, List.length_map, List.length_append, List.length_cons, List.length_nil, List.length_take]; omega))) ?_
            refine op_v' (j_assign (evo rfl)) ?_
            refine op_nil ?_
            exact ⟨j + 1, (by first | omega | (simp only [List.length_map, List.length_take, Int.toNat_natCast, List.length_map, List.length_append, List.length_cons, List.length_nil, List.length_take]; omega)), ⟨⟨rfl, rfl⟩, ⟨rfl, boolEq (by rw [hasV_next (by omega)]; simp_all), boolEq (by rw [hasV_next (by omega)]; simp_all), trivial⟩, trivial, ⟨rfl, rfl⟩, ⟨rfl, rfl⟩⟩, (by first | omega | (simp only [List.length_map, List.length_take, Int.toNat_natCast, List.length_map, List.length_append, List.length_cons, List.length_nil, List.length_take]; omega))⟩
      ·
        have h3r := h3
        try simp only [Bool.not_eq_true', Bool.not_eq_false', Bool.not_not, bne_iff_ne, bne_eq_false_iff_eq, beq_eq_false_iff_ne, beq_iff_eq, ne_eq, decide_eq_true_eq, decide_eq_false_iff_not, Classical.not_not, List.length_map, List.length_take, Int.toNat_natCast, List.length_map, List.length_append, List.length_cons, List.length_nil, List.length_take] at h3
        refine a_exit ?_
        refine a_seq ?_
        refine a_seq ?_
        obtain rfl : j = l.length := by omega
        rw [List.take_length]
        refine a_region (by kernel_rfl) ?_
        refine op_v' (j_move (evo rfl)) ?_
        refine op_v' (j_move (evo rfl)) ?_
        refine op_split' 45 rfl (fun h7 => ?_) (fun h7 => ?_)
        ·
          have h7r := h7
          try simp only [Bool.not_eq_true', Bool.not_eq_false', Bool.not_not, bne_iff_ne, bne_eq_false_iff_eq, beq_eq_false_iff_ne, beq_iff_eq, ne_eq, decide_eq_true_eq, decide_eq_false_iff_not, Classical.not_not, List.length_map, List.length_take, Int.toNat_natCast, List.length_map, List.length_append, List.length_cons, List.length_nil, List.length_take] at h7
          refine op_v' (j_want rfl rfl h7r (j_move (evo rfl))) ?_
          refine op_v' (j_want rfl rfl h7r (j_not rfl)) ?_
          refine op_v' (j_pick_t rfl h7r (evo rfl)) ?_
          refine op_nil ?_
          refine a_cond rfl (fun h8 => ?_) (fun h8 => ?_)
          ·
            have h8r := h8
            try simp only [Bool.not_eq_true', Bool.not_eq_false', Bool.not_not, bne_iff_ne, bne_eq_false_iff_eq, beq_eq_false_iff_ne, beq_iff_eq, ne_eq, decide_eq_true_eq, decide_eq_false_iff_not, Classical.not_not, List.length_map, List.length_take, Int.toNat_natCast, List.length_map, List.length_append, List.length_cons, List.length_nil, List.length_take] at h8
            refine a_region (by kernel_rfl) ?_
            refine op_v' (j_move (evo rfl)) ?_
            refine op_v' (j_move (evo rfl)) ?_
            refine op_n' (fun ver => j_buildSlice (parts := [(0, .tmp 50)]) (es := [[_]]) slt36 elt3 rfl rfl (by decide) (by decide) rfl rfl (by simp) rfl) fun v51x2 => ?_
            refine op_n' (fun ver => j_append_own slt36 elt3 rfl rfl rfl rfl rfl rfl (by rw [maxLen_eq]; first | omega | (simp only [List.length_map, List.length_take, Int.toNat_natCast, List.length_map, List.length_append, List.length_cons, List.length_nil, List.length_take]; omega)) (by first | omega | (simp only [List.length_map, List.length_take, Int.toNat_natCast, List.length_map, List.length_append, List.length_cons, List.length_nil, List.length_take]; omega))) fun v8x3 => ?_
            refine op_v' (j_assign (evo rfl)) ?_
            refine op_nil ?_
            refine a_seq ?_
            refine a_region (by kernel_rfl) ?_
            refine op_v' (j_move (evo rfl)) ?_
            refine op_v' (j_move (evo rfl)) ?_
            refine op_split' 54 rfl (fun h9 => ?_) (fun h9 => ?_)
            ·
              have h9r := h9
              try simp only [Bool.not_eq_true', Bool.not_eq_false', Bool.not_not, bne_iff_ne, bne_eq_false_iff_eq, beq_eq_false_iff_ne, beq_iff_eq, ne_eq, decide_eq_true_eq, decide_eq_false_iff_not, Classical.not_not, List.length_map, List.length_take, Int.toNat_natCast, List.length_map, List.length_append, List.length_cons, List.length_nil, List.length_take] at h9
              refine op_v' (j_want rfl rfl h9r (j_move (evo rfl))) ?_
              refine op_v' (j_want rfl rfl h9r (j_not rfl)) ?_
              refine op_v' (j_pick_t rfl h9r (evo rfl)) ?_
              refine op_nil ?_
              refine a_cond rfl (fun h10 => ?_) (fun h10 => ?_)
              ·
                have h10r := h10
                try simp only [Bool.not_eq_true', Bool.not_eq_false', Bool.not_not, bne_iff_ne, bne_eq_false_iff_eq, beq_eq_false_iff_ne, beq_iff_eq, ne_eq, decide_eq_true_eq, decide_eq_false_iff_not, Classical.not_not, List.length_map, List.length_take, Int.toNat_natCast, List.length_map, List.length_append, List.length_cons, List.length_nil, List.length_take] at h10
                refine a_region (by kernel_rfl) ?_
                refine op_v' (j_move (evo rfl)) ?_
                refine op_v' (j_move (evo rfl)) ?_
                refine op_v' (j_neg rfl (by first | omega | (simp only [List.length_map, List.length_take, Int.toNat_natCast, List.length_map, List.length_append, List.length_cons, List.length_nil, List.length_take]; omega)) (by first | omega | (simp only [List.length_map, List.length_take, Int.toNat_natCast, List.length_map, List.length_append, List.length_cons, List.length_nil, List.length_take]; omega))) ?_
                refine op_n' (fun ver => j_buildSlice (parts := [(0, .tmp 60)]) (es := [[_]]) slt36 elt3 rfl rfl (by decide) (by decide) rfl rfl (by simp) rfl) fun v61x4 => ?_
                refine op_n' (fun ver => j_append_own slt36 elt3 rfl rfl rfl rfl rfl rfl (by rw [maxLen_eq]; first | omega | (simp only [List.length_map, List.length_take, Int.toNat_natCast, List.length_map, List.length_append, List.length_cons, List.length_nil, List.length_take]; omega)) (by first | omega | (simp only [List.length_map, List.length_take, Int.toNat_natCast, List.length_map, List.length_append, List.length_cons, List.length_nil, List.length_take]; omega))) fun v8x5 => ?_
                refine op_v' (j_assign (evo rfl)) ?_
                refine op_nil ?_
                refine a_region (by kernel_rfl) ?_
                refine op_v' (j_move (evo rfl)) ?_
                refine op_v' (j_add rfl rfl (by first | omega | (simp only [List.length_map, List.length_take, Int.toNat_natCast, List.length_map, List.length_append, List.length_cons, List.length_nil, List.length_take]; omega)) (by first | omega | (simp only [List.length_map, List.length_take, Int.toNat_natCast, List.length_map, List.length_append, List.length_cons, List.length_nil, List.length_take]; omega))) ?_
                refine op_v' (j_assign (evo rfl)) ?_
                refine op_nil ?_
                exact ⟨(k + 1, v8x5), (by first | exact ⟨by omega, .inr (by assumption)⟩ | (dsimp only; exact ⟨by omega, .inr (by assumption)⟩)), ⟨⟨rfl, rfl⟩, ⟨rfl, rfl, trivial⟩, ⟨rowEq (by first | (rw [pureN_y (by assumption) (by assumption), List.map_append]; rfl) | (rw [pureN_n (by assumption) (by assumption), List.map_append]; rfl) | (exfalso; simp_all; done) | (rw [pureN_0 (by simp_all)])), trivial⟩, ⟨rfl, rfl⟩, ⟨rfl, rfl⟩⟩, (by first | exact (by first | omega | (simp only [List.length_map, List.length_take, Int.toNat_natCast, List.length_map, List.length_append, List.length_cons, List.length_nil, List.length_take]; omega)) | (dsimp only; exact (by first | omega | (simp only [List.length_map, List.length_take, Int.toNat_natCast, List.length_map, List.length_append, List.length_cons, List.length_nil, List.length_take]; omega))))⟩
              ·
                have h10r := h10
                try simp only [Bool.not_eq_true', Bool.not_eq_false', Bool.not_not, bne_iff_ne, bne_eq_false_iff_eq, beq_eq_false_iff_ne, beq_iff_eq, ne_eq, decide_eq_true_eq, decide_eq_false_iff_not, Classical.not_not, List.length_map, List.length_take, Int.toNat_natCast, List.length_map, List.length_append, List.length_cons, List.length_nil, List.length_take] at h10
                refine a_skip ?_
                refine a_region (by kernel_rfl) ?_
                refine op_v' (j_move (evo rfl)) ?_
                refine op_v' (j_add rfl rfl (by first | omega | (simp only [List.length_map, List.length_take, Int.toNat_natCast, List.length_map, List.length_append, List.length_cons, List.length_nil, List.length_take]; omega)) (by first | omega | (simp only [List.length_map, List.length_take, Int.toNat_natCast, List.length_map, List.length_append, List.length_cons, List.length_nil, List.length_take]; omega))) ?_
                refine op_v' (j_assign (evo rfl)) ?_
                refine op_nil ?_
                exact ⟨(k + 1, v8x3), (by first | exact ⟨by omega, .inr (by assumption)⟩ | (dsimp only; exact ⟨by omega, .inr (by assumption)⟩)), ⟨⟨rfl, rfl⟩, ⟨rfl, rfl, trivial⟩, ⟨rowEq (by first | (rw [pureN_y (by assumption) (by assumption), List.map_append]; rfl) | (rw [pureN_n (by assumption) (by assumption), List.map_append]; rfl) | (exfalso; simp_all; done) | (rw [pureN_0 (by simp_all)])), trivial⟩, ⟨rfl, rfl⟩, ⟨rfl, rfl⟩⟩, (by first | exact (by first | omega | (simp only [List.length_map, List.length_take, Int.toNat_natCast, List.length_map, List.length_append, List.length_cons, List.length_nil, List.length_take]; omega)) | (dsimp only; exact (by first | omega | (simp only [List.length_map, List.length_take, Int.toNat_natCast, List.length_map, List.length_append, List.length_cons, List.length_nil, List.length_take]; omega))))⟩
            ·
              have h9r := h9
              try simp only [Bool.not_eq_true', Bool.not_eq_false', Bool.not_not, bne_iff_ne, bne_eq_false_iff_eq, beq_eq_false_iff_ne, beq_iff_eq, ne_eq, decide_eq_true_eq, decide_eq_false_iff_not, Classical.not_not, List.length_map, List.length_take, Int.toNat_natCast, List.length_map, List.length_append, List.length_cons, List.length_nil, List.length_take] at h9
              refine op_v' (j_unwantV rfl rfl h9r) ?_
              refine op_v' (j_unwantV rfl rfl h9r) ?_
              refine op_v' (j_pick_f rfl h9r (evo rfl)) ?_
              refine op_nil ?_
              refine a_ff rfl ?_
              refine a_skip ?_
              refine a_region (by kernel_rfl) ?_
              refine op_v' (j_move (evo rfl)) ?_
              refine op_v' (j_add rfl rfl (by first | omega | (simp only [List.length_map, List.length_take, Int.toNat_natCast, List.length_map, List.length_append, List.length_cons, List.length_nil, List.length_take]; omega)) (by first | omega | (simp only [List.length_map, List.length_take, Int.toNat_natCast, List.length_map, List.length_append, List.length_cons, List.length_nil, List.length_take]; omega))) ?_
              refine op_v' (j_assign (evo rfl)) ?_
              refine op_nil ?_
              exact ⟨(k + 1, v8x3), (by first | exact ⟨by omega, .inr (by assumption)⟩ | (dsimp only; exact ⟨by omega, .inr (by assumption)⟩)), ⟨⟨rfl, rfl⟩, ⟨rfl, rfl, trivial⟩, ⟨rowEq (by first | (rw [pureN_y (by assumption) (by assumption), List.map_append]; rfl) | (rw [pureN_n (by assumption) (by assumption), List.map_append]; rfl) | (exfalso; simp_all; done) | (rw [pureN_0 (by simp_all)])), trivial⟩, ⟨rfl, rfl⟩, ⟨rfl, rfl⟩⟩, (by first | exact (by first | omega | (simp only [List.length_map, List.length_take, Int.toNat_natCast, List.length_map, List.length_append, List.length_cons, List.length_nil, List.length_take]; omega)) | (dsimp only; exact (by first | omega | (simp only [List.length_map, List.length_take, Int.toNat_natCast, List.length_map, List.length_append, List.length_cons, List.length_nil, List.length_take]; omega))))⟩
          ·
            have h8r := h8
            try simp only [Bool.not_eq_true', Bool.not_eq_false', Bool.not_not, bne_iff_ne, bne_eq_false_iff_eq, beq_eq_false_iff_ne, beq_iff_eq, ne_eq, decide_eq_true_eq, decide_eq_false_iff_not, Classical.not_not, List.length_map, List.length_take, Int.toNat_natCast, List.length_map, List.length_append, List.length_cons, List.length_nil, List.length_take] at h8
            refine a_skip ?_
            refine a_seq ?_
            refine a_region (by kernel_rfl) ?_
            refine op_v' (j_move (evo rfl)) ?_
            refine op_v' (j_move (evo rfl)) ?_
            refine op_split' 54 rfl (fun h11 => ?_) (fun h11 => ?_)
            ·
              have h11r := h11
              try simp only [Bool.not_eq_true', Bool.not_eq_false', Bool.not_not, bne_iff_ne, bne_eq_false_iff_eq, beq_eq_false_iff_ne, beq_iff_eq, ne_eq, decide_eq_true_eq, decide_eq_false_iff_not, Classical.not_not, List.length_map, List.length_take, Int.toNat_natCast, List.length_map, List.length_append, List.length_cons, List.length_nil, List.length_take] at h11
              refine op_v' (j_want rfl rfl h11r (j_move (evo rfl))) ?_
              refine op_v' (j_want rfl rfl h11r (j_not rfl)) ?_
              refine op_v' (j_pick_t rfl h11r (evo rfl)) ?_
              refine op_nil ?_
              refine a_cond rfl (fun h12 => ?_) (fun h12 => ?_)
              ·
                have h12r := h12
                try simp only [Bool.not_eq_true', Bool.not_eq_false', Bool.not_not, bne_iff_ne, bne_eq_false_iff_eq, beq_eq_false_iff_ne, beq_iff_eq, ne_eq, decide_eq_true_eq, decide_eq_false_iff_not, Classical.not_not, List.length_map, List.length_take, Int.toNat_natCast, List.length_map, List.length_append, List.length_cons, List.length_nil, List.length_take] at h12
                refine a_region (by kernel_rfl) ?_
                refine op_v' (j_move (evo rfl)) ?_
                refine op_v' (j_move (evo rfl)) ?_
                refine op_v' (j_neg rfl (by first | omega | (simp only [List.length_map, List.length_take, Int.toNat_natCast, List.length_map, List.length_append, List.length_cons, List.length_nil, List.length_take]; omega)) (by first | omega | (simp only [List.length_map, List.length_take, Int.toNat_natCast, List.length_map, List.length_append, List.length_cons, List.length_nil, List.length_take]; omega))) ?_
                refine op_n' (fun ver => j_buildSlice (parts := [(0, .tmp 60)]) (es := [[_]]) slt36 elt3 rfl rfl (by decide) (by decide) rfl rfl (by simp) rfl) fun v61x6 => ?_
                refine op_n' (fun ver => j_append_own slt36 elt3 rfl rfl rfl rfl rfl rfl (by rw [maxLen_eq]; first | omega | (simp only [List.length_map, List.length_take, Int.toNat_natCast, List.length_map, List.length_append, List.length_cons, List.length_nil, List.length_take]; omega)) (by first | omega | (simp only [List.length_map, List.length_take, Int.toNat_natCast, List.length_map, List.length_append, List.length_cons, List.length_nil, List.length_take]; omega))) fun v8x7 => ?_
                refine op_v' (j_assign (evo rfl)) ?_
                refine op_nil ?_
                refine a_region (by kernel_rfl) ?_
                refine op_v' (j_move (evo rfl)) ?_
                refine op_v' (j_add rfl rfl (by first | omega | (simp only [List.length_map, List.length_take, Int.toNat_natCast, List.length_map, List.length_append, List.length_cons, List.length_nil, List.length_take]; omega)) (by first | omega | (simp only [List.length_map, List.length_take, Int.toNat_natCast, List.length_map, List.length_append, List.length_cons, List.length_nil, List.length_take]; omega))) ?_
                refine op_v' (j_assign (evo rfl)) ?_
                refine op_nil ?_
                exact ⟨(k + 1, v8x7), (by first | exact ⟨by omega, .inr (by assumption)⟩ | (dsimp only; exact ⟨by omega, .inr (by assumption)⟩)), ⟨⟨rfl, rfl⟩, ⟨rfl, rfl, trivial⟩, ⟨rowEq (by first | (rw [pureN_y (by assumption) (by assumption), List.map_append]; rfl) | (rw [pureN_n (by assumption) (by assumption), List.map_append]; rfl) | (exfalso; simp_all; done) | (rw [pureN_0 (by simp_all)])), trivial⟩, ⟨rfl, rfl⟩, ⟨rfl, rfl⟩⟩, (by first | exact (by first | omega | (simp only [List.length_map, List.length_take, Int.toNat_natCast, List.length_map, List.length_append, List.length_cons, List.length_nil, List.length_take]; omega)) | (dsimp only; exact (by first | omega | (simp only [List.length_map, List.length_take, Int.toNat_natCast, List.length_map, List.length_append, List.length_cons, List.length_nil, List.length_take]; omega))))⟩
              ·
                have h12r := h12
                try simp only [Bool.not_eq_true', Bool.not_eq_false', Bool.not_not, bne_iff_ne, bne_eq_false_iff_eq, beq_eq_false_iff_ne, beq_iff_eq, ne_eq, decide_eq_true_eq, decide_eq_false_iff_not, Classical.not_not, List.length_map, List.length_take, Int.toNat_natCast, List.length_map, List.length_append, List.length_cons, List.length_nil, List.length_take] at h12
                refine a_skip ?_
                refine a_region (by kernel_rfl) ?_
                refine op_v' (j_move (evo rfl)) ?_
                refine op_v' (j_add rfl rfl (by first | omega | (simp only [List.length_map, List.length_take, Int.toNat_natCast, List.length_map, List.length_append, List.length_cons, List.length_nil, List.length_take]; omega)) (by first | omega | (simp only [List.length_map, List.length_take, Int.toNat_natCast, List.length_map, List.length_append, List.length_cons, List.length_nil, List.length_take]; omega))) ?_
                refine op_v' (j_assign (evo rfl)) ?_
                refine op_nil ?_
                exact ⟨(k + 1, v), (by first | exact ⟨by omega, .inr (by assumption)⟩ | (dsimp only; exact ⟨by omega, .inr (by assumption)⟩)), ⟨⟨rfl, rfl⟩, ⟨rfl, rfl, trivial⟩, ⟨rowEq (by first | (rw [pureN_y (by assumption) (by assumption), List.map_append]; rfl) | (rw [pureN_n (by assumption) (by assumption), List.map_append]; rfl) | (exfalso; simp_all; done) | (rw [pureN_0 (by simp_all)])), trivial⟩, ⟨rfl, rfl⟩, ⟨rfl, rfl⟩⟩, (by first | exact (by first | omega | (simp only [List.length_map, List.length_take, Int.toNat_natCast, List.length_map, List.length_append, List.length_cons, List.length_nil, List.length_take]; omega)) | (dsimp only; exact (by first | omega | (simp only [List.length_map, List.length_take, Int.toNat_natCast, List.length_map, List.length_append, List.length_cons, List.length_nil, List.length_take]; omega))))⟩
            ·
              have h11r := h11
              try simp only [Bool.not_eq_true', Bool.not_eq_false', Bool.not_not, bne_iff_ne, bne_eq_false_iff_eq, beq_eq_false_iff_ne, beq_iff_eq, ne_eq, decide_eq_true_eq, decide_eq_false_iff_not, Classical.not_not, List.length_map, List.length_take, Int.toNat_natCast, List.length_map, List.length_append, List.length_cons, List.length_nil, List.length_take] at h11
              refine op_v' (j_unwantV rfl rfl h11r) ?_
              refine op_v' (j_unwantV rfl rfl h11r) ?_
              refine op_v' (j_pick_f rfl h11r (evo rfl)) ?_
              refine op_nil ?_
              refine a_ff rfl ?_
              refine a_skip ?_
              refine a_region (by kernel_rfl) ?_
              refine op_v' (j_move (evo rfl)) ?_
              refine op_v' (j_add rfl rfl (by first | omega | (simp only [List.length_map, List.length_take, Int.toNat_natCast, List.length_map, List.length_append, List.length_cons, List.length_nil, List.length_take]; omega)) (by first | omega | (simp only [List.length_map, List.length_take, Int.toNat_natCast, List.length_map, List.length_append, List.length_cons, List.length_nil, List.length_take]; omega))) ?_
              refine op_v' (j_assign (evo rfl)) ?_
              refine op_nil ?_
              exact ⟨(k + 1, v), (by first | exact ⟨by omega, .inr (by assumption)⟩ | (dsimp only; exact ⟨by omega, .inr (by assumption)⟩)), ⟨⟨rfl, rfl⟩, ⟨rfl, rfl, trivial⟩, ⟨rowEq (by first | (rw [pureN_y (by assumption) (by assumption), List.map_append]; rfl) | (rw [pureN_n (by assumption) (by assumption), List.map_append]; rfl) | (exfalso; simp_all; done) | (rw [pureN_0 (by simp_all)])), trivial⟩, ⟨rfl, rfl⟩, ⟨rfl, rfl⟩⟩, (by first | exact (by first | omega | (simp only [List.length_map, List.length_take, Int.toNat_natCast, List.length_map, List.length_append, List.length_cons, List.length_nil, List.length_take]; omega)) | (dsimp only; exact (by first | omega | (simp only [List.length_map, List.length_take, Int.toNat_natCast, List.length_map, List.length_append, List.length_cons, List.length_nil, List.length_take]; omega))))⟩
        ·
          have h7r := h7
          try simp only [Bool.not_eq_true', Bool.not_eq_false', Bool.not_not, bne_iff_ne, bne_eq_false_iff_eq, beq_eq_false_iff_ne, beq_iff_eq, ne_eq, decide_eq_true_eq, decide_eq_false_iff_not, Classical.not_not, List.length_map, List.length_take, Int.toNat_natCast, List.length_map, List.length_append, List.length_cons, List.length_nil, List.length_take] at h7
          refine op_v' (j_unwantV rfl rfl h7r) ?_
          refine op_v' (j_unwantV rfl rfl h7r) ?_
          refine op_v' (j_pick_f rfl h7r (evo rfl)) ?_
          refine op_nil ?_
          refine a_ff rfl ?_
          refine a_skip ?_
          refine a_seq ?_
          refine a_region (by kernel_rfl) ?_
          refine op_v' (j_move (evo rfl)) ?_
          refine op_v' (j_move (evo rfl)) ?_
          refine op_split' 54 rfl (fun h13 => ?_) (fun h13 => ?_)
          ·
            have h13r := h13
            try simp only [Bool.not_eq_true', Bool.not_eq_false', Bool.not_not, bne_iff_ne, bne_eq_false_iff_eq, beq_eq_false_iff_ne, beq_iff_eq, ne_eq, decide_eq_true_eq, decide_eq_false_iff_not, Classical.not_not, List.length_map, List.length_take, Int.toNat_natCast, List.length_map, List.length_append, List.length_cons, List.length_nil, List.length_take] at h13
            refine op_v' (j_want rfl rfl h13r (j_move (evo rfl))) ?_
            refine op_v' (j_want rfl rfl h13r (j_not rfl)) ?_
            refine op_v' (j_pick_t rfl h13r (evo rfl)) ?_
            refine op_nil ?_
            refine a_cond rfl (fun h14 => ?_) (fun h14 => ?_)
            ·
              have h14r := h14
              try simp only [Bool.not_eq_true', Bool.not_eq_false', Bool.not_not, bne_iff_ne, bne_eq_false_iff_eq, beq_eq_false_iff_ne, beq_iff_eq, ne_eq, decide_eq_true_eq, decide_eq_false_iff_not, Classical.not_not, List.length_map, List.length_take, Int.toNat_natCast, List.length_map, List.length_append, List.length_cons, List.length_nil, List.length_take] at h14
              refine a_region (by kernel_rfl) ?_
              refine op_v' (j_move (evo rfl)) ?_
              refine op_v' (j_move (evo rfl)) ?_
              refine op_v' (j_neg rfl (by first | omega | (simp only [List.length_map, List.length_take, Int.toNat_natCast, List.length_map, List.length_append, List.length_cons, List.length_nil, List.length_take]; omega)) (by first | omega | (simp only [List.length_map, List.length_take, Int.toNat_natCast, List.length_map, List.length_append, List.length_cons, List.length_nil, List.length_take]; omega))) ?_
              refine op_n' (fun ver => j_buildSlice (parts := [(0, .tmp 60)]) (es := [[_]]) slt36 elt3 rfl rfl (by decide) (by decide) rfl rfl (by simp) rfl) fun v61x8 => ?_
              refine op_n' (fun ver => j_append_own slt36 elt3 rfl rfl rfl rfl rfl rfl (by rw [maxLen_eq]; first | omega | (simp only [List.length_map, List.length_take, Int.toNat_natCast, List.length_map, List.length_append, List.length_cons, List.length_nil, List.length_take]; omega)) (by first | omega | (simp only [List.length_map, List.length_take, Int.toNat_natCast, List.length_map, List.length_append, List.length_cons, List.length_nil, List.length_take]; omega))) fun v8x9 => ?_
              refine op_v' (j_assign (evo rfl)) ?_
              refine op_nil ?_
              refine a_region (by kernel_rfl) ?_
              refine op_v' (j_move (evo rfl)) ?_
              refine op_v' (j_add rfl rfl (by first | omega | (simp only [List.length_map, List.length_take, Int.toNat_natCast, List.length_map, List.length_append, List.length_cons, List.length_nil, List.length_take]; omega)) (by first | omega | (simp only [List.length_map, List.length_take, Int.toNat_natCast, List.length_map, List.length_append, List.length_cons, List.length_nil, List.length_take]; omega))) ?_
              refine op_v' (j_assign (evo rfl)) ?_
              refine op_nil ?_
              exact ⟨(k + 1, v8x9), (by first | exact ⟨by omega, .inr (by assumption)⟩ | (dsimp only; exact ⟨by omega, .inr (by assumption)⟩)), ⟨⟨rfl, rfl⟩, ⟨rfl, rfl, trivial⟩, ⟨rowEq (by first | (rw [pureN_y (by assumption) (by assumption), List.map_append]; rfl) | (rw [pureN_n (by assumption) (by assumption), List.map_append]; rfl) | (exfalso; simp_all; done) | (rw [pureN_0 (by simp_all)])), trivial⟩, ⟨rfl, rfl⟩, ⟨rfl, rfl⟩⟩, (by first | exact (by first | omega | (simp only [List.length_map, List.length_take, Int.toNat_natCast, List.length_map, List.length_append, List.length_cons, List.length_nil, List.length_take]; omega)) | (dsimp only; exact (by first | omega | (simp only [List.length_map, List.length_take, Int.toNat_natCast, List.length_map, List.length_append, List.length_cons, List.length_nil, List.length_take]; omega))))⟩
            ·
              have h14r := h14
              try simp only [Bool.not_eq_true', Bool.not_eq_false', Bool.not_not, bne_iff_ne, bne_eq_false_iff_eq, beq_eq_false_iff_ne, beq_iff_eq, ne_eq, decide_eq_true_eq, decide_eq_false_iff_not, Classical.not_not, List.length_map, List.length_take, Int.toNat_natCast, List.length_map, List.length_append, List.length_cons, List.length_nil, List.length_take] at h14
              refine a_skip ?_
              refine a_region (by kernel_rfl) ?_
              refine op_v' (j_move (evo rfl)) ?_
              refine op_v' (j_add rfl rfl (by first | omega | (simp only [List.length_map, List.length_take, Int.toNat_natCast, List.length_map, List.length_append, List.length_cons, List.length_nil, List.length_take]; omega)) (by first | omega | (simp only [List.length_map, List.length_take, Int.toNat_natCast, List.length_map, List.length_append, List.length_cons, List.length_nil, List.length_take]; omega))) ?_
              refine op_v' (j_assign (evo rfl)) ?_
              refine op_nil ?_
              exact ⟨(k + 1, v), (by first | exact ⟨by omega, .inr (by assumption)⟩ | (dsimp only; exact ⟨by omega, .inr (by assumption)⟩)), ⟨⟨rfl, rfl⟩, ⟨rfl, rfl, trivial⟩, ⟨rowEq (by first | (rw [pureN_y (by assumption) (by assumption), List.map_append]; rfl) | (rw [pureN_n (by assumption) (by assumption), List.map_append]; rfl) | (exfalso; simp_all; done) | (rw [pureN_0 (by simp_all)])), trivial⟩, ⟨rfl, rfl⟩, ⟨rfl, rfl⟩⟩, (by first | exact (by first | omega | (simp only [List.length_map, List.length_take, Int.toNat_natCast, List.length_map, List.length_append, List.length_cons, List.length_nil, List.length_take]; omega)) | (dsimp only; exact (by first | omega | (simp only [List.length_map, List.length_take, Int.toNat_natCast, List.length_map, List.length_append, List.length_cons, List.length_nil, List.length_take]; omega))))⟩
          ·
            have h13r := h13
            try simp only [Bool.not_eq_true', Bool.not_eq_false', Bool.not_not, bne_iff_ne, bne_eq_false_iff_eq, beq_eq_false_iff_ne, beq_iff_eq, ne_eq, decide_eq_true_eq, decide_eq_false_iff_not, Classical.not_not, List.length_map, List.length_take, Int.toNat_natCast, List.length_map, List.length_append, List.length_cons, List.length_nil, List.length_take] at h13
            refine op_v' (j_unwantV rfl rfl h13r) ?_
            refine op_v' (j_unwantV rfl rfl h13r) ?_
            refine op_v' (j_pick_f rfl h13r (evo rfl)) ?_
            refine op_nil ?_
            refine a_ff rfl ?_
            refine a_skip ?_
            refine a_region (by kernel_rfl) ?_
            refine op_v' (j_move (evo rfl)) ?_
            refine op_v' (j_add rfl rfl (by first | omega | (simp only [List.length_map, List.length_take, Int.toNat_natCast, List.length_map, List.length_append, List.length_cons, List.length_nil, List.length_take]; omega)) (by first | omega | (simp only [List.length_map, List.length_take, Int.toNat_natCast, List.length_map, List.length_append, List.length_cons, List.length_nil, List.length_take]; omega))) ?_
            refine op_v' (j_assign (evo rfl)) ?_
            refine op_nil ?_
            exact ⟨(k + 1, v), (by first | exact ⟨by omega, .inr (by assumption)⟩ | (dsimp only; exact ⟨by omega, .inr (by assumption)⟩)), ⟨⟨rfl, rfl⟩, ⟨rfl, rfl, trivial⟩, ⟨rowEq (by first | (rw [pureN_y (by assumption) (by assumption), List.map_append]; rfl) | (rw [pureN_n (by assumption) (by assumption), List.map_append]; rfl) | (exfalso; simp_all; done) | (rw [pureN_0 (by simp_all)])), trivial⟩, ⟨rfl, rfl⟩, ⟨rfl, rfl⟩⟩, (by first | exact (by first | omega | (simp only [List.length_map, List.length_take, Int.toNat_natCast, List.length_map, List.length_append, List.length_cons, List.length_nil, List.length_take]; omega)) | (dsimp only; exact (by first | omega | (simp only [List.length_map, List.length_take, Int.toNat_natCast, List.length_map, List.length_append, List.length_cons, List.length_nil, List.length_take]; omega))))⟩
    ·
      have h2r := h2
      try simp only [Bool.not_eq_true', Bool.not_eq_false', Bool.not_not, bne_iff_ne, bne_eq_false_iff_eq, beq_eq_false_iff_ne, beq_iff_eq, ne_eq, decide_eq_true_eq, decide_eq_false_iff_not, Classical.not_not, List.length_map, List.length_take, Int.toNat_natCast, List.length_map, List.length_append, List.length_cons, List.length_nil, List.length_take] at h2
      refine a_exit ?_
      refine a_seq ?_
      refine a_region (by kernel_rfl) ?_
      refine op_v' (j_move (evo rfl)) ?_
      refine op_v' (j_assign (evo rfl)) ?_
      refine op_nil ?_
      refine a_freeze' 2 (noA _ _ _ _ _) rfl rfl ?_
      refine a_ret ?_
      exact ⟨[.sl _], .sl _, [], [], [], ⟨rfl, trivial⟩, rfl, rfl, trivial, rfl, rfl, ⟨slEq (by first | (have hb : pOk l = false := (by assumption); rcases hpre.2 with q | q; (· subst q; rw [pureL_bad hb]; try rfl); (· rw [hb] at q; cases q)) | (rcases hpre.2 with q | q; (· exfalso; omega); (· rw [pureL_ok q, show k = 12 by omega]))), rfl, rfl⟩⟩
  ·
    have h1r := h1
    try simp only [Bool.not_eq_true', Bool.not_eq_false', Bool.not_not, bne_iff_ne, bne_eq_false_iff_eq, beq_eq_false_iff_ne, beq_iff_eq, ne_eq, decide_eq_true_eq, decide_eq_false_iff_not, Classical.not_not, List.length_map, List.length_take, Int.toNat_natCast, List.length_map, List.length_append, List.length_cons, List.length_nil, List.length_take] at h1
    refine op_v' (j_unwantV rfl rfl h1r) ?_
    refine op_v' (j_unwantV rfl rfl h1r) ?_
    refine op_v' (j_pick_f rfl h1r (evo rfl)) ?_
    refine op_nil ?_
    refine a_ff rfl ?_
    refine a_exit ?_
    refine a_seq ?_
    refine a_region (by kernel_rfl) ?_
    refine op_v' (j_move (evo rfl)) ?_
    refine op_v' (j_assign (evo rfl)) ?_
    refine op_nil ?_
    refine a_freeze' 2 (noA _ _ _ _ _) rfl rfl ?_
    refine a_ret ?_
    exact ⟨[.sl _], .sl _, [], [], [], ⟨rfl, trivial⟩, rfl, rfl, trivial, rfl, rfl, ⟨slEq (by first | (have hb : pOk l = false := (by assumption); rcases hpre.2 with q | q; (· subst q; rw [pureL_bad hb]; try rfl); (· rw [hb] at q; cases q)) | (rcases hpre.2 with q | q; (· exfalso; omega); (· rw [pureL_ok q, show k = 12 by omega]))), rfl, rfl⟩⟩


end Go.Ab

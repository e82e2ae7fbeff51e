/- Walks. -/
import Derived.Test.YtdnlchflejoloaaBase
import Derived.Test.YtdnlchflejoloaaDeep2
import Derived.Test.YtdnlchflejoloaaWsdeep
import Derived.Test.YtdnlchflejoloaaSem
import Derived.Test.YtdnlchflejoloaaFix
import Derived.Test.YtdnlchflejoloaaProb
import Derived.Test.YtdnlchflejoloaaWscons
import Derived.Test.YtdnlchflejoloaaLaws1
import Derived.Test.YtdnlchflejoloaaTabs2
import Derived.Test.YtdnlchflejoloaaWstab
import Derived.Test.YtdnlchflejoloaaVals
import Derived.Test.YtdnlchflejoloaaCons
import Derived.Test.YtdnlchflejoloaaWsexcl
import Derived.Test.YtdnlchflejoloaaEnum
import Derived.Test.YtdnlchflejoloaaWsenum
import Derived.Test.YtdnlchflejoloaaCov
import Derived.Test.YtdnlchflejoloaaWsclau2
namespace Go.Ab
open Go.Proofs
set_option maxRecDepth 100000
set_option maxHeartbeats 8000000
set_option linter.unusedSimpArgs false
set_option linter.unusedVariables false
theorem f_clImplD (c : Con) : Fn Try.prog 16 [.agg [.sl (c.1.map dT), .p (.int .i64 c.2)]] [] (fun rr ii nn => rr = .tup [.own 0 0, .p (.bool (clB c))] ∧ ii = [] ∧ nn = [.deep (.mk 25 2 [(0, .mk 99 2 [])]) ((clL c).map dC) none]) := by
  refine fn_of Try.func16 rfl (Nat.le_of_ble_eq_true rfl) fun w X g => ?_
  show AWp _ _ _ ⟨[(0, .agg [.sl (c.1.map dT), .p (.int .i64 c.2)])], []⟩
  refine a_seq ?_
  refine a_region (by kernel_rfl) ?_
  refine op_n' (fun ver => j_boxa rfl) fun v1x1 => ?_
  refine op_v' (j_assign (evo rfl)) ?_
  refine op_v' (j_assign (evo rfl)) ?_
  refine op_nil ?_
  refine a_seq ?_
  refine a_seq ?_
  refine a_region (by kernel_rfl) ?_
  refine op_v' (j_loada_box (ys := [.sl _, .p _]) agg25 rfl rfl rfl (Nat.le_of_ble_eq_true rfl)) ?_
  refine op_v0' (j_call0 (v := .p _) (hp1 := []) [] false [] ent73 (f_cvImpl _) ⟨.inl ⟨rfl, rfl⟩, trivial⟩ trivial rfl rfl (fun h => by cases h) rfl (fun _ h => by cases h) (.inl rfl) rfl rfl) ?_
  refine op_v' (j_not rfl) ?_
  refine op_nil ?_
  refine a_cond rfl (fun h1 => ?_) (fun h1 => ?_)
  ·
    have h1r := h1
    try simp only [Bool.not_eq_true', Bool.not_eq_false', Bool.not_not, bne_iff_ne, bne_eq_false_iff_eq, beq_eq_false_iff_ne, beq_iff_eq, ne_eq, decide_eq_true_eq, decide_eq_false_iff_not, Classical.not_not, List.length_map, List.length_take, Int.toNat_natCast, List.length_map, List.length_append, List.length_cons, List.length_nil, List.length_set, List.length_take, rowS_len] at h1
    refine a_seq ?_
    refine a_region (by kernel_rfl) ?_
    refine op_v' (j_assign (evo rfl)) ?_
    refine op_v' (j_assign (evo rfl)) ?_
    refine op_nil ?_
    refine a_adopt' 2 2 25 2 rfl fun v2 => ?_
    refine a_todeep 2 0 (.mk 25 2 [(0, (.mk 99 2 []))]) (zs := []) (zs' := []) rfl rfl rfl rfl eat_end rfl ?_
    refine a_ret ?_
    exact ⟨[.own 2 v2, .p _], .tup [.own 0 0, .p _], [], [.deep (.mk 25 2 [(0, (.mk 99 2 []))]) _ none], [(2, v2)], ⟨rfl, rfl, trivial⟩, rfl, rfl, ⟨⟨rfl, rfl⟩, trivial⟩, rfl, rfl, ⟨by rw [clB_no (.inl h1)], rfl, by rw [clL_bad (clB_no (.inl h1))]; rfl⟩⟩
  ·
    have h1r := h1
    try simp only [Bool.not_eq_true', Bool.not_eq_false', Bool.not_not, bne_iff_ne, bne_eq_false_iff_eq, beq_eq_false_iff_ne, beq_iff_eq, ne_eq, decide_eq_true_eq, decide_eq_false_iff_not, Classical.not_not, List.length_map, List.length_take, Int.toNat_natCast, List.length_map, List.length_append, List.length_cons, List.length_nil, List.length_set, List.length_take, rowS_len] at h1
    refine a_skip ?_
    refine a_seq ?_
    have hlc := cOk_len h1
    have hbc := cOk_bound h1
    have htt := totV_bounds (cOk_coefs h1)
    have hp12 := pow12 h1
    refine a_region (by kernel_rfl) ?_
    refine op_v' (j_loada_box (ys := [.sl _, .p _]) agg25 rfl rfl rfl (Nat.le_of_ble_eq_true rfl)) ?_
    refine op_v0' (j_call0 (v := .p _) (hp1 := []) [] false [] ent74 (f_totImpl c h1) ⟨.inl ⟨rfl, rfl⟩, trivial⟩ trivial rfl rfl (fun h => by cases h) rfl (fun _ h => by cases h) (.inl rfl) rfl rfl) ?_
    refine op_v' (j_assign (evo rfl)) ?_
    refine op_nil ?_
    refine a_seq ?_
    refine a_region (by kernel_rfl) ?_
    refine op_v' (j_assign (evo rfl)) ?_
    refine op_nil ?_
    refine a_adopt' 5 5 25 2 rfl fun v5 => ?_
    refine a_todeep 5 0 (.mk 25 2 [(0, (.mk 99 2 []))]) (zs := []) (zs' := []) rfl rfl rfl rfl eat_end rfl ?_
    refine a_seq ?_
    refine a_seq ?_
    refine a_region (by kernel_rfl) ?_
    refine op_v' (j_fldp fld25f0 rfl rfl) ?_
    refine op_v' (j_load_box leaf23 rfl rfl rfl) ?_
    refine op_v' (j_len_map Try.underlying23 rfl) ?_
    refine op_v' (j_bits rfl rfl (fun w => run_shl1 (b := c.1.length) (by omega) (by omega) w)) ?_
    refine op_v' (j_move (evo rfl)) ?_
    refine op_nil ?_
    refine a_block ?_
    refine a_loopF' (ι := Nat × Nat) (fun x => x.1 ≤ 2 ^ c.1.length ∧ (clN c x.1).length ≤ 400) (fun x r => (21, .p (.int .i64 ((x.1 : Nat)))) :: (5, .own 5 x.2) :: r) (fun x r => (5, some (x.2, .deep (.mk 25 2 [(0, .mk 99 2 [])]) (((clN c x.1).map dC)) none)) :: r) (fun x => 2 ^ c.1.length - x.1) (fun _ _ => rfl) (fun _ _ => rfl) (0, v5) (by first | exact ⟨Nat.zero_le _, Nat.zero_le _⟩ | (dsimp only; exact ⟨Nat.zero_le _, Nat.zero_le _⟩)) ⟨⟨rfl, rfl⟩, ⟨rfl, rfl, trivial⟩, ⟨rfl, trivial⟩, ⟨rfl, rfl⟩, ⟨rfl, rfl⟩⟩ ?_
    rintro ⟨s, v⟩ hpre; dsimp only at hpre ⊢
    refine a_seq ?_
    refine a_region (by kernel_rfl) ?_
    refine op_v' (j_lt rfl rfl) ?_
    refine op_nil ?_
    refine a_seq ?_
    refine a_cond rfl (fun h2 => ?_) (fun h2 => ?_)
    ·
      have h2r := h2
      try simp only [Bool.not_eq_true', Bool.not_eq_false', Bool.not_not, bne_iff_ne, bne_eq_false_iff_eq, beq_eq_false_iff_ne, beq_iff_eq, ne_eq, decide_eq_true_eq, decide_eq_false_iff_not, Classical.not_not, List.length_map, List.length_take, Int.toNat_natCast, List.length_map, List.length_append, List.length_cons, List.length_nil, List.length_set, List.length_take, rowS_len] at h2
      refine a_skip ?_
      refine a_seq ?_
      refine a_block ?_
      refine a_seq ?_
      refine a_region (by kernel_rfl) ?_
      refine op_v' (j_move (evo rfl)) ?_
      refine op_v' (j_assign (evo rfl)) ?_
      refine op_nil ?_
      refine a_seq ?_
      refine a_region (by kernel_rfl) ?_
      refine op_v' (j_move (evo rfl)) ?_
      refine op_v' (j_assign (evo rfl)) ?_
      refine op_v' (j_assign (evo rfl)) ?_
      refine op_nil ?_
      refine a_seq ?_
      refine a_region (by kernel_rfl) ?_
      refine op_v' (j_build (parts := [(1, .const (.int .i64 1))]) str25 elt25 rfl rfl) ?_
      refine op_n' (fun ver => j_alloc elt25 rfl) fun v9x2 => ?_
      refine op_s' (j_storea_box0 agg25 rfl rfl rfl rfl rfl rfl) ?_
      refine op_nil ?_
      refine a_adopt_box' 0 1009 99 2 (by decide) (id := 9) rfl rfl fun v1009x3 => ?_
      refine a_seq ?_
      refine a_seq ?_
      refine a_region (by kernel_rfl) ?_
      refine op_v' (j_fldp fld25f0 rfl rfl) ?_
      refine op_v' (j_load_box leaf23 rfl rfl rfl) ?_
      refine op_v' (j_len_map Try.underlying23 rfl) ?_
      refine op_v' (j_move (evo rfl)) ?_
      refine op_nil ?_
      refine a_block ?_
      refine a_loopF' (ι := Nat × Nat) (fun x => x.1 ≤ c.1.length) (fun x r => (29, .p (.int .i64 ((x.1 : Nat)))) :: (7, .p (.int .i64 (totV c.1 - totV (selF (c.1.take x.1) s)))) :: (8, .p (.int .i64 (mnV 20000 (selF (c.1.take x.1) s)))) :: r) (fun x r => (9, some (v9x2, .box 25 [.own 1009 x.2, .p (.int .i64 1)])) :: (1009, some (x.2, .row 99 2 (((selF (c.1.take x.1) s).map oneT).map dT))) :: r) (fun x => c.1.length - x.1) (fun _ _ => rfl) (fun _ _ => rfl) (0, v1009x3) (by first | exact (Nat.zero_le _) | (dsimp only; exact (Nat.zero_le _))) ⟨⟨rfl, rfl⟩, ⟨rfl, intEq (by rw [show totV (selF (c.1.take 0) s) = 0 from rfl]; omega), rfl, trivial⟩, ⟨rfl, rfl, trivial⟩, ⟨rfl, rfl⟩, ⟨rfl, rfl⟩⟩ ?_
      rintro ⟨k, vk⟩ hpk; dsimp only at hpk ⊢
      refine a_seq ?_
      refine a_region (by kernel_rfl) ?_
      refine op_v' (j_lt rfl rfl) ?_
      refine op_nil ?_
      refine a_seq ?_
      refine a_cond rfl (fun h3 => ?_) (fun h3 => ?_)
      ·
        have h3r := h3
        try simp only [Bool.not_eq_true', Bool.not_eq_false', Bool.not_not, bne_iff_ne, bne_eq_false_iff_eq, beq_eq_false_iff_ne, beq_iff_eq, ne_eq, decide_eq_true_eq, decide_eq_false_iff_not, Classical.not_not, List.length_map, List.length_take, Int.toNat_natCast, List.length_map, List.length_append, List.length_cons, List.length_nil, List.length_set, List.length_take, rowS_len] at h3
        refine a_skip ?_
        refine a_seq ?_
        refine a_block ?_
        refine a_seq ?_
        refine a_region (by kernel_rfl) ?_
        refine op_v' (j_move (evo rfl)) ?_
        refine op_v' (j_elemN slt23 rfl rfl rfl (at_map (by first | omega | (simp only [List.length_map, List.length_take, Int.toNat_natCast, List.length_map, List.length_append, List.length_cons, List.length_nil, List.length_set, List.length_take, rowS_len]; omega))) rfl) ?_
        refine op_v' (j_loada_el (ys := [.p _, .p _]) agg99 rfl (at_map (by first | omega | (simp only [List.length_map, List.length_take, Int.toNat_natCast, List.length_map, List.length_append, List.length_cons, List.length_nil, List.length_set, List.length_take, rowS_len]; omega))) rfl (Nat.le_refl _)) ?_
        refine op_n' (fun ver => j_alloc elt99 rfl) fun v11x4 => ?_
        refine op_v' (j_assign (evo rfl)) ?_
        refine op_s' (j_storea_box0 agg99 rfl rfl rfl rfl rfl rfl) ?_
        refine op_nil ?_
        refine a_seq ?_
        have htm := cOk_terms h1 (k := k) (by omega)
        have hst := sel_tot_rng h1 (k := k) (s := s)
        have hmr := mnV_rng h1 (k := k) (s := s) (b := 20000) (by decide)
        have hsl := selF_len (ts := c.1.take k) (s := s)
        rw [List.length_take] at hsl
        refine a_region (by kernel_rfl) ?_
        refine op_v' (j_move (evo rfl)) ?_
        refine op_v' (j_move (evo rfl)) ?_
        refine op_v' (j_bits rfl rfl (fun w => run_shr (a := s) (b := k) (by omega) (by omega) w)) ?_
        refine op_v' (j_bits rfl rfl (fun w => run_and1 (a := s / 2 ^ k) (Nat.lt_of_le_of_lt (Nat.div_le_self _ _) (by omega)) w)) ?_
        refine op_v' (j_eq rfl rfl) ?_
        refine op_nil ?_
        refine a_cond rfl (fun h4 => ?_) (fun h4 => ?_)
        ·
          have h4r := h4
          try simp only [Bool.not_eq_true', Bool.not_eq_false', Bool.not_not, bne_iff_ne, bne_eq_false_iff_eq, beq_eq_false_iff_ne, beq_iff_eq, ne_eq, decide_eq_true_eq, decide_eq_false_iff_not, Classical.not_not, List.length_map, List.length_take, Int.toNat_natCast, List.length_map, List.length_append, List.length_cons, List.length_nil, List.length_set, List.length_take, rowS_len] at h4
          refine a_seq ?_
          refine a_region (by kernel_rfl) ?_
          refine op_v' (j_move (evo rfl)) ?_
          refine op_v' (j_fldp fld99f0 rfl rfl) ?_
          refine op_v' (j_load_box leaf3 rfl rfl rfl) ?_
          refine op_v' (j_sub rfl rfl (by first | omega | (simp only [List.length_map, List.length_take, Int.toNat_natCast, List.length_map, List.length_append, List.length_cons, List.length_nil, List.length_set, List.length_take, rowS_len]; omega)) (by first | omega | (simp only [List.length_map, List.length_take, Int.toNat_natCast, List.length_map, List.length_append, List.length_cons, List.length_nil, List.length_set, List.length_take, rowS_len]; omega))) ?_
          refine op_v' (j_assign (evo rfl)) ?_
          refine op_nil ?_
          refine a_seq ?_
          refine a_region (by kernel_rfl) ?_
          refine op_v' (j_move (evo rfl)) ?_
          refine op_v' (j_fldp fld99f0 rfl rfl) ?_
          refine op_v' (j_load_box leaf3 rfl rfl rfl) ?_
          refine op_v' (j_min rfl rfl) ?_
          refine op_v' (j_assign (evo rfl)) ?_
          refine op_nil ?_
          refine a_region (by kernel_rfl) ?_
          refine op_v' (j_fldp fld25f0 rfl rfl) ?_
          refine op_v' (j_load_box leaf23 rfl rfl rfl) ?_
          refine op_v' (j_fldp fld99f1 rfl rfl) ?_
          refine op_v' (j_load_box leaf3 rfl rfl rfl) ?_
          refine op_v' (j_build (parts := [(0, .const (.int .i64 1)), (1, .tmp 50)]) str99 elt99 rfl rfl) ?_
          refine op_n' (fun ver => j_buildSlice (parts := [(0, .tmp 51)]) (es := [[_, _]]) slt23 elt99 rfl rfl (by decide) (by decide) rfl rfl (by simp) rfl) fun v52x5 => ?_
          refine op_n' (fun ver => j_append_own slt23 elt99 rfl rfl rfl rfl rfl rfl (by rw [maxLen_eq]; first | omega | (simp only [List.length_map, List.length_take, Int.toNat_natCast, List.length_map, List.length_append, List.length_cons, List.length_nil, List.length_set, List.length_take, rowS_len]; omega)) (by first | omega | (simp only [List.length_map, List.length_take, Int.toNat_natCast, List.length_map, List.length_append, List.length_cons, List.length_nil, List.length_set, List.length_take, rowS_len]; omega))) fun v1009x6 => ?_
          refine op_v' (j_fldp fld25f0 rfl rfl) ?_
          refine op_s' (j_store_box leaf23 rfl rfl (Nat.le_of_ble_eq_true rfl) (evo rfl) rfl) ?_
          refine op_nil ?_
          refine a_region (by kernel_rfl) ?_
          refine op_v' (j_add rfl rfl (by first | omega | (simp only [List.length_map, List.length_take, Int.toNat_natCast, List.length_map, List.length_append, List.length_cons, List.length_nil, List.length_set, List.length_take, rowS_len]; omega)) (by first | omega | (simp only [List.length_map, List.length_take, Int.toNat_natCast, List.length_map, List.length_append, List.length_cons, List.length_nil, List.length_set, List.length_take, rowS_len]; omega))) ?_
          refine op_v' (j_move (evo rfl)) ?_
          refine op_nil ?_
          exact ⟨(k + 1, v1009x6), (by first | exact (by first | omega | (simp only [List.length_map, List.length_take, Int.toNat_natCast, List.length_map, List.length_append, List.length_cons, List.length_nil, List.length_set, List.length_take, rowS_len]; omega)) | (dsimp only; exact (by first | omega | (simp only [List.length_map, List.length_take, Int.toNat_natCast, List.length_map, List.length_append, List.length_cons, List.length_nil, List.length_set, List.length_take, rowS_len]; omega)))), ⟨⟨rfl, rfl⟩, ⟨rfl, intEq (by rw [sel_y (by omega) (by assumption), totV_snoc]; omega), intEq (by rw [sel_y (by omega) (by assumption), mnV_snoc]), trivial⟩, ⟨rfl, rowEq (by rw [sel_y (by omega) (by assumption), List.map_append, List.map_append]; rfl), trivial⟩, ⟨rfl, rfl⟩, ⟨rfl, rfl⟩⟩, (by first | exact (by first | omega | (simp only [List.length_map, List.length_take, Int.toNat_natCast, List.length_map, List.length_append, List.length_cons, List.length_nil, List.length_set, List.length_take, rowS_len]; omega)) | (dsimp only; exact (by first | omega | (simp only [List.length_map, List.length_take, Int.toNat_natCast, List.length_map, List.length_append, List.length_cons, List.length_nil, List.length_set, List.length_take, rowS_len]; omega))))⟩
        ·
          have h4r := h4
          try simp only [Bool.not_eq_true', Bool.not_eq_false', Bool.not_not, bne_iff_ne, bne_eq_false_iff_eq, beq_eq_false_iff_ne, beq_iff_eq, ne_eq, decide_eq_true_eq, decide_eq_false_iff_not, Classical.not_not, List.length_map, List.length_take, Int.toNat_natCast, List.length_map, List.length_append, List.length_cons, List.length_nil, List.length_set, List.length_take, rowS_len] at h4
          refine a_skip ?_
          refine a_region (by kernel_rfl) ?_
          refine op_v' (j_add rfl rfl (by first | omega | (simp only [List.length_map, List.length_take, Int.toNat_natCast, List.length_map, List.length_append, List.length_cons, List.length_nil, List.length_set, List.length_take, rowS_len]; omega)) (by first | omega | (simp only [List.length_map, List.length_take, Int.toNat_natCast, List.length_map, List.length_append, List.length_cons, List.length_nil, List.length_set, List.length_take, rowS_len]; omega))) ?_
          refine op_v' (j_move (evo rfl)) ?_
          refine op_nil ?_
          exact ⟨(k + 1, vk), (by first | exact (by first | omega | (simp only [List.length_map, List.length_take, Int.toNat_natCast, List.length_map, List.length_append, List.length_cons, List.length_nil, List.length_set, List.length_take, rowS_len]; omega)) | (dsimp only; exact (by first | omega | (simp only [List.length_map, List.length_take, Int.toNat_natCast, List.length_map, List.length_append, List.length_cons, List.length_nil, List.length_set, List.length_take, rowS_len]; omega)))), ⟨⟨rfl, rfl⟩, ⟨rfl, intEq (by rw [sel_n (by omega) (by assumption)]), intEq (by rw [sel_n (by omega) (by assumption)]), trivial⟩, ⟨rfl, rowEq (by rw [sel_n (by omega) (by assumption)]), trivial⟩, ⟨rfl, rfl⟩, ⟨rfl, rfl⟩⟩, (by first | exact (by first | omega | (simp only [List.length_map, List.length_take, Int.toNat_natCast, List.length_map, List.length_append, List.length_cons, List.length_nil, List.length_set, List.length_take, rowS_len]; omega)) | (dsimp only; exact (by first | omega | (simp only [List.length_map, List.length_take, Int.toNat_natCast, List.length_map, List.length_append, List.length_cons, List.length_nil, List.length_set, List.length_take, rowS_len]; omega))))⟩
      ·
        have h3r := h3
        try simp only [Bool.not_eq_true', Bool.not_eq_false', Bool.not_not, bne_iff_ne, bne_eq_false_iff_eq, beq_eq_false_iff_ne, beq_iff_eq, ne_eq, decide_eq_true_eq, decide_eq_false_iff_not, Classical.not_not, List.length_map, List.length_take, Int.toNat_natCast, List.length_map, List.length_append, List.length_cons, List.length_nil, List.length_set, List.length_take, rowS_len] at h3
        refine a_exit ?_
        refine a_seq ?_
        refine a_seq ?_
        obtain rfl : k = c.1.length := by omega
        rw [List.take_length]
        have hst := sel_tot_rng h1 (k := c.1.length) (s := s)
        have hmr := mnV_rng h1 (k := c.1.length) (s := s) (b := 20000) (by decide)
        rw [List.take_length] at hst hmr
        have hlv : leftV c s = totV c.1 - totV (selF c.1 s) := rfl
        refine a_region (by kernel_rfl) ?_
        refine op_v' (j_move (evo rfl)) ?_
        refine op_v' (j_fldp fld25f1 rfl rfl) ?_
        refine op_v' (j_load_box leaf3 rfl rfl rfl) ?_
        refine op_v' (j_ge rfl rfl) ?_
        refine op_v' (j_move (evo rfl)) ?_
        refine op_split' 60 rfl (fun h5 => ?_) (fun h5 => ?_)
        ·
          have h5r := h5
          try simp only [Bool.not_eq_true', Bool.not_eq_false', Bool.not_not, bne_iff_ne, bne_eq_false_iff_eq, beq_eq_false_iff_ne, beq_iff_eq, ne_eq, decide_eq_true_eq, decide_eq_false_iff_not, Classical.not_not, List.length_map, List.length_take, Int.toNat_natCast, List.length_map, List.length_append, List.length_cons, List.length_nil, List.length_set, List.length_take, rowS_len] at h5
          refine op_v' (j_unwantV rfl rfl h5r) ?_
          refine op_v' (j_unwantV rfl rfl h5r) ?_
          refine op_v' (j_unwantV rfl rfl h5r) ?_
          refine op_v' (j_unwantU rfl rfl) ?_
          refine op_v' (j_unwantU rfl rfl) ?_
          refine op_v' (j_unwantU rfl rfl) ?_
          refine op_v' (j_unwantU rfl rfl) ?_
          refine op_v' (j_unwantU rfl rfl) ?_
          refine op_v' (j_unwantU rfl rfl) ?_
          refine op_v' (j_unwantV rfl rfl h5r) ?_
          refine op_v' (j_pick_t rfl h5r (evo rfl)) ?_
          refine op_nil ?_
          refine a_tt rfl ?_
          refine a_exit ?_
          refine a_region (by kernel_rfl) ?_
          refine op_v' (j_add rfl rfl (by first | omega | (simp only [List.length_map, List.length_take, Int.toNat_natCast, List.length_map, List.length_append, List.length_cons, List.length_nil, List.length_set, List.length_take, rowS_len]; omega)) (by first | omega | (simp only [List.length_map, List.length_take, Int.toNat_natCast, List.length_map, List.length_append, List.length_cons, List.length_nil, List.length_set, List.length_take, rowS_len]; omega))) ?_
          refine op_v' (j_move (evo rfl)) ?_
          refine op_nil ?_
          exact ⟨(s + 1, v), (by first | exact ⟨by omega, by rw [clN_no (by unfold incV; rw [hlv, decide_eq_false (by omega)]; rfl)]; omega⟩ | (dsimp only; exact ⟨by omega, by rw [clN_no (by unfold incV; rw [hlv, decide_eq_false (by omega)]; rfl)]; omega⟩)), ⟨⟨rfl, rfl⟩, ⟨rfl, rfl, trivial⟩, ⟨deepEq (by rw [clN_no (by unfold incV; rw [hlv, decide_eq_false (by omega)]; rfl)]), trivial⟩, ⟨rfl, rfl⟩, ⟨rfl, rfl⟩⟩, (by first | exact (by first | omega | (simp only [List.length_map, List.length_take, Int.toNat_natCast, List.length_map, List.length_append, List.length_cons, List.length_nil, List.length_set, List.length_take, rowS_len]; omega)) | (dsimp only; exact (by first | omega | (simp only [List.length_map, List.length_take, Int.toNat_natCast, List.length_map, List.length_append, List.length_cons, List.length_nil, List.length_set, List.length_take, rowS_len]; omega))))⟩
        ·
          have h5r := h5
          try simp only [Bool.not_eq_true', Bool.not_eq_false', Bool.not_not, bne_iff_ne, bne_eq_false_iff_eq, beq_eq_false_iff_ne, beq_iff_eq, ne_eq, decide_eq_true_eq, decide_eq_false_iff_not, Classical.not_not, List.length_map, List.length_take, Int.toNat_natCast, List.length_map, List.length_append, List.length_cons, List.length_nil, List.length_set, List.length_take, rowS_len] at h5
          refine op_v' (j_want rfl rfl h5r (j_move (evo rfl))) ?_
          refine op_v' (j_want rfl rfl h5r (j_gt rfl rfl)) ?_
          refine op_v' (j_want rfl rfl h5r (j_move (evo rfl))) ?_
          refine op_split' 63 rfl (fun h6 => ?_) (fun h6 => ?_)
          ·
            have h6r := h6
            try simp only [Bool.not_eq_true', Bool.not_eq_false', Bool.not_not, bne_iff_ne, bne_eq_false_iff_eq, beq_eq_false_iff_ne, beq_iff_eq, ne_eq, decide_eq_true_eq, decide_eq_false_iff_not, Classical.not_not, List.length_map, List.length_take, Int.toNat_natCast, List.length_map, List.length_append, List.length_cons, List.length_nil, List.length_set, List.length_take, rowS_len] at h6
            refine op_v' (j_want rfl rfl h6r (j_move (evo rfl))) ?_
            refine op_v' (j_want rfl rfl h6r (j_move (evo rfl))) ?_
            refine op_v' (j_want rfl rfl h6r (j_add rfl rfl (by first | omega | (simp only [List.length_map, List.length_take, Int.toNat_natCast, List.length_map, List.length_append, List.length_cons, List.length_nil, List.length_set, List.length_take, rowS_len]; omega)) (by first | omega | (simp only [List.length_map, List.length_take, Int.toNat_natCast, List.length_map, List.length_append, List.length_cons, List.length_nil, List.length_set, List.length_take, rowS_len]; omega)))) ?_
            refine op_v' (j_want rfl rfl h6r (j_fldp fld25f1 rfl rfl)) ?_
            refine op_v' (j_want rfl rfl h6r (j_load_box leaf3 rfl rfl rfl)) ?_
            refine op_v' (j_want rfl rfl h6r (j_lt rfl rfl)) ?_
            refine op_v' (j_want rfl rfl h5r (j_pick_t rfl h6r (evo rfl))) ?_
            refine op_v' (j_pick_f rfl h5r (evo rfl)) ?_
            refine op_nil ?_
            refine a_cond rfl (fun h7 => ?_) (fun h7 => ?_)
            ·
              have h7r := h7
              try simp only [Bool.not_eq_true', Bool.not_eq_false', Bool.not_not, bne_iff_ne, bne_eq_false_iff_eq, beq_eq_false_iff_ne, beq_iff_eq, ne_eq, decide_eq_true_eq, decide_eq_false_iff_not, Classical.not_not, List.length_map, List.length_take, Int.toNat_natCast, List.length_map, List.length_append, List.length_cons, List.length_nil, List.length_set, List.length_take, rowS_len] at h7
              refine a_exit ?_
              refine a_region (by kernel_rfl) ?_
              refine op_v' (j_add rfl rfl (by first | omega | (simp only [List.length_map, List.length_take, Int.toNat_natCast, List.length_map, List.length_append, List.length_cons, List.length_nil, List.length_set, List.length_take, rowS_len]; omega)) (by first | omega | (simp only [List.length_map, List.length_take, Int.toNat_natCast, List.length_map, List.length_append, List.length_cons, List.length_nil, List.length_set, List.length_take, rowS_len]; omega))) ?_
              refine op_v' (j_move (evo rfl)) ?_
              refine op_nil ?_
              exact ⟨(s + 1, v), (by first | exact ⟨by omega, by rw [clN_no (by unfold incV; rw [hlv, decide_eq_false (show ¬ s = 0 by omega), decide_eq_false (show ¬ c.2 ≤ totV c.1 - totV (selF c.1 s) + mnV 20000 (selF c.1 s) by omega)]; simp)]; omega⟩ | (dsimp only; exact ⟨by omega, by rw [clN_no (by unfold incV; rw [hlv, decide_eq_false (show ¬ s = 0 by omega), decide_eq_false (show ¬ c.2 ≤ totV c.1 - totV (selF c.1 s) + mnV 20000 (selF c.1 s) by omega)]; simp)]; omega⟩)), ⟨⟨rfl, rfl⟩, ⟨rfl, rfl, trivial⟩, ⟨deepEq (by rw [clN_no (by unfold incV; rw [hlv, decide_eq_false (show ¬ s = 0 by omega), decide_eq_false (show ¬ c.2 ≤ totV c.1 - totV (selF c.1 s) + mnV 20000 (selF c.1 s) by omega)]; simp)]), trivial⟩, ⟨rfl, rfl⟩, ⟨rfl, rfl⟩⟩, (by first | exact (by first | omega | (simp only [List.length_map, List.length_take, Int.toNat_natCast, List.length_map, List.length_append, List.length_cons, List.length_nil, List.length_set, List.length_take, rowS_len]; omega)) | (dsimp only; exact (by first | omega | (simp only [List.length_map, List.length_take, Int.toNat_natCast, List.length_map, List.length_append, List.length_cons, List.length_nil, List.length_set, List.length_take, rowS_len]; omega))))⟩
            ·
              have h7r := h7
              try simp only [Bool.not_eq_true', Bool.not_eq_false', Bool.not_not, bne_iff_ne, bne_eq_false_iff_eq, beq_eq_false_iff_ne, beq_iff_eq, ne_eq, decide_eq_true_eq, decide_eq_false_iff_not, Classical.not_not, List.length_map, List.length_take, Int.toNat_natCast, List.length_map, List.length_append, List.length_cons, List.length_nil, List.length_set, List.length_take, rowS_len] at h7
              refine a_skip ?_
              refine a_seq ?_
              refine a_seq ?_
              have hinc : incV c s = true := by unfold incV; rw [hlv, decide_eq_true (by omega), Bool.true_and, Bool.or_eq_true, decide_eq_true_eq, decide_eq_true_eq]; omega
              refine a_region (by kernel_rfl) ?_
              refine op_v' (j_move (evo rfl)) ?_
              refine op_v' (j_len_deep_map Try.underlying27 rfl rfl) ?_
              refine op_v' (j_eq rfl rfl) ?_
              refine op_nil ?_
              refine a_cond rfl (fun h8 => ?_) (fun h8 => ?_)
              ·
                have h8r := h8
                try simp only [Bool.not_eq_true', Bool.not_eq_false', Bool.not_not, bne_iff_ne, bne_eq_false_iff_eq, beq_eq_false_iff_ne, beq_iff_eq, ne_eq, decide_eq_true_eq, decide_eq_false_iff_not, Classical.not_not, List.length_map, List.length_take, Int.toNat_natCast, List.length_map, List.length_append, List.length_cons, List.length_nil, List.length_set, List.length_take, rowS_len] at h8
                refine a_seq ?_
                refine a_region (by kernel_rfl) ?_
                refine op_v' (j_assign (evo rfl)) ?_
                refine op_v' (j_assign (evo rfl)) ?_
                refine op_nil ?_
                refine a_adopt' 2 2 25 2 rfl fun v2 => ?_
                refine a_todeep 2 0 (.mk 25 2 [(0, (.mk 99 2 []))]) (zs := []) (zs' := []) rfl rfl rfl rfl eat_end rfl ?_
                refine a_ret ?_
                exact ⟨[.own 2 v2, .p _], .tup [.own 0 0, .p _], [], [.deep (.mk 25 2 [(0, (.mk 99 2 []))]) _ none], [(2, v2)], ⟨rfl, rfl, trivial⟩, rfl, rfl, ⟨⟨rfl, rfl⟩, trivial⟩, rfl, rfl, ⟨by have hq : clB c = false := clB_no (.inr (by have q1 := clN_mono (c := c) (s := s + 1) (m := 2 ^ c.1.length) (by omega); rw [clN_yes hinc, List.length_append] at q1; simp at q1; unfold clA; omega)); rw [hq], rfl, by have hq : clB c = false := clB_no (.inr (by have q1 := clN_mono (c := c) (s := s + 1) (m := 2 ^ c.1.length) (by omega); rw [clN_yes hinc, List.length_append] at q1; simp at q1; unfold clA; omega)); rw [clL_bad hq]; rfl⟩⟩
              ·
                have h8r := h8
                try simp only [Bool.not_eq_true', Bool.not_eq_false', Bool.not_not, bne_iff_ne, bne_eq_false_iff_eq, beq_eq_false_iff_ne, beq_iff_eq, ne_eq, decide_eq_true_eq, decide_eq_false_iff_not, Classical.not_not, List.length_map, List.length_take, Int.toNat_natCast, List.length_map, List.length_append, List.length_cons, List.length_nil, List.length_set, List.length_take, rowS_len] at h8
                refine a_skip ?_
                refine a_region (by kernel_rfl) ?_
                refine op_v' (j_move (evo rfl)) ?_
                refine op_v' (j_loada_box (ys := [.own 1009 vk, .p _]) agg25 rfl rfl rfl (Nat.le_of_ble_eq_true rfl)) ?_
                refine op_n1' (fun ver => j_buildSlice_deep (x := .tmp 76) (t := (.mk 25 2 [(0, (.mk 99 2 []))])) slt27 elt25 rfl rfl rfl (by decide) (by decide) rfl rfl rfl (eat_own rfl rfl rfl (eat_leaf rfl rfl rfl eat_end)) rfl rfl) fun v77x7 => ?_
                refine op_n1' (fun ver => j_append_deep (by decide) slt27 elt25 rfl rfl rfl rfl rfl rfl rfl rfl (Nat.le_of_ble_eq_true rfl) (by rw [maxLen_eq]; first | omega | (simp only [List.length_map, List.length_take, Int.toNat_natCast, List.length_map, List.length_append, List.length_cons, List.length_nil, List.length_set, List.length_take, rowS_len]; omega)) (by first | omega | (simp only [List.length_map, List.length_take, Int.toNat_natCast, List.length_map, List.length_append, List.length_cons, List.length_nil, List.length_set, List.length_take, rowS_len]; omega))) fun v5x8 => ?_
                refine op_v' (j_assign (evo rfl)) ?_
                refine op_nil ?_
                refine a_region (by kernel_rfl) ?_
                refine op_v' (j_add rfl rfl (by first | omega | (simp only [List.length_map, List.length_take, Int.toNat_natCast, List.length_map, List.length_append, List.length_cons, List.length_nil, List.length_set, List.length_take, rowS_len]; omega)) (by first | omega | (simp only [List.length_map, List.length_take, Int.toNat_natCast, List.length_map, List.length_append, List.length_cons, List.length_nil, List.length_set, List.length_take, rowS_len]; omega))) ?_
                refine op_v' (j_move (evo rfl)) ?_
                refine op_nil ?_
                exact ⟨(s + 1, v5x8), (by first | exact ⟨by omega, by rw [clN_yes hinc, List.length_append]; simp; omega⟩ | (dsimp only; exact ⟨by omega, by rw [clN_yes hinc, List.length_append]; simp; omega⟩)), ⟨⟨rfl, rfl⟩, ⟨rfl, rfl, trivial⟩, ⟨deepEq (by rw [clN_yes hinc, List.map_append]; rfl), trivial⟩, ⟨rfl, rfl⟩, ⟨rfl, rfl⟩⟩, (by first | exact (by first | omega | (simp only [List.length_map, List.length_take, Int.toNat_natCast, List.length_map, List.length_append, List.length_cons, List.length_nil, List.length_set, List.length_take, rowS_len]; omega)) | (dsimp only; exact (by first | omega | (simp only [List.length_map, List.length_take, Int.toNat_natCast, List.length_map, List.length_append, List.length_cons, List.length_nil, List.length_set, List.length_take, rowS_len]; omega))))⟩
          ·
            have h6r := h6
            try simp only [Bool.not_eq_true', Bool.not_eq_false', Bool.not_not, bne_iff_ne, bne_eq_false_iff_eq, beq_eq_false_iff_ne, beq_iff_eq, ne_eq, decide_eq_true_eq, decide_eq_false_iff_not, Classical.not_not, List.length_map, List.length_take, Int.toNat_natCast, List.length_map, List.length_append, List.length_cons, List.length_nil, List.length_set, List.length_take, rowS_len] at h6
            refine op_v' (j_unwantV rfl rfl h6r) ?_
            refine op_v' (j_unwantV rfl rfl h6r) ?_
            refine op_v' (j_unwantV rfl rfl h6r) ?_
            refine op_v' (j_unwantV rfl rfl h6r) ?_
            refine op_v' (j_unwantV rfl rfl h6r) ?_
            refine op_v' (j_unwantV rfl rfl h6r) ?_
            refine op_v' (j_want rfl rfl h5r (j_pick_f rfl h6r (evo rfl))) ?_
            refine op_v' (j_pick_f rfl h5r (evo rfl)) ?_
            refine op_nil ?_
            refine a_ff rfl ?_
            refine a_skip ?_
            refine a_seq ?_
            refine a_seq ?_
            have hinc : incV c s = true := by unfold incV; rw [hlv, decide_eq_true (by omega), Bool.true_and, Bool.or_eq_true, decide_eq_true_eq, decide_eq_true_eq]; omega
            refine a_region (by kernel_rfl) ?_
            refine op_v' (j_move (evo rfl)) ?_
            refine op_v' (j_len_deep_map Try.underlying27 rfl rfl) ?_
            refine op_v' (j_eq rfl rfl) ?_
            refine op_nil ?_
            refine a_cond rfl (fun h9 => ?_) (fun h9 => ?_)
            ·
              have h9r := h9
              try simp only [Bool.not_eq_true', Bool.not_eq_false', Bool.not_not, bne_iff_ne, bne_eq_false_iff_eq, beq_eq_false_iff_ne, beq_iff_eq, ne_eq, decide_eq_true_eq, decide_eq_false_iff_not, Classical.not_not, List.length_map, List.length_take, Int.toNat_natCast, List.length_map, List.length_append, List.length_cons, List.length_nil, List.length_set, List.length_take, rowS_len] at h9
              refine a_seq ?_
              refine a_region (by kernel_rfl) ?_
              refine op_v' (j_assign (evo rfl)) ?_
              refine op_v' (j_assign (evo rfl)) ?_
              refine op_nil ?_
              refine a_adopt' 2 2 25 2 rfl fun v2 => ?_
              refine a_todeep 2 0 (.mk 25 2 [(0, (.mk 99 2 []))]) (zs := []) (zs' := []) rfl rfl rfl rfl eat_end rfl ?_
              refine a_ret ?_
              exact ⟨[.own 2 v2, .p _], .tup [.own 0 0, .p _], [], [.deep (.mk 25 2 [(0, (.mk 99 2 []))]) _ none], [(2, v2)], ⟨rfl, rfl, trivial⟩, rfl, rfl, ⟨⟨rfl, rfl⟩, trivial⟩, rfl, rfl, ⟨by have hq : clB c = false := clB_no (.inr (by have q1 := clN_mono (c := c) (s := s + 1) (m := 2 ^ c.1.length) (by omega); rw [clN_yes hinc, List.length_append] at q1; simp at q1; unfold clA; omega)); rw [hq], rfl, by have hq : clB c = false := clB_no (.inr (by have q1 := clN_mono (c := c) (s := s + 1) (m := 2 ^ c.1.length) (by omega); rw [clN_yes hinc, List.length_append] at q1; simp at q1; unfold clA; omega)); rw [clL_bad hq]; rfl⟩⟩
            ·
              have h9r := h9
              try simp only [Bool.not_eq_true', Bool.not_eq_false', Bool.not_not, bne_iff_ne, bne_eq_false_iff_eq, beq_eq_false_iff_ne, beq_iff_eq, ne_eq, decide_eq_true_eq, decide_eq_false_iff_not, Classical.not_not, List.length_map, List.length_take, Int.toNat_natCast, List.length_map, List.length_append, List.length_cons, List.length_nil, List.length_set, List.length_take, rowS_len] at h9
              refine a_skip ?_
              refine a_region (by kernel_rfl) ?_
              refine op_v' (j_move (evo rfl)) ?_
              refine op_v' (j_loada_box (ys := [.own 1009 vk, .p _]) agg25 rfl rfl rfl (Nat.le_of_ble_eq_true rfl)) ?_
              refine op_n1' (fun ver => j_buildSlice_deep (x := .tmp 76) (t := (.mk 25 2 [(0, (.mk 99 2 []))])) slt27 elt25 rfl rfl rfl (by decide) (by decide) rfl rfl rfl (eat_own rfl rfl rfl (eat_leaf rfl rfl rfl eat_end)) rfl rfl) fun v77x9 => ?_
              refine op_n1' (fun ver => j_append_deep (by decide) slt27 elt25 rfl rfl rfl rfl rfl rfl rfl rfl (Nat.le_of_ble_eq_true rfl) (by rw [maxLen_eq]; first | omega | (simp only [List.length_map, List.length_take, Int.toNat_natCast, List.length_map, List.length_append, List.length_cons, List.length_nil, List.length_set, List.length_take, rowS_len]; omega)) (by first | omega | (simp only [List.length_map, List.length_take, Int.toNat_natCast, List.length_map, List.length_append, List.length_cons, List.length_nil, List.length_set, List.length_take, rowS_len]; omega))) fun v5x10 => ?_
              refine op_v' (j_assign (evo rfl)) ?_
              refine op_nil ?_
              refine a_region (by kernel_rfl) ?_
              refine op_v' (j_add rfl rfl (by first | omega | (simp only [List.length_map, List.length_take, Int.toNat_natCast, List.length_map, List.length_append, List.length_cons, List.length_nil, List.length_set, List.length_take, rowS_len]; omega)) (by first | omega | (simp only [List.length_map, List.length_take, Int.toNat_natCast, List.length_map, List.length_append, List.length_cons, List.length_nil, List.length_set, List.length_take, rowS_len]; omega))) ?_
              refine op_v' (j_move (evo rfl)) ?_
              refine op_nil ?_
              exact ⟨(s + 1, v5x10), (by first | exact ⟨by omega, by rw [clN_yes hinc, List.length_append]; simp; omega⟩ | (dsimp only; exact ⟨by omega, by rw [clN_yes hinc, List.length_append]; simp; omega⟩)), ⟨⟨rfl, rfl⟩, ⟨rfl, rfl, trivial⟩, ⟨deepEq (by rw [clN_yes hinc, List.map_append]; rfl), trivial⟩, ⟨rfl, rfl⟩, ⟨rfl, rfl⟩⟩, (by first | exact (by first | omega | (simp only [List.length_map, List.length_take, Int.toNat_natCast, List.length_map, List.length_append, List.length_cons, List.length_nil, List.length_set, List.length_take, rowS_len]; omega)) | (dsimp only; exact (by first | omega | (simp only [List.length_map, List.length_take, Int.toNat_natCast, List.length_map, List.length_append, List.length_cons, List.length_nil, List.length_set, List.length_take, rowS_len]; omega))))⟩
    ·
      have h2r := h2
      try simp only [Bool.not_eq_true', Bool.not_eq_false', Bool.not_not, bne_iff_ne, bne_eq_false_iff_eq, beq_eq_false_iff_ne, beq_iff_eq, ne_eq, decide_eq_true_eq, decide_eq_false_iff_not, Classical.not_not, List.length_map, List.length_take, Int.toNat_natCast, List.length_map, List.length_append, List.length_cons, List.length_nil, List.length_set, List.length_take, rowS_len] at h2
      refine a_exit ?_
      refine a_seq ?_
      refine a_region (by kernel_rfl) ?_
      refine op_v' (j_move (evo rfl)) ?_
      refine op_v' (j_assign (evo rfl)) ?_
      refine op_v' (j_assign (evo rfl)) ?_
      refine op_nil ?_
      refine a_ret ?_
      exact ⟨[.own 5 v, .p _], .tup [.own 0 0, .p _], [], [.deep (.mk 25 2 [(0, (.mk 99 2 []))]) _ none], [(5, v)], ⟨rfl, rfl, trivial⟩, rfl, rfl, ⟨⟨rfl, rfl⟩, trivial⟩, rfl, rfl, ⟨by have hq : s = 2 ^ c.1.length := (by omega); subst hq; have hb : clB c = true := clB_of h1 (by unfold clA; omega); rw [hb], rfl, by have hq : s = 2 ^ c.1.length := (by omega); subst hq; have hb : clB c = true := clB_of h1 (by unfold clA; omega); rw [clL_ok hb]; rfl⟩⟩


theorem f_lawEClausesOf (c : Con) : Fn Try.prog 5 [.agg [.sl (c.1.map dT), .p (.int .i64 c.2)]] [] (fun rr ii nn => rr = .p (.bool true) ∧ ii = [] ∧ nn = []) := by
  refine fn_of Try.func5 rfl (Nat.le_of_ble_eq_true rfl) fun w X g => ?_
  show AWp _ _ _ ⟨[(0, .agg [.sl (c.1.map dT), .p (.int .i64 c.2)])], []⟩
  refine a_seq ?_
  refine a_region (by kernel_rfl) ?_
  refine op_n' (fun ver => j_boxa rfl) fun v1x1 => ?_
  refine op_v' (j_assign (evo rfl)) ?_
  refine op_nil ?_
  refine a_seq ?_
  refine a_region (by kernel_rfl) ?_
  refine op_v' (j_assign (evo rfl)) ?_
  refine op_nil ?_
  refine a_seq ?_
  refine a_region (by kernel_rfl) ?_
  refine op_v' (j_loada_box (ys := [.sl _, .p _]) agg45 rfl rfl rfl (Nat.le_of_ble_eq_true rfl)) ?_
  refine op_v' (j_move (evo rfl)) ?_
  refine op_v0' (j_call0 (v := .p _) (hp1 := []) [] false [] ent30 (f_szCon c _ (by omega)) ⟨.inl ⟨rfl, rfl⟩, .inl ⟨rfl, rfl⟩, trivial⟩ trivial rfl rfl (fun h => by cases h) rfl (fun _ h => by cases h) (.inl rfl) rfl rfl) ?_
  refine op_v' (j_assign (evo rfl)) ?_
  refine op_nil ?_
  refine a_seq ?_
  refine a_seq ?_
  refine a_region (by kernel_rfl) ?_
  refine op_v' (j_move (evo rfl)) ?_
  refine op_v' (j_lt rfl rfl) ?_
  refine op_nil ?_
  refine a_cond rfl (fun h1 => ?_) (fun h1 => ?_)
  ·
    have h1r := h1
    try simp only [Bool.not_eq_true', Bool.not_eq_false', Bool.not_not, bne_iff_ne, bne_eq_false_iff_eq, beq_eq_false_iff_ne, beq_iff_eq, ne_eq, decide_eq_true_eq, decide_eq_false_iff_not, Classical.not_not, List.length_map, List.length_take, Int.toNat_natCast] at h1
    refine a_seq ?_
    refine a_region (by kernel_rfl) ?_
    refine op_v' (j_assign (evo rfl)) ?_
    refine op_nil ?_
    refine a_ret ?_
    exact ⟨[.p _], .p _, [], [], [], ⟨rfl, trivial⟩, rfl, rfl, trivial, rfl, rfl, ⟨rfl, rfl, rfl⟩⟩
  ·
    have h1r := h1
    try simp only [Bool.not_eq_true', Bool.not_eq_false', Bool.not_not, bne_iff_ne, bne_eq_false_iff_eq, beq_eq_false_iff_ne, beq_iff_eq, ne_eq, decide_eq_true_eq, decide_eq_false_iff_not, Classical.not_not, List.length_map, List.length_take, Int.toNat_natCast] at h1
    have hsz := szv_le h1
    refine a_skip ?_
    refine a_seq ?_
    refine a_region (by kernel_rfl) ?_
    refine op_v' (j_loada_box (ys := [.sl _, .p _]) agg45 rfl rfl rfl (Nat.le_of_ble_eq_true rfl)) ?_
    refine op_n1' (fun ver => j_call1 (v := .agg [.own 21 ver, .p _]) (hp1 := [(21, some (ver, .row 99 2 _))]) [] false [] ent31 (f_toCon c hsz) ⟨.inl ⟨rfl, rfl⟩, trivial⟩ trivial rfl rfl rfl (fun h => by cases h) rfl (List.all_eq_true.1 rfl) (.inl rfl) rfl rfl) fun v21x2 => ?_
    refine op_freezeaK 21 0 trivial rfl rfl rfl rfl ?_
    try dsimp only [List.set]
    refine op_v0' (j_call0 (v := .tup [.sl _, .p _]) (hp1 := []) [] false [] ent17 (f_clSpec c) ⟨.inl ⟨rfl, rfl⟩, trivial⟩ trivial rfl rfl (fun h => by cases h) rfl (fun _ h => by cases h) (.inl rfl) rfl rfl) ?_
    refine op_v' (j_move (evo rfl)) ?_
    refine op_v' (j_extract rfl rfl) ?_
    refine op_v' (j_extract rfl rfl) ?_
    refine op_v' (j_assign (evo rfl)) ?_
    refine op_v' (j_assign (evo rfl)) ?_
    refine op_nil ?_
    refine a_seq ?_
    refine a_region (by kernel_rfl) ?_
    refine op_v' (j_loada_box (ys := [.sl _, .p _]) agg45 rfl rfl rfl (Nat.le_of_ble_eq_true rfl)) ?_
    refine op_n1' (fun ver => j_call1 (v := .agg [.own 26 ver, .p _]) (hp1 := [(26, some (ver, .row 99 2 _))]) [] false [] ent31 (f_toCon c hsz) ⟨.inl ⟨rfl, rfl⟩, trivial⟩ trivial rfl rfl rfl (fun h => by cases h) rfl (List.all_eq_true.1 rfl) (.inl rfl) rfl rfl) fun v26x3 => ?_
    refine op_n' (fun ver => j_alloc elt25 rfl) fun v6x4 => ?_
    refine op_s' (j_storea_box0 agg25 rfl rfl rfl rfl rfl rfl) ?_
    refine op_nil ?_
    refine a_seq ?_
    refine a_region (by kernel_rfl) ?_
    refine op_v' (j_loada_box (ys := [.own 26 v26x3, .p _]) agg25 rfl rfl rfl (Nat.le_of_ble_eq_true rfl)) ?_
    refine op_n1' (fun ver => j_call1 (v := .tup [.own 29 ver, .p _]) (hp1 := [(29, some (ver, .deep (.mk 25 2 [(0, (.mk 99 2 []))]) _ none))]) [] true [26] ent16 (f_clImplD c) ⟨.inr ⟨rfl, view_agg rfl (view_cons (view_own rfl rfl) (view_cons rfl rfl)), rfl⟩, trivial⟩ trivial rfl rfl rfl (fun _ => rfl) rfl (List.all_eq_true.1 rfl) (.inr ⟨rfl, by first | exact pl_new1 (fun _ => rfl) | exact pl_newC | (simp [plO, plV, plV.plL]; done)⟩) rfl rfl) fun v29x5 => ?_
    refine op_v' (j_move (evo rfl)) ?_
    refine op_v' (j_extract rfl rfl) ?_
    refine op_v' (j_extract rfl rfl) ?_
    refine op_v' (j_assign (evo rfl)) ?_
    refine op_v' (j_assign (evo rfl)) ?_
    refine op_nil ?_
    refine a_seq ?_
    refine a_seq ?_
    refine a_region (by kernel_rfl) ?_
    refine op_v' (j_move (evo rfl)) ?_
    refine op_v' (j_move (evo rfl)) ?_
    refine op_v0' (j_call0 (v := .p _) (hp1 := []) [] true [29] ent26 (f_eqConS (clL c) (clL c)) ⟨.inr ⟨rfl, view_ownD rfl rfl, rfl⟩, .inl ⟨rfl, rfl⟩, trivial⟩ trivial rfl rfl (fun _ => rfl) rfl (fun _ h => by cases h) (.inr ⟨rfl, by first | exact pl_new1 (fun _ => rfl) | exact pl_newC | (simp [plO, plV, plV.plL]; done)⟩) rfl rfl) ?_
    refine op_v' (j_not rfl) ?_
    refine op_v' (j_move (evo rfl)) ?_
    refine op_split' 36 rfl (fun h2 => ?_) (fun h2 => ?_)
    ·
      have h2r := h2
      try simp only [Bool.not_eq_true', Bool.not_eq_false', Bool.not_not, bne_iff_ne, bne_eq_false_iff_eq, beq_eq_false_iff_ne, beq_iff_eq, ne_eq, decide_eq_true_eq, decide_eq_false_iff_not, Classical.not_not, List.length_map, List.length_take, Int.toNat_natCast] at h2
      exact absurd h2r (by simp)
    ·
      have h2r := h2
      try simp only [Bool.not_eq_true', Bool.not_eq_false', Bool.not_not, bne_iff_ne, bne_eq_false_iff_eq, beq_eq_false_iff_ne, beq_iff_eq, ne_eq, decide_eq_true_eq, decide_eq_false_iff_not, Classical.not_not, List.length_map, List.length_take, Int.toNat_natCast] at h2
      refine op_v' (j_want rfl rfl h2r (j_move (evo rfl))) ?_
      refine op_v' (j_want rfl rfl h2r (j_move (evo rfl))) ?_
      refine op_v' (j_want rfl rfl h2r (j_neb Try.underlying4 rfl rfl)) ?_
      refine op_v' (j_pick_f rfl h2r (evo rfl)) ?_
      refine op_nil ?_
      refine a_cond rfl (fun h3 => ?_) (fun h3 => ?_)
      ·
        have h3r := h3
        try simp only [Bool.not_eq_true', Bool.not_eq_false', Bool.not_not, bne_iff_ne, bne_eq_false_iff_eq, beq_eq_false_iff_ne, beq_iff_eq, ne_eq, decide_eq_true_eq, decide_eq_false_iff_not, Classical.not_not, List.length_map, List.length_take, Int.toNat_natCast] at h3
        exact absurd h3r (by simp)
      ·
        have h3r := h3
        try simp only [Bool.not_eq_true', Bool.not_eq_false', Bool.not_not, bne_iff_ne, bne_eq_false_iff_eq, beq_eq_false_iff_ne, beq_iff_eq, ne_eq, decide_eq_true_eq, decide_eq_false_iff_not, Classical.not_not, List.length_map, List.length_take, Int.toNat_natCast] at h3
        refine a_skip ?_
        refine a_seq ?_
        refine a_seq ?_
        refine a_draw mixed (by kernel_rfl) (by kernel_rfl) fun vf => ?_
        refine d_v' (j_loada_box (ys := [.own 26 v26x3, .p _]) agg25 rfl rfl rfl (Nat.le_of_ble_eq_true rfl)) ?_
        refine d_v' (j_loada_box (ys := [.sl _, .p _]) agg45 rfl rfl rfl (Nat.le_of_ble_eq_true rfl)) ?_
        refine d_n1' (fun ver => j_call1 (v := .agg [.own 43 ver, .p _]) (hp1 := [(43, some (ver, .row 99 2 _))]) [] false [] ent31 (f_toCon c hsz) ⟨.inl ⟨rfl, rfl⟩, trivial⟩ trivial rfl rfl rfl (fun h => by cases h) rfl (List.all_eq_true.1 rfl) (.inl rfl) rfl rfl) ?_
        refine d_v0' (j_call0 (v := .p _) (hp1 := []) [] true [26, 43] ent32 (f_eqCon c c) ⟨.inr ⟨rfl, view_agg rfl (view_cons (view_own rfl rfl) (view_cons rfl rfl)), rfl⟩, .inr ⟨rfl, view_agg rfl (view_cons (view_own rfl rfl) (view_cons rfl rfl)), rfl⟩, trivial⟩ trivial rfl rfl (fun _ => rfl) rfl (fun _ h => by cases h) (.inr ⟨rfl, by first | exact pl_new1 (fun _ => rfl) | exact pl_newC | (simp [plO, plV, plV.plL]; done)⟩) rfl rfl) ?_
        refine d_v' (j_not rfl) ?_
        refine d_nil (by kernel_rfl) (by kernel_rfl) ?_
        refine a_cond rfl (fun h4 => ?_) (fun h4 => ?_)
        ·
          have h4r := h4
          try simp only [Bool.not_eq_true', Bool.not_eq_false', Bool.not_not, bne_iff_ne, bne_eq_false_iff_eq, beq_eq_false_iff_ne, beq_iff_eq, ne_eq, decide_eq_true_eq, decide_eq_false_iff_not, Classical.not_not, List.length_map, List.length_take, Int.toNat_natCast] at h4
          exact absurd h4r (by simp)
        ·
          have h4r := h4
          try simp only [Bool.not_eq_true', Bool.not_eq_false', Bool.not_not, bne_iff_ne, bne_eq_false_iff_eq, beq_eq_false_iff_ne, beq_iff_eq, ne_eq, decide_eq_true_eq, decide_eq_false_iff_not, Classical.not_not, List.length_map, List.length_take, Int.toNat_natCast] at h4
          refine a_skip ?_
          refine a_seq ?_
          refine a_region (by kernel_rfl) ?_
          refine op_v' (j_assign (evo rfl)) ?_
          refine op_nil ?_
          refine a_seq ?_
          refine a_region (by kernel_rfl) ?_
          refine op_v' (j_loada_box (ys := [.own 26 v26x3, .p _]) agg25 rfl rfl rfl (Nat.le_of_ble_eq_true rfl)) ?_
          refine op_v' (j_move (evo rfl)) ?_
          refine op_v0' (j_call0 (v := .p _) (hp1 := [(26, some (v26x3, .row 99 2 _))]) [(26, v26x3)] false [26] ent33 (f_markCon 1 _ _ (by omega)) ⟨.inl ⟨rfl, rfl⟩, .inl ⟨rfl, rfl⟩, trivial⟩ ⟨⟨rfl, rfl⟩, trivial⟩ rfl rfl (fun h => by cases h) rfl (List.all_eq_true.1 rfl) (.inl rfl) rfl rfl) ?_
          refine op_v' (j_assign (evo rfl)) ?_
          refine op_nil ?_
          refine a_seq ?_
          refine a_seq ?_
          refine a_region (by kernel_rfl) ?_
          refine op_v' (j_move (evo rfl)) ?_
          refine op_v' (j_lt rfl rfl) ?_
          refine op_v' (j_move (evo rfl)) ?_
          refine op_split' 51 rfl (fun h5 => ?_) (fun h5 => ?_)
          ·
            have h5r := h5
            try simp only [Bool.not_eq_true', Bool.not_eq_false', Bool.not_not, bne_iff_ne, bne_eq_false_iff_eq, beq_eq_false_iff_ne, beq_iff_eq, ne_eq, decide_eq_true_eq, decide_eq_false_iff_not, Classical.not_not, List.length_map, List.length_take, Int.toNat_natCast] at h5
            exact absurd (of_decide_eq_true h5r) (by omega)
          ·
            have h5r := h5
            try simp only [Bool.not_eq_true', Bool.not_eq_false', Bool.not_not, bne_iff_ne, bne_eq_false_iff_eq, beq_eq_false_iff_ne, beq_iff_eq, ne_eq, decide_eq_true_eq, decide_eq_false_iff_not, Classical.not_not, List.length_map, List.length_take, Int.toNat_natCast] at h5
            refine op_v' (j_want rfl rfl h5r (j_move (evo rfl))) ?_
            refine op_v' (j_want rfl rfl h5r (j_move (evo rfl))) ?_
            refine op_v0' (j_want rfl rfl h5r (j_call0 (v := .p _) (hp1 := []) [] true [29] ent26 (f_eqConS (clL c) (clL c)) ⟨.inr ⟨rfl, view_ownD rfl rfl, rfl⟩, .inl ⟨rfl, rfl⟩, trivial⟩ trivial rfl rfl (fun _ => rfl) rfl (fun _ h => by cases h) (.inr ⟨rfl, by first | exact pl_new1 (fun _ => rfl) | exact pl_newC | (simp [plO, plV, plV.plL]; done)⟩) rfl rfl)) ?_
            refine op_v' (j_want rfl rfl h5r (j_not rfl)) ?_
            refine op_v' (j_pick_f rfl h5r (evo rfl)) ?_
            refine op_v' (j_move (evo rfl)) ?_
            refine op_split' 57 rfl (fun h6 => ?_) (fun h6 => ?_)
            ·
              have h6r := h6
              try simp only [Bool.not_eq_true', Bool.not_eq_false', Bool.not_not, bne_iff_ne, bne_eq_false_iff_eq, beq_eq_false_iff_ne, beq_iff_eq, ne_eq, decide_eq_true_eq, decide_eq_false_iff_not, Classical.not_not, List.length_map, List.length_take, Int.toNat_natCast] at h6
              exact absurd h6r (by simp)
            ·
              have h6r := h6
              try simp only [Bool.not_eq_true', Bool.not_eq_false', Bool.not_not, bne_iff_ne, bne_eq_false_iff_eq, beq_eq_false_iff_ne, beq_iff_eq, ne_eq, decide_eq_true_eq, decide_eq_false_iff_not, Classical.not_not, List.length_map, List.length_take, Int.toNat_natCast] at h6
              refine op_v' (j_want rfl rfl h6r (j_move (evo rfl))) ?_
              refine op_v' (j_want rfl rfl h6r (j_move (evo rfl))) ?_
              refine op_v' (j_want rfl rfl h6r (j_neb Try.underlying4 rfl rfl)) ?_
              refine op_v' (j_pick_f rfl h6r (evo rfl)) ?_
              refine op_nil ?_
              refine a_cond rfl (fun h7 => ?_) (fun h7 => ?_)
              ·
                have h7r := h7
                try simp only [Bool.not_eq_true', Bool.not_eq_false', Bool.not_not, bne_iff_ne, bne_eq_false_iff_eq, beq_eq_false_iff_ne, beq_iff_eq, ne_eq, decide_eq_true_eq, decide_eq_false_iff_not, Classical.not_not, List.length_map, List.length_take, Int.toNat_natCast] at h7
                exact absurd h7r (by simp)
              ·
                have h7r := h7
                try simp only [Bool.not_eq_true', Bool.not_eq_false', Bool.not_not, bne_iff_ne, bne_eq_false_iff_eq, beq_eq_false_iff_ne, beq_iff_eq, ne_eq, decide_eq_true_eq, decide_eq_false_iff_not, Classical.not_not, List.length_map, List.length_take, Int.toNat_natCast] at h7
                refine a_skip ?_
                refine a_seq ?_
                refine a_region (by kernel_rfl) ?_
                refine op_v' (j_assign (evo rfl)) ?_
                refine op_nil ?_
                refine a_seq ?_
                refine a_region (by kernel_rfl) ?_
                refine op_v' (j_move (evo rfl)) ?_
                refine op_v' (j_move (evo rfl)) ?_
                refine op_v0' (j_call0 (v := .p _) (hp1 := [(29, some (v29x5, .deep (.mk 25 2 [(0, (.mk 99 2 []))]) _ none))]) [(29, v29x5)] false [29] ent27 (f_markConS 1 (clL c) (fitC_end fit_cl)) ⟨.inl ⟨rfl, rfl⟩, .inl ⟨rfl, rfl⟩, trivial⟩ ⟨⟨rfl, rfl⟩, trivial⟩ rfl rfl (fun h => by cases h) rfl (List.all_eq_true.1 rfl) (.inl rfl) rfl rfl) ?_
                refine op_v' (j_assign (evo rfl)) ?_
                refine op_nil ?_
                refine a_seq ?_
                refine a_region (by kernel_rfl) ?_
                refine op_v' (j_assign (evo rfl)) ?_
                refine op_nil ?_
                refine a_seq ?_
                refine a_region (by kernel_rfl) ?_
                refine op_v' (j_move (evo rfl)) ?_
                refine op_v' (j_move (evo rfl)) ?_
                refine op_v0' (j_call0 (v := .p _) (hp1 := []) [] true [29] ent34 (f_heldConS 1 (clL c) (fitC_end fit_cl)) ⟨.inr ⟨rfl, view_ownD rfl rfl, rfl⟩, .inl ⟨rfl, rfl⟩, trivial⟩ trivial rfl rfl (fun _ => rfl) rfl (fun _ h => by cases h) (.inr ⟨rfl, by first | exact pl_new1 (fun _ => rfl) | exact pl_newC | (simp [plO, plV, plV.plL]; done)⟩) rfl rfl) ?_
                refine op_v' (j_assign (evo rfl)) ?_
                refine op_nil ?_
                refine a_seq ?_
                refine a_seq ?_
                refine a_region (by kernel_rfl) ?_
                refine op_v' (j_move (evo rfl)) ?_
                refine op_v' (j_lt rfl rfl) ?_
                refine op_nil ?_
                refine a_cond rfl (fun h8 => ?_) (fun h8 => ?_)
                ·
                  have h8r := h8
                  try simp only [Bool.not_eq_true', Bool.not_eq_false', Bool.not_not, bne_iff_ne, bne_eq_false_iff_eq, beq_eq_false_iff_ne, beq_iff_eq, ne_eq, decide_eq_true_eq, decide_eq_false_iff_not, Classical.not_not, List.length_map, List.length_take, Int.toNat_natCast] at h8
                  exact absurd (of_decide_eq_true h8r) (by omega)
                ·
                  have h8r := h8
                  try simp only [Bool.not_eq_true', Bool.not_eq_false', Bool.not_not, bne_iff_ne, bne_eq_false_iff_eq, beq_eq_false_iff_ne, beq_iff_eq, ne_eq, decide_eq_true_eq, decide_eq_false_iff_not, Classical.not_not, List.length_map, List.length_take, Int.toNat_natCast] at h8
                  refine a_skip ?_
                  refine a_seq ?_
                  refine a_seq ?_
                  refine a_region (by kernel_rfl) ?_
                  refine op_v' (j_move (evo rfl)) ?_
                  refine op_v' (j_move (evo rfl)) ?_
                  refine op_v' (j_ne rfl rfl) ?_
                  refine op_nil ?_
                  refine a_cond rfl (fun h9 => ?_) (fun h9 => ?_)
                  ·
                    have h9r := h9
                    try simp only [Bool.not_eq_true', Bool.not_eq_false', Bool.not_not, bne_iff_ne, bne_eq_false_iff_eq, beq_eq_false_iff_ne, beq_iff_eq, ne_eq, decide_eq_true_eq, decide_eq_false_iff_not, Classical.not_not, List.length_map, List.length_take, Int.toNat_natCast] at h9
                    exact absurd (of_decide_eq_true h9r) (by omega)
                  ·
                    have h9r := h9
                    try simp only [Bool.not_eq_true', Bool.not_eq_false', Bool.not_not, bne_iff_ne, bne_eq_false_iff_eq, beq_eq_false_iff_ne, beq_iff_eq, ne_eq, decide_eq_true_eq, decide_eq_false_iff_not, Classical.not_not, List.length_map, List.length_take, Int.toNat_natCast] at h9
                    refine a_skip ?_
                    refine a_seq ?_
                    refine a_region (by kernel_rfl) ?_
                    refine op_v' (j_loada_box (ys := [.sl _, .p _]) agg45 rfl rfl rfl (Nat.le_of_ble_eq_true rfl)) ?_
                    refine op_n1' (fun ver => j_call1 (v := .agg [.own 75 ver, .p _]) (hp1 := [(75, some (ver, .row 99 2 _))]) [] false [] ent31 (f_toCon c hsz) ⟨.inl ⟨rfl, rfl⟩, trivial⟩ trivial rfl rfl rfl (fun h => by cases h) rfl (List.all_eq_true.1 rfl) (.inl rfl) rfl rfl) fun v75x6 => ?_
                    refine op_n1' (fun ver => j_call1 (v := .tup [.own 76 ver, .p _]) (hp1 := [(76, some (ver, .deep (.mk 25 2 [(0, (.mk 99 2 []))]) _ none))]) [] true [75] ent16 (f_clImplD c) ⟨.inr ⟨rfl, view_agg rfl (view_cons (view_own rfl rfl) (view_cons rfl rfl)), rfl⟩, trivial⟩ trivial rfl rfl rfl (fun _ => rfl) rfl (List.all_eq_true.1 rfl) (.inr ⟨rfl, by first | exact pl_new1 (fun _ => rfl) | exact pl_newC | (simp [plO, plV, plV.plL]; done)⟩) rfl rfl) fun v76x7 => ?_
                    refine op_v' (j_move (evo rfl)) ?_
                    refine op_v' (j_extract rfl rfl) ?_
                    refine op_v' (j_extract rfl rfl) ?_
                    refine op_v' (j_assign (evo rfl)) ?_
                    refine op_v' (j_assign (evo rfl)) ?_
                    refine op_nil ?_
                    refine a_seq ?_
                    refine a_seq ?_
                    refine a_region (by kernel_rfl) ?_
                    refine op_v' (j_move (evo rfl)) ?_
                    refine op_v' (j_move (evo rfl)) ?_
                    refine op_v0' (j_call0 (v := .p _) (hp1 := []) [] true [76] ent26 (f_eqConS (clL c) (clL c)) ⟨.inr ⟨rfl, view_ownD rfl rfl, rfl⟩, .inl ⟨rfl, rfl⟩, trivial⟩ trivial rfl rfl (fun _ => rfl) rfl (fun _ h => by cases h) (.inr ⟨rfl, by first | exact pl_new1 (fun _ => rfl) | exact pl_newC | (simp [plO, plV, plV.plL]; done)⟩) rfl rfl) ?_
                    refine op_v' (j_not rfl) ?_
                    refine op_v' (j_move (evo rfl)) ?_
                    refine op_split' 83 rfl (fun h10 => ?_) (fun h10 => ?_)
                    ·
                      have h10r := h10
                      try simp only [Bool.not_eq_true', Bool.not_eq_false', Bool.not_not, bne_iff_ne, bne_eq_false_iff_eq, beq_eq_false_iff_ne, beq_iff_eq, ne_eq, decide_eq_true_eq, decide_eq_false_iff_not, Classical.not_not, List.length_map, List.length_take, Int.toNat_natCast] at h10
                      exact absurd h10r (by simp)
                    ·
                      have h10r := h10
                      try simp only [Bool.not_eq_true', Bool.not_eq_false', Bool.not_not, bne_iff_ne, bne_eq_false_iff_eq, beq_eq_false_iff_ne, beq_iff_eq, ne_eq, decide_eq_true_eq, decide_eq_false_iff_not, Classical.not_not, List.length_map, List.length_take, Int.toNat_natCast] at h10
                      refine op_v' (j_want rfl rfl h10r (j_move (evo rfl))) ?_
                      refine op_v' (j_want rfl rfl h10r (j_move (evo rfl))) ?_
                      refine op_v' (j_want rfl rfl h10r (j_neb Try.underlying4 rfl rfl)) ?_
                      refine op_v' (j_pick_f rfl h10r (evo rfl)) ?_
                      refine op_nil ?_
                      refine a_cond rfl (fun h11 => ?_) (fun h11 => ?_)
                      ·
                        have h11r := h11
                        try simp only [Bool.not_eq_true', Bool.not_eq_false', Bool.not_not, bne_iff_ne, bne_eq_false_iff_eq, beq_eq_false_iff_ne, beq_iff_eq, ne_eq, decide_eq_true_eq, decide_eq_false_iff_not, Classical.not_not, List.length_map, List.length_take, Int.toNat_natCast] at h11
                        exact absurd h11r (by simp)
                      ·
                        have h11r := h11
                        try simp only [Bool.not_eq_true', Bool.not_eq_false', Bool.not_not, bne_iff_ne, bne_eq_false_iff_eq, beq_eq_false_iff_ne, beq_iff_eq, ne_eq, decide_eq_true_eq, decide_eq_false_iff_not, Classical.not_not, List.length_map, List.length_take, Int.toNat_natCast] at h11
                        refine a_skip ?_
                        refine a_seq ?_
                        refine a_region (by kernel_rfl) ?_
                        refine op_v' (j_assign (evo rfl)) ?_
                        refine op_nil ?_
                        refine a_seq ?_
                        refine a_region (by kernel_rfl) ?_
                        refine op_v' (j_move (evo rfl)) ?_
                        refine op_v' (j_move (evo rfl)) ?_
                        refine op_v0' (j_call0 (v := .p _) (hp1 := []) [] true [29] ent34 (f_heldConS 1 (clL c) (fitC_end fit_cl)) ⟨.inr ⟨rfl, view_ownD rfl rfl, rfl⟩, .inl ⟨rfl, rfl⟩, trivial⟩ trivial rfl rfl (fun _ => rfl) rfl (fun _ h => by cases h) (.inr ⟨rfl, by first | exact pl_new1 (fun _ => rfl) | exact pl_newC | (simp [plO, plV, plV.plL]; done)⟩) rfl rfl) ?_
                        refine op_v' (j_assign (evo rfl)) ?_
                        refine op_nil ?_
                        refine a_seq ?_
                        refine a_seq ?_
                        refine a_region (by kernel_rfl) ?_
                        refine op_v' (j_move (evo rfl)) ?_
                        refine op_v' (j_lt rfl rfl) ?_
                        refine op_nil ?_
                        refine a_cond rfl (fun h12 => ?_) (fun h12 => ?_)
                        ·
                          have h12r := h12
                          try simp only [Bool.not_eq_true', Bool.not_eq_false', Bool.not_not, bne_iff_ne, bne_eq_false_iff_eq, beq_eq_false_iff_ne, beq_iff_eq, ne_eq, decide_eq_true_eq, decide_eq_false_iff_not, Classical.not_not, List.length_map, List.length_take, Int.toNat_natCast] at h12
                          exact absurd (of_decide_eq_true h12r) (by omega)
                        ·
                          have h12r := h12
                          try simp only [Bool.not_eq_true', Bool.not_eq_false', Bool.not_not, bne_iff_ne, bne_eq_false_iff_eq, beq_eq_false_iff_ne, beq_iff_eq, ne_eq, decide_eq_true_eq, decide_eq_false_iff_not, Classical.not_not, List.length_map, List.length_take, Int.toNat_natCast] at h12
                          refine a_skip ?_
                          refine a_seq ?_
                          refine a_seq ?_
                          refine a_region (by kernel_rfl) ?_
                          refine op_v' (j_move (evo rfl)) ?_
                          refine op_v' (j_move (evo rfl)) ?_
                          refine op_v' (j_ne rfl rfl) ?_
                          refine op_nil ?_
                          refine a_cond rfl (fun h13 => ?_) (fun h13 => ?_)
                          ·
                            have h13r := h13
                            try simp only [Bool.not_eq_true', Bool.not_eq_false', Bool.not_not, bne_iff_ne, bne_eq_false_iff_eq, beq_eq_false_iff_ne, beq_iff_eq, ne_eq, decide_eq_true_eq, decide_eq_false_iff_not, Classical.not_not, List.length_map, List.length_take, Int.toNat_natCast] at h13
                            exact absurd (of_decide_eq_true h13r) (by omega)
                          ·
                            have h13r := h13
                            try simp only [Bool.not_eq_true', Bool.not_eq_false', Bool.not_not, bne_iff_ne, bne_eq_false_iff_eq, beq_eq_false_iff_ne, beq_iff_eq, ne_eq, decide_eq_true_eq, decide_eq_false_iff_not, Classical.not_not, List.length_map, List.length_take, Int.toNat_natCast] at h13
                            refine a_skip ?_
                            refine a_seq ?_
                            refine a_region (by kernel_rfl) ?_
                            refine op_v' (j_assign (evo rfl)) ?_
                            refine op_nil ?_
                            refine a_ret ?_
                            exact ⟨[.p _], .p _, [], [], [], ⟨rfl, trivial⟩, rfl, rfl, trivial, rfl, rfl, ⟨rfl, rfl, rfl⟩⟩


end Go.Ab

/- Walks. -/
import Derived.Test.YtliampibpeokmaaBase
import Derived.Test.YtliampibpeokmaaDeep2
import Derived.Test.YtliampibpeokmaaWsdeep
import Derived.Test.YtliampibpeokmaaWspure
import Derived.Test.YtliampibpeokmaaWsfix
import Derived.Test.YtliampibpeokmaaProb
import Derived.Test.YtliampibpeokmaaLaws1
import Derived.Test.YtliampibpeokmaaWsdrawc
import Derived.Test.YtliampibpeokmaaWscov
import Derived.Test.YtliampibpeokmaaClau
import Derived.Test.YtliampibpeokmaaTabs
import Derived.Test.YtliampibpeokmaaEnum
import Derived.Test.YtliampibpeokmaaWscon2
import Derived.Test.YtliampibpeokmaaWsexcl
namespace Go.Ab
open Go.Proofs
set_option maxRecDepth 100000
set_option maxHeartbeats 8000000
set_option linter.unusedSimpArgs false
set_option linter.unusedVariables false
theorem f_fixedD (l : List Con) (p : List Int) (hl : l.all cOk = true) (hln : l.length ≤ 1000) (hp : paOk p = true) : Fn Try.prog 85 [.sl (l.map dC), .sl (p.map dI)] [] (fun rr ii nn => rr = .own 0 0 ∧ ii = [] ∧ nn = [.deep (.mk 99 2 [(0, .mk 146 2 [])]) ((l.map (fixC p)).map dC) none]) := by
  refine fn_of Try.func85 rfl (Nat.le_of_ble_eq_true rfl) fun w X g => ?_
  show AWp _ _ _ ⟨[(0, .sl (l.map dC)), (1, .sl (p.map dI))], []⟩
  refine a_seq ?_
  refine a_region (by kernel_rfl) ?_
  refine op_v' (j_assign (evo rfl)) ?_
  refine op_nil ?_
  refine a_seq ?_
  refine a_region (by kernel_rfl) ?_
  refine op_v' (j_assign (evo rfl)) ?_
  refine op_nil ?_
  refine a_adopt' 5 5 99 2 rfl fun v5 => ?_
  refine a_todeep 5 0 (.mk 99 2 [(0, (.mk 146 2 []))]) (zs := []) (zs' := []) rfl rfl rfl rfl eat_end rfl ?_
  refine a_seq ?_
  refine a_seq ?_
  refine a_region (by kernel_rfl) ?_
  refine op_v' (j_move (evo rfl)) ?_
  refine op_v' (j_len_map Try.underlying37 rfl) ?_
  refine op_v' (j_move (evo rfl)) ?_
  refine op_nil ?_
  refine a_block ?_
  refine a_loopF' (ι := Nat × Nat) (fun x => x.1 ≤ l.length) (fun x r => (13, .p (.int .i64 ((x.1 : Nat)))) :: (5, .own 5 x.2) :: r) (fun x r => (5, some (x.2, .deep (.mk 99 2 [(0, .mk 146 2 [])]) ((((l.take x.1).map (fixC p)).map dC)) none)) :: r) (fun x => l.length - x.1) (fun _ _ => rfl) (fun _ _ => rfl) (0, v5) (by first | exact (Nat.zero_le _) | (dsimp only; exact (Nat.zero_le _))) ⟨⟨rfl, rfl⟩, ⟨rfl, rfl, trivial⟩, ⟨rfl, trivial⟩, ⟨rfl, rfl⟩, ⟨rfl, rfl⟩⟩ ?_
  rintro ⟨k, v⟩ hpre; dsimp only at hpre ⊢
  refine a_seq ?_
  refine a_region (by kernel_rfl) ?_
  refine op_v' (j_lt rfl rfl) ?_
  refine op_nil ?_
  refine a_seq ?_
  refine a_cond rfl (fun h1 => ?_) (fun h1 => ?_)
  ·
    have h1r := h1
    try simp only [Bool.not_eq_true', Bool.not_eq_false', Bool.not_not, bne_iff_ne, bne_eq_false_iff_eq, beq_eq_false_iff_ne, beq_iff_eq, ne_eq, decide_eq_true_eq, decide_eq_false_iff_not, Classical.not_not, List.length_map, List.length_take, Int.toNat_natCast, List.length_map, List.length_append, List.length_cons, List.length_nil, List.length_set, List.length_take] at h1
    refine a_skip ?_
    refine a_seq ?_
    refine a_block ?_
    refine a_seq ?_
    have hck := all_at (d := default) hl (k := k) (by first | omega | (simp only [List.length_map, List.length_take, Int.toNat_natCast, List.length_map, List.length_append, List.length_cons, List.length_nil, List.length_set, List.length_take]; omega))
    have hlc := cOk_len hck
    have hbc := cOk_bound hck
    refine a_region (by kernel_rfl) ?_
    refine op_v' (j_elemN slt37 rfl rfl rfl (at_map (by first | omega | (simp only [List.length_map, List.length_take, Int.toNat_natCast, List.length_map, List.length_append, List.length_cons, List.length_nil, List.length_set, List.length_take]; omega))) rfl) ?_
    refine op_v' (j_loada_el (ys := [.sl _, .p _]) agg99 rfl (at_map (by first | omega | (simp only [List.length_map, List.length_take, Int.toNat_natCast, List.length_map, List.length_append, List.length_cons, List.length_nil, List.length_set, List.length_take]; omega))) rfl (Nat.le_refl _)) ?_
    refine op_n' (fun ver => j_alloc elt99 rfl) fun v7x1 => ?_
    refine op_s' (j_storea_box0 agg99 rfl rfl rfl rfl rfl rfl) ?_
    refine op_nil ?_
    refine a_seq ?_
    refine a_region (by kernel_rfl) ?_
    refine op_v' (j_fldp fld99f1 rfl rfl) ?_
    refine op_v' (j_load_box leaf3 rfl rfl rfl) ?_
    refine op_v' (j_build (parts := [(1, .tmp 18)]) str99 elt99 rfl rfl) ?_
    refine op_n' (fun ver => j_alloc elt99 rfl) fun v8x2 => ?_
    refine op_s' (j_storea_box0 agg99 rfl rfl rfl rfl rfl rfl) ?_
    refine op_nil ?_
    refine a_adopt_box' 0 1008 146 2 (by decide) (id := 8) rfl rfl fun v1008x3 => ?_
    refine a_seq ?_
    refine a_seq ?_
    refine a_region (by kernel_rfl) ?_
    refine op_v' (j_fldp fld99f0 rfl rfl) ?_
    refine op_v' (j_load_box leaf97 rfl rfl rfl) ?_
    refine op_v' (j_len_map Try.underlying97 rfl) ?_
    refine op_v' (j_move (evo rfl)) ?_
    refine op_nil ?_
    refine a_block ?_
    refine a_loopF' (ι := Nat × Nat) (fun x => x.1 ≤ (l.getD k default).1.length) (fun x r => (23, .p (.int .i64 ((x.1 : Nat)))) :: r) (fun x r => (8, some (v8x2, .box 99 [.own 1008 x.2, .p (.int .i64 (fixB p ((l.getD k default).1.take x.1) (l.getD k default).2))])) :: (1008, some (x.2, .row 146 2 ((fixT p ((l.getD k default).1.take x.1)).map dT))) :: r) (fun x => (l.getD k default).1.length - x.1) (fun _ _ => rfl) (fun _ _ => rfl) (0, v1008x3) (by first | exact (Nat.zero_le _) | (dsimp only; exact (Nat.zero_le _))) ⟨⟨rfl, rfl⟩, ⟨rfl, trivial⟩, ⟨rfl, rfl, trivial⟩, ⟨rfl, rfl⟩, ⟨rfl, rfl⟩⟩ ?_
    rintro ⟨j, vj⟩ hpj; dsimp only at hpj ⊢
    refine a_seq ?_
    refine a_region (by kernel_rfl) ?_
    refine op_v' (j_lt rfl rfl) ?_
    refine op_nil ?_
    refine a_seq ?_
    refine a_cond rfl (fun h2 => ?_) (fun h2 => ?_)
    ·
      have h2r := h2
      try simp only [Bool.not_eq_true', Bool.not_eq_false', Bool.not_not, bne_iff_ne, bne_eq_false_iff_eq, beq_eq_false_iff_ne, beq_iff_eq, ne_eq, decide_eq_true_eq, decide_eq_false_iff_not, Classical.not_not, List.length_map, List.length_take, Int.toNat_natCast, List.length_map, List.length_append, List.length_cons, List.length_nil, List.length_set, List.length_take] at h2
      refine a_skip ?_
      refine a_seq ?_
      refine a_block ?_
      refine a_seq ?_
      refine a_region (by kernel_rfl) ?_
      refine op_v' (j_elemN slt97 rfl rfl rfl (at_map (by first | omega | (simp only [List.length_map, List.length_take, Int.toNat_natCast, List.length_map, List.length_append, List.length_cons, List.length_nil, List.length_set, List.length_take]; omega))) rfl) ?_
      refine op_v' (j_loada_el (ys := [.p _, .p _]) agg146 rfl (at_map (by first | omega | (simp only [List.length_map, List.length_take, Int.toNat_natCast, List.length_map, List.length_append, List.length_cons, List.length_nil, List.length_set, List.length_take]; omega))) rfl (Nat.le_refl _)) ?_
      refine op_n' (fun ver => j_alloc elt146 rfl) fun v10x4 => ?_
      refine op_s' (j_storea_box0 agg146 rfl rfl rfl rfl rfl rfl) ?_
      refine op_nil ?_
      refine a_seq ?_
      have htm := cOk_terms hck (k := j) (by omega)
      have hft := fixT_take (p := p) (ts := (l.getD k default).1) (k := j)
      have hfb := fixB_rng (p := p) (b := (l.getD k default).2) (ts := (l.getD k default).1.take j) (fun t ht => cOk_coefs hck t (List.mem_of_mem_take ht)) hbc.1
      refine a_region (by kernel_rfl) ?_
      refine op_v' (j_fldp fld146f1 rfl rfl) ?_
      refine op_v' (j_load_box leaf3 rfl rfl rfl) ?_
      refine op_v' (j_move (evo rfl)) ?_
      refine op_v0' (j_call0 (v := .p _) (hp1 := []) [] false [] ent157 (f_under ((l.getD k default).1.getD j default).2 p htm.1 hp) ⟨.inl ⟨rfl, rfl⟩, .inl ⟨rfl, rfl⟩, trivial⟩ trivial rfl rfl (fun h => by cases h) rfl (fun _ h => by cases h) (.inl rfl) rfl rfl) ?_
      refine op_nil ?_
      refine a_block ?_
      refine a_seq ?_
      refine a_region (by kernel_rfl) ?_
      refine op_v' (j_eq rfl rfl) ?_
      refine op_v' (j_assign (evo rfl)) ?_
      refine op_nil ?_
      refine a_cond rfl (fun h3 => ?_) (fun h3 => ?_)
      ·
        have h3r := h3
        try simp only [Bool.not_eq_true', Bool.not_eq_false', Bool.not_not, bne_iff_ne, bne_eq_false_iff_eq, beq_eq_false_iff_ne, beq_iff_eq, ne_eq, decide_eq_true_eq, decide_eq_false_iff_not, Classical.not_not, List.length_map, List.length_take, Int.toNat_natCast, List.length_map, List.length_append, List.length_cons, List.length_nil, List.length_set, List.length_take] at h3
        refine a_region (by kernel_rfl) ?_
        refine op_v' (j_fldp fld99f0 rfl rfl) ?_
        refine op_v' (j_load_box leaf97 rfl rfl rfl) ?_
        refine op_v' (j_loada_box (ys := [.p _, .p _]) agg146 rfl rfl rfl (Nat.le_of_ble_eq_true rfl)) ?_
        refine op_n' (fun ver => j_buildSlice (parts := [(0, .tmp 35)]) (es := [[_, _]]) slt97 elt146 rfl rfl (by decide) (by decide) rfl rfl (by simp) rfl) fun v36x5 => ?_
        refine op_n' (fun ver => j_append_own slt97 elt146 rfl rfl rfl rfl rfl rfl (by rw [maxLen_eq]; first | omega | (simp only [List.length_map, List.length_take, Int.toNat_natCast, List.length_map, List.length_append, List.length_cons, List.length_nil, List.length_set, List.length_take]; omega)) (by first | omega | (simp only [List.length_map, List.length_take, Int.toNat_natCast, List.length_map, List.length_append, List.length_cons, List.length_nil, List.length_set, List.length_take]; omega))) fun v1008x6 => ?_
        refine op_v' (j_fldp fld99f0 rfl rfl) ?_
        refine op_s' (j_store_box leaf97 rfl rfl (Nat.le_of_ble_eq_true rfl) (evo rfl) rfl) ?_
        refine op_nil ?_
        refine a_region (by kernel_rfl) ?_
        refine op_v' (j_add rfl rfl (by first | omega | (simp only [List.length_map, List.length_take, Int.toNat_natCast, List.length_map, List.length_append, List.length_cons, List.length_nil, List.length_set, List.length_take]; omega)) (by first | omega | (simp only [List.length_map, List.length_take, Int.toNat_natCast, List.length_map, List.length_append, List.length_cons, List.length_nil, List.length_set, List.length_take]; omega))) ?_
        refine op_v' (j_move (evo rfl)) ?_
        refine op_nil ?_
        exact ⟨(j + 1, v1008x6), (by first | exact (by first | omega | (simp only [List.length_map, List.length_take, Int.toNat_natCast, List.length_map, List.length_append, List.length_cons, List.length_nil, List.length_set, List.length_take]; omega)) | (dsimp only; exact (by first | omega | (simp only [List.length_map, List.length_take, Int.toNat_natCast, List.length_map, List.length_append, List.length_cons, List.length_nil, List.length_set, List.length_take]; omega)))), ⟨⟨rfl, rfl⟩, ⟨rfl, trivial⟩, ⟨box2Eq (by rw [fixB_next (by omega), if_neg (by omega)]), rowEq (by rw [fixT_next (by omega), if_pos (by assumption), List.map_append]; rfl), trivial⟩, ⟨rfl, rfl⟩, ⟨rfl, rfl⟩⟩, (by first | exact (by first | omega | (simp only [List.length_map, List.length_take, Int.toNat_natCast, List.length_map, List.length_append, List.length_cons, List.length_nil, List.length_set, List.length_take]; omega)) | (dsimp only; exact (by first | omega | (simp only [List.length_map, List.length_take, Int.toNat_natCast, List.length_map, List.length_append, List.length_cons, List.length_nil, List.length_set, List.length_take]; omega))))⟩
      ·
        have h3r := h3
        try simp only [Bool.not_eq_true', Bool.not_eq_false', Bool.not_not, bne_iff_ne, bne_eq_false_iff_eq, beq_eq_false_iff_ne, beq_iff_eq, ne_eq, decide_eq_true_eq, decide_eq_false_iff_not, Classical.not_not, List.length_map, List.length_take, Int.toNat_natCast, List.length_map, List.length_append, List.length_cons, List.length_nil, List.length_set, List.length_take] at h3
        refine a_seq ?_
        refine a_region (by kernel_rfl) ?_
        refine op_v' (j_eq rfl rfl) ?_
        refine op_v' (j_assign (evo rfl)) ?_
        refine op_nil ?_
        refine a_cond rfl (fun h4 => ?_) (fun h4 => ?_)
        ·
          have h4r := h4
          try simp only [Bool.not_eq_true', Bool.not_eq_false', Bool.not_not, bne_iff_ne, bne_eq_false_iff_eq, beq_eq_false_iff_ne, beq_iff_eq, ne_eq, decide_eq_true_eq, decide_eq_false_iff_not, Classical.not_not, List.length_map, List.length_take, Int.toNat_natCast, List.length_map, List.length_append, List.length_cons, List.length_nil, List.length_set, List.length_take] at h4
          refine a_region (by kernel_rfl) ?_
          refine op_v' (j_fldp fld99f1 rfl rfl) ?_
          refine op_v' (j_load_box leaf3 rfl rfl rfl) ?_
          refine op_v' (j_fldp fld146f0 rfl rfl) ?_
          refine op_v' (j_load_box leaf3 rfl rfl rfl) ?_
          refine op_v' (j_sub rfl rfl (by first | omega | (simp only [List.length_map, List.length_take, Int.toNat_natCast, List.length_map, List.length_append, List.length_cons, List.length_nil, List.length_set, List.length_take]; omega)) (by first | omega | (simp only [List.length_map, List.length_take, Int.toNat_natCast, List.length_map, List.length_append, List.length_cons, List.length_nil, List.length_set, List.length_take]; omega))) ?_
          refine op_v' (j_max rfl rfl) ?_
          refine op_v' (j_fldp fld99f1 rfl rfl) ?_
          refine op_s' (j_store_box leaf3 rfl rfl (Nat.le_of_ble_eq_true rfl) (evo rfl) rfl) ?_
          refine op_nil ?_
          refine a_region (by kernel_rfl) ?_
          refine op_v' (j_add rfl rfl (by first | omega | (simp only [List.length_map, List.length_take, Int.toNat_natCast, List.length_map, List.length_append, List.length_cons, List.length_nil, List.length_set, List.length_take]; omega)) (by first | omega | (simp only [List.length_map, List.length_take, Int.toNat_natCast, List.length_map, List.length_append, List.length_cons, List.length_nil, List.length_set, List.length_take]; omega))) ?_
          refine op_v' (j_move (evo rfl)) ?_
          refine op_nil ?_
          exact ⟨(j + 1, vj), (by first | exact (by first | omega | (simp only [List.length_map, List.length_take, Int.toNat_natCast, List.length_map, List.length_append, List.length_cons, List.length_nil, List.length_set, List.length_take]; omega)) | (dsimp only; exact (by first | omega | (simp only [List.length_map, List.length_take, Int.toNat_natCast, List.length_map, List.length_append, List.length_cons, List.length_nil, List.length_set, List.length_take]; omega)))), ⟨⟨rfl, rfl⟩, ⟨rfl, trivial⟩, ⟨box2Eq (by rw [fixB_next (by omega), if_pos (by assumption)]), rowEq (by rw [fixT_next (by omega), if_neg (by assumption), List.append_nil]), trivial⟩, ⟨rfl, rfl⟩, ⟨rfl, rfl⟩⟩, (by first | exact (by first | omega | (simp only [List.length_map, List.length_take, Int.toNat_natCast, List.length_map, List.length_append, List.length_cons, List.length_nil, List.length_set, List.length_take]; omega)) | (dsimp only; exact (by first | omega | (simp only [List.length_map, List.length_take, Int.toNat_natCast, List.length_map, List.length_append, List.length_cons, List.length_nil, List.length_set, List.length_take]; omega))))⟩
        ·
          have h4r := h4
          try simp only [Bool.not_eq_true', Bool.not_eq_false', Bool.not_not, bne_iff_ne, bne_eq_false_iff_eq, beq_eq_false_iff_ne, beq_iff_eq, ne_eq, decide_eq_true_eq, decide_eq_false_iff_not, Classical.not_not, List.length_map, List.length_take, Int.toNat_natCast, List.length_map, List.length_append, List.length_cons, List.length_nil, List.length_set, List.length_take] at h4
          refine a_skip ?_
          refine a_region (by kernel_rfl) ?_
          refine op_v' (j_add rfl rfl (by first | omega | (simp only [List.length_map, List.length_take, Int.toNat_natCast, List.length_map, List.length_append, List.length_cons, List.length_nil, List.length_set, List.length_take]; omega)) (by first | omega | (simp only [List.length_map, List.length_take, Int.toNat_natCast, List.length_map, List.length_append, List.length_cons, List.length_nil, List.length_set, List.length_take]; omega))) ?_
          refine op_v' (j_move (evo rfl)) ?_
          refine op_nil ?_
          exact ⟨(j + 1, vj), (by first | exact (by first | omega | (simp only [List.length_map, List.length_take, Int.toNat_natCast, List.length_map, List.length_append, List.length_cons, List.length_nil, List.length_set, List.length_take]; omega)) | (dsimp only; exact (by first | omega | (simp only [List.length_map, List.length_take, Int.toNat_natCast, List.length_map, List.length_append, List.length_cons, List.length_nil, List.length_set, List.length_take]; omega)))), ⟨⟨rfl, rfl⟩, ⟨rfl, trivial⟩, ⟨box2Eq (by rw [fixB_next (by omega), if_neg (by assumption)]), rowEq (by rw [fixT_next (by omega), if_neg (by assumption), List.append_nil]), trivial⟩, ⟨rfl, rfl⟩, ⟨rfl, rfl⟩⟩, (by first | exact (by first | omega | (simp only [List.length_map, List.length_take, Int.toNat_natCast, List.length_map, List.length_append, List.length_cons, List.length_nil, List.length_set, List.length_take]; omega)) | (dsimp only; exact (by first | omega | (simp only [List.length_map, List.length_take, Int.toNat_natCast, List.length_map, List.length_append, List.length_cons, List.length_nil, List.length_set, List.length_take]; omega))))⟩
    ·
      have h2r := h2
      try simp only [Bool.not_eq_true', Bool.not_eq_false', Bool.not_not, bne_iff_ne, bne_eq_false_iff_eq, beq_eq_false_iff_ne, beq_iff_eq, ne_eq, decide_eq_true_eq, decide_eq_false_iff_not, Classical.not_not, List.length_map, List.length_take, Int.toNat_natCast, List.length_map, List.length_append, List.length_cons, List.length_nil, List.length_set, List.length_take] at h2
      refine a_exit ?_
      refine a_region (by kernel_rfl) ?_
      refine op_v' (j_move (evo rfl)) ?_
      refine op_v' (j_loada_box (ys := [.own 1008 vj, .p _]) agg99 rfl rfl rfl (Nat.le_of_ble_eq_true rfl)) ?_
      refine op_n1' (fun ver => j_buildSlice_deep (x := .tmp 50) (t := (.mk 99 2 [(0, (.mk 146 2 []))])) slt37 elt99 rfl rfl rfl (by decide) (by decide) rfl rfl rfl (eat_own rfl rfl rfl (eat_leaf rfl rfl rfl eat_end)) rfl rfl) fun v51x7 => ?_
      refine op_n1' (fun ver => j_append_deep (by decide) slt37 elt99 rfl rfl rfl rfl rfl rfl rfl rfl (Nat.le_of_ble_eq_true rfl) (by rw [maxLen_eq]; first | omega | (simp only [List.length_map, List.length_take, Int.toNat_natCast, List.length_map, List.length_append, List.length_cons, List.length_nil, List.length_set, List.length_take]; omega)) (by first | omega | (simp only [List.length_map, List.length_take, Int.toNat_natCast, List.length_map, List.length_append, List.length_cons, List.length_nil, List.length_set, List.length_take]; omega))) fun v5x8 => ?_
      refine op_v' (j_assign (evo rfl)) ?_
      refine op_nil ?_
      refine a_region (by kernel_rfl) ?_
      refine op_v' (j_add rfl rfl (by first | omega | (simp only [List.length_map, List.length_take, Int.toNat_natCast, List.length_map, List.length_append, List.length_cons, List.length_nil, List.length_set, List.length_take]; omega)) (by first | omega | (simp only [List.length_map, List.length_take, Int.toNat_natCast, List.length_map, List.length_append, List.length_cons, List.length_nil, List.length_set, List.length_take]; omega))) ?_
      refine op_v' (j_move (evo rfl)) ?_
      refine op_nil ?_
      exact ⟨(k + 1, v5x8), (by first | exact (by first | omega | (simp only [List.length_map, List.length_take, Int.toNat_natCast, List.length_map, List.length_append, List.length_cons, List.length_nil, List.length_set, List.length_take]; omega)) | (dsimp only; exact (by first | omega | (simp only [List.length_map, List.length_take, Int.toNat_natCast, List.length_map, List.length_append, List.length_cons, List.length_nil, List.length_set, List.length_take]; omega)))), ⟨⟨rfl, rfl⟩, ⟨rfl, rfl, trivial⟩, ⟨deepEq (by rw [take_succD (d := default) (by omega), List.map_append, List.map_append, show j = (l.getD k default).1.length by omega, List.take_length]; rfl), trivial⟩, ⟨rfl, rfl⟩, ⟨rfl, rfl⟩⟩, (by first | exact (by first | omega | (simp only [List.length_map, List.length_take, Int.toNat_natCast, List.length_map, List.length_append, List.length_cons, List.length_nil, List.length_set, List.length_take]; omega)) | (dsimp only; exact (by first | omega | (simp only [List.length_map, List.length_take, Int.toNat_natCast, List.length_map, List.length_append, List.length_cons, List.length_nil, List.length_set, List.length_take]; omega))))⟩
  ·
    have h1r := h1
    try simp only [Bool.not_eq_true', Bool.not_eq_false', Bool.not_not, bne_iff_ne, bne_eq_false_iff_eq, beq_eq_false_iff_ne, beq_iff_eq, ne_eq, decide_eq_true_eq, decide_eq_false_iff_not, Classical.not_not, List.length_map, List.length_take, Int.toNat_natCast, List.length_map, List.length_append, List.length_cons, List.length_nil, List.length_set, List.length_take] at h1
    refine a_exit ?_
    refine a_seq ?_
    refine a_region (by kernel_rfl) ?_
    refine op_v' (j_move (evo rfl)) ?_
    refine op_v' (j_assign (evo rfl)) ?_
    refine op_nil ?_
    refine a_ret ?_
    exact ⟨[.own 5 v], .own 0 0, [], [.deep (.mk 99 2 [(0, (.mk 146 2 []))]) _ none], [(5, v)], ⟨rfl, trivial⟩, rfl, rfl, ⟨⟨rfl, rfl⟩, trivial⟩, rfl, rfl, ⟨rfl, rfl, by rw [List.take_of_length_le (by omega)]⟩⟩


theorem f_ownAllD (l : List Con) (hln : l.length ≤ 1000) (ho : ∀ c ∈ l, c.1.length ≤ 1048576) : Fn Try.prog 90 [.sl (l.map dC)] [] (fun rr ii nn => rr = .own 0 0 ∧ ii = [] ∧ nn = [.deep (.mk 99 2 [(0, .mk 146 2 [])]) (l.map dC) none]) := by
  refine fn_of Try.func90 rfl (Nat.le_of_ble_eq_true rfl) fun w X g => ?_
  show AWp _ _ _ ⟨[(0, .sl (l.map dC))], []⟩
  refine a_seq ?_
  refine a_region (by kernel_rfl) ?_
  refine op_v' (j_assign (evo rfl)) ?_
  refine op_nil ?_
  refine a_seq ?_
  refine a_region (by kernel_rfl) ?_
  refine op_v' (j_assign (evo rfl)) ?_
  refine op_nil ?_
  refine a_adopt' 3 3 99 2 rfl fun v3 => ?_
  refine a_todeep 3 0 (.mk 99 2 [(0, (.mk 146 2 []))]) (zs := []) (zs' := []) rfl rfl rfl rfl eat_end rfl ?_
  refine a_seq ?_
  refine a_seq ?_
  refine a_region (by kernel_rfl) ?_
  refine op_v' (j_move (evo rfl)) ?_
  refine op_v' (j_len_map Try.underlying37 rfl) ?_
  refine op_v' (j_move (evo rfl)) ?_
  refine op_nil ?_
  refine a_block ?_
  refine a_loopF' (ι := Nat × Nat) (fun x => x.1 ≤ l.length) (fun x r => (8, .p (.int .i64 ((x.1 : Nat)))) :: (3, .own 3 x.2) :: r) (fun x r => (3, some (x.2, .deep (.mk 99 2 [(0, .mk 146 2 [])]) (((l.take x.1).map dC)) none)) :: r) (fun x => l.length - x.1) (fun _ _ => rfl) (fun _ _ => rfl) (0, v3) (by first | exact (Nat.zero_le _) | (dsimp only; exact (Nat.zero_le _))) ⟨⟨rfl, rfl⟩, ⟨rfl, rfl, trivial⟩, ⟨rfl, trivial⟩, ⟨rfl, rfl⟩, ⟨rfl, rfl⟩⟩ ?_
  rintro ⟨k, v⟩ hpre; dsimp only at hpre ⊢
  refine a_seq ?_
  refine a_region (by kernel_rfl) ?_
  refine op_v' (j_lt rfl rfl) ?_
  refine op_nil ?_
  refine a_seq ?_
  refine a_cond rfl (fun h1 => ?_) (fun h1 => ?_)
  ·
    have h1r := h1
    try simp only [Bool.not_eq_true', Bool.not_eq_false', Bool.not_not, bne_iff_ne, bne_eq_false_iff_eq, beq_eq_false_iff_ne, beq_iff_eq, ne_eq, decide_eq_true_eq, decide_eq_false_iff_not, Classical.not_not, List.length_map, List.length_take, Int.toNat_natCast, List.length_map, List.length_append, List.length_cons, List.length_nil, List.length_set, List.length_take, gone_len] at h1
    refine a_skip ?_
    refine a_seq ?_
    refine a_block ?_
    refine a_seq ?_
    refine a_region (by kernel_rfl) ?_
    refine op_v' (j_elemN slt37 rfl rfl rfl (at_map (by first | omega | (simp only [List.length_map, List.length_take, Int.toNat_natCast, List.length_map, List.length_append, List.length_cons, List.length_nil, List.length_set, List.length_take, gone_len]; omega))) rfl) ?_
    refine op_v' (j_loada_el (ys := [.sl _, .p _]) agg99 rfl (at_map (by first | omega | (simp only [List.length_map, List.length_take, Int.toNat_natCast, List.length_map, List.length_append, List.length_cons, List.length_nil, List.length_set, List.length_take, gone_len]; omega))) rfl (Nat.le_refl _)) ?_
    refine op_n' (fun ver => j_alloc elt99 rfl) fun v5x1 => ?_
    refine op_s' (j_storea_box0 agg99 rfl rfl rfl rfl rfl rfl) ?_
    refine op_nil ?_
    refine a_region (by kernel_rfl) ?_
    refine op_v' (j_move (evo rfl)) ?_
    refine op_v' (j_loada_box (ys := [.sl _, .p _]) agg99 rfl rfl rfl (Nat.le_of_ble_eq_true rfl)) ?_
    refine op_n1' (fun ver => j_call1 (v := .agg [.own 14 ver, .p _]) (hp1 := [(14, some (ver, .row 146 2 _))]) [] false [] ent161 (f_own (l.getD k default) (ho _ (getD_mem (by omega)))) ⟨.inl ⟨rfl, rfl⟩, trivial⟩ trivial rfl rfl rfl (fun h => by cases h) rfl (List.all_eq_true.1 rfl) (.inl rfl) rfl rfl) fun v14x2 => ?_
    refine op_n1' (fun ver => j_buildSlice_deep (x := .tmp 14) (t := (.mk 99 2 [(0, (.mk 146 2 []))])) slt37 elt99 rfl rfl rfl (by decide) (by decide) rfl rfl rfl (eat_own rfl rfl rfl (eat_leaf rfl rfl rfl eat_end)) rfl rfl) fun v15x3 => ?_
    refine op_n1' (fun ver => j_append_deep (by decide) slt37 elt99 rfl rfl rfl rfl rfl rfl rfl rfl (Nat.le_of_ble_eq_true rfl) (by rw [maxLen_eq]; first | omega | (simp only [List.length_map, List.length_take, Int.toNat_natCast, List.length_map, List.length_append, List.length_cons, List.length_nil, List.length_set, List.length_take, gone_len]; omega)) (by first | omega | (simp only [List.length_map, List.length_take, Int.toNat_natCast, List.length_map, List.length_append, List.length_cons, List.length_nil, List.length_set, List.length_take, gone_len]; omega))) fun v3x4 => ?_
    refine op_v' (j_assign (evo rfl)) ?_
    refine op_nil ?_
    refine a_region (by kernel_rfl) ?_
    refine op_v' (j_add rfl rfl (by first | omega | (simp only [List.length_map, List.length_take, Int.toNat_natCast, List.length_map, List.length_append, List.length_cons, List.length_nil, List.length_set, List.length_take, gone_len]; omega)) (by first | omega | (simp only [List.length_map, List.length_take, Int.toNat_natCast, List.length_map, List.length_append, List.length_cons, List.length_nil, List.length_set, List.length_take, gone_len]; omega))) ?_
    refine op_v' (j_move (evo rfl)) ?_
    refine op_nil ?_
    exact ⟨(k + 1, v3x4), (by first | exact (by first | omega | (simp only [List.length_map, List.length_take, Int.toNat_natCast, List.length_map, List.length_append, List.length_cons, List.length_nil, List.length_set, List.length_take, gone_len]; omega)) | (dsimp only; exact (by first | omega | (simp only [List.length_map, List.length_take, Int.toNat_natCast, List.length_map, List.length_append, List.length_cons, List.length_nil, List.length_set, List.length_take, gone_len]; omega)))), ⟨⟨rfl, rfl⟩, ⟨rfl, rfl, trivial⟩, ⟨deepEq (by rw [take_succD (d := default) (by omega), List.map_append]; rfl), trivial⟩, ⟨rfl, rfl⟩, ⟨rfl, rfl⟩⟩, (by first | exact (by first | omega | (simp only [List.length_map, List.length_take, Int.toNat_natCast, List.length_map, List.length_append, List.length_cons, List.length_nil, List.length_set, List.length_take, gone_len]; omega)) | (dsimp only; exact (by first | omega | (simp only [List.length_map, List.length_take, Int.toNat_natCast, List.length_map, List.length_append, List.length_cons, List.length_nil, List.length_set, List.length_take, gone_len]; omega))))⟩
  ·
    have h1r := h1
    try simp only [Bool.not_eq_true', Bool.not_eq_false', Bool.not_not, bne_iff_ne, bne_eq_false_iff_eq, beq_eq_false_iff_ne, beq_iff_eq, ne_eq, decide_eq_true_eq, decide_eq_false_iff_not, Classical.not_not, List.length_map, List.length_take, Int.toNat_natCast, List.length_map, List.length_append, List.length_cons, List.length_nil, List.length_set, List.length_take, gone_len] at h1
    refine a_exit ?_
    refine a_seq ?_
    refine a_region (by kernel_rfl) ?_
    refine op_v' (j_move (evo rfl)) ?_
    refine op_v' (j_assign (evo rfl)) ?_
    refine op_nil ?_
    refine a_ret ?_
    exact ⟨[.own 3 v], .own 0 0, [], [.deep (.mk 99 2 [(0, (.mk 146 2 []))]) _ none], [(3, v)], ⟨rfl, trivial⟩, rfl, rfl, ⟨⟨rfl, rfl⟩, trivial⟩, rfl, rfl, ⟨rfl, rfl, by rw [List.take_of_length_le (by omega)]⟩⟩


end Go.Ab

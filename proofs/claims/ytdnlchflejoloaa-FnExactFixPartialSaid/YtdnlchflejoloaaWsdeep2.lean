/- Walks. -/
import Derived.Test.YtdnlchflejoloaaBase
import Derived.Test.YtdnlchflejoloaaDeep2
import Derived.Test.YtdnlchflejoloaaWsdeep
import Derived.Test.YtdnlchflejoloaaSem
import Derived.Test.YtdnlchflejoloaaWsfix
import Derived.Test.YtdnlchflejoloaaWsfun
import Derived.Test.YtdnlchflejoloaaProb
import Derived.Test.YtdnlchflejoloaaWsprob
import Derived.Test.YtdnlchflejoloaaEnum
import Derived.Test.YtdnlchflejoloaaWscon2
import Derived.Test.YtdnlchflejoloaaLaws1
import Derived.Test.YtdnlchflejoloaaTabs2
import Derived.Test.YtdnlchflejoloaaTabs
import Derived.Test.YtdnlchflejoloaaWsexcl
import Derived.Test.YtdnlchflejoloaaVals
import Derived.Test.YtdnlchflejoloaaCons
import Derived.Test.YtdnlchflejoloaaCov
import Derived.Test.YtdnlchflejoloaaClau
import Derived.Test.YtdnlchflejoloaaWslaws5
namespace Go.Ab
open Go.Proofs
set_option maxRecDepth 100000
set_option maxHeartbeats 8000000
set_option linter.unusedSimpArgs false
set_option linter.unusedVariables false
theorem f_fixedD (l : List Con) (p : List Int) (hl : l.all cOk = true) (hln : l.length ≤ 1000) (hp : paOk p = true) : Fn Try.prog 93 [.sl (l.map dC), .sl (p.map dI)] [] (fun rr ii nn => rr = .own 0 0 ∧ ii = [] ∧ nn = [.deep (.mk 25 2 [(0, .mk 99 2 [])]) ((l.map (fixC p)).map dC) none]) := by
  refine fn_of Try.func93 rfl (Nat.le_of_ble_eq_true rfl) fun w X g => ?_
  show AWp _ _ _ ⟨[(0, .sl (l.map dC)), (1, .sl (p.map dI))], []⟩
  refine a_seq ?_
  refine a_region (by kernel_rfl) ?_
  refine op_v' (j_assign (evo rfl)) ?_
  refine op_nil ?_
  refine a_seq ?_
  refine a_region (by kernel_rfl) ?_
  refine op_v' (j_assign (evo rfl)) ?_
  refine op_nil ?_
  refine a_adopt' 5 5 25 2 rfl fun v5 => ?_
  refine a_todeep 5 0 (.mk 25 2 [(0, (.mk 99 2 []))]) (zs := []) (zs' := []) rfl rfl rfl rfl eat_end rfl ?_
  refine a_seq ?_
  refine a_seq ?_
  refine a_region (by kernel_rfl) ?_
  refine op_v' (j_move (evo rfl)) ?_
  refine op_v' (j_len_map Try.underlying27 rfl) ?_
  refine op_v' (j_move (evo rfl)) ?_
  refine op_nil ?_
  refine a_block ?_
  refine a_loopF' (ι := Nat × Nat) (fun x => x.1 ≤ l.length) (fun x r => (13, .p (.int .i64 ((x.1 : Nat)))) :: (5, .own 5 x.2) :: r) (fun x r => (5, some (x.2, .deep (.mk 25 2 [(0, .mk 99 2 [])]) ((((l.take x.1).map (fixC p)).map dC)) none)) :: r) (fun x => l.length - x.1) (fun _ _ => rfl) (fun _ _ => rfl) (0, v5) (by first | exact (Nat.zero_le _) | (dsimp only; exact (Nat.zero_le _))) ⟨⟨rfl, rfl⟩, ⟨rfl, rfl, trivial⟩, ⟨rfl, trivial⟩, ⟨rfl, rfl⟩, ⟨rfl, rfl⟩⟩ ?_
  rintro ⟨k, v⟩ hpre; dsimp only at hpre ⊢
  refine a_seq ?_
  refine a_region (by kernel_rfl) ?_
  refine op_v' (j_lt rfl rfl) ?_
  refine op_nil ?_
  refine a_seq ?_
  refine a_cond rfl (fun h1 => ?_) (fun h1 => ?_)
  ·
    have h1r := h1
    try simp only [Bool.not_eq_true', Bool.not_eq_false', Bool.not_not, bne_iff_ne, bne_eq_false_iff_eq, beq_eq_false_iff_ne, beq_iff_eq, ne_eq, decide_eq_true_eq, decide_eq_false_iff_not, Classical.not_not, List.length_map, List.length_take, Int.toNat_natCast, List.length_map, List.length_append, List.length_cons, List.length_nil, List.length_set, List.length_take] at h1
    refine a_skip ?_
    refine a_seq ?_
    refine a_block ?_
    refine a_seq ?_
    have hck := all_at (d := default) hl (k := k) (by first | omega | (simp only [List.length_map, List.length_take, Int.toNat_natCast, List.length_map, List.length_append, List.length_cons, List.length_nil, List.length_set, List.length_take]; omega))
    have hlc := cOk_len hck
    have hbc := cOk_bound hck
    refine a_region (by kernel_rfl) ?_
    refine op_v' (j_elemN slt27 rfl rfl rfl (at_map (by first | omega | (simp only [List.length_map, List.length_take, Int.toNat_natCast, List.length_map, List.length_append, List.length_cons, List.length_nil, List.length_set, List.length_take]; omega))) rfl) ?_
    refine op_v' (j_loada_el (ys := [.sl _, .p _]) agg25 rfl (at_map (by first | omega | (simp only [List.length_map, List.length_take, Int.toNat_natCast, List.length_map, List.length_append, List.length_cons, List.length_nil, List.length_set, List.length_take]; omega))) rfl (Nat.le_refl _)) ?_
    refine op_n' (fun ver => j_alloc elt25 rfl) fun v7x1 => ?_
    refine op_s' (j_storea_box0 agg25 rfl rfl rfl rfl rfl rfl) ?_
    refine op_nil ?_
    refine a_seq ?_
    refine a_region (by kernel_rfl) ?_
    refine op_v' (j_fldp fld25f1 rfl rfl) ?_
    refine op_v' (j_load_box leaf3 rfl rfl rfl) ?_
    refine op_v' (j_build (parts := [(1, .tmp 18)]) str25 elt25 rfl rfl) ?_
    refine op_n' (fun ver => j_alloc elt25 rfl) fun v8x2 => ?_
    refine op_s' (j_storea_box0 agg25 rfl rfl rfl rfl rfl rfl) ?_
    refine op_nil ?_
    refine a_adopt_box' 0 1008 99 2 (by decide) (id := 8) rfl rfl fun v1008x3 => ?_
    refine a_seq ?_
    refine a_seq ?_
    refine a_region (by kernel_rfl) ?_
    refine op_v' (j_fldp fld25f0 rfl rfl) ?_
    refine op_v' (j_load_box leaf23 rfl rfl rfl) ?_
    refine op_v' (j_len_map Try.underlying23 rfl) ?_
    refine op_v' (j_move (evo rfl)) ?_
    refine op_nil ?_
    refine a_block ?_
    refine a_loopF' (ι := Nat × Nat) (fun x => x.1 ≤ (l.getD k default).1.length) (fun x r => (23, .p (.int .i64 ((x.1 : Nat)))) :: r) (fun x r => (8, some (v8x2, .box 25 [.own 1008 x.2, .p (.int .i64 (fixB p ((l.getD k default).1.take x.1) (l.getD k default).2))])) :: (1008, some (x.2, .row 99 2 ((fixT p ((l.getD k default).1.take x.1)).map dT))) :: r) (fun x => (l.getD k default).1.length - x.1) (fun _ _ => rfl) (fun _ _ => rfl) (0, v1008x3) (by first | exact (Nat.zero_le _) | (dsimp only; exact (Nat.zero_le _))) ⟨⟨rfl, rfl⟩, ⟨rfl, trivial⟩, ⟨rfl, rfl, trivial⟩, ⟨rfl, rfl⟩, ⟨rfl, rfl⟩⟩ ?_
    rintro ⟨j, vj⟩ hpj; dsimp only at hpj ⊢
    refine a_seq ?_
    refine a_region (by kernel_rfl) ?_
    refine op_v' (j_lt rfl rfl) ?_
    refine op_nil ?_
    refine a_seq ?_
    refine a_cond rfl (fun h2 => ?_) (fun h2 => ?_)
    ·
      have h2r := h2
      try simp only [Bool.not_eq_true', Bool.not_eq_false', Bool.not_not, bne_iff_ne, bne_eq_false_iff_eq, beq_eq_false_iff_ne, beq_iff_eq, ne_eq, decide_eq_true_eq, decide_eq_false_iff_not, Classical.not_not, List.length_map, List.length_take, Int.toNat_natCast, List.length_map, List.length_append, List.length_cons, List.length_nil, List.length_set, List.length_take] at h2
      refine a_skip ?_
      refine a_seq ?_
      refine a_block ?_
      refine a_seq ?_
      refine a_region (by kernel_rfl) ?_
      refine op_v' (j_elemN slt23 rfl rfl rfl (at_map (by first | omega | (simp only [List.length_map, List.length_take, Int.toNat_natCast, List.length_map, List.length_append, List.length_cons, List.length_nil, List.length_set, List.length_take]; omega))) rfl) ?_
      refine op_v' (j_loada_el (ys := [.p _, .p _]) agg99 rfl (at_map (by first | omega | (simp only [List.length_map, List.length_take, Int.toNat_natCast, List.length_map, List.length_append, List.length_cons, List.length_nil, List.length_set, List.length_take]; omega))) rfl (Nat.le_refl _)) ?_
      refine op_n' (fun ver => j_alloc elt99 rfl) fun v10x4 => ?_
      refine op_s' (j_storea_box0 agg99 rfl rfl rfl rfl rfl rfl) ?_
      refine op_nil ?_
      refine a_seq ?_
      have htm := cOk_terms hck (k := j) (by omega)
      have hft := fixT_take (p := p) (ts := (l.getD k default).1) (k := j)
      have hfb := fixB_rng (p := p) (b := (l.getD k default).2) (ts := (l.getD k default).1.take j) (fun t ht => cOk_coefs hck t (List.mem_of_mem_take ht)) hbc.1
      refine a_region (by kernel_rfl) ?_
      refine op_v' (j_fldp fld99f1 rfl rfl) ?_
      refine op_v' (j_load_box leaf3 rfl rfl rfl) ?_
      refine op_v' (j_move (evo rfl)) ?_
      refine op_v0' (j_call0 (v := .p _) (hp1 := []) [] false [] ent152 (f_under ((l.getD k default).1.getD j default).2 p htm.1 hp) ⟨.inl ⟨rfl, rfl⟩, .inl ⟨rfl, rfl⟩, trivial⟩ trivial rfl rfl (fun h => by cases h) rfl (fun _ h => by cases h) (.inl rfl) rfl rfl) ?_
      refine op_nil ?_
      refine a_block ?_
      refine a_seq ?_
      refine a_region (by kernel_rfl) ?_
      refine op_v' (j_eq rfl rfl) ?_
      refine op_v' (j_assign (evo rfl)) ?_
      refine op_nil ?_
      refine a_cond rfl (fun h3 => ?_) (fun h3 => ?_)
      ·
        have h3r := h3
        try simp only [Bool.not_eq_true', Bool.not_eq_false', Bool.not_not, bne_iff_ne, bne_eq_false_iff_eq, beq_eq_false_iff_ne, beq_iff_eq, ne_eq, decide_eq_true_eq, decide_eq_false_iff_not, Classical.not_not, List.length_map, List.length_take, Int.toNat_natCast, List.length_map, List.length_append, List.length_cons, List.length_nil, List.length_set, List.length_take] at h3
        refine a_region (by kernel_rfl) ?_
        refine op_v' (j_fldp fld25f0 rfl rfl) ?_
        refine op_v' (j_load_box leaf23 rfl rfl rfl) ?_
        refine op_v' (j_loada_box (ys := [.p _, .p _]) agg99 rfl rfl rfl (Nat.le_of_ble_eq_true rfl)) ?_
        refine op_n' (fun ver => j_buildSlice (parts := [(0, .tmp 35)]) (es := [[_, _]]) slt23 elt99 rfl rfl (by decide) (by decide) rfl rfl (by simp) rfl) fun v36x5 => ?_
        refine op_n' (fun ver => j_append_own slt23 elt99 rfl rfl rfl rfl rfl rfl (by rw [maxLen_eq]; first | omega | (simp only [List.length_map, List.length_take, Int.toNat_natCast, List.length_map, List.length_append, List.length_cons, List.length_nil, List.length_set, List.length_take]; omega)) (by first | omega | (simp only [List.length_map, List.length_take, Int.toNat_natCast, List.length_map, List.length_append, List.length_cons, List.length_nil, List.length_set, List.length_take]; omega))) fun v1008x6 => ?_
        refine op_v' (j_fldp fld25f0 rfl rfl) ?_
        refine op_s' (j_store_box leaf23 rfl rfl (Nat.le_of_ble_eq_true rfl) (evo rfl) rfl) ?_
        refine op_nil ?_
        refine a_region (by kernel_rfl) ?_
        refine op_v' (j_add rfl rfl (by first | omega | (simp only [List.length_map, List.length_take, Int.toNat_natCast, List.length_map, List.length_append, List.length_cons, List.length_nil, List.length_set, List.length_take]; omega)) (by first | omega | (simp only [List.length_map, List.length_take, Int.toNat_natCast, List.length_map, List.length_append, List.length_cons, List.length_nil, List.length_set, List.length_take]; omega))) ?_
        refine op_v' (j_move (evo rfl)) ?_
        refine op_nil ?_
        exact ⟨(j + 1, v1008x6), (by first | exact (by first | omega | (simp only [List.length_map, List.length_take, Int.toNat_natCast, List.length_map, List.length_append, List.length_cons, List.length_nil, List.length_set, List.length_take]; omega)) | (dsimp only; exact (by first | omega | (simp only [List.length_map, List.length_take, Int.toNat_natCast, List.length_map, List.length_append, List.length_cons, List.length_nil, List.length_set, List.length_take]; omega)))), ⟨⟨rfl, rfl⟩, ⟨rfl, trivial⟩, ⟨box2Eq (by rw [fixB_next (by omega), if_neg (by omega)]), rowEq (by rw [fixT_next (by omega), if_pos (by assumption), List.map_append]; rfl), trivial⟩, ⟨rfl, rfl⟩, ⟨rfl, rfl⟩⟩, (by first | exact (by first | omega | (simp only [List.length_map, List.length_take, Int.toNat_natCast, List.length_map, List.length_append, List.length_cons, List.length_nil, List.length_set, List.length_take]; omega)) | (dsimp only; exact (by first | omega | (simp only [List.length_map, List.length_take, Int.toNat_natCast, List.length_map, List.length_append, List.length_cons, List.length_nil, List.length_set, List.length_take]; omega))))⟩
      ·
        have h3r := h3
        try simp only [Bool.not_eq_true', Bool.not_eq_false', Bool.not_not, bne_iff_ne, bne_eq_false_iff_eq, beq_eq_false_iff_ne, beq_iff_eq, ne_eq, decide_eq_true_eq, decide_eq_false_iff_not, Classical.not_not, List.length_map, List.length_take, Int.toNat_natCast, List.length_map, List.length_append, List.length_cons, List.length_nil, List.length_set, List.length_take] at h3
        refine a_seq ?_
        refine a_region (by kernel_rfl) ?_
        refine op_v' (j_eq rfl rfl) ?_
        refine op_v' (j_assign (evo rfl)) ?_
        refine op_nil ?_
        refine a_cond rfl (fun h4 => ?_) (fun h4 => ?_)
        ·
          have h4r := h4
          try simp only [Bool.not_eq_true', Bool.not_eq_false', Bool.not_not, bne_iff_ne, bne_eq_false_iff_eq, beq_eq_false_iff_ne, beq_iff_eq, ne_eq, decide_eq_true_eq, decide_eq_false_iff_not, Classical.not_not, List.length_map, List.length_take, Int.toNat_natCast, List.length_map, List.length_append, List.length_cons, List.length_nil, List.length_set, List.length_take] at h4
          refine a_region (by kernel_rfl) ?_
          refine op_v' (j_fldp fld25f1 rfl rfl) ?_
          refine op_v' (j_load_box leaf3 rfl rfl rfl) ?_
          refine op_v' (j_fldp fld99f0 rfl rfl) ?_
          refine op_v' (j_load_box leaf3 rfl rfl rfl) ?_
          refine op_v' (j_sub rfl rfl (by first | omega | (simp only [List.length_map, List.length_take, Int.toNat_natCast, List.length_map, List.length_append, List.length_cons, List.length_nil, List.length_set, List.length_take]; omega)) (by first | omega | (simp only [List.length_map, List.length_take, Int.toNat_natCast, List.length_map, List.length_append, List.length_cons, List.length_nil, List.length_set, List.length_take]; omega))) ?_
          refine op_v' (j_max rfl rfl) ?_
          refine op_v' (j_fldp fld25f1 rfl rfl) ?_
          refine op_s' (j_store_box leaf3 rfl rfl (Nat.le_of_ble_eq_true rfl) (evo rfl) rfl) ?_
          refine op_nil ?_
          refine a_region (by kernel_rfl) ?_
          refine op_v' (j_add rfl rfl (by first | omega | (simp only [List.length_map, List.length_take, Int.toNat_natCast, List.length_map, List.length_append, List.length_cons, List.length_nil, List.length_set, List.length_take]; omega)) (by first | omega | (simp only [List.length_map, List.length_take, Int.toNat_natCast, List.length_map, List.length_append, List.length_cons, List.length_nil, List.length_set, List.length_take]; omega))) ?_
          refine op_v' (j_move (evo rfl)) ?_
          refine op_nil ?_
          exact ⟨(j + 1, vj), (by first | exact (by first | omega | (simp only [List.length_map, List.length_take, Int.toNat_natCast, List.length_map, List.length_append, List.length_cons, List.length_nil, List.length_set, List.length_take]; omega)) | (dsimp only; exact (by first | omega | (simp only [List.length_map, List.length_take, Int.toNat_natCast, List.length_map, List.length_append, List.length_cons, List.length_nil, List.length_set, List.length_take]; omega)))), ⟨⟨rfl, rfl⟩, ⟨rfl, trivial⟩, ⟨box2Eq (by rw [fixB_next (by omega), if_pos (by assumption)]), rowEq (by rw [fixT_next (by omega), if_neg (by assumption), List.append_nil]), trivial⟩, ⟨rfl, rfl⟩, ⟨rfl, rfl⟩⟩, (by first | exact (by first | omega | (simp only [List.length_map, List.length_take, Int.toNat_natCast, List.length_map, List.length_append, List.length_cons, List.length_nil, List.length_set, List.length_take]; omega)) | (dsimp only; exact (by first | omega | (simp only [List.length_map, List.length_take, Int.toNat_natCast, List.length_map, List.length_append, List.length_cons, List.length_nil, List.length_set, List.length_take]; omega))))⟩
        ·
          have h4r := h4
          try simp only [Bool.not_eq_true', Bool.not_eq_false', Bool.not_not, bne_iff_ne, bne_eq_false_iff_eq, beq_eq_false_iff_ne, beq_iff_eq, ne_eq, decide_eq_true_eq, decide_eq_false_iff_not, Classical.not_not, List.length_map, List.length_take, Int.toNat_natCast, List.length_map, List.length_append, List.length_cons, List.length_nil, List.length_set, List.length_take] at h4
          refine a_skip ?_
          refine a_region (by kernel_rfl) ?_
          refine op_v' (j_add rfl rfl (by first | omega | (simp only [List.length_map, List.length_take, Int.toNat_natCast, List.length_map, List.length_append, List.length_cons, List.length_nil, List.length_set, List.length_take]; omega)) (by first | omega | (simp only [List.length_map, List.length_take, Int.toNat_natCast, List.length_map, List.length_append, List.length_cons, List.length_nil, List.length_set, List.length_take]; omega))) ?_
          refine op_v' (j_move (evo rfl)) ?_
          refine op_nil ?_
          exact ⟨(j + 1, vj), (by first | exact (by first | omega | (simp only [List.length_map, List.length_take, Int.toNat_natCast, List.length_map, List.length_append, List.length_cons, List.length_nil, List.length_set, List.length_take]; omega)) | (dsimp only; exact (by first | omega | (simp only [List.length_map, List.length_take, Int.toNat_natCast, List.length_map, List.length_append, List.length_cons, List.length_nil, List.length_set, List.length_take]; omega)))), ⟨⟨rfl, rfl⟩, ⟨rfl, trivial⟩, ⟨box2Eq (by rw [fixB_next (by omega), if_neg (by assumption)]), rowEq (by rw [fixT_next (by omega), if_neg (by assumption), List.append_nil]), trivial⟩, ⟨rfl, rfl⟩, ⟨rfl, rfl⟩⟩, (by first | exact (by first | omega | (simp only [List.length_map, List.length_take, Int.toNat_natCast, List.length_map, List.length_append, List.length_cons, List.length_nil, List.length_set, List.length_take]; omega)) | (dsimp only; exact (by first | omega | (simp only [List.length_map, List.length_take, Int.toNat_natCast, List.length_map, List.length_append, List.length_cons, List.length_nil, List.length_set, List.length_take]; omega))))⟩
    ·
      have h2r := h2
      try simp only [Bool.not_eq_true', Bool.not_eq_false', Bool.not_not, bne_iff_ne, bne_eq_false_iff_eq, beq_eq_false_iff_ne, beq_iff_eq, ne_eq, decide_eq_true_eq, decide_eq_false_iff_not, Classical.not_not, List.length_map, List.length_take, Int.toNat_natCast, List.length_map, List.length_append, List.length_cons, List.length_nil, List.length_set, List.length_take] at h2
      refine a_exit ?_
      refine a_region (by kernel_rfl) ?_
      refine op_v' (j_move (evo rfl)) ?_
      refine op_v' (j_loada_box (ys := [.own 1008 vj, .p _]) agg25 rfl rfl rfl (Nat.le_of_ble_eq_true rfl)) ?_
      refine op_n1' (fun ver => j_buildSlice_deep (x := .tmp 50) (t := (.mk 25 2 [(0, (.mk 99 2 []))])) slt27 elt25 rfl rfl rfl (by decide) (by decide) rfl rfl rfl (eat_own rfl rfl rfl (eat_leaf rfl rfl rfl eat_end)) rfl rfl) fun v51x7 => ?_
      refine op_n1' (fun ver => j_append_deep (by decide) slt27 elt25 rfl rfl rfl rfl rfl rfl rfl rfl (Nat.le_of_ble_eq_true rfl) (by rw [maxLen_eq]; first | omega | (simp only [List.length_map, List.length_take, Int.toNat_natCast, List.length_map, List.length_append, List.length_cons, List.length_nil, List.length_set, List.length_take]; omega)) (by first | omega | (simp only [List.length_map, List.length_take, Int.toNat_natCast, List.length_map, List.length_append, List.length_cons, List.length_nil, List.length_set, List.length_take]; omega))) fun v5x8 => ?_
      refine op_v' (j_assign (evo rfl)) ?_
      refine op_nil ?_
      refine a_region (by kernel_rfl) ?_
      refine op_v' (j_add rfl rfl (by first | omega | (simp only [List.length_map, List.length_take, Int.toNat_natCast, List.length_map, List.length_append, List.length_cons, List.length_nil, List.length_set, List.length_take]; omega)) (by first | omega | (simp only [List.length_map, List.length_take, Int.toNat_natCast, List.length_map, List.length_append, List.length_cons, List.length_nil, List.length_set, List.length_take]; omega))) ?_
      refine op_v' (j_move (evo rfl)) ?_
      refine op_nil ?_
      exact ⟨(k + 1, v5x8), (by first | exact (by first | omega | (simp only [List.length_map, List.length_take, Int.toNat_natCast, List.length_map, List.length_append, List.length_cons, List.length_nil, List.length_set, List.length_take]; omega)) | (dsimp only; exact (by first | omega | (simp only [List.length_map, List.length_take, Int.toNat_natCast, List.length_map, List.length_append, List.length_cons, List.length_nil, List.length_set, List.length_take]; omega)))), ⟨⟨rfl, rfl⟩, ⟨rfl, rfl, trivial⟩, ⟨deepEq (by rw [take_succD (d := default) (by omega), List.map_append, List.map_append, show j = (l.getD k default).1.length by omega, List.take_length]; rfl), trivial⟩, ⟨rfl, rfl⟩, ⟨rfl, rfl⟩⟩, (by first | exact (by first | omega | (simp only [List.length_map, List.length_take, Int.toNat_natCast, List.length_map, List.length_append, List.length_cons, List.length_nil, List.length_set, List.length_take]; omega)) | (dsimp only; exact (by first | omega | (simp only [List.length_map, List.length_take, Int.toNat_natCast, List.length_map, List.length_append, List.length_cons, List.length_nil, List.length_set, List.length_take]; omega))))⟩
  ·
    have h1r := h1
    try simp only [Bool.not_eq_true', Bool.not_eq_false', Bool.not_not, bne_iff_ne, bne_eq_false_iff_eq, beq_eq_false_iff_ne, beq_iff_eq, ne_eq, decide_eq_true_eq, decide_eq_false_iff_not, Classical.not_not, List.length_map, List.length_take, Int.toNat_natCast, List.length_map, List.length_append, List.length_cons, List.length_nil, List.length_set, List.length_take] at h1
    refine a_exit ?_
    refine a_seq ?_
    refine a_region (by kernel_rfl) ?_
    refine op_v' (j_move (evo rfl)) ?_
    refine op_v' (j_assign (evo rfl)) ?_
    refine op_nil ?_
    refine a_ret ?_
    exact ⟨[.own 5 v], .own 0 0, [], [.deep (.mk 25 2 [(0, (.mk 99 2 []))]) _ none], [(5, v)], ⟨rfl, trivial⟩, rfl, rfl, ⟨⟨rfl, rfl⟩, trivial⟩, rfl, rfl, ⟨rfl, rfl, by rw [List.take_of_length_le (by omega)]⟩⟩


theorem f_fpImplD (l : List Con) (p : List Int) : Fn Try.prog 39 [.sl (l.map dC), .sl (p.map dI)] [] (fun rr ii nn => rr = .tup [.own 0 0, .p (.bool (fpOk l p))] ∧ ii = [] ∧ nn = [.deep (.mk 25 2 [(0, .mk 99 2 [])]) ((fpL l p).map dC) none]) := by
  refine fn_of Try.func39 rfl (Nat.le_of_ble_eq_true rfl) fun w X g => ?_
  show AWp _ _ _ ⟨[(0, .sl (l.map dC)), (1, .sl (p.map dI))], []⟩
  refine a_seq ?_
  refine a_region (by kernel_rfl) ?_
  refine op_v' (j_assign (evo rfl)) ?_
  refine op_v' (j_assign (evo rfl)) ?_
  refine op_nil ?_
  refine a_seq ?_
  refine a_seq ?_
  refine a_region (by kernel_rfl) ?_
  refine op_v' (j_move (evo rfl)) ?_
  refine op_v0' (j_call0 (v := .p _) (hp1 := []) [] false [] ent47 (f_pvImpl _) ⟨.inl ⟨rfl, rfl⟩, trivial⟩ trivial rfl rfl (fun h => by cases h) rfl (fun _ h => by cases h) (.inl rfl) rfl rfl) ?_
  refine op_v' (j_not rfl) ?_
  refine op_v' (j_move (evo rfl)) ?_
  refine op_split' 9 rfl (fun h1 => ?_) (fun h1 => ?_)
  ·
    have h1r := h1
    try simp only [Bool.not_eq_true', Bool.not_eq_false', Bool.not_not, bne_iff_ne, bne_eq_false_iff_eq, beq_eq_false_iff_ne, beq_iff_eq, ne_eq, decide_eq_true_eq, decide_eq_false_iff_not, Classical.not_not, List.length_map, List.length_take, Int.toNat_natCast] at h1
    refine op_v' (j_unwantV rfl rfl h1r) ?_
    refine op_v' (j_unwantV rfl rfl h1r) ?_
    refine op_v' (j_unwantV rfl rfl h1r) ?_
    refine op_v' (j_pick_t rfl h1r (evo rfl)) ?_
    refine op_nil ?_
    refine a_tt rfl ?_
    refine a_seq ?_
    refine a_region (by kernel_rfl) ?_
    refine op_v' (j_assign (evo rfl)) ?_
    refine op_v' (j_assign (evo rfl)) ?_
    refine op_nil ?_
    refine a_adopt' 4 4 25 2 rfl fun v4 => ?_
    refine a_todeep 4 0 (.mk 25 2 [(0, (.mk 99 2 []))]) (zs := []) (zs' := []) rfl rfl rfl rfl eat_end rfl ?_
    refine a_ret ?_
    exact ⟨[.own 4 v4, .p _], .tup [.own 0 0, .p _], [], [.deep (.mk 25 2 [(0, (.mk 99 2 []))]) _ none], [(4, v4)], ⟨rfl, rfl, trivial⟩, rfl, rfl, ⟨⟨rfl, rfl⟩, trivial⟩, rfl, rfl, ⟨by have hq : fpOk l p = false := by {unfold fpOk; first | (rw [h1]; rfl) | (rw [show paOk p = false by assumption, Bool.and_false])}; rw [hq], rfl, by have hq : fpOk l p = false := by {unfold fpOk; first | (rw [h1]; rfl) | (rw [show paOk p = false by assumption, Bool.and_false])}; rw [fpL_bad hq]; rfl⟩⟩
  ·
    have h1r := h1
    try simp only [Bool.not_eq_true', Bool.not_eq_false', Bool.not_not, bne_iff_ne, bne_eq_false_iff_eq, beq_eq_false_iff_ne, beq_iff_eq, ne_eq, decide_eq_true_eq, decide_eq_false_iff_not, Classical.not_not, List.length_map, List.length_take, Int.toNat_natCast] at h1
    refine op_v' (j_want rfl rfl h1r (j_move (evo rfl))) ?_
    refine op_v0' (j_want rfl rfl h1r (j_call0 (v := .p _) (hp1 := []) [] false [] ent97 (f_paImpl _) ⟨.inl ⟨rfl, rfl⟩, trivial⟩ trivial rfl rfl (fun h => by cases h) rfl (fun _ h => by cases h) (.inl rfl) rfl rfl)) ?_
    refine op_v' (j_want rfl rfl h1r (j_not rfl)) ?_
    refine op_v' (j_pick_f rfl h1r (evo rfl)) ?_
    refine op_nil ?_
    refine a_cond rfl (fun h2 => ?_) (fun h2 => ?_)
    ·
      have h2r := h2
      try simp only [Bool.not_eq_true', Bool.not_eq_false', Bool.not_not, bne_iff_ne, bne_eq_false_iff_eq, beq_eq_false_iff_ne, beq_iff_eq, ne_eq, decide_eq_true_eq, decide_eq_false_iff_not, Classical.not_not, List.length_map, List.length_take, Int.toNat_natCast] at h2
      refine a_seq ?_
      refine a_region (by kernel_rfl) ?_
      refine op_v' (j_assign (evo rfl)) ?_
      refine op_v' (j_assign (evo rfl)) ?_
      refine op_nil ?_
      refine a_adopt' 4 4 25 2 rfl fun v4 => ?_
      refine a_todeep 4 0 (.mk 25 2 [(0, (.mk 99 2 []))]) (zs := []) (zs' := []) rfl rfl rfl rfl eat_end rfl ?_
      refine a_ret ?_
      exact ⟨[.own 4 v4, .p _], .tup [.own 0 0, .p _], [], [.deep (.mk 25 2 [(0, (.mk 99 2 []))]) _ none], [(4, v4)], ⟨rfl, rfl, trivial⟩, rfl, rfl, ⟨⟨rfl, rfl⟩, trivial⟩, rfl, rfl, ⟨by have hq : fpOk l p = false := by {unfold fpOk; first | (rw [h1]; rfl) | (rw [show paOk p = false by assumption, Bool.and_false])}; rw [hq], rfl, by have hq : fpOk l p = false := by {unfold fpOk; first | (rw [h1]; rfl) | (rw [show paOk p = false by assumption, Bool.and_false])}; rw [fpL_bad hq]; rfl⟩⟩
    ·
      have h2r := h2
      try simp only [Bool.not_eq_true', Bool.not_eq_false', Bool.not_not, bne_iff_ne, bne_eq_false_iff_eq, beq_eq_false_iff_ne, beq_iff_eq, ne_eq, decide_eq_true_eq, decide_eq_false_iff_not, Classical.not_not, List.length_map, List.length_take, Int.toNat_natCast] at h2
      refine a_skip ?_
      refine a_seq ?_
      have hln := pOk_len h1
      have hall := pOk_all h1
      refine a_region (by kernel_rfl) ?_
      refine op_v' (j_move (evo rfl)) ?_
      refine op_v' (j_move (evo rfl)) ?_
      refine op_n1' (fun ver => j_call1 (v := .own 16 ver) (hp1 := [(16, some (ver, .deep (.mk 25 2 [(0, (.mk 99 2 []))]) _ none))]) [] false [] ent93 (f_fixedD l p hall (by omega) (by assumption)) ⟨.inl ⟨rfl, rfl⟩, .inl ⟨rfl, rfl⟩, trivial⟩ trivial rfl rfl rfl (fun h => by cases h) rfl (List.all_eq_true.1 rfl) (.inl rfl) rfl rfl) fun v16x1 => ?_
      refine op_v' (j_assign (evo rfl)) ?_
      refine op_v' (j_assign (evo rfl)) ?_
      refine op_nil ?_
      refine a_ret ?_
      exact ⟨[.own 16 v16x1, .p _], .tup [.own 0 0, .p _], [], [.deep (.mk 25 2 [(0, (.mk 99 2 []))]) _ none], [(16, v16x1)], ⟨rfl, rfl, trivial⟩, rfl, rfl, ⟨⟨rfl, rfl⟩, trivial⟩, rfl, rfl, ⟨by have hq : fpOk l p = true := by {unfold fpOk; rw [h1, show paOk p = true by assumption]; rfl}; rw [hq], rfl, by have hq : fpOk l p = true := by {unfold fpOk; rw [h1, show paOk p = true by assumption]; rfl}; rw [fpL_ok hq]⟩⟩


theorem f_lawEFixPartial (l : List Con) (p : List Int) : Fn Try.prog 7 [.sl (l.map dC), .sl (p.map dI)] [] (fun rr ii nn => rr = .p (.bool true) ∧ ii = [] ∧ nn = []) := by
  refine fn_of Try.func7 rfl (Nat.le_of_ble_eq_true rfl) fun w X g => ?_
  show AWp _ _ _ ⟨[(0, .sl (l.map dC)), (1, .sl (p.map dI))], []⟩
  refine a_seq ?_
  refine a_region (by kernel_rfl) ?_
  refine op_v' (j_assign (evo rfl)) ?_
  refine op_nil ?_
  refine a_seq ?_
  refine a_seq ?_
  refine a_region (by kernel_rfl) ?_
  refine op_v' (j_move (evo rfl)) ?_
  refine op_v' (j_len_map Try.underlying36 rfl) ?_
  refine op_v' (j_gt rfl rfl) ?_
  refine op_nil ?_
  refine a_cond rfl (fun h1 => ?_) (fun h1 => ?_)
  ·
    have h1r := h1
    try simp only [Bool.not_eq_true', Bool.not_eq_false', Bool.not_not, bne_iff_ne, bne_eq_false_iff_eq, beq_eq_false_iff_ne, beq_iff_eq, ne_eq, decide_eq_true_eq, decide_eq_false_iff_not, Classical.not_not, List.length_map, List.length_take, Int.toNat_natCast] at h1
    refine a_seq ?_
    refine a_region (by kernel_rfl) ?_
    refine op_v' (j_assign (evo rfl)) ?_
    refine op_nil ?_
    refine a_ret ?_
    exact ⟨[.p _], .p _, [], [], [], ⟨rfl, trivial⟩, rfl, rfl, trivial, rfl, rfl, ⟨rfl, rfl, rfl⟩⟩
  ·
    have h1r := h1
    try simp only [Bool.not_eq_true', Bool.not_eq_false', Bool.not_not, bne_iff_ne, bne_eq_false_iff_eq, beq_eq_false_iff_ne, beq_iff_eq, ne_eq, decide_eq_true_eq, decide_eq_false_iff_not, Classical.not_not, List.length_map, List.length_take, Int.toNat_natCast] at h1
    have hpz : p.length ≤ 1048576 := by omega
    refine a_skip ?_
    refine a_seq ?_
    refine a_region (by kernel_rfl) ?_
    refine op_v' (j_assign (evo rfl)) ?_
    refine op_nil ?_
    refine a_seq ?_
    refine a_region (by kernel_rfl) ?_
    refine op_v' (j_move (evo rfl)) ?_
    refine op_v' (j_move (evo rfl)) ?_
    refine op_v0' (j_call0 (v := .p _) (hp1 := []) [] false [] ent21 (f_szConS l _ (by omega)) ⟨.inl ⟨rfl, rfl⟩, .inl ⟨rfl, rfl⟩, trivial⟩ trivial rfl rfl (fun h => by cases h) rfl (fun _ h => by cases h) (.inl rfl) rfl rfl) ?_
    refine op_v' (j_assign (evo rfl)) ?_
    refine op_nil ?_
    refine a_seq ?_
    refine a_seq ?_
    refine a_region (by kernel_rfl) ?_
    refine op_v' (j_move (evo rfl)) ?_
    refine op_v' (j_lt rfl rfl) ?_
    refine op_nil ?_
    refine a_cond rfl (fun h2 => ?_) (fun h2 => ?_)
    ·
      have h2r := h2
      try simp only [Bool.not_eq_true', Bool.not_eq_false', Bool.not_not, bne_iff_ne, bne_eq_false_iff_eq, beq_eq_false_iff_ne, beq_iff_eq, ne_eq, decide_eq_true_eq, decide_eq_false_iff_not, Classical.not_not, List.length_map, List.length_take, Int.toNat_natCast] at h2
      refine a_seq ?_
      refine a_region (by kernel_rfl) ?_
      refine op_v' (j_assign (evo rfl)) ?_
      refine op_nil ?_
      refine a_ret ?_
      exact ⟨[.p _], .p _, [], [], [], ⟨rfl, trivial⟩, rfl, rfl, trivial, rfl, rfl, ⟨rfl, rfl, rfl⟩⟩
    ·
      have h2r := h2
      try simp only [Bool.not_eq_true', Bool.not_eq_false', Bool.not_not, bne_iff_ne, bne_eq_false_iff_eq, beq_eq_false_iff_ne, beq_iff_eq, ne_eq, decide_eq_true_eq, decide_eq_false_iff_not, Classical.not_not, List.length_map, List.length_take, Int.toNat_natCast] at h2
      have hsz := fitC_of h2
      have hpm : endC 1 l + p.length ≤ 4611686018427387904 := by have := endC_sum (k := 1) (l := l); unfold fitC at hsz; omega
      refine a_skip ?_
      refine a_seq ?_
      refine a_region (by kernel_rfl) ?_
      refine op_v' (j_move (evo rfl)) ?_
      refine op_n1' (fun ver => j_call1 (v := .own 27 ver) (hp1 := [(27, some (ver, .deep (.mk 25 2 [(0, (.mk 99 2 []))]) _ none))]) [] false [] ent23 (f_toConS l hsz) ⟨.inl ⟨rfl, rfl⟩, trivial⟩ trivial rfl rfl rfl (fun h => by cases h) rfl (List.all_eq_true.1 rfl) (.inl rfl) rfl rfl) fun v27x1 => ?_
      refine op_freezeG 27 trivial rfl rfl rfl rfl ?_
      refine op_v' (j_move (evo rfl)) ?_
      refine op_n1' (fun ver => j_call1 (v := .own 29 ver) (hp1 := [(29, some (ver, .row 3 1 _))]) [] false [] ent38 (f_toIntS p hpz) ⟨.inl ⟨rfl, rfl⟩, trivial⟩ trivial rfl rfl rfl (fun h => by cases h) rfl (List.all_eq_true.1 rfl) (.inl rfl) rfl rfl) fun v29x2 => ?_
      refine op_freezeK 29 trivial rfl rfl rfl ?_
      refine op_v0' (j_call0 (v := .tup [.sl _, .p _]) (hp1 := []) [] false [] ent37 (f_fpSpec l p) ⟨.inl ⟨rfl, rfl⟩, .inl ⟨rfl, rfl⟩, trivial⟩ trivial rfl rfl (fun h => by cases h) rfl (fun _ h => by cases h) (.inl rfl) rfl rfl) ?_
      refine op_v' (j_move (evo rfl)) ?_
      refine op_v' (j_extract rfl rfl) ?_
      refine op_v' (j_extract rfl rfl) ?_
      refine op_v' (j_assign (evo rfl)) ?_
      refine op_v' (j_assign (evo rfl)) ?_
      refine op_nil ?_
      refine a_seq ?_
      refine a_region (by kernel_rfl) ?_
      refine op_v' (j_move (evo rfl)) ?_
      refine op_n1' (fun ver => j_call1 (v := .own 34 ver) (hp1 := [(34, some (ver, .deep (.mk 25 2 [(0, (.mk 99 2 []))]) _ none))]) [] false [] ent23 (f_toConS l hsz) ⟨.inl ⟨rfl, rfl⟩, trivial⟩ trivial rfl rfl rfl (fun h => by cases h) rfl (List.all_eq_true.1 rfl) (.inl rfl) rfl rfl) fun v34x3 => ?_
      refine op_v' (j_assign (evo rfl)) ?_
      refine op_nil ?_
      refine a_seq ?_
      refine a_region (by kernel_rfl) ?_
      refine op_v' (j_move (evo rfl)) ?_
      refine op_n1' (fun ver => j_call1 (v := .own 36 ver) (hp1 := [(36, some (ver, .row 3 1 _))]) [] false [] ent38 (f_toIntS p hpz) ⟨.inl ⟨rfl, rfl⟩, trivial⟩ trivial rfl rfl rfl (fun h => by cases h) rfl (List.all_eq_true.1 rfl) (.inl rfl) rfl rfl) fun v36x4 => ?_
      refine op_v' (j_assign (evo rfl)) ?_
      refine op_nil ?_
      refine a_seq ?_
      refine a_region (by kernel_rfl) ?_
      refine op_v' (j_move (evo rfl)) ?_
      refine op_v' (j_move (evo rfl)) ?_
      refine op_n1' (fun ver => j_call1 (v := .tup [.own 40 ver, .p _]) (hp1 := [(40, some (ver, .deep (.mk 25 2 [(0, (.mk 99 2 []))]) _ none))]) [] true [34, 36] ent39 (f_fpImplD l p) ⟨.inr ⟨rfl, view_ownD rfl rfl, rfl⟩, .inr ⟨rfl, view_own rfl rfl, rfl⟩, trivial⟩ trivial rfl rfl rfl (fun _ => rfl) rfl (List.all_eq_true.1 rfl) (.inr ⟨rfl, by first | exact pl_new1 (fun _ => rfl) | exact pl_newC | (simp [plO, plV, plV.plL]; done)⟩) rfl rfl) fun v40x5 => ?_
      refine op_v' (j_move (evo rfl)) ?_
      refine op_v' (j_extract rfl rfl) ?_
      refine op_v' (j_extract rfl rfl) ?_
      refine op_v' (j_assign (evo rfl)) ?_
      refine op_v' (j_assign (evo rfl)) ?_
      refine op_nil ?_
      refine a_seq ?_
      refine a_seq ?_
      refine a_region (by kernel_rfl) ?_
      refine op_v' (j_move (evo rfl)) ?_
      refine op_v' (j_move (evo rfl)) ?_
      refine op_v0' (j_call0 (v := .p _) (hp1 := []) [] true [40] ent26 (f_eqConS (fpL l p) (fpL l p)) ⟨.inr ⟨rfl, view_ownD rfl rfl, rfl⟩, .inl ⟨rfl, rfl⟩, trivial⟩ trivial rfl rfl (fun _ => rfl) rfl (fun _ h => by cases h) (.inr ⟨rfl, by first | exact pl_new1 (fun _ => rfl) | exact pl_newC | (simp [plO, plV, plV.plL]; done)⟩) rfl rfl) ?_
      refine op_v' (j_not rfl) ?_
      refine op_v' (j_move (evo rfl)) ?_
      refine op_split' 47 rfl (fun h3 => ?_) (fun h3 => ?_)
      ·
        have h3r := h3
        try simp only [Bool.not_eq_true', Bool.not_eq_false', Bool.not_not, bne_iff_ne, bne_eq_false_iff_eq, beq_eq_false_iff_ne, beq_iff_eq, ne_eq, decide_eq_true_eq, decide_eq_false_iff_not, Classical.not_not, List.length_map, List.length_take, Int.toNat_natCast] at h3
        exact absurd h3r (by simp)
      ·
        have h3r := h3
        try simp only [Bool.not_eq_true', Bool.not_eq_false', Bool.not_not, bne_iff_ne, bne_eq_false_iff_eq, beq_eq_false_iff_ne, beq_iff_eq, ne_eq, decide_eq_true_eq, decide_eq_false_iff_not, Classical.not_not, List.length_map, List.length_take, Int.toNat_natCast] at h3
        refine op_v' (j_want rfl rfl h3r (j_move (evo rfl))) ?_
        refine op_v' (j_want rfl rfl h3r (j_move (evo rfl))) ?_
        refine op_v' (j_want rfl rfl h3r (j_neb Try.underlying4 rfl rfl)) ?_
        refine op_v' (j_pick_f rfl h3r (evo rfl)) ?_
        refine op_nil ?_
        refine a_cond rfl (fun h4 => ?_) (fun h4 => ?_)
        ·
          have h4r := h4
          try simp only [Bool.not_eq_true', Bool.not_eq_false', Bool.not_not, bne_iff_ne, bne_eq_false_iff_eq, beq_eq_false_iff_ne, beq_iff_eq, ne_eq, decide_eq_true_eq, decide_eq_false_iff_not, Classical.not_not, List.length_map, List.length_take, Int.toNat_natCast] at h4
          exact absurd h4r (by simp)
        ·
          have h4r := h4
          try simp only [Bool.not_eq_true', Bool.not_eq_false', Bool.not_not, bne_iff_ne, bne_eq_false_iff_eq, beq_eq_false_iff_ne, beq_iff_eq, ne_eq, decide_eq_true_eq, decide_eq_false_iff_not, Classical.not_not, List.length_map, List.length_take, Int.toNat_natCast] at h4
          refine a_skip ?_
          refine a_seq ?_
          refine a_seq ?_
          refine a_region (by kernel_rfl) ?_
          refine op_v' (j_move (evo rfl)) ?_
          refine op_v' (j_move (evo rfl)) ?_
          refine op_n1' (fun ver => j_call1 (v := .own 54 ver) (hp1 := [(54, some (ver, .deep (.mk 25 2 [(0, (.mk 99 2 []))]) _ none))]) [] false [] ent23 (f_toConS l hsz) ⟨.inl ⟨rfl, rfl⟩, trivial⟩ trivial rfl rfl rfl (fun h => by cases h) rfl (List.all_eq_true.1 rfl) (.inl rfl) rfl rfl) fun v54x6 => ?_
          refine op_v0' (j_call0 (v := .p _) (hp1 := []) [] true [34, 54] ent26 (f_eqConS l l) ⟨.inr ⟨rfl, view_ownD rfl rfl, rfl⟩, .inr ⟨rfl, view_ownD rfl rfl, rfl⟩, trivial⟩ trivial rfl rfl (fun _ => rfl) rfl (fun _ h => by cases h) (.inr ⟨rfl, by first | exact pl_new1 (fun _ => rfl) | exact pl_newC | (simp [plO, plV, plV.plL]; done)⟩) rfl rfl) ?_
          refine op_v' (j_not rfl) ?_
          refine op_nil ?_
          refine a_cond rfl (fun h5 => ?_) (fun h5 => ?_)
          ·
            have h5r := h5
            try simp only [Bool.not_eq_true', Bool.not_eq_false', Bool.not_not, bne_iff_ne, bne_eq_false_iff_eq, beq_eq_false_iff_ne, beq_iff_eq, ne_eq, decide_eq_true_eq, decide_eq_false_iff_not, Classical.not_not, List.length_map, List.length_take, Int.toNat_natCast] at h5
            exact absurd h5r (by simp)
          ·
            have h5r := h5
            try simp only [Bool.not_eq_true', Bool.not_eq_false', Bool.not_not, bne_iff_ne, bne_eq_false_iff_eq, beq_eq_false_iff_ne, beq_iff_eq, ne_eq, decide_eq_true_eq, decide_eq_false_iff_not, Classical.not_not, List.length_map, List.length_take, Int.toNat_natCast] at h5
            refine a_skip ?_
            refine a_seq ?_
            refine a_seq ?_
            refine a_region (by kernel_rfl) ?_
            refine op_v' (j_move (evo rfl)) ?_
            refine op_v' (j_move (evo rfl)) ?_
            refine op_n1' (fun ver => j_call1 (v := .own 59 ver) (hp1 := [(59, some (ver, .row 3 1 _))]) [] false [] ent38 (f_toIntS p hpz) ⟨.inl ⟨rfl, rfl⟩, trivial⟩ trivial rfl rfl rfl (fun h => by cases h) rfl (List.all_eq_true.1 rfl) (.inl rfl) rfl rfl) fun v59x7 => ?_
            refine op_v0' (j_call0 (v := .p _) (hp1 := []) [] true [36, 59] ent25 (f_eqIntS p p) ⟨.inr ⟨rfl, view_own rfl rfl, rfl⟩, .inr ⟨rfl, view_own rfl rfl, rfl⟩, trivial⟩ trivial rfl rfl (fun _ => rfl) rfl (fun _ h => by cases h) (.inr ⟨rfl, by first | exact pl_new1 (fun _ => rfl) | exact pl_newC | (simp [plO, plV, plV.plL]; done)⟩) rfl rfl) ?_
            refine op_v' (j_not rfl) ?_
            refine op_nil ?_
            refine a_cond rfl (fun h6 => ?_) (fun h6 => ?_)
            ·
              have h6r := h6
              try simp only [Bool.not_eq_true', Bool.not_eq_false', Bool.not_not, bne_iff_ne, bne_eq_false_iff_eq, beq_eq_false_iff_ne, beq_iff_eq, ne_eq, decide_eq_true_eq, decide_eq_false_iff_not, Classical.not_not, List.length_map, List.length_take, Int.toNat_natCast] at h6
              exact absurd h6r (by simp)
            ·
              have h6r := h6
              try simp only [Bool.not_eq_true', Bool.not_eq_false', Bool.not_not, bne_iff_ne, bne_eq_false_iff_eq, beq_eq_false_iff_ne, beq_iff_eq, ne_eq, decide_eq_true_eq, decide_eq_false_iff_not, Classical.not_not, List.length_map, List.length_take, Int.toNat_natCast] at h6
              refine a_skip ?_
              refine a_seq ?_
              refine a_region (by kernel_rfl) ?_
              refine op_v' (j_assign (evo rfl)) ?_
              refine op_nil ?_
              refine a_seq ?_
              refine a_region (by kernel_rfl) ?_
              refine op_v' (j_move (evo rfl)) ?_
              refine op_v' (j_move (evo rfl)) ?_
              refine op_v0' (j_call0 (v := .p _) (hp1 := [(34, some (v34x3, .deep (.mk 25 2 [(0, (.mk 99 2 []))]) _ none))]) [(34, v34x3)] false [34] ent27 (f_markConS 1 l (fitC_end hsz)) ⟨.inl ⟨rfl, rfl⟩, .inl ⟨rfl, rfl⟩, trivial⟩ ⟨⟨rfl, rfl⟩, trivial⟩ rfl rfl (fun h => by cases h) rfl (List.all_eq_true.1 rfl) (.inl rfl) rfl rfl) ?_
              refine op_v' (j_assign (evo rfl)) ?_
              refine op_nil ?_
              refine a_seq ?_
              refine a_region (by kernel_rfl) ?_
              refine op_v' (j_move (evo rfl)) ?_
              refine op_v' (j_move (evo rfl)) ?_
              refine op_v0' (j_call0 (v := .p _) (hp1 := [(36, some (v36x4, .row 3 1 _))]) [(36, v36x4)] false [36] ent28 (f_markIntS (endC 1 l) p hpm) ⟨.inl ⟨rfl, rfl⟩, .inl ⟨rfl, rfl⟩, trivial⟩ ⟨⟨rfl, rfl⟩, trivial⟩ rfl rfl (fun h => by cases h) rfl (List.all_eq_true.1 rfl) (.inl rfl) rfl rfl) ?_
              refine op_v' (j_assign (evo rfl)) ?_
              refine op_nil ?_
              refine a_seq ?_
              refine a_seq ?_
              refine a_region (by kernel_rfl) ?_
              refine op_v' (j_move (evo rfl)) ?_
              refine op_v' (j_lt rfl rfl) ?_
              refine op_v' (j_move (evo rfl)) ?_
              refine op_split' 70 rfl (fun h7 => ?_) (fun h7 => ?_)
              ·
                have h7r := h7
                try simp only [Bool.not_eq_true', Bool.not_eq_false', Bool.not_not, bne_iff_ne, bne_eq_false_iff_eq, beq_eq_false_iff_ne, beq_iff_eq, ne_eq, decide_eq_true_eq, decide_eq_false_iff_not, Classical.not_not, List.length_map, List.length_take, Int.toNat_natCast] at h7
                exact absurd (of_decide_eq_true h7r) (by omega)
              ·
                have h7r := h7
                try simp only [Bool.not_eq_true', Bool.not_eq_false', Bool.not_not, bne_iff_ne, bne_eq_false_iff_eq, beq_eq_false_iff_ne, beq_iff_eq, ne_eq, decide_eq_true_eq, decide_eq_false_iff_not, Classical.not_not, List.length_map, List.length_take, Int.toNat_natCast] at h7
                refine op_v' (j_want rfl rfl h7r (j_move (evo rfl))) ?_
                refine op_v' (j_want rfl rfl h7r (j_move (evo rfl))) ?_
                refine op_v0' (j_want rfl rfl h7r (j_call0 (v := .p _) (hp1 := []) [] true [40] ent26 (f_eqConS (fpL l p) (fpL l p)) ⟨.inr ⟨rfl, view_ownD rfl rfl, rfl⟩, .inl ⟨rfl, rfl⟩, trivial⟩ trivial rfl rfl (fun _ => rfl) rfl (fun _ h => by cases h) (.inr ⟨rfl, by first | exact pl_new1 (fun _ => rfl) | exact pl_newC | (simp [plO, plV, plV.plL]; done)⟩) rfl rfl)) ?_
                refine op_v' (j_want rfl rfl h7r (j_not rfl)) ?_
                refine op_v' (j_pick_f rfl h7r (evo rfl)) ?_
                refine op_v' (j_move (evo rfl)) ?_
                refine op_split' 76 rfl (fun h8 => ?_) (fun h8 => ?_)
                ·
                  have h8r := h8
                  try simp only [Bool.not_eq_true', Bool.not_eq_false', Bool.not_not, bne_iff_ne, bne_eq_false_iff_eq, beq_eq_false_iff_ne, beq_iff_eq, ne_eq, decide_eq_true_eq, decide_eq_false_iff_not, Classical.not_not, List.length_map, List.length_take, Int.toNat_natCast] at h8
                  exact absurd h8r (by simp)
                ·
                  have h8r := h8
                  try simp only [Bool.not_eq_true', Bool.not_eq_false', Bool.not_not, bne_iff_ne, bne_eq_false_iff_eq, beq_eq_false_iff_ne, beq_iff_eq, ne_eq, decide_eq_true_eq, decide_eq_false_iff_not, Classical.not_not, List.length_map, List.length_take, Int.toNat_natCast] at h8
                  refine op_v' (j_want rfl rfl h8r (j_move (evo rfl))) ?_
                  refine op_v' (j_want rfl rfl h8r (j_move (evo rfl))) ?_
                  refine op_v' (j_want rfl rfl h8r (j_neb Try.underlying4 rfl rfl)) ?_
                  refine op_v' (j_pick_f rfl h8r (evo rfl)) ?_
                  refine op_nil ?_
                  refine a_cond rfl (fun h9 => ?_) (fun h9 => ?_)
                  ·
                    have h9r := h9
                    try simp only [Bool.not_eq_true', Bool.not_eq_false', Bool.not_not, bne_iff_ne, bne_eq_false_iff_eq, beq_eq_false_iff_ne, beq_iff_eq, ne_eq, decide_eq_true_eq, decide_eq_false_iff_not, Classical.not_not, List.length_map, List.length_take, Int.toNat_natCast] at h9
                    exact absurd h9r (by simp)
                  ·
                    have h9r := h9
                    try simp only [Bool.not_eq_true', Bool.not_eq_false', Bool.not_not, bne_iff_ne, bne_eq_false_iff_eq, beq_eq_false_iff_ne, beq_iff_eq, ne_eq, decide_eq_true_eq, decide_eq_false_iff_not, Classical.not_not, List.length_map, List.length_take, Int.toNat_natCast] at h9
                    refine a_skip ?_
                    refine a_seq ?_
                    refine a_region (by kernel_rfl) ?_
                    refine op_v' (j_assign (evo rfl)) ?_
                    refine op_nil ?_
                    refine a_seq ?_
                    refine a_region (by kernel_rfl) ?_
                    refine op_v' (j_move (evo rfl)) ?_
                    refine op_v' (j_move (evo rfl)) ?_
                    refine op_v0' (j_call0 (v := .p _) (hp1 := [(40, some (v40x5, .deep (.mk 25 2 [(0, (.mk 99 2 []))]) _ none))]) [(40, v40x5)] false [40] ent27 (f_markConS 1 (fpL l p) (fitC_end fit_fp)) ⟨.inl ⟨rfl, rfl⟩, .inl ⟨rfl, rfl⟩, trivial⟩ ⟨⟨rfl, rfl⟩, trivial⟩ rfl rfl (fun h => by cases h) rfl (List.all_eq_true.1 rfl) (.inl rfl) rfl rfl) ?_
                    refine op_v' (j_assign (evo rfl)) ?_
                    refine op_nil ?_
                    refine a_seq ?_
                    refine a_region (by kernel_rfl) ?_
                    refine op_v' (j_assign (evo rfl)) ?_
                    refine op_nil ?_
                    refine a_seq ?_
                    refine a_region (by kernel_rfl) ?_
                    refine op_v' (j_move (evo rfl)) ?_
                    refine op_v' (j_move (evo rfl)) ?_
                    refine op_v0' (j_call0 (v := .p _) (hp1 := []) [] true [40] ent34 (f_heldConS 1 (fpL l p) (fitC_end fit_fp)) ⟨.inr ⟨rfl, view_ownD rfl rfl, rfl⟩, .inl ⟨rfl, rfl⟩, trivial⟩ trivial rfl rfl (fun _ => rfl) rfl (fun _ h => by cases h) (.inr ⟨rfl, by first | exact pl_new1 (fun _ => rfl) | exact pl_newC | (simp [plO, plV, plV.plL]; done)⟩) rfl rfl) ?_
                    refine op_v' (j_assign (evo rfl)) ?_
                    refine op_nil ?_
                    refine a_seq ?_
                    refine a_seq ?_
                    refine a_region (by kernel_rfl) ?_
                    refine op_v' (j_move (evo rfl)) ?_
                    refine op_v' (j_lt rfl rfl) ?_
                    refine op_nil ?_
                    refine a_cond rfl (fun h10 => ?_) (fun h10 => ?_)
                    ·
                      have h10r := h10
                      try simp only [Bool.not_eq_true', Bool.not_eq_false', Bool.not_not, bne_iff_ne, bne_eq_false_iff_eq, beq_eq_false_iff_ne, beq_iff_eq, ne_eq, decide_eq_true_eq, decide_eq_false_iff_not, Classical.not_not, List.length_map, List.length_take, Int.toNat_natCast] at h10
                      exact absurd (of_decide_eq_true h10r) (by omega)
                    ·
                      have h10r := h10
                      try simp only [Bool.not_eq_true', Bool.not_eq_false', Bool.not_not, bne_iff_ne, bne_eq_false_iff_eq, beq_eq_false_iff_ne, beq_iff_eq, ne_eq, decide_eq_true_eq, decide_eq_false_iff_not, Classical.not_not, List.length_map, List.length_take, Int.toNat_natCast] at h10
                      refine a_skip ?_
                      refine a_seq ?_
                      refine a_seq ?_
                      refine a_region (by kernel_rfl) ?_
                      refine op_v' (j_move (evo rfl)) ?_
                      refine op_v' (j_move (evo rfl)) ?_
                      refine op_v' (j_ne rfl rfl) ?_
                      refine op_nil ?_
                      refine a_cond rfl (fun h11 => ?_) (fun h11 => ?_)
                      ·
                        have h11r := h11
                        try simp only [Bool.not_eq_true', Bool.not_eq_false', Bool.not_not, bne_iff_ne, bne_eq_false_iff_eq, beq_eq_false_iff_ne, beq_iff_eq, ne_eq, decide_eq_true_eq, decide_eq_false_iff_not, Classical.not_not, List.length_map, List.length_take, Int.toNat_natCast] at h11
                        exact absurd (of_decide_eq_true h11r) (by omega)
                      ·
                        have h11r := h11
                        try simp only [Bool.not_eq_true', Bool.not_eq_false', Bool.not_not, bne_iff_ne, bne_eq_false_iff_eq, beq_eq_false_iff_ne, beq_iff_eq, ne_eq, decide_eq_true_eq, decide_eq_false_iff_not, Classical.not_not, List.length_map, List.length_take, Int.toNat_natCast] at h11
                        refine a_skip ?_
                        refine a_seq ?_
                        refine a_region (by kernel_rfl) ?_
                        refine op_v' (j_move (evo rfl)) ?_
                        refine op_n1' (fun ver => j_call1 (v := .own 94 ver) (hp1 := [(94, some (ver, .deep (.mk 25 2 [(0, (.mk 99 2 []))]) _ none))]) [] false [] ent23 (f_toConS l hsz) ⟨.inl ⟨rfl, rfl⟩, trivial⟩ trivial rfl rfl rfl (fun h => by cases h) rfl (List.all_eq_true.1 rfl) (.inl rfl) rfl rfl) fun v94x8 => ?_
                        refine op_v' (j_move (evo rfl)) ?_
                        refine op_n1' (fun ver => j_call1 (v := .own 96 ver) (hp1 := [(96, some (ver, .row 3 1 _))]) [] false [] ent38 (f_toIntS p hpz) ⟨.inl ⟨rfl, rfl⟩, trivial⟩ trivial rfl rfl rfl (fun h => by cases h) rfl (List.all_eq_true.1 rfl) (.inl rfl) rfl rfl) fun v96x9 => ?_
                        refine op_n1' (fun ver => j_call1 (v := .tup [.own 97 ver, .p _]) (hp1 := [(97, some (ver, .deep (.mk 25 2 [(0, (.mk 99 2 []))]) _ none))]) [] true [94, 96] ent39 (f_fpImplD l p) ⟨.inr ⟨rfl, view_ownD rfl rfl, rfl⟩, .inr ⟨rfl, view_own rfl rfl, rfl⟩, trivial⟩ trivial rfl rfl rfl (fun _ => rfl) rfl (List.all_eq_true.1 rfl) (.inr ⟨rfl, by first | exact pl_new1 (fun _ => rfl) | exact pl_newC | (simp [plO, plV, plV.plL]; done)⟩) rfl rfl) fun v97x10 => ?_
                        refine op_v' (j_move (evo rfl)) ?_
                        refine op_v' (j_extract rfl rfl) ?_
                        refine op_v' (j_extract rfl rfl) ?_
                        refine op_v' (j_assign (evo rfl)) ?_
                        refine op_v' (j_assign (evo rfl)) ?_
                        refine op_nil ?_
                        refine a_seq ?_
                        refine a_seq ?_
                        refine a_region (by kernel_rfl) ?_
                        refine op_v' (j_move (evo rfl)) ?_
                        refine op_v' (j_move (evo rfl)) ?_
                        refine op_v0' (j_call0 (v := .p _) (hp1 := []) [] true [97] ent26 (f_eqConS (fpL l p) (fpL l p)) ⟨.inr ⟨rfl, view_ownD rfl rfl, rfl⟩, .inl ⟨rfl, rfl⟩, trivial⟩ trivial rfl rfl (fun _ => rfl) rfl (fun _ h => by cases h) (.inr ⟨rfl, by first | exact pl_new1 (fun _ => rfl) | exact pl_newC | (simp [plO, plV, plV.plL]; done)⟩) rfl rfl) ?_
                        refine op_v' (j_not rfl) ?_
                        refine op_v' (j_move (evo rfl)) ?_
                        refine op_split' 104 rfl (fun h12 => ?_) (fun h12 => ?_)
                        ·
                          have h12r := h12
                          try simp only [Bool.not_eq_true', Bool.not_eq_false', Bool.not_not, bne_iff_ne, bne_eq_false_iff_eq, beq_eq_false_iff_ne, beq_iff_eq, ne_eq, decide_eq_true_eq, decide_eq_false_iff_not, Classical.not_not, List.length_map, List.length_take, Int.toNat_natCast] at h12
                          exact absurd h12r (by simp)
                        ·
                          have h12r := h12
                          try simp only [Bool.not_eq_true', Bool.not_eq_false', Bool.not_not, bne_iff_ne, bne_eq_false_iff_eq, beq_eq_false_iff_ne, beq_iff_eq, ne_eq, decide_eq_true_eq, decide_eq_false_iff_not, Classical.not_not, List.length_map, List.length_take, Int.toNat_natCast] at h12
                          refine op_v' (j_want rfl rfl h12r (j_move (evo rfl))) ?_
                          refine op_v' (j_want rfl rfl h12r (j_move (evo rfl))) ?_
                          refine op_v' (j_want rfl rfl h12r (j_neb Try.underlying4 rfl rfl)) ?_
                          refine op_v' (j_pick_f rfl h12r (evo rfl)) ?_
                          refine op_nil ?_
                          refine a_cond rfl (fun h13 => ?_) (fun h13 => ?_)
                          ·
                            have h13r := h13
                            try simp only [Bool.not_eq_true', Bool.not_eq_false', Bool.not_not, bne_iff_ne, bne_eq_false_iff_eq, beq_eq_false_iff_ne, beq_iff_eq, ne_eq, decide_eq_true_eq, decide_eq_false_iff_not, Classical.not_not, List.length_map, List.length_take, Int.toNat_natCast] at h13
                            exact absurd h13r (by simp)
                          ·
                            have h13r := h13
                            try simp only [Bool.not_eq_true', Bool.not_eq_false', Bool.not_not, bne_iff_ne, bne_eq_false_iff_eq, beq_eq_false_iff_ne, beq_iff_eq, ne_eq, decide_eq_true_eq, decide_eq_false_iff_not, Classical.not_not, List.length_map, List.length_take, Int.toNat_natCast] at h13
                            refine a_skip ?_
                            refine a_seq ?_
                            refine a_region (by kernel_rfl) ?_
                            refine op_v' (j_assign (evo rfl)) ?_
                            refine op_nil ?_
                            refine a_seq ?_
                            refine a_region (by kernel_rfl) ?_
                            refine op_v' (j_move (evo rfl)) ?_
                            refine op_v' (j_move (evo rfl)) ?_
                            refine op_v0' (j_call0 (v := .p _) (hp1 := []) [] true [40] ent34 (f_heldConS 1 (fpL l p) (fitC_end fit_fp)) ⟨.inr ⟨rfl, view_ownD rfl rfl, rfl⟩, .inl ⟨rfl, rfl⟩, trivial⟩ trivial rfl rfl (fun _ => rfl) rfl (fun _ h => by cases h) (.inr ⟨rfl, by first | exact pl_new1 (fun _ => rfl) | exact pl_newC | (simp [plO, plV, plV.plL]; done)⟩) rfl rfl) ?_
                            refine op_v' (j_assign (evo rfl)) ?_
                            refine op_nil ?_
                            refine a_seq ?_
                            refine a_seq ?_
                            refine a_region (by kernel_rfl) ?_
                            refine op_v' (j_move (evo rfl)) ?_
                            refine op_v' (j_lt rfl rfl) ?_
                            refine op_nil ?_
                            refine a_cond rfl (fun h14 => ?_) (fun h14 => ?_)
                            ·
                              have h14r := h14
                              try simp only [Bool.not_eq_true', Bool.not_eq_false', Bool.not_not, bne_iff_ne, bne_eq_false_iff_eq, beq_eq_false_iff_ne, beq_iff_eq, ne_eq, decide_eq_true_eq, decide_eq_false_iff_not, Classical.not_not, List.length_map, List.length_take, Int.toNat_natCast] at h14
                              exact absurd (of_decide_eq_true h14r) (by omega)
                            ·
                              have h14r := h14
                              try simp only [Bool.not_eq_true', Bool.not_eq_false', Bool.not_not, bne_iff_ne, bne_eq_false_iff_eq, beq_eq_false_iff_ne, beq_iff_eq, ne_eq, decide_eq_true_eq, decide_eq_false_iff_not, Classical.not_not, List.length_map, List.length_take, Int.toNat_natCast] at h14
                              refine a_skip ?_
                              refine a_seq ?_
                              refine a_seq ?_
                              refine a_region (by kernel_rfl) ?_
                              refine op_v' (j_move (evo rfl)) ?_
                              refine op_v' (j_move (evo rfl)) ?_
                              refine op_v' (j_ne rfl rfl) ?_
                              refine op_nil ?_
                              refine a_cond rfl (fun h15 => ?_) (fun h15 => ?_)
                              ·
                                have h15r := h15
                                try simp only [Bool.not_eq_true', Bool.not_eq_false', Bool.not_not, bne_iff_ne, bne_eq_false_iff_eq, beq_eq_false_iff_ne, beq_iff_eq, ne_eq, decide_eq_true_eq, decide_eq_false_iff_not, Classical.not_not, List.length_map, List.length_take, Int.toNat_natCast] at h15
                                exact absurd (of_decide_eq_true h15r) (by omega)
                              ·
                                have h15r := h15
                                try simp only [Bool.not_eq_true', Bool.not_eq_false', Bool.not_not, bne_iff_ne, bne_eq_false_iff_eq, beq_eq_false_iff_ne, beq_iff_eq, ne_eq, decide_eq_true_eq, decide_eq_false_iff_not, Classical.not_not, List.length_map, List.length_take, Int.toNat_natCast] at h15
                                refine a_skip ?_
                                refine a_seq ?_
                                refine a_region (by kernel_rfl) ?_
                                refine op_v' (j_assign (evo rfl)) ?_
                                refine op_nil ?_
                                refine a_ret ?_
                                exact ⟨[.p _], .p _, [], [], [], ⟨rfl, trivial⟩, rfl, rfl, trivial, rfl, rfl, ⟨rfl, rfl, rfl⟩⟩


end Go.Ab

/- Walks. -/
import Derived.Test.YtikknnpdiahnoaaBase
import Derived.Test.YtikknnpdiahnoaaFf2
import Derived.Test.YtikknnpdiahnoaaWsfm
namespace Go.Ab
open Go.Proofs
set_option maxRecDepth 100000
set_option maxHeartbeats 8000000
set_option linter.unusedSimpArgs false
set_option linter.unusedVariables false
theorem f_brImpl (m : Md) (i : Int) (d : List (List Bool)) : Fn Try.prog 30 [.agg [.sl (m.1.map dI), .sl (m.2.map dR)], .p (.int .i64 (i)), .sl (d.map dD)] [] (fun rr ii nn => rr = .tup [.own 0 0, .p (.bool (brOk m i d))] ∧ ii = [] ∧ nn = [.deep (.mk 34 1 [(0, .mk 4 1 [])]) ((bdD m i d).map dD) none]) := by
 refine fn_of Try.func30 rfl (Nat.le_of_ble_eq_true rfl) fun w X g => ?_
 show AWp _ _ _ ⟨[(0, .agg [.sl (m.1.map dI), .sl (m.2.map dR)]), (1, .p (.int .i64 (i))), (2, .sl (d.map dD))], []⟩
 refine a_len_rule 0 rfl fun hlr => ?_
 refine a_seq ?_
 refine a_region (by kernel_rfl) ?_
 refine op_n' (fun ver => j_boxa rfl) fun v3x1 => ?_
 refine op_v' (j_assign (evo rfl)) ?_
 refine op_v' (j_assign (evo rfl)) ?_
 refine op_nil ?_
 refine a_seq ?_
 refine a_seq ?_
 refine a_region (by kernel_rfl) ?_
 refine op_v' (j_loada_box (ys := [.sl _, .sl _]) agg26 rfl rfl rfl (Nat.le_of_ble_eq_true rfl)) ?_
 refine op_v' (j_move (evo rfl)) ?_
 refine op_v0' (j_call0 (v := .p _) (hp1 := []) [] false [] ent25 (f_dvImpl m d) ⟨.inl ⟨rfl, rfl⟩, .inl ⟨rfl, rfl⟩, trivial⟩ trivial rfl rfl (fun h => by cases h) rfl (fun _ h => by cases h) (.inl rfl) rfl rfl) ?_
 refine op_v' (j_not rfl) ?_
 refine op_v' (j_move (evo rfl)) ?_
 refine op_split' 26 rfl (fun h1 => ?_) (fun h1 => ?_)
 ·
  have h1r := h1
  try simp only [nq, nr, nl, bstL_len, brD_len, brP_len] at h1
  refine op_v' (j_unwantV rfl rfl h1r) ?_
  refine op_v' (j_unwantV rfl rfl h1r) ?_
  refine op_v' (j_unwantV rfl rfl h1r) ?_
  refine op_v' (j_pick_t rfl h1r (evo rfl)) ?_
  refine op_v' (j_move (evo rfl)) ?_
  refine op_v' (j_unwantV rfl rfl rfl) ?_
  refine op_v' (j_unwantV rfl rfl rfl) ?_
  refine op_v' (j_unwantV rfl rfl rfl) ?_
  refine op_v' (j_unwantV rfl rfl rfl) ?_
  refine op_v' (j_pick_t rfl rfl (evo rfl)) ?_
  refine op_v' (j_move (evo rfl)) ?_
  refine op_v' (j_unwantV rfl rfl rfl) ?_
  refine op_v' (j_unwantV rfl rfl rfl) ?_
  refine op_v' (j_unwantV rfl rfl rfl) ?_
  refine op_v' (j_unwantV rfl rfl rfl) ?_
  refine op_v' (j_unwantV rfl rfl rfl) ?_
  refine op_v' (j_unwantV rfl rfl rfl) ?_
  refine op_v' (j_unwantV rfl rfl rfl) ?_
  refine op_v' (j_pick_t rfl rfl (evo rfl)) ?_
  refine op_nil ?_
  refine a_tt rfl ?_
  refine a_seq ?_
  refine a_region (by kernel_rfl) ?_
  refine op_v' (j_assign (evo rfl)) ?_
  refine op_v' (j_assign (evo rfl)) ?_
  refine op_nil ?_
  refine a_adopt' 6 6 34 1 rfl fun v6 => ?_
  refine a_todeep 6 0 (.mk 34 1 [(0, (.mk 4 1 []))]) (zs := []) (zs' := []) rfl rfl rfl rfl eat_end rfl ?_
  refine a_ret ?_
  exact ⟨[.own 6 v6, .p _], .tup [.own 0 0, .p _], [], [.deep (.mk 34 1 [(0, (.mk 4 1 []))]) _ none], [(6, v6)], ⟨rfl, rfl, trivial⟩, rfl, rfl, ⟨⟨rfl, rfl⟩, trivial⟩, rfl, rfl, ⟨by have hb : brOk m i d = false := brOk_no (by first | exact .inl (by assumption) | exact .inr (.inl (by assumption)) | exact .inr (.inl (de_em (by assumption))) | exact .inr (.inr (.inl (by omega))) | exact .inr (.inr (.inr (by assumption)))); rw [hb], rfl, by have hb : brOk m i d = false := brOk_no (by first | exact .inl (by assumption) | exact .inr (.inl (by assumption)) | exact .inr (.inl (de_em (by assumption))) | exact .inr (.inr (.inl (by omega))) | exact .inr (.inr (.inr (by assumption)))); rw [bd_bad hb]; rfl⟩⟩
 ·
  have h1r := h1
  try simp only [nq, nr, nl, bstL_len, brD_len, brP_len] at h1
  refine op_v' (j_want rfl rfl h1r (j_loada_box (ys := [.sl _, .sl _]) agg26 rfl rfl rfl (Nat.le_of_ble_eq_true rfl))) ?_
  refine op_v' (j_want rfl rfl h1r (j_move (evo rfl))) ?_
  refine op_v0' (j_want rfl rfl h1r (j_call0 (v := .p _) (hp1 := []) [] false [] ent20 (f_deImpl m d) ⟨.inl ⟨rfl, rfl⟩, .inl ⟨rfl, rfl⟩, trivial⟩ trivial rfl rfl (fun h => by cases h) rfl (fun _ h => by cases h) (.inl rfl) rfl rfl)) ?_
  refine op_v' (j_pick_f rfl h1r (evo rfl)) ?_
  refine op_v' (j_move (evo rfl)) ?_
  refine op_split' 31 rfl (fun h2 => ?_) (fun h2 => ?_)
  ·
   have h2r := h2
   try simp only [nq, nr, nl, bstL_len, brD_len, brP_len] at h2
   refine op_v' (j_unwantV rfl rfl h2r) ?_
   refine op_v' (j_unwantV rfl rfl h2r) ?_
   refine op_v' (j_unwantV rfl rfl h2r) ?_
   refine op_v' (j_unwantV rfl rfl h2r) ?_
   refine op_v' (j_pick_t rfl h2r (evo rfl)) ?_
   refine op_v' (j_move (evo rfl)) ?_
   refine op_v' (j_unwantV rfl rfl rfl) ?_
   refine op_v' (j_unwantV rfl rfl rfl) ?_
   refine op_v' (j_unwantV rfl rfl rfl) ?_
   refine op_v' (j_unwantV rfl rfl rfl) ?_
   refine op_v' (j_unwantV rfl rfl rfl) ?_
   refine op_v' (j_unwantV rfl rfl rfl) ?_
   refine op_v' (j_unwantV rfl rfl rfl) ?_
   refine op_v' (j_pick_t rfl rfl (evo rfl)) ?_
   refine op_nil ?_
   refine a_tt rfl ?_
   refine a_seq ?_
   refine a_region (by kernel_rfl) ?_
   refine op_v' (j_assign (evo rfl)) ?_
   refine op_v' (j_assign (evo rfl)) ?_
   refine op_nil ?_
   refine a_adopt' 6 6 34 1 rfl fun v6 => ?_
   refine a_todeep 6 0 (.mk 34 1 [(0, (.mk 4 1 []))]) (zs := []) (zs' := []) rfl rfl rfl rfl eat_end rfl ?_
   refine a_ret ?_
   exact ⟨[.own 6 v6, .p _], .tup [.own 0 0, .p _], [], [.deep (.mk 34 1 [(0, (.mk 4 1 []))]) _ none], [(6, v6)], ⟨rfl, rfl, trivial⟩, rfl, rfl, ⟨⟨rfl, rfl⟩, trivial⟩, rfl, rfl, ⟨by have hb : brOk m i d = false := brOk_no (by first | exact .inl (by assumption) | exact .inr (.inl (by assumption)) | exact .inr (.inl (de_em (by assumption))) | exact .inr (.inr (.inl (by omega))) | exact .inr (.inr (.inr (by assumption)))); rw [hb], rfl, by have hb : brOk m i d = false := brOk_no (by first | exact .inl (by assumption) | exact .inr (.inl (by assumption)) | exact .inr (.inl (de_em (by assumption))) | exact .inr (.inr (.inl (by omega))) | exact .inr (.inr (.inr (by assumption)))); rw [bd_bad hb]; rfl⟩⟩
  ·
   have h2r := h2
   try simp only [nq, nr, nl, bstL_len, brD_len, brP_len] at h2
   refine op_v' (j_want rfl rfl h2r (j_loada_box (ys := [.sl _, .sl _]) agg26 rfl rfl rfl (Nat.le_of_ble_eq_true rfl))) ?_
   refine op_v' (j_want rfl rfl h2r (j_move (evo rfl))) ?_
   refine op_v0' (j_want rfl rfl h2r (j_call0 (v := .p _) (hp1 := []) [] false [] ent67 (f_isRule m i) ⟨.inl ⟨rfl, rfl⟩, .inl ⟨rfl, rfl⟩, trivial⟩ trivial rfl rfl (fun h => by cases h) rfl (fun _ h => by cases h) (.inl rfl) rfl rfl)) ?_
   refine op_v' (j_want rfl rfl h2r (j_not rfl)) ?_
   refine op_v' (j_pick_f rfl h2r (evo rfl)) ?_
   refine op_v' (j_move (evo rfl)) ?_
   refine op_split' 37 rfl (fun h3 => ?_) (fun h3 => ?_)
   ·
    have h3r := h3
    try simp only [nq, nr, nl, bstL_len, brD_len, brP_len] at h3
    refine op_v' (j_unwantV rfl rfl h3r) ?_
    refine op_v' (j_unwantV rfl rfl h3r) ?_
    refine op_v' (j_unwantV rfl rfl h3r) ?_
    refine op_v' (j_unwantV rfl rfl h3r) ?_
    refine op_v' (j_unwantV rfl rfl h3r) ?_
    refine op_v' (j_unwantV rfl rfl h3r) ?_
    refine op_v' (j_unwantV rfl rfl h3r) ?_
    refine op_v' (j_pick_t rfl h3r (evo rfl)) ?_
    refine op_nil ?_
    refine a_tt rfl ?_
    refine a_seq ?_
    refine a_region (by kernel_rfl) ?_
    refine op_v' (j_assign (evo rfl)) ?_
    refine op_v' (j_assign (evo rfl)) ?_
    refine op_nil ?_
    refine a_adopt' 6 6 34 1 rfl fun v6 => ?_
    refine a_todeep 6 0 (.mk 34 1 [(0, (.mk 4 1 []))]) (zs := []) (zs' := []) rfl rfl rfl rfl eat_end rfl ?_
    refine a_ret ?_
    exact ⟨[.own 6 v6, .p _], .tup [.own 0 0, .p _], [], [.deep (.mk 34 1 [(0, (.mk 4 1 []))]) _ none], [(6, v6)], ⟨rfl, rfl, trivial⟩, rfl, rfl, ⟨⟨rfl, rfl⟩, trivial⟩, rfl, rfl, ⟨by have hb : brOk m i d = false := brOk_no (by first | exact .inl (by assumption) | exact .inr (.inl (by assumption)) | exact .inr (.inl (de_em (by assumption))) | exact .inr (.inr (.inl (by omega))) | exact .inr (.inr (.inr (by assumption)))); rw [hb], rfl, by have hb : brOk m i d = false := brOk_no (by first | exact .inl (by assumption) | exact .inr (.inl (by assumption)) | exact .inr (.inl (de_em (by assumption))) | exact .inr (.inr (.inl (by omega))) | exact .inr (.inr (.inr (by assumption)))); rw [bd_bad hb]; rfl⟩⟩
   ·
    have h3r := h3
    try simp only [nq, nr, nl, bstL_len, brD_len, brP_len] at h3
    refine op_v' (j_want rfl rfl h3r (j_fldp fld26f1 rfl rfl)) ?_
    refine op_v' (j_want rfl rfl h3r (j_load_box leaf24 rfl rfl rfl)) ?_
    refine op_v' (j_want rfl rfl h3r (j_move (evo rfl))) ?_
    refine op_v' (j_want rfl rfl h3r (j_elemN (n := i.toNat) slt24 rfl rfl (by omega) (at_map (by first | omega | (simp only [nr, nl, bstL_len, brD_len, brP_len]; omega))) rfl)) ?_
    refine op_v' (j_want rfl rfl h3r (j_fldel fld43f0 rfl)) ?_
    refine op_v' (j_want rfl rfl h3r (j_load_el leaf3 rfl (at_map (by first | omega | (simp only [nr, nl, bstL_len, brD_len, brP_len]; omega))) rfl)) ?_
    refine op_v' (j_want rfl rfl h3r (j_ne rfl rfl)) ?_
    refine op_v' (j_pick_f rfl h3r (evo rfl)) ?_
    refine op_nil ?_
    refine a_cond rfl (fun h4 => ?_) (fun h4 => ?_)
    ·
     have h4r := h4
     try simp only [nq, nr, nl, bstL_len, brD_len, brP_len] at h4
     refine a_seq ?_
     refine a_region (by kernel_rfl) ?_
     refine op_v' (j_assign (evo rfl)) ?_
     refine op_v' (j_assign (evo rfl)) ?_
     refine op_nil ?_
     refine a_adopt' 6 6 34 1 rfl fun v6 => ?_
     refine a_todeep 6 0 (.mk 34 1 [(0, (.mk 4 1 []))]) (zs := []) (zs' := []) rfl rfl rfl rfl eat_end rfl ?_
     refine a_ret ?_
     exact ⟨[.own 6 v6, .p _], .tup [.own 0 0, .p _], [], [.deep (.mk 34 1 [(0, (.mk 4 1 []))]) _ none], [(6, v6)], ⟨rfl, rfl, trivial⟩, rfl, rfl, ⟨⟨rfl, rfl⟩, trivial⟩, rfl, rfl, ⟨by have hb : brOk m i d = false := brOk_no (by first | exact .inl (by assumption) | exact .inr (.inl (by assumption)) | exact .inr (.inl (de_em (by assumption))) | exact .inr (.inr (.inl (by omega))) | exact .inr (.inr (.inr (by assumption)))); rw [hb], rfl, by have hb : brOk m i d = false := brOk_no (by first | exact .inl (by assumption) | exact .inr (.inl (by assumption)) | exact .inr (.inl (de_em (by assumption))) | exact .inr (.inr (.inl (by omega))) | exact .inr (.inr (.inr (by assumption)))); rw [bd_bad hb]; rfl⟩⟩
    ·
     have h4r := h4
     try simp only [nq, nr, nl, bstL_len, brD_len, brP_len] at h4
     refine a_skip ?_
     refine a_seq ?_
     refine a_region (by kernel_rfl) ?_
     refine op_v' (j_fldp fld26f1 rfl rfl) ?_
     refine op_v' (j_load_box leaf24 rfl rfl rfl) ?_
     refine op_v' (j_move (evo rfl)) ?_
     refine op_v' (j_elemN (n := i.toNat) slt24 rfl rfl (by omega) (at_map (by first | omega | (simp only [nr, nl, bstL_len, brD_len, brP_len]; omega))) rfl) ?_
     refine op_v' (j_loada_el (ys := [.p _, .sl _, .sl _, .p _, .sl _]) agg43 rfl (at_map (by first | omega | (simp only [nr, nl, bstL_len, brD_len, brP_len]; omega))) rfl (Nat.le_refl _)) ?_
     refine op_n' (fun ver => j_alloc elt43 rfl) fun v8x2 => ?_
     refine op_s' (j_storea_box0 agg43 rfl rfl rfl rfl rfl rfl) ?_
     refine op_nil ?_
     refine a_seq ?_
     have hdp := dm_parts (show dmB m d = true by assumption)
     have hri : 0 ≤ i ∧ i < m.2.length := by omega
     have hk1 : (m.2.getD i.toNat default).1 = 1 := by assumption
     have hem : emB d = false := by first | assumption | exact de_no (by assumption) (by assumption)
     have hgd : brOk m i d = true := brOk_yes (by assumption) hem hri hk1
     have hq := mOk_rule hdp.1 (k := i.toNat) (by omega)
     generalize hqe : (m.2.getD i.toNat default) = q at hq hk1 ⊢
     have hln := rOk_lin hq hk1
     have hvs := rOk_vs hq
     have hfd := fits_at hdp.2
     have hrw := rows_le hdp.1 hdp.2
     have hfs := fits_sum hdp.1 hdp.2
     have hv5 := rOk_len hq hfd.1 (by omega)
     refine a_region (by kernel_rfl) ?_
     refine op_v' (j_assign (evo rfl)) ?_
     refine op_nil ?_
     refine a_adopt' 9 9 3 1 rfl fun v9 => ?_
     refine a_seq ?_
     refine a_region (by kernel_rfl) ?_
     refine op_v' (j_assign (evo rfl)) ?_
     refine op_nil ?_
     refine a_seq ?_
     refine a_seq ?_
     refine a_region (by kernel_rfl) ?_
     refine op_v' (j_fldp fld43f1 rfl rfl) ?_
     refine op_v' (j_load_box leaf23 rfl rfl rfl) ?_
     refine op_v' (j_len_map Try.underlying23 rfl) ?_
     refine op_v' (j_move (evo rfl)) ?_
     refine op_nil ?_
     refine a_block ?_
     refine a_loopF' (ι := Nat × Nat) (fun x => x.1 ≤ q.2.1.length) (fun x r => (54, .p (.int .i64 ((x.1 : Nat)))) :: (9, .own 9 x.2) :: (10, .p (.int .i64 (sumR (bstR q d) x.1))) :: r) (fun x r => (9, some (x.2, .row 3 1 ((bstL q d x.1).map dI))) :: r) (fun x => q.2.1.length - x.1) (fun _ _ => rfl) (fun _ _ => rfl) (0, v9) (by first | exact (Nat.zero_le _) | (dsimp only; exact (Nat.zero_le _))) ⟨⟨rfl, rfl⟩, ⟨rfl, rfl, rfl, trivial⟩, ⟨rfl, trivial⟩, ⟨rfl, rfl⟩, ⟨rfl, rfl⟩⟩ ?_
     rintro ⟨k, v⟩ hk; dsimp only at hk ⊢
     refine a_seq ?_
     refine a_region (by kernel_rfl) ?_
     refine op_v' (j_lt rfl rfl) ?_
     refine op_nil ?_
     refine a_seq ?_
     refine a_cond rfl (fun h5 => ?_) (fun h5 => ?_)
     ·
      have h5r := h5
      try simp only [nq, nr, nl, bstL_len, brD_len, brP_len] at h5
      refine a_skip ?_
      refine a_seq ?_
      refine a_block ?_
      refine a_seq ?_
      have hvk := hvs k (by omega)
      have hck := hln.2.2 k (by omega)
      have hr4 : (d.getD (q.2.1.getD k default).toNat default).length ≤ 4 := fits_row hdp.1 hdp.2
      have hrg := bst_rng (a := (q.2.2.1.getD k default)) (row := (d.getD (q.2.1.getD k default).toNat default)) hck hr4
      have hsr := sumR_rng (f := bstR q d) (b := 27) (n := k) (fun j hj => bst_rng (hln.2.2 j (by omega)) (fits_row hdp.1 hdp.2))
      refine a_region (by kernel_rfl) ?_
      refine op_v' (j_move (evo rfl)) ?_
      refine op_v' (j_elemN slt23 rfl rfl rfl (at_map (by first | omega | (simp only [nr, nl, bstL_len, brD_len, brP_len]; omega))) rfl) ?_
      refine op_v' (j_load_el leaf3 rfl (at_map (by first | omega | (simp only [nr, nl, bstL_len, brD_len, brP_len]; omega))) rfl) ?_
      refine op_v' (j_assign (evo rfl)) ?_
      refine op_v' (j_assign (evo rfl)) ?_
      refine op_nil ?_
      refine a_seq ?_
      refine a_region (by kernel_rfl) ?_
      refine op_v' (j_assign (evo rfl)) ?_
      refine op_v' (j_assign (evo rfl)) ?_
      refine op_nil ?_
      refine a_seq ?_
      refine a_seq ?_
      refine a_region (by kernel_rfl) ?_
      refine op_v' (j_move (evo rfl)) ?_
      refine op_v' (j_move (evo rfl)) ?_
      refine op_v' (j_elemN (n := (q.2.1.getD k default).toNat) slt28 rfl rfl (by omega) (at_map (by first | omega | (simp only [nr, nl, bstL_len, brD_len, brP_len]; omega))) rfl) ?_
      refine op_v' (j_load_el leaf34 rfl (at_map (by first | omega | (simp only [nr, nl, bstL_len, brD_len, brP_len]; omega))) rfl) ?_
      refine op_v' (j_len_map Try.underlying34 rfl) ?_
      refine op_v' (j_move (evo rfl)) ?_
      refine op_nil ?_
      refine a_block ?_
      refine a_loopF' (ι := Nat) (fun j => j ≤ (d.getD (q.2.1.getD k default).toNat default).length) (fun j r => (64, .p (.int .i64 ((j : Nat)))) :: (13, .p (.int .i64 ((bstN (q.2.2.1.getD k default) (d.getD (q.2.1.getD k default).toNat default) j).1))) :: (14, .p (.bool ((bstN (q.2.2.1.getD k default) (d.getD (q.2.1.getD k default).toNat default) j).2))) :: r) (fun j r => r) (fun j => (d.getD (q.2.1.getD k default).toNat default).length - j) (fun _ _ => rfl) (fun _ _ => rfl) 0 (Nat.zero_le _) ⟨⟨rfl, rfl⟩, ⟨rfl, rfl, rfl, trivial⟩, trivial, ⟨rfl, rfl⟩, ⟨rfl, rfl⟩⟩ ?_
      intro j hj
      refine a_seq ?_
      refine a_region (by kernel_rfl) ?_
      refine op_v' (j_lt rfl rfl) ?_
      refine op_nil ?_
      refine a_seq ?_
      refine a_cond rfl (fun h6 => ?_) (fun h6 => ?_)
      ·
       have h6r := h6
       try simp only [nq, nr, nl, bstL_len, brD_len, brP_len] at h6
       refine a_skip ?_
       refine a_seq ?_
       refine a_block ?_
       refine a_seq ?_
       refine a_region (by kernel_rfl) ?_
       refine op_v' (j_move (evo rfl)) ?_
       refine op_v' (j_elemN slt34 rfl rfl rfl (at_map (by first | omega | (simp only [nr, nl, bstL_len, brD_len, brP_len]; omega))) rfl) ?_
       refine op_v' (j_load_el leaf4 rfl (at_map (by first | omega | (simp only [nr, nl, bstL_len, brD_len, brP_len]; omega))) rfl) ?_
       refine op_v' (j_assign (evo rfl)) ?_
       refine op_v' (j_assign (evo rfl)) ?_
       refine op_nil ?_
       refine a_seq ?_
       have hja := mulR (n := 4) hck (v := j) (by omega) (by omega)
       have hrj := bst_rng (a := (q.2.2.1.getD k default)) (row := (d.getD (q.2.1.getD k default).toNat default)) (k := j) hck (by omega)
       refine a_region (by kernel_rfl) ?_
       refine op_v' (j_fldp fld43f2 rfl rfl) ?_
       refine op_v' (j_load_box leaf23 rfl rfl rfl) ?_
       refine op_v' (j_move (evo rfl)) ?_
       refine op_v' (j_elemN slt23 rfl rfl rfl (at_map (by first | omega | (simp only [nr, nl, bstL_len, brD_len, brP_len]; omega))) rfl) ?_
       refine op_v' (j_load_el leaf3 rfl (at_map (by first | omega | (simp only [nr, nl, bstL_len, brD_len, brP_len]; omega))) rfl) ?_
       refine op_v' (j_move (evo rfl)) ?_
       refine op_v' (j_mul rfl rfl (by first | omega | (simp only [nr, nl, bstL_len, brD_len, brP_len]; omega)) (by first | omega | (simp only [nr, nl, bstL_len, brD_len, brP_len]; omega))) ?_
       refine op_v' (j_assign (evo rfl)) ?_
       refine op_nil ?_
       refine a_seq ?_
       refine a_region (by kernel_rfl) ?_
       refine op_v' (j_move (evo rfl)) ?_
       refine op_v' (j_move (evo rfl)) ?_
       refine op_split' 77 rfl (fun h7 => ?_) (fun h7 => ?_)
       ·
        have h7r := h7
        try simp only [nq, nr, nl, bstL_len, brD_len, brP_len] at h7
        refine op_v' (j_want rfl rfl h7r (j_move (evo rfl))) ?_
        refine op_v' (j_want rfl rfl h7r (j_not rfl)) ?_
        refine op_v' (j_want rfl rfl h7r (j_move (evo rfl))) ?_
        refine op_split' 80 rfl (fun h8 => ?_) (fun h8 => ?_)
        ·
         have h8r := h8
         try simp only [nq, nr, nl, bstL_len, brD_len, brP_len] at h8
         refine op_v' (j_unwantV rfl rfl h8r) ?_
         refine op_v' (j_unwantV rfl rfl h8r) ?_
         refine op_v' (j_unwantV rfl rfl h8r) ?_
         refine op_v' (j_want rfl rfl h7r (j_pick_t rfl h8r (evo rfl))) ?_
         refine op_v' (j_pick_t rfl h7r (evo rfl)) ?_
         refine op_nil ?_
         refine a_tt rfl ?_
         refine a_region (by kernel_rfl) ?_
         refine op_v' (j_move (evo rfl)) ?_
         refine op_v' (j_assign (evo rfl)) ?_
         refine op_v' (j_assign (evo rfl)) ?_
         refine op_nil ?_
         refine a_region (by kernel_rfl) ?_
         refine op_v' (j_add rfl rfl (by first | omega | (simp only [nr, nl, bstL_len, brD_len, brP_len]; omega)) (by first | omega | (simp only [nr, nl, bstL_len, brD_len, brP_len]; omega))) ?_
         refine op_v' (j_move (evo rfl)) ?_
         refine op_nil ?_
         first | (have hbq := bst_yes (a := (q.2.2.1.getD k default)) (row := (d.getD (q.2.1.getD k default).toNat default)) (k := j) (by assumption) (by first | exact .inl (by assumption) | exact .inr (by omega))) | (have hbq := bst_no (a := (q.2.2.1.getD k default)) (row := (d.getD (q.2.1.getD k default).toNat default)) (k := j) (by first | exact .inl (by assumption) | exact .inr ⟨by assumption, by omega⟩))
         exact ⟨j + 1, (by first | omega | (simp only [nr, nl, bstL_len, brD_len, brP_len]; omega)), ⟨⟨rfl, rfl⟩, ⟨rfl, intEq (by rw [hbq]), boolEq (by rw [hbq]), trivial⟩, trivial, ⟨rfl, rfl⟩, ⟨rfl, rfl⟩⟩, (by first | omega | (simp only [nr, nl, bstL_len, brD_len, brP_len]; omega))⟩
        ·
         have h8r := h8
         try simp only [nq, nr, nl, bstL_len, brD_len, brP_len] at h8
         refine op_v' (j_want rfl rfl h8r (j_move (evo rfl))) ?_
         refine op_v' (j_want rfl rfl h8r (j_move (evo rfl))) ?_
         refine op_v' (j_want rfl rfl h8r (j_gt rfl rfl)) ?_
         refine op_v' (j_want rfl rfl h7r (j_pick_f rfl h8r (evo rfl))) ?_
         refine op_v' (j_pick_t rfl h7r (evo rfl)) ?_
         refine op_nil ?_
         refine a_cond rfl (fun h9 => ?_) (fun h9 => ?_)
         ·
          have h9r := h9
          try simp only [nq, nr, nl, bstL_len, brD_len, brP_len] at h9
          refine a_region (by kernel_rfl) ?_
          refine op_v' (j_move (evo rfl)) ?_
          refine op_v' (j_assign (evo rfl)) ?_
          refine op_v' (j_assign (evo rfl)) ?_
          refine op_nil ?_
          refine a_region (by kernel_rfl) ?_
          refine op_v' (j_add rfl rfl (by first | omega | (simp only [nr, nl, bstL_len, brD_len, brP_len]; omega)) (by first | omega | (simp only [nr, nl, bstL_len, brD_len, brP_len]; omega))) ?_
          refine op_v' (j_move (evo rfl)) ?_
          refine op_nil ?_
          first | (have hbq := bst_yes (a := (q.2.2.1.getD k default)) (row := (d.getD (q.2.1.getD k default).toNat default)) (k := j) (by assumption) (by first | exact .inl (by assumption) | exact .inr (by omega))) | (have hbq := bst_no (a := (q.2.2.1.getD k default)) (row := (d.getD (q.2.1.getD k default).toNat default)) (k := j) (by first | exact .inl (by assumption) | exact .inr ⟨by assumption, by omega⟩))
          exact ⟨j + 1, (by first | omega | (simp only [nr, nl, bstL_len, brD_len, brP_len]; omega)), ⟨⟨rfl, rfl⟩, ⟨rfl, intEq (by rw [hbq]), boolEq (by rw [hbq]), trivial⟩, trivial, ⟨rfl, rfl⟩, ⟨rfl, rfl⟩⟩, (by first | omega | (simp only [nr, nl, bstL_len, brD_len, brP_len]; omega))⟩
         ·
          have h9r := h9
          try simp only [nq, nr, nl, bstL_len, brD_len, brP_len] at h9
          refine a_skip ?_
          refine a_region (by kernel_rfl) ?_
          refine op_v' (j_add rfl rfl (by first | omega | (simp only [nr, nl, bstL_len, brD_len, brP_len]; omega)) (by first | omega | (simp only [nr, nl, bstL_len, brD_len, brP_len]; omega))) ?_
          refine op_v' (j_move (evo rfl)) ?_
          refine op_nil ?_
          first | (have hbq := bst_yes (a := (q.2.2.1.getD k default)) (row := (d.getD (q.2.1.getD k default).toNat default)) (k := j) (by assumption) (by first | exact .inl (by assumption) | exact .inr (by omega))) | (have hbq := bst_no (a := (q.2.2.1.getD k default)) (row := (d.getD (q.2.1.getD k default).toNat default)) (k := j) (by first | exact .inl (by assumption) | exact .inr ⟨by assumption, by omega⟩))
          exact ⟨j + 1, (by first | omega | (simp only [nr, nl, bstL_len, brD_len, brP_len]; omega)), ⟨⟨rfl, rfl⟩, ⟨rfl, intEq (by rw [hbq]), boolEq (by rw [hbq]), trivial⟩, trivial, ⟨rfl, rfl⟩, ⟨rfl, rfl⟩⟩, (by first | omega | (simp only [nr, nl, bstL_len, brD_len, brP_len]; omega))⟩
       ·
        have h7r := h7
        try simp only [nq, nr, nl, bstL_len, brD_len, brP_len] at h7
        refine op_v' (j_unwantV rfl rfl h7r) ?_
        refine op_v' (j_unwantV rfl rfl h7r) ?_
        refine op_v' (j_unwantV rfl rfl h7r) ?_
        refine op_v' (j_unwantU rfl rfl) ?_
        refine op_v' (j_unwantU rfl rfl) ?_
        refine op_v' (j_unwantU rfl rfl) ?_
        refine op_v' (j_unwantV rfl rfl h7r) ?_
        refine op_v' (j_pick_f rfl h7r (evo rfl)) ?_
        refine op_nil ?_
        refine a_ff rfl ?_
        refine a_skip ?_
        refine a_region (by kernel_rfl) ?_
        refine op_v' (j_add rfl rfl (by first | omega | (simp only [nr, nl, bstL_len, brD_len, brP_len]; omega)) (by first | omega | (simp only [nr, nl, bstL_len, brD_len, brP_len]; omega))) ?_
        refine op_v' (j_move (evo rfl)) ?_
        refine op_nil ?_
        first | (have hbq := bst_yes (a := (q.2.2.1.getD k default)) (row := (d.getD (q.2.1.getD k default).toNat default)) (k := j) (by assumption) (by first | exact .inl (by assumption) | exact .inr (by omega))) | (have hbq := bst_no (a := (q.2.2.1.getD k default)) (row := (d.getD (q.2.1.getD k default).toNat default)) (k := j) (by first | exact .inl (by assumption) | exact .inr ⟨by assumption, by omega⟩))
        exact ⟨j + 1, (by first | omega | (simp only [nr, nl, bstL_len, brD_len, brP_len]; omega)), ⟨⟨rfl, rfl⟩, ⟨rfl, intEq (by rw [hbq]), boolEq (by rw [hbq]), trivial⟩, trivial, ⟨rfl, rfl⟩, ⟨rfl, rfl⟩⟩, (by first | omega | (simp only [nr, nl, bstL_len, brD_len, brP_len]; omega))⟩
      ·
       have h6r := h6
       try simp only [nq, nr, nl, bstL_len, brD_len, brP_len] at h6
       refine a_exit ?_
       refine a_seq ?_
       obtain rfl : j = (d.getD (q.2.1.getD k default).toNat default).length := by omega
       refine a_region (by kernel_rfl) ?_
       refine op_v' (j_move (evo rfl)) ?_
       refine op_v' (j_move (evo rfl)) ?_
       refine op_n' (fun ver => j_buildSlice (parts := [(0, .tmp 89)]) (es := [[_]]) slt23 elt3 rfl rfl (by decide) (by decide) rfl rfl (by simp) rfl) fun v90x3 => ?_
       refine op_n' (fun ver => j_append_own slt23 elt3 rfl rfl rfl rfl rfl rfl (by rw [maxLen_eq]; first | omega | (simp only [nr, nl, bstL_len, brD_len, brP_len]; omega)) (by first | omega | (simp only [nr, nl, bstL_len, brD_len, brP_len]; omega))) fun v9x4 => ?_
       refine op_v' (j_assign (evo rfl)) ?_
       refine op_nil ?_
       refine a_region (by kernel_rfl) ?_
       refine op_v' (j_move (evo rfl)) ?_
       refine op_v' (j_move (evo rfl)) ?_
       refine op_v' (j_add rfl rfl (by first | omega | (simp only [nr, nl, bstL_len, brD_len, brP_len]; omega)) (by first | omega | (simp only [nr, nl, bstL_len, brD_len, brP_len]; omega))) ?_
       refine op_v' (j_assign (evo rfl)) ?_
       refine op_nil ?_
       refine a_region (by kernel_rfl) ?_
       refine op_v' (j_add rfl rfl (by first | omega | (simp only [nr, nl, bstL_len, brD_len, brP_len]; omega)) (by first | omega | (simp only [nr, nl, bstL_len, brD_len, brP_len]; omega))) ?_
       refine op_v' (j_move (evo rfl)) ?_
       refine op_nil ?_
       exact ⟨(k + 1, v9x4), (by first | exact (by first | omega | (simp only [nr, nl, bstL_len, brD_len, brP_len]; omega)) | (dsimp only; exact (by first | omega | (simp only [nr, nl, bstL_len, brD_len, brP_len]; omega)))), ⟨⟨rfl, rfl⟩, ⟨rfl, rfl, rfl, trivial⟩, ⟨rowEq (by rw [bstL_next, List.map_append]; rfl), trivial⟩, ⟨rfl, rfl⟩, ⟨rfl, rfl⟩⟩, (by first | exact (by first | omega | (simp only [nr, nl, bstL_len, brD_len, brP_len]; omega)) | (dsimp only; exact (by first | omega | (simp only [nr, nl, bstL_len, brD_len, brP_len]; omega))))⟩
     ·
      have h5r := h5
      try simp only [nq, nr, nl, bstL_len, brD_len, brP_len] at h5
      refine a_exit ?_
      refine a_seq ?_
      obtain rfl : k = q.2.1.length := by omega
      refine a_region (by kernel_rfl) ?_
      refine op_v' (j_move (evo rfl)) ?_
      refine op_n1' (fun ver => j_call1 (v := .own 97 ver) (hp1 := [(97, some (ver, .deep (.mk 34 1 [(0, (.mk 4 1 []))]) _ none))]) [] false [] ent79 (f_ownD d (by omega) hrw) ⟨.inl ⟨rfl, rfl⟩, trivial⟩ trivial rfl rfl rfl (fun h => by cases h) rfl (List.all_eq_true.1 rfl) (.inl rfl) rfl rfl) fun v97x5 => ?_
      refine op_v' (j_assign (evo rfl)) ?_
      refine op_nil ?_
      refine a_seq ?_
      refine a_seq ?_
      refine a_region (by kernel_rfl) ?_
      refine op_v' (j_fldp fld43f1 rfl rfl) ?_
      refine op_v' (j_load_box leaf23 rfl rfl rfl) ?_
      refine op_v' (j_len_map Try.underlying23 rfl) ?_
      refine op_v' (j_move (evo rfl)) ?_
      refine op_nil ?_
      refine a_block ?_
      refine a_loopF' (ι := Nat) (fun k => k ≤ q.2.1.length) (fun k r => (101, .p (.int .i64 ((k : Nat)))) :: r) (fun k r => (97, some (v97x5, .deep (.mk 34 1 [(0, .mk 4 1 [])]) (((brD q d k)).map dD) none)) :: r) (fun k => q.2.1.length - k) (fun _ _ => rfl) (fun _ _ => rfl) 0 (by first | omega | (simp only [nr, nl, bstL_len, brD_len, brP_len]; omega)) ⟨⟨rfl, rfl⟩, ⟨rfl, trivial⟩, ⟨rfl, trivial⟩, ⟨rfl, rfl⟩, ⟨rfl, rfl⟩⟩ ?_
      intro k hpre2
      refine a_seq ?_
      refine a_region (by kernel_rfl) ?_
      refine op_v' (j_lt rfl rfl) ?_
      refine op_nil ?_
      refine a_seq ?_
      refine a_cond rfl (fun h10 => ?_) (fun h10 => ?_)
      ·
       have h10r := h10
       try simp only [nq, nr, nl, bstL_len, brD_len, brP_len] at h10
       refine a_skip ?_
       refine a_seq ?_
       refine a_block ?_
       refine a_seq ?_
       have hvk := hvs k (by omega)
       have hck := hln.2.2 k (by omega)
       have hr4 : (d.getD (q.2.1.getD k default).toNat default).length ≤ 4 := fits_row hdp.1 hdp.2
       have hrg := bst_rng (a := (q.2.2.1.getD k default)) (row := (d.getD (q.2.1.getD k default).toNat default)) hck hr4
       have hsr := sumR_rng (f := bstR q d) (b := 27) (n := k) (fun j hj => bst_rng (hln.2.2 j (by omega)) (fits_row hdp.1 hdp.2))
       have htr := sumR_rng (f := bstR q d) (b := 27) (n := q.2.1.length) (fun j hj => bst_rng (hln.2.2 j (by omega)) (fits_row hdp.1 hdp.2))
       have htt : totR q d = sumR (bstR q d) q.2.1.length := rfl
       have hbd := brD_len (r := q) (d := d) (i := k)
       have hbr : (brD q d k).getD (q.2.1.getD k default).toNat default = d.getD (q.2.1.getD k default).toNat default := brD_row hq (by omega) (by omega) (fun j hj => vs_ne hq (by omega) hj)
       refine a_region (by kernel_rfl) ?_
       refine op_v' (j_move (evo rfl)) ?_
       refine op_v' (j_elemN slt23 rfl rfl rfl (at_map (by first | omega | (simp only [nr, nl, bstL_len, brD_len, brP_len]; omega))) rfl) ?_
       refine op_v' (j_load_el leaf3 rfl (at_map (by first | omega | (simp only [nr, nl, bstL_len, brD_len, brP_len]; omega))) rfl) ?_
       refine op_v' (j_assign (evo rfl)) ?_
       refine op_v' (j_assign (evo rfl)) ?_
       refine op_nil ?_
       refine a_seq ?_
       refine a_region (by kernel_rfl) ?_
       refine op_v' (j_move (evo rfl)) ?_
       refine op_v' (j_move (evo rfl)) ?_
       refine op_v' (j_elem_deepN (n := (q.2.1.getD k default).toNat) slt28 rfl rfl rfl rfl (by omega) (by first | omega | (simp only [nr, nl, bstL_len, brD_len, brP_len]; omega))) ?_
       refine op_n1' (fun ver => j_out leaf34 (by decide) rfl rfl rfl (at_map (by first | omega | (simp only [nr, nl, bstL_len, brD_len, brP_len]; omega))) rfl rfl) fun v109x6 => ?_
       refine op_v' (j_len_own_map Try.underlying34 rfl rfl) ?_
       refine op_v' (j_move (evo rfl)) ?_
       refine op_nil ?_
       refine a_back 97 109 (by decide) rfl rfl rfl rfl (at_map (by first | omega | (simp only [nr, nl, bstL_len, brD_len, brP_len]; omega))) (set_same dD (brD q d k) (q.2.1.getD k default).toNat) ?_
       rw [hbr]
       refine a_block ?_
       refine a_loopF' (ι := Nat) (fun j => j ≤ (d.getD (q.2.1.getD k default).toNat default).length) (fun j r => (111, .p (.int .i64 ((j : Nat)))) :: r) (fun j r => (97, some (v97x5, .deep (.mk 34 1 [(0, .mk 4 1 [])]) (((brD q d k).set (q.2.1.getD k default).toNat (brP (totR q d - bstR q d k) (q.2.2.1.getD k default) q.2.2.2.1 (d.getD (q.2.1.getD k default).toNat default) j)).map dD) none)) :: r) (fun j => (d.getD (q.2.1.getD k default).toNat default).length - j) (fun _ _ => rfl) (fun _ _ => rfl) 0 (Nat.zero_le _) ⟨⟨rfl, rfl⟩, ⟨rfl, trivial⟩, ⟨deepEq (by rw [show (brP (totR q d - bstR q d k) (q.2.2.1.getD k default) q.2.2.2.1 (d.getD (q.2.1.getD k default).toNat default) 0) = (brD q d k).getD (q.2.1.getD k default).toNat default from hbr.symm, set_selfL]), trivial⟩, ⟨rfl, rfl⟩, ⟨rfl, rfl⟩⟩ ?_
       intro j hj
       refine a_seq ?_
       refine a_region (by kernel_rfl) ?_
       refine op_v' (j_lt rfl rfl) ?_
       refine op_nil ?_
       refine a_seq ?_
       refine a_cond rfl (fun h11 => ?_) (fun h11 => ?_)
       ·
        have h11r := h11
        try simp only [nq, nr, nl, bstL_len, brD_len, brP_len] at h11
        refine a_skip ?_
        refine a_seq ?_
        refine a_block ?_
        refine a_seq ?_
        refine a_region (by kernel_rfl) ?_
        refine op_v' (j_move (evo rfl)) ?_
        refine op_v' (j_assign (evo rfl)) ?_
        refine op_nil ?_
        refine a_seq ?_
        have hja := mulR (n := 4) hck (v := j) (by omega) (by omega)
        have hba := bstL_at (r := q) (d := d) (n := q.2.1.length) (k := k) (by omega)
        have hbb : bstR q d k = (bstN (q.2.2.1.getD k default) (d.getD (q.2.1.getD k default).toNat default) (d.getD (q.2.1.getD k default).toNat default).length).1 := rfl
        refine a_draw mixed (by kernel_rfl) (by kernel_rfl) fun vf => ?_
        refine d_v' (j_move (evo rfl)) ?_
        refine d_v' (j_move (evo rfl)) ?_
        refine d_v' (j_move (evo rfl)) ?_
        refine d_v' (j_elem_ownN slt23 rfl rfl rfl rfl (by first | omega | (simp only [nr, nl, bstL_len, brD_len, brP_len]; omega))) ?_
        refine d_v' (j_load_pel leaf3 rfl rfl (at_map (by first | omega | (simp only [nr, nl, bstL_len, brD_len, brP_len]; omega))) rfl) ?_
        refine d_v' (j_sub rfl rfl (by first | omega | (simp only [nr, nl, bstL_len, brD_len, brP_len]; omega)) (by first | omega | (simp only [nr, nl, bstL_len, brD_len, brP_len]; omega))) ?_
        refine d_v' (j_fldp fld43f2 rfl rfl) ?_
        refine d_v' (j_load_box leaf23 rfl rfl rfl) ?_
        refine d_v' (j_move (evo rfl)) ?_
        refine d_v' (j_elemN slt23 rfl rfl rfl (at_map (by first | omega | (simp only [nr, nl, bstL_len, brD_len, brP_len]; omega))) rfl) ?_
        refine d_v' (j_load_el leaf3 rfl (at_map (by first | omega | (simp only [nr, nl, bstL_len, brD_len, brP_len]; omega))) rfl) ?_
        refine d_v' (j_move (evo rfl)) ?_
        refine d_v' (j_mul rfl rfl (by first | omega | (simp only [nr, nl, bstL_len, brD_len, brP_len]; omega)) (by first | omega | (simp only [nr, nl, bstL_len, brD_len, brP_len]; omega))) ?_
        refine d_v' (j_add rfl rfl (by first | omega | (simp only [nr, nl, bstL_len, brD_len, brP_len]; omega)) (by first | omega | (simp only [nr, nl, bstL_len, brD_len, brP_len]; omega))) ?_
        refine d_v' (j_fldp fld43f3 rfl rfl) ?_
        refine d_v' (j_load_box leaf3 rfl rfl rfl) ?_
        refine d_v' (j_lt rfl rfl) ?_
        refine d_nil (by kernel_rfl) (by kernel_rfl) ?_
        refine a_cond rfl (fun h12 => ?_) (fun h12 => ?_)
        ·
         have h12r := h12
         try simp only [nq, nr, nl, bstL_len, brD_len, brP_len] at h12
         have hbl : (brP (totR q d - bstR q d k) (q.2.2.1.getD k default) q.2.2.2.1 (d.getD (q.2.1.getD k default).toNat default) j).length = (d.getD (q.2.1.getD k default).toNat default).length := brP_len
         refine a_region (by kernel_rfl) ?_
         refine op_v' (j_move (evo rfl)) ?_
         refine op_v' (j_move (evo rfl)) ?_
         refine op_v' (j_elem_deepN (n := (q.2.1.getD k default).toNat) slt28 rfl rfl rfl rfl (by omega) (by first | omega | (simp only [nr, nl, bstL_len, brD_len, brP_len]; omega))) ?_
         refine op_n1' (fun ver => j_out leaf34 (by decide) rfl rfl rfl (ms_at (by rw [brD_len]; omega)) rfl rfl) fun v134x7 => ?_
         refine op_v' (j_move (evo rfl)) ?_
         refine op_v' (j_elem_ownN slt34 rfl rfl rfl rfl (by first | omega | (simp only [nr, nl, bstL_len, brD_len, brP_len]; omega))) ?_
         refine op_s' (j_store_row leaf4 rfl rfl (by first | omega | (simp only [nr, nl, bstL_len, brD_len, brP_len]; omega)) (evo rfl) rfl rfl) ?_
         refine op_nil ?_
         refine a_back 97 134 (by decide) rfl rfl rfl rfl (ms_at (by rw [brD_len]; omega)) (ms_set (y := (brP (totR q d - bstR q d k) (q.2.2.1.getD k default) q.2.2.2.1 (d.getD (q.2.1.getD k default).toNat default) j).set j false) (by show [V.sl (List.set _ j _)] = [V.sl (List.map dB (List.set _ j false))]; rw [List.map_set]; rfl)) ?_
         refine a_region (by kernel_rfl) ?_
         refine op_v' (j_add rfl rfl (by first | omega | (simp only [nr, nl, bstL_len, brD_len, brP_len]; omega)) (by first | omega | (simp only [nr, nl, bstL_len, brD_len, brP_len]; omega))) ?_
         refine op_v' (j_move (evo rfl)) ?_
         refine op_nil ?_
         exact ⟨j + 1, (by first | omega | (simp only [nr, nl, bstL_len, brD_len, brP_len]; omega)), ⟨⟨rfl, rfl⟩, ⟨rfl, trivial⟩, ⟨deepEq (by rw [brP_drop (by omega)]), trivial⟩, ⟨rfl, rfl⟩, ⟨rfl, rfl⟩⟩, (by first | omega | (simp only [nr, nl, bstL_len, brD_len, brP_len]; omega))⟩
        ·
         have h12r := h12
         try simp only [nq, nr, nl, bstL_len, brD_len, brP_len] at h12
         refine a_skip ?_
         refine a_region (by kernel_rfl) ?_
         refine op_v' (j_add rfl rfl (by first | omega | (simp only [nr, nl, bstL_len, brD_len, brP_len]; omega)) (by first | omega | (simp only [nr, nl, bstL_len, brD_len, brP_len]; omega))) ?_
         refine op_v' (j_move (evo rfl)) ?_
         refine op_nil ?_
         exact ⟨j + 1, (by first | omega | (simp only [nr, nl, bstL_len, brD_len, brP_len]; omega)), ⟨⟨rfl, rfl⟩, ⟨rfl, trivial⟩, ⟨deepEq (by rw [brP_keep (by omega) (by omega)]), trivial⟩, ⟨rfl, rfl⟩, ⟨rfl, rfl⟩⟩, (by first | omega | (simp only [nr, nl, bstL_len, brD_len, brP_len]; omega))⟩
       ·
        have h11r := h11
        try simp only [nq, nr, nl, bstL_len, brD_len, brP_len] at h11
        refine a_exit ?_
        obtain rfl : j = (d.getD (q.2.1.getD k default).toNat default).length := by omega
        refine a_region (by kernel_rfl) ?_
        refine op_v' (j_add rfl rfl (by first | omega | (simp only [nr, nl, bstL_len, brD_len, brP_len]; omega)) (by first | omega | (simp only [nr, nl, bstL_len, brD_len, brP_len]; omega))) ?_
        refine op_v' (j_move (evo rfl)) ?_
        refine op_nil ?_
        exact ⟨k + 1, (by first | omega | (simp only [nr, nl, bstL_len, brD_len, brP_len]; omega)), ⟨⟨rfl, rfl⟩, ⟨rfl, trivial⟩, ⟨rfl, trivial⟩, ⟨rfl, rfl⟩, ⟨rfl, rfl⟩⟩, (by first | omega | (simp only [nr, nl, bstL_len, brD_len, brP_len]; omega))⟩
      ·
       have h10r := h10
       try simp only [nq, nr, nl, bstL_len, brD_len, brP_len] at h10
       refine a_exit ?_
       refine a_seq ?_
       refine a_region (by kernel_rfl) ?_
       refine op_v' (j_move (evo rfl)) ?_
       refine op_v' (j_assign (evo rfl)) ?_
       refine op_v' (j_assign (evo rfl)) ?_
       refine op_nil ?_
       refine a_ret ?_
       exact ⟨[.own 97 v97x5, .p _], .tup [.own 0 0, .p _], [], [.deep (.mk 34 1 [(0, (.mk 4 1 []))]) _ none], [(97, v97x5)], ⟨rfl, rfl, trivial⟩, rfl, rfl, ⟨⟨rfl, rfl⟩, trivial⟩, rfl, rfl, ⟨by rw [hgd], rfl, by rw [bd_ok hgd, hqe, show k = q.2.1.length by omega]⟩⟩


theorem f_l8Best (a : Int) (row : List Bool) (ha : -9 ≤ a ∧ a ≤ 9) (hr : row.length ≤ 4) : Fn Try.prog 81 [.p (.int .i64 (a)), .sl (row.map dB)] [] (fun rr ii nn => rr = .p (.int .i64 ((bstN a row row.length).1)) ∧ ii = [] ∧ nn = []) := by
 refine fn_of Try.func81 rfl (Nat.le_of_ble_eq_true rfl) fun w X g => ?_
 show AWp _ _ _ ⟨[(0, .p (.int .i64 (a))), (1, .sl (row.map dB))], []⟩
 refine a_seq ?_
 refine a_region (by kernel_rfl) ?_
 refine op_v' (j_assign (evo rfl)) ?_
 refine op_nil ?_
 refine a_seq ?_
 refine a_region (by kernel_rfl) ?_
 refine op_v' (j_assign (evo rfl)) ?_
 refine op_nil ?_
 refine a_seq ?_
 refine a_region (by kernel_rfl) ?_
 refine op_v' (j_assign (evo rfl)) ?_
 refine op_nil ?_
 refine a_seq ?_
 refine a_seq ?_
 refine a_region (by kernel_rfl) ?_
 refine op_v' (j_assign (evo rfl)) ?_
 refine op_nil ?_
 refine a_block ?_
 refine a_loopF' (ι := Nat) (fun j => j ≤ row.length) (fun j r => (7, .p (.int .i64 ((j : Nat)))) :: (5, .p (.int .i64 ((bstN a row j).1))) :: (6, .p (.bool ((bstN a row j).2))) :: r) (fun j r => r) (fun j => row.length - j) (fun _ _ => rfl) (fun _ _ => rfl) 0 (Nat.zero_le _) ⟨⟨rfl, rfl⟩, ⟨rfl, rfl, rfl, trivial⟩, trivial, ⟨rfl, rfl⟩, ⟨rfl, rfl⟩⟩ ?_
 intro j hj
 refine a_seq ?_
 refine a_seq ?_
 refine a_region (by kernel_rfl) ?_
 refine op_v' (j_move (evo rfl)) ?_
 refine op_v' (j_move (evo rfl)) ?_
 refine op_v' (j_len_map Try.underlying34 rfl) ?_
 refine op_v' (j_lt rfl rfl) ?_
 refine op_nil ?_
 refine a_cond rfl (fun h1 => ?_) (fun h1 => ?_)
 ·
  have h1r := h1
  try simp only [nq, nr] at h1
  refine a_skip ?_
  refine a_seq ?_
  refine a_block ?_
  refine a_seq ?_
  have hja := mulR (n := 4) ha (v := j) (by omega) (by omega)
  refine a_region (by kernel_rfl) ?_
  refine op_v' (j_move (evo rfl)) ?_
  refine op_v' (j_move (evo rfl)) ?_
  refine op_v' (j_elemN slt34 rfl rfl rfl (at_map (by first | omega | (simp only [nr]; omega))) rfl) ?_
  refine op_v' (j_load_el leaf4 rfl (at_map (by first | omega | (simp only [nr]; omega))) rfl) ?_
  refine op_v' (j_move (evo rfl)) ?_
  refine op_split' 18 rfl (fun h2 => ?_) (fun h2 => ?_)
  ·
   have h2r := h2
   try simp only [nq, nr] at h2
   refine op_v' (j_want rfl rfl h2r (j_move (evo rfl))) ?_
   refine op_v' (j_want rfl rfl h2r (j_not rfl)) ?_
   refine op_v' (j_want rfl rfl h2r (j_move (evo rfl))) ?_
   refine op_split' 21 rfl (fun h3 => ?_) (fun h3 => ?_)
   ·
    have h3r := h3
    try simp only [nq, nr] at h3
    refine op_v' (j_unwantV rfl rfl h3r) ?_
    refine op_v' (j_unwantV rfl rfl h3r) ?_
    refine op_v' (j_unwantV rfl rfl h3r) ?_
    refine op_v' (j_unwantV rfl rfl h3r) ?_
    refine op_v' (j_unwantV rfl rfl h3r) ?_
    refine op_v' (j_want rfl rfl h2r (j_pick_t rfl h3r (evo rfl))) ?_
    refine op_v' (j_pick_t rfl h2r (evo rfl)) ?_
    refine op_nil ?_
    refine a_tt rfl ?_
    refine a_seq ?_
    refine a_region (by kernel_rfl) ?_
    refine op_v' (j_move (evo rfl)) ?_
    refine op_v' (j_move (evo rfl)) ?_
    refine op_v' (j_mul rfl rfl (by first | omega | (simp only [nr]; omega)) (by first | omega | (simp only [nr]; omega))) ?_
    refine op_v' (j_assign (evo rfl)) ?_
    refine op_nil ?_
    refine a_region (by kernel_rfl) ?_
    refine op_v' (j_assign (evo rfl)) ?_
    refine op_nil ?_
    refine a_region (by kernel_rfl) ?_
    refine op_v' (j_move (evo rfl)) ?_
    refine op_v' (j_add rfl rfl (by first | omega | (simp only [nr]; omega)) (by first | omega | (simp only [nr]; omega))) ?_
    refine op_v' (j_assign (evo rfl)) ?_
    refine op_nil ?_
    first | (have hbq := bst_yes (a := a) (row := row) (k := j) (by assumption) (by first | exact .inl (by assumption) | exact .inr (by omega))) | (have hbq := bst_no (a := a) (row := row) (k := j) (by first | exact .inl (by assumption) | exact .inr ⟨by assumption, by omega⟩))
    exact ⟨j + 1, (by first | omega | (simp only [nr]; omega)), ⟨⟨rfl, rfl⟩, ⟨rfl, intEq (by rw [hbq]), boolEq (by rw [hbq]), trivial⟩, trivial, ⟨rfl, rfl⟩, ⟨rfl, rfl⟩⟩, (by first | omega | (simp only [nr]; omega))⟩
   ·
    have h3r := h3
    try simp only [nq, nr] at h3
    refine op_v' (j_want rfl rfl h3r (j_move (evo rfl))) ?_
    refine op_v' (j_want rfl rfl h3r (j_move (evo rfl))) ?_
    refine op_v' (j_want rfl rfl h3r (j_mul rfl rfl (by first | omega | (simp only [nr]; omega)) (by first | omega | (simp only [nr]; omega)))) ?_
    refine op_v' (j_want rfl rfl h3r (j_move (evo rfl))) ?_
    refine op_v' (j_want rfl rfl h3r (j_gt rfl rfl)) ?_
    refine op_v' (j_want rfl rfl h2r (j_pick_f rfl h3r (evo rfl))) ?_
    refine op_v' (j_pick_t rfl h2r (evo rfl)) ?_
    refine op_nil ?_
    refine a_cond rfl (fun h4 => ?_) (fun h4 => ?_)
    ·
     have h4r := h4
     try simp only [nq, nr] at h4
     refine a_seq ?_
     refine a_region (by kernel_rfl) ?_
     refine op_v' (j_move (evo rfl)) ?_
     refine op_v' (j_move (evo rfl)) ?_
     refine op_v' (j_mul rfl rfl (by first | omega | (simp only [nr]; omega)) (by first | omega | (simp only [nr]; omega))) ?_
     refine op_v' (j_assign (evo rfl)) ?_
     refine op_nil ?_
     refine a_region (by kernel_rfl) ?_
     refine op_v' (j_assign (evo rfl)) ?_
     refine op_nil ?_
     refine a_region (by kernel_rfl) ?_
     refine op_v' (j_move (evo rfl)) ?_
     refine op_v' (j_add rfl rfl (by first | omega | (simp only [nr]; omega)) (by first | omega | (simp only [nr]; omega))) ?_
     refine op_v' (j_assign (evo rfl)) ?_
     refine op_nil ?_
     first | (have hbq := bst_yes (a := a) (row := row) (k := j) (by assumption) (by first | exact .inl (by assumption) | exact .inr (by omega))) | (have hbq := bst_no (a := a) (row := row) (k := j) (by first | exact .inl (by assumption) | exact .inr ⟨by assumption, by omega⟩))
     exact ⟨j + 1, (by first | omega | (simp only [nr]; omega)), ⟨⟨rfl, rfl⟩, ⟨rfl, intEq (by rw [hbq]), boolEq (by rw [hbq]), trivial⟩, trivial, ⟨rfl, rfl⟩, ⟨rfl, rfl⟩⟩, (by first | omega | (simp only [nr]; omega))⟩
    ·
     have h4r := h4
     try simp only [nq, nr] at h4
     refine a_skip ?_
     refine a_region (by kernel_rfl) ?_
     refine op_v' (j_move (evo rfl)) ?_
     refine op_v' (j_add rfl rfl (by first | omega | (simp only [nr]; omega)) (by first | omega | (simp only [nr]; omega))) ?_
     refine op_v' (j_assign (evo rfl)) ?_
     refine op_nil ?_
     first | (have hbq := bst_yes (a := a) (row := row) (k := j) (by assumption) (by first | exact .inl (by assumption) | exact .inr (by omega))) | (have hbq := bst_no (a := a) (row := row) (k := j) (by first | exact .inl (by assumption) | exact .inr ⟨by assumption, by omega⟩))
     exact ⟨j + 1, (by first | omega | (simp only [nr]; omega)), ⟨⟨rfl, rfl⟩, ⟨rfl, intEq (by rw [hbq]), boolEq (by rw [hbq]), trivial⟩, trivial, ⟨rfl, rfl⟩, ⟨rfl, rfl⟩⟩, (by first | omega | (simp only [nr]; omega))⟩
  ·
   have h2r := h2
   try simp only [nq, nr] at h2
   refine op_v' (j_unwantV rfl rfl h2r) ?_
   refine op_v' (j_unwantV rfl rfl h2r) ?_
   refine op_v' (j_unwantV rfl rfl h2r) ?_
   refine op_v' (j_unwantU rfl rfl) ?_
   refine op_v' (j_unwantU rfl rfl) ?_
   refine op_v' (j_unwantU rfl rfl) ?_
   refine op_v' (j_unwantU rfl rfl) ?_
   refine op_v' (j_unwantU rfl rfl) ?_
   refine op_v' (j_unwantV rfl rfl h2r) ?_
   refine op_v' (j_pick_f rfl h2r (evo rfl)) ?_
   refine op_nil ?_
   refine a_ff rfl ?_
   refine a_skip ?_
   refine a_region (by kernel_rfl) ?_
   refine op_v' (j_move (evo rfl)) ?_
   refine op_v' (j_add rfl rfl (by first | omega | (simp only [nr]; omega)) (by first | omega | (simp only [nr]; omega))) ?_
   refine op_v' (j_assign (evo rfl)) ?_
   refine op_nil ?_
   first | (have hbq := bst_yes (a := a) (row := row) (k := j) (by assumption) (by first | exact .inl (by assumption) | exact .inr (by omega))) | (have hbq := bst_no (a := a) (row := row) (k := j) (by first | exact .inl (by assumption) | exact .inr ⟨by assumption, by omega⟩))
   exact ⟨j + 1, (by first | omega | (simp only [nr]; omega)), ⟨⟨rfl, rfl⟩, ⟨rfl, intEq (by rw [hbq]), boolEq (by rw [hbq]), trivial⟩, trivial, ⟨rfl, rfl⟩, ⟨rfl, rfl⟩⟩, (by first | omega | (simp only [nr]; omega))⟩
 ·
  have h1r := h1
  try simp only [nq, nr] at h1
  refine a_exit ?_
  refine a_seq ?_
  refine a_region (by kernel_rfl) ?_
  refine op_v' (j_move (evo rfl)) ?_
  refine op_v' (j_assign (evo rfl)) ?_
  refine op_nil ?_
  refine a_ret ?_
  exact ⟨[.p _], .p _, [], [], [], ⟨rfl, trivial⟩, rfl, rfl, trivial, rfl, rfl, ⟨intEq (by rw [show row.length = j by omega]), rfl, rfl⟩⟩


theorem f_brSpec (m : Md) (i : Int) (d : List (List Bool)) : Fn Try.prog 31 [.agg [.sl (m.1.map dI), .sl (m.2.map dR)], .p (.int .i64 (i)), .sl (d.map dD)] [] (fun rr ii nn => rr = .tup [.sl ((bdD m i d).map dD), .p (.bool (brOk m i d))] ∧ ii = [] ∧ nn = []) := by
 refine fn_of Try.func31 rfl (Nat.le_of_ble_eq_true rfl) fun w X g => ?_
 show AWp _ _ _ ⟨[(0, .agg [.sl (m.1.map dI), .sl (m.2.map dR)]), (1, .p (.int .i64 (i))), (2, .sl (d.map dD))], []⟩
 refine a_len_rule 0 rfl fun hlr => ?_
 refine a_seq ?_
 refine a_region (by kernel_rfl) ?_
 refine op_n' (fun ver => j_boxa rfl) fun v3x1 => ?_
 refine op_v' (j_assign (evo rfl)) ?_
 refine op_v' (j_assign (evo rfl)) ?_
 refine op_nil ?_
 refine a_seq ?_
 refine a_seq ?_
 refine a_region (by kernel_rfl) ?_
 refine op_v' (j_loada_box (ys := [.sl _, .sl _]) agg26 rfl rfl rfl (Nat.le_of_ble_eq_true rfl)) ?_
 refine op_v' (j_move (evo rfl)) ?_
 refine op_v0' (j_call0 (v := .p _) (hp1 := []) [] false [] ent70 (f_dvSpec m d) ⟨.inl ⟨rfl, rfl⟩, .inl ⟨rfl, rfl⟩, trivial⟩ trivial rfl rfl (fun h => by cases h) rfl (fun _ h => by cases h) (.inl rfl) rfl rfl) ?_
 refine op_v' (j_not rfl) ?_
 refine op_v' (j_move (evo rfl)) ?_
 refine op_split' 20 rfl (fun h1 => ?_) (fun h1 => ?_)
 ·
  have h1r := h1
  try simp only [nq, nr, nl, bstL_len, brD_len, brP_len] at h1
  refine op_v' (j_unwantV rfl rfl h1r) ?_
  refine op_v' (j_unwantV rfl rfl h1r) ?_
  refine op_v' (j_pick_t rfl h1r (evo rfl)) ?_
  refine op_v' (j_move (evo rfl)) ?_
  refine op_v' (j_unwantV rfl rfl rfl) ?_
  refine op_v' (j_unwantV rfl rfl rfl) ?_
  refine op_v' (j_unwantV rfl rfl rfl) ?_
  refine op_v' (j_unwantV rfl rfl rfl) ?_
  refine op_v' (j_unwantV rfl rfl rfl) ?_
  refine op_v' (j_pick_t rfl rfl (evo rfl)) ?_
  refine op_v' (j_move (evo rfl)) ?_
  refine op_v' (j_unwantV rfl rfl rfl) ?_
  refine op_v' (j_unwantV rfl rfl rfl) ?_
  refine op_v' (j_unwantV rfl rfl rfl) ?_
  refine op_v' (j_unwantV rfl rfl rfl) ?_
  refine op_v' (j_unwantV rfl rfl rfl) ?_
  refine op_v' (j_unwantV rfl rfl rfl) ?_
  refine op_v' (j_unwantV rfl rfl rfl) ?_
  refine op_v' (j_pick_t rfl rfl (evo rfl)) ?_
  refine op_v' (j_move (evo rfl)) ?_
  refine op_v' (j_unwantV rfl rfl rfl) ?_
  refine op_v' (j_unwantV rfl rfl rfl) ?_
  refine op_v' (j_pick_t rfl rfl (evo rfl)) ?_
  refine op_nil ?_
  refine a_tt rfl ?_
  refine a_seq ?_
  refine a_region (by kernel_rfl) ?_
  refine op_n' (fun ver => j_buildSlice (parts := []) (es := []) slt28 elt34 rfl rfl (by decide) (by decide) rfl rfl (by simp) rfl) fun v44x2 => ?_
  refine op_v' (j_assign (evo rfl)) ?_
  refine op_v' (j_assign (evo rfl)) ?_
  refine op_nil ?_
  refine a_freeze' 6 (noA _ _ _ _ _) rfl rfl ?_
  refine a_ret ?_
  exact ⟨[.sl _, .p _], .tup [.sl _, .p _], [], [], [], ⟨rfl, rfl, trivial⟩, rfl, rfl, trivial, rfl, rfl, ⟨by have hb : brOk m i d = false := brOk_no (by first | exact .inl (by assumption) | exact .inr (.inl (by assumption)) | exact .inr (.inl (de_em (by assumption))) | exact .inr (.inr (.inl (by omega))) | exact .inr (.inr (.inr (by assumption)))); rw [hb, bd_bad hb]; rfl, rfl, rfl⟩⟩
 ·
  have h1r := h1
  try simp only [nq, nr, nl, bstL_len, brD_len, brP_len] at h1
  refine op_v' (j_want rfl rfl h1r (j_move (evo rfl))) ?_
  refine op_v' (j_want rfl rfl h1r (j_lt rfl rfl)) ?_
  refine op_v' (j_pick_f rfl h1r (evo rfl)) ?_
  refine op_v' (j_move (evo rfl)) ?_
  refine op_split' 24 rfl (fun h2 => ?_) (fun h2 => ?_)
  ·
   have h2r := h2
   try simp only [nq, nr, nl, bstL_len, brD_len, brP_len] at h2
   refine op_v' (j_unwantV rfl rfl h2r) ?_
   refine op_v' (j_unwantV rfl rfl h2r) ?_
   refine op_v' (j_unwantV rfl rfl h2r) ?_
   refine op_v' (j_unwantV rfl rfl h2r) ?_
   refine op_v' (j_unwantV rfl rfl h2r) ?_
   refine op_v' (j_pick_t rfl h2r (evo rfl)) ?_
   refine op_v' (j_move (evo rfl)) ?_
   refine op_v' (j_unwantV rfl rfl rfl) ?_
   refine op_v' (j_unwantV rfl rfl rfl) ?_
   refine op_v' (j_unwantV rfl rfl rfl) ?_
   refine op_v' (j_unwantV rfl rfl rfl) ?_
   refine op_v' (j_unwantV rfl rfl rfl) ?_
   refine op_v' (j_unwantV rfl rfl rfl) ?_
   refine op_v' (j_unwantV rfl rfl rfl) ?_
   refine op_v' (j_pick_t rfl rfl (evo rfl)) ?_
   refine op_v' (j_move (evo rfl)) ?_
   refine op_v' (j_unwantV rfl rfl rfl) ?_
   refine op_v' (j_unwantV rfl rfl rfl) ?_
   refine op_v' (j_pick_t rfl rfl (evo rfl)) ?_
   refine op_nil ?_
   refine a_tt rfl ?_
   refine a_seq ?_
   refine a_region (by kernel_rfl) ?_
   refine op_n' (fun ver => j_buildSlice (parts := []) (es := []) slt28 elt34 rfl rfl (by decide) (by decide) rfl rfl (by simp) rfl) fun v44x3 => ?_
   refine op_v' (j_assign (evo rfl)) ?_
   refine op_v' (j_assign (evo rfl)) ?_
   refine op_nil ?_
   refine a_freeze' 6 (noA _ _ _ _ _) rfl rfl ?_
   refine a_ret ?_
   exact ⟨[.sl _, .p _], .tup [.sl _, .p _], [], [], [], ⟨rfl, rfl, trivial⟩, rfl, rfl, trivial, rfl, rfl, ⟨by have hb : brOk m i d = false := brOk_no (by first | exact .inl (by assumption) | exact .inr (.inl (by assumption)) | exact .inr (.inl (de_em (by assumption))) | exact .inr (.inr (.inl (by omega))) | exact .inr (.inr (.inr (by assumption)))); rw [hb, bd_bad hb]; rfl, rfl, rfl⟩⟩
  ·
   have h2r := h2
   try simp only [nq, nr, nl, bstL_len, brD_len, brP_len] at h2
   refine op_v' (j_want rfl rfl h2r (j_move (evo rfl))) ?_
   refine op_v' (j_want rfl rfl h2r (j_fldp fld26f1 rfl rfl)) ?_
   refine op_v' (j_want rfl rfl h2r (j_load_box leaf24 rfl rfl rfl)) ?_
   refine op_v' (j_want rfl rfl h2r (j_len_map Try.underlying24 rfl)) ?_
   refine op_v' (j_want rfl rfl h2r (j_ge rfl rfl)) ?_
   refine op_v' (j_pick_f rfl h2r (evo rfl)) ?_
   refine op_v' (j_move (evo rfl)) ?_
   refine op_split' 31 rfl (fun h3 => ?_) (fun h3 => ?_)
   ·
    have h3r := h3
    try simp only [nq, nr, nl, bstL_len, brD_len, brP_len] at h3
    refine op_v' (j_unwantV rfl rfl h3r) ?_
    refine op_v' (j_unwantV rfl rfl h3r) ?_
    refine op_v' (j_unwantV rfl rfl h3r) ?_
    refine op_v' (j_unwantV rfl rfl h3r) ?_
    refine op_v' (j_unwantV rfl rfl h3r) ?_
    refine op_v' (j_unwantV rfl rfl h3r) ?_
    refine op_v' (j_unwantV rfl rfl h3r) ?_
    refine op_v' (j_pick_t rfl h3r (evo rfl)) ?_
    refine op_v' (j_move (evo rfl)) ?_
    refine op_v' (j_unwantV rfl rfl rfl) ?_
    refine op_v' (j_unwantV rfl rfl rfl) ?_
    refine op_v' (j_pick_t rfl rfl (evo rfl)) ?_
    refine op_nil ?_
    refine a_tt rfl ?_
    refine a_seq ?_
    refine a_region (by kernel_rfl) ?_
    refine op_n' (fun ver => j_buildSlice (parts := []) (es := []) slt28 elt34 rfl rfl (by decide) (by decide) rfl rfl (by simp) rfl) fun v44x4 => ?_
    refine op_v' (j_assign (evo rfl)) ?_
    refine op_v' (j_assign (evo rfl)) ?_
    refine op_nil ?_
    refine a_freeze' 6 (noA _ _ _ _ _) rfl rfl ?_
    refine a_ret ?_
    exact ⟨[.sl _, .p _], .tup [.sl _, .p _], [], [], [], ⟨rfl, rfl, trivial⟩, rfl, rfl, trivial, rfl, rfl, ⟨by have hb : brOk m i d = false := brOk_no (by first | exact .inl (by assumption) | exact .inr (.inl (by assumption)) | exact .inr (.inl (de_em (by assumption))) | exact .inr (.inr (.inl (by omega))) | exact .inr (.inr (.inr (by assumption)))); rw [hb, bd_bad hb]; rfl, rfl, rfl⟩⟩
   ·
    have h3r := h3
    try simp only [nq, nr, nl, bstL_len, brD_len, brP_len] at h3
    refine op_v' (j_want rfl rfl h3r (j_fldp fld26f1 rfl rfl)) ?_
    refine op_v' (j_want rfl rfl h3r (j_load_box leaf24 rfl rfl rfl)) ?_
    refine op_v' (j_want rfl rfl h3r (j_move (evo rfl))) ?_
    refine op_v' (j_want rfl rfl h3r (j_elemN (n := i.toNat) slt24 rfl rfl (by omega) (at_map (by first | omega | (simp only [nr, nl, bstL_len, brD_len, brP_len]; omega))) rfl)) ?_
    refine op_v' (j_want rfl rfl h3r (j_fldel fld43f0 rfl)) ?_
    refine op_v' (j_want rfl rfl h3r (j_load_el leaf3 rfl (at_map (by first | omega | (simp only [nr, nl, bstL_len, brD_len, brP_len]; omega))) rfl)) ?_
    refine op_v' (j_want rfl rfl h3r (j_ne rfl rfl)) ?_
    refine op_v' (j_pick_f rfl h3r (evo rfl)) ?_
    refine op_v' (j_move (evo rfl)) ?_
    refine op_split' 40 rfl (fun h4 => ?_) (fun h4 => ?_)
    ·
     have h4r := h4
     try simp only [nq, nr, nl, bstL_len, brD_len, brP_len] at h4
     refine op_v' (j_unwantV rfl rfl h4r) ?_
     refine op_v' (j_unwantV rfl rfl h4r) ?_
     refine op_v' (j_pick_t rfl h4r (evo rfl)) ?_
     refine op_nil ?_
     refine a_tt rfl ?_
     refine a_seq ?_
     refine a_region (by kernel_rfl) ?_
     refine op_n' (fun ver => j_buildSlice (parts := []) (es := []) slt28 elt34 rfl rfl (by decide) (by decide) rfl rfl (by simp) rfl) fun v44x5 => ?_
     refine op_v' (j_assign (evo rfl)) ?_
     refine op_v' (j_assign (evo rfl)) ?_
     refine op_nil ?_
     refine a_freeze' 6 (noA _ _ _ _ _) rfl rfl ?_
     refine a_ret ?_
     exact ⟨[.sl _, .p _], .tup [.sl _, .p _], [], [], [], ⟨rfl, rfl, trivial⟩, rfl, rfl, trivial, rfl, rfl, ⟨by have hb : brOk m i d = false := brOk_no (by first | exact .inl (by assumption) | exact .inr (.inl (by assumption)) | exact .inr (.inl (de_em (by assumption))) | exact .inr (.inr (.inl (by omega))) | exact .inr (.inr (.inr (by assumption)))); rw [hb, bd_bad hb]; rfl, rfl, rfl⟩⟩
    ·
     have h4r := h4
     try simp only [nq, nr, nl, bstL_len, brD_len, brP_len] at h4
     refine op_v' (j_want rfl rfl h4r (j_move (evo rfl))) ?_
     refine op_v0' (j_want rfl rfl h4r (j_call0 (v := .p _) (hp1 := []) [] false [] ent80 (f_l8Empty d) ⟨.inl ⟨rfl, rfl⟩, trivial⟩ trivial rfl rfl (fun h => by cases h) rfl (fun _ h => by cases h) (.inl rfl) rfl rfl)) ?_
     refine op_v' (j_pick_f rfl h4r (evo rfl)) ?_
     refine op_nil ?_
     refine a_cond rfl (fun h5 => ?_) (fun h5 => ?_)
     ·
      have h5r := h5
      try simp only [nq, nr, nl, bstL_len, brD_len, brP_len] at h5
      refine a_seq ?_
      refine a_region (by kernel_rfl) ?_
      refine op_n' (fun ver => j_buildSlice (parts := []) (es := []) slt28 elt34 rfl rfl (by decide) (by decide) rfl rfl (by simp) rfl) fun v44x6 => ?_
      refine op_v' (j_assign (evo rfl)) ?_
      refine op_v' (j_assign (evo rfl)) ?_
      refine op_nil ?_
      refine a_freeze' 6 (noA _ _ _ _ _) rfl rfl ?_
      refine a_ret ?_
      exact ⟨[.sl _, .p _], .tup [.sl _, .p _], [], [], [], ⟨rfl, rfl, trivial⟩, rfl, rfl, trivial, rfl, rfl, ⟨by have hb : brOk m i d = false := brOk_no (by first | exact .inl (by assumption) | exact .inr (.inl (by assumption)) | exact .inr (.inl (de_em (by assumption))) | exact .inr (.inr (.inl (by omega))) | exact .inr (.inr (.inr (by assumption)))); rw [hb, bd_bad hb]; rfl, rfl, rfl⟩⟩
     ·
      have h5r := h5
      try simp only [nq, nr, nl, bstL_len, brD_len, brP_len] at h5
      refine a_skip ?_
      refine a_seq ?_
      refine a_region (by kernel_rfl) ?_
      refine op_v' (j_fldp fld26f1 rfl rfl) ?_
      refine op_v' (j_load_box leaf24 rfl rfl rfl) ?_
      refine op_v' (j_move (evo rfl)) ?_
      refine op_v' (j_elemN (n := i.toNat) slt24 rfl rfl (by omega) (at_map (by first | omega | (simp only [nr, nl, bstL_len, brD_len, brP_len]; omega))) rfl) ?_
      refine op_v' (j_loada_el (ys := [.p _, .sl _, .sl _, .p _, .sl _]) agg43 rfl (at_map (by first | omega | (simp only [nr, nl, bstL_len, brD_len, brP_len]; omega))) rfl (Nat.le_refl _)) ?_
      refine op_n' (fun ver => j_alloc elt43 rfl) fun v8x7 => ?_
      refine op_s' (j_storea_box0 agg43 rfl rfl rfl rfl rfl rfl) ?_
      refine op_nil ?_
      refine a_seq ?_
      have hdp := dm_parts (show dmB m d = true by assumption)
      have hri : 0 ≤ i ∧ i < m.2.length := by omega
      have hk1 : (m.2.getD i.toNat default).1 = 1 := by assumption
      have hem : emB d = false := by first | assumption | exact de_no (by assumption) (by assumption)
      have hgd : brOk m i d = true := brOk_yes (by assumption) hem hri hk1
      have hq := mOk_rule hdp.1 (k := i.toNat) (by omega)
      generalize hqe : (m.2.getD i.toNat default) = q at hq hk1 ⊢
      have hln := rOk_lin hq hk1
      have hvs := rOk_vs hq
      have hfd := fits_at hdp.2
      have hrw := rows_le hdp.1 hdp.2
      have hfs := fits_sum hdp.1 hdp.2
      have hv5 := rOk_len hq hfd.1 (by omega)
      refine a_region (by kernel_rfl) ?_
      refine op_v' (j_assign (evo rfl)) ?_
      refine op_nil ?_
      refine a_seq ?_
      refine a_seq ?_
      refine a_region (by kernel_rfl) ?_
      refine op_v' (j_assign (evo rfl)) ?_
      refine op_nil ?_
      refine a_block ?_
      refine a_loopF' (ι := Nat) (fun k => k ≤ q.2.1.length) (fun k r => (10, .p (.int .i64 ((k : Nat)))) :: (9, .p (.int .i64 (sumR (bstR q d) k))) :: r) (fun k r => r) (fun k => q.2.1.length - k) (fun _ _ => rfl) (fun _ _ => rfl) 0 (by first | omega | (simp only [nr, nl, bstL_len, brD_len, brP_len]; omega)) ⟨⟨rfl, rfl⟩, ⟨rfl, rfl, trivial⟩, trivial, ⟨rfl, rfl⟩, ⟨rfl, rfl⟩⟩ ?_
      intro k hpre0
      refine a_seq ?_
      refine a_seq ?_
      refine a_region (by kernel_rfl) ?_
      refine op_v' (j_move (evo rfl)) ?_
      refine op_v' (j_fldp fld43f1 rfl rfl) ?_
      refine op_v' (j_load_box leaf23 rfl rfl rfl) ?_
      refine op_v' (j_len_map Try.underlying23 rfl) ?_
      refine op_v' (j_lt rfl rfl) ?_
      refine op_nil ?_
      refine a_cond rfl (fun h6 => ?_) (fun h6 => ?_)
      ·
       have h6r := h6
       try simp only [nq, nr, nl, bstL_len, brD_len, brP_len] at h6
       refine a_skip ?_
       refine a_seq ?_
       refine a_block ?_
       have hvk := hvs k (by omega)
       have hck := hln.2.2 k (by omega)
       have hr4 : (d.getD (q.2.1.getD k default).toNat default).length ≤ 4 := fits_row hdp.1 hdp.2
       have hrg := bst_rng (a := (q.2.2.1.getD k default)) (row := (d.getD (q.2.1.getD k default).toNat default)) hck hr4
       have hsr := sumR_rng (f := bstR q d) (b := 27) (n := k) (fun j hj => bst_rng (hln.2.2 j (by omega)) (fits_row hdp.1 hdp.2))
       refine a_draw mixed (by kernel_rfl) (by kernel_rfl) fun vf => ?_
       refine d_v' (j_move (evo rfl)) ?_
       refine d_v' (j_fldp fld43f2 rfl rfl) ?_
       refine d_v' (j_load_box leaf23 rfl rfl rfl) ?_
       refine d_v' (j_move (evo rfl)) ?_
       refine d_v' (j_elemN slt23 rfl rfl rfl (at_map (by first | omega | (simp only [nr, nl, bstL_len, brD_len, brP_len]; omega))) rfl) ?_
       refine d_v' (j_load_el leaf3 rfl (at_map (by first | omega | (simp only [nr, nl, bstL_len, brD_len, brP_len]; omega))) rfl) ?_
       refine d_v' (j_move (evo rfl)) ?_
       refine d_v' (j_fldp fld43f1 rfl rfl) ?_
       refine d_v' (j_load_box leaf23 rfl rfl rfl) ?_
       refine d_v' (j_move (evo rfl)) ?_
       refine d_v' (j_elemN slt23 rfl rfl rfl (at_map (by first | omega | (simp only [nr, nl, bstL_len, brD_len, brP_len]; omega))) rfl) ?_
       refine d_v' (j_load_el leaf3 rfl (at_map (by first | omega | (simp only [nr, nl, bstL_len, brD_len, brP_len]; omega))) rfl) ?_
       refine d_v' (j_elemN (n := (q.2.1.getD k default).toNat) slt28 rfl rfl (by omega) (at_map (by first | omega | (simp only [nr, nl, bstL_len, brD_len, brP_len]; omega))) rfl) ?_
       refine d_v' (j_load_el leaf34 rfl (at_map (by first | omega | (simp only [nr, nl, bstL_len, brD_len, brP_len]; omega))) rfl) ?_
       refine d_v0' (j_call0 (v := .p _) (hp1 := []) [] false [] ent81 (f_l8Best (q.2.2.1.getD k default) (d.getD (q.2.1.getD k default).toNat default) hck hr4) ⟨.inl ⟨rfl, rfl⟩, .inl ⟨rfl, rfl⟩, trivial⟩ trivial rfl rfl (fun h => by cases h) rfl (fun _ h => by cases h) (.inl rfl) rfl rfl) ?_
       refine d_v' (j_add rfl rfl (by first | omega | (simp only [nr, nl, bstL_len, brD_len, brP_len]; omega)) (by first | omega | (simp only [nr, nl, bstL_len, brD_len, brP_len]; omega))) ?_
       refine d_v' (j_assign (evo rfl)) ?_
       refine d_nil (by kernel_rfl) (by kernel_rfl) ?_
       refine a_region (by kernel_rfl) ?_
       refine op_v' (j_move (evo rfl)) ?_
       refine op_v' (j_add rfl rfl (by first | omega | (simp only [nr, nl, bstL_len, brD_len, brP_len]; omega)) (by first | omega | (simp only [nr, nl, bstL_len, brD_len, brP_len]; omega))) ?_
       refine op_v' (j_assign (evo rfl)) ?_
       refine op_nil ?_
       exact ⟨k + 1, (by first | omega | (simp only [nr, nl, bstL_len, brD_len, brP_len]; omega)), ⟨⟨rfl, rfl⟩, ⟨rfl, rfl, trivial⟩, trivial, ⟨rfl, rfl⟩, ⟨rfl, rfl⟩⟩, (by first | omega | (simp only [nr, nl, bstL_len, brD_len, brP_len]; omega))⟩
      ·
       have h6r := h6
       try simp only [nq, nr, nl, bstL_len, brD_len, brP_len] at h6
       refine a_exit ?_
       refine a_seq ?_
       obtain rfl : k = q.2.1.length := by omega
       refine a_region (by kernel_rfl) ?_
       refine op_v' (j_move (evo rfl)) ?_
       refine op_n1' (fun ver => j_call1 (v := .own 74 ver) (hp1 := [(74, some (ver, .deep (.mk 34 1 [(0, (.mk 4 1 []))]) _ none))]) [] false [] ent82 (f_l8Copy d (by omega) hrw) ⟨.inl ⟨rfl, rfl⟩, trivial⟩ trivial rfl rfl rfl (fun h => by cases h) rfl (List.all_eq_true.1 rfl) (.inl rfl) rfl rfl) fun v74x8 => ?_
       refine op_v' (j_assign (evo rfl)) ?_
       refine op_nil ?_
       refine a_seq ?_
       refine a_seq ?_
       refine a_region (by kernel_rfl) ?_
       refine op_v' (j_assign (evo rfl)) ?_
       refine op_nil ?_
       refine a_block ?_
       refine a_loopF' (ι := Nat) (fun k => k ≤ q.2.1.length) (fun k r => (12, .p (.int .i64 ((k : Nat)))) :: r) (fun k r => (74, some (v74x8, .deep (.mk 34 1 [(0, .mk 4 1 [])]) (((brD q d k)).map dD) none)) :: r) (fun k => q.2.1.length - k) (fun _ _ => rfl) (fun _ _ => rfl) 0 (by first | omega | (simp only [nr, nl, bstL_len, brD_len, brP_len]; omega)) ⟨⟨rfl, rfl⟩, ⟨rfl, trivial⟩, ⟨rfl, trivial⟩, ⟨rfl, rfl⟩, ⟨rfl, rfl⟩⟩ ?_
       intro k hpre1
       refine a_seq ?_
       refine a_seq ?_
       refine a_region (by kernel_rfl) ?_
       refine op_v' (j_move (evo rfl)) ?_
       refine op_v' (j_fldp fld43f1 rfl rfl) ?_
       refine op_v' (j_load_box leaf23 rfl rfl rfl) ?_
       refine op_v' (j_len_map Try.underlying23 rfl) ?_
       refine op_v' (j_lt rfl rfl) ?_
       refine op_nil ?_
       refine a_cond rfl (fun h7 => ?_) (fun h7 => ?_)
       ·
        have h7r := h7
        try simp only [nq, nr, nl, bstL_len, brD_len, brP_len] at h7
        refine a_skip ?_
        refine a_seq ?_
        refine a_block ?_
        refine a_seq ?_
        have hvk := hvs k (by omega)
        have hck := hln.2.2 k (by omega)
        have hr4 : (d.getD (q.2.1.getD k default).toNat default).length ≤ 4 := fits_row hdp.1 hdp.2
        have hrg := bst_rng (a := (q.2.2.1.getD k default)) (row := (d.getD (q.2.1.getD k default).toNat default)) hck hr4
        have hsr := sumR_rng (f := bstR q d) (b := 27) (n := k) (fun j hj => bst_rng (hln.2.2 j (by omega)) (fits_row hdp.1 hdp.2))
        have htr := sumR_rng (f := bstR q d) (b := 27) (n := q.2.1.length) (fun j hj => bst_rng (hln.2.2 j (by omega)) (fits_row hdp.1 hdp.2))
        have htt : totR q d = sumR (bstR q d) q.2.1.length := rfl
        have hbd := brD_len (r := q) (d := d) (i := k)
        have hbb : bstR q d k = (bstN (q.2.2.1.getD k default) (d.getD (q.2.1.getD k default).toNat default) (d.getD (q.2.1.getD k default).toNat default).length).1 := rfl
        refine a_region (by kernel_rfl) ?_
        refine op_v' (j_fldp fld43f1 rfl rfl) ?_
        refine op_v' (j_load_box leaf23 rfl rfl rfl) ?_
        refine op_v' (j_move (evo rfl)) ?_
        refine op_v' (j_elemN slt23 rfl rfl rfl (at_map (by first | omega | (simp only [nr, nl, bstL_len, brD_len, brP_len]; omega))) rfl) ?_
        refine op_v' (j_load_el leaf3 rfl (at_map (by first | omega | (simp only [nr, nl, bstL_len, brD_len, brP_len]; omega))) rfl) ?_
        refine op_v' (j_assign (evo rfl)) ?_
        refine op_nil ?_
        refine a_seq ?_
        refine a_draw mixed (by kernel_rfl) (by kernel_rfl) fun vf => ?_
        refine d_v' (j_move (evo rfl)) ?_
        refine d_v' (j_fldp fld43f2 rfl rfl) ?_
        refine d_v' (j_load_box leaf23 rfl rfl rfl) ?_
        refine d_v' (j_move (evo rfl)) ?_
        refine d_v' (j_elemN slt23 rfl rfl rfl (at_map (by first | omega | (simp only [nr, nl, bstL_len, brD_len, brP_len]; omega))) rfl) ?_
        refine d_v' (j_load_el leaf3 rfl (at_map (by first | omega | (simp only [nr, nl, bstL_len, brD_len, brP_len]; omega))) rfl) ?_
        refine d_v' (j_move (evo rfl)) ?_
        refine d_v' (j_move (evo rfl)) ?_
        refine d_v' (j_elemN (n := (q.2.1.getD k default).toNat) slt28 rfl rfl (by omega) (at_map (by first | omega | (simp only [nr, nl, bstL_len, brD_len, brP_len]; omega))) rfl) ?_
        refine d_v' (j_load_el leaf34 rfl (at_map (by first | omega | (simp only [nr, nl, bstL_len, brD_len, brP_len]; omega))) rfl) ?_
        refine d_v0' (j_call0 (v := .p _) (hp1 := []) [] false [] ent81 (f_l8Best (q.2.2.1.getD k default) (d.getD (q.2.1.getD k default).toNat default) hck hr4) ⟨.inl ⟨rfl, rfl⟩, .inl ⟨rfl, rfl⟩, trivial⟩ trivial rfl rfl (fun h => by cases h) rfl (fun _ h => by cases h) (.inl rfl) rfl rfl) ?_
        refine d_v' (j_sub rfl rfl (by first | omega | (simp only [nr, nl, bstL_len, brD_len, brP_len]; omega)) (by first | omega | (simp only [nr, nl, bstL_len, brD_len, brP_len]; omega))) ?_
        refine d_v' (j_assign (evo rfl)) ?_
        refine d_nil (by kernel_rfl) (by kernel_rfl) ?_
        refine a_seq ?_
        refine a_region (by kernel_rfl) ?_
        refine op_v' (j_assign (evo rfl)) ?_
        refine op_nil ?_
        refine a_block ?_
        refine a_loopF' (ι := Nat) (fun j => j ≤ (d.getD (q.2.1.getD k default).toNat default).length) (fun j r => (15, .p (.int .i64 ((j : Nat)))) :: r) (fun j r => (74, some (v74x8, .deep (.mk 34 1 [(0, .mk 4 1 [])]) (((brD q d k).set (q.2.1.getD k default).toNat (brP (totR q d - bstR q d k) (q.2.2.1.getD k default) q.2.2.2.1 (d.getD (q.2.1.getD k default).toNat default) j)).map dD) none)) :: r) (fun j => (d.getD (q.2.1.getD k default).toNat default).length - j) (fun _ _ => rfl) (fun _ _ => rfl) 0 (Nat.zero_le _) ⟨⟨rfl, rfl⟩, ⟨rfl, trivial⟩, ⟨deepEq (by rw [show (brP (totR q d - bstR q d k) (q.2.2.1.getD k default) q.2.2.2.1 (d.getD (q.2.1.getD k default).toNat default) 0) = (brD q d k).getD (q.2.1.getD k default).toNat default from (brD_row hq (by omega) (by omega) (fun j hj => vs_ne hq (by omega) hj)).symm, set_selfL]), trivial⟩, ⟨rfl, rfl⟩, ⟨rfl, rfl⟩⟩ ?_
        intro j hj
        refine a_seq ?_
        refine a_seq ?_
        refine a_region (by kernel_rfl) ?_
        refine op_v' (j_move (evo rfl)) ?_
        refine op_v' (j_move (evo rfl)) ?_
        refine op_v' (j_move (evo rfl)) ?_
        refine op_v' (j_elemN (n := (q.2.1.getD k default).toNat) slt28 rfl rfl (by omega) (at_map (by first | omega | (simp only [nr, nl, bstL_len, brD_len, brP_len]; omega))) rfl) ?_
        refine op_v' (j_load_el leaf34 rfl (at_map (by first | omega | (simp only [nr, nl, bstL_len, brD_len, brP_len]; omega))) rfl) ?_
        refine op_v' (j_len_map Try.underlying34 rfl) ?_
        refine op_v' (j_lt rfl rfl) ?_
        refine op_nil ?_
        refine a_cond rfl (fun h8 => ?_) (fun h8 => ?_)
        ·
         have h8r := h8
         try simp only [nq, nr, nl, bstL_len, brD_len, brP_len] at h8
         refine a_skip ?_
         refine a_seq ?_
         refine a_block ?_
         have hja := mulR (n := 4) hck (v := j) (by omega) (by omega)
         have hbl : (brP (totR q d - bstR q d k) (q.2.2.1.getD k default) q.2.2.2.1 (d.getD (q.2.1.getD k default).toNat default) j).length = (d.getD (q.2.1.getD k default).toNat default).length := brP_len
         refine a_draw mixed (by kernel_rfl) (by kernel_rfl) fun vf => ?_
         refine d_v' (j_move (evo rfl)) ?_
         refine d_v' (j_move (evo rfl)) ?_
         refine d_v' (j_elem_deepN (n := (q.2.1.getD k default).toNat) slt28 rfl rfl rfl rfl (by omega) (by first | omega | (simp only [nr, nl, bstL_len, brD_len, brP_len]; omega))) ?_
         refine d_n1' (fun ver => j_out leaf34 (by decide) rfl rfl rfl (ms_at (by rw [brD_len]; omega)) rfl rfl) ?_
         refine d_v' (j_move (evo rfl)) ?_
         refine d_v' (j_move (evo rfl)) ?_
         refine d_v' (j_move (evo rfl)) ?_
         refine d_v' (j_elemN (n := (q.2.1.getD k default).toNat) slt28 rfl rfl (by omega) (at_map (by first | omega | (simp only [nr, nl, bstL_len, brD_len, brP_len]; omega))) rfl) ?_
         refine d_v' (j_load_el leaf34 rfl (at_map (by first | omega | (simp only [nr, nl, bstL_len, brD_len, brP_len]; omega))) rfl) ?_
         refine d_v' (j_move (evo rfl)) ?_
         refine d_v' (j_elemN slt34 rfl rfl rfl (at_map (by first | omega | (simp only [nr, nl, bstL_len, brD_len, brP_len]; omega))) rfl) ?_
         refine d_v' (j_load_el leaf4 rfl (at_map (by first | omega | (simp only [nr, nl, bstL_len, brD_len, brP_len]; omega))) rfl) ?_
         refine d_v' (j_move (evo rfl)) ?_
         refine d_split' 120 rfl (fun h9 => ?_) (fun h9 => ?_)
         ·
          have h9r := h9
          try simp only [nq, nr, nl, bstL_len, brD_len, brP_len] at h9
          refine d_v' (j_want rfl rfl h9r (j_move (evo rfl))) ?_
          refine d_v' (j_want rfl rfl h9r (j_fldp fld43f2 rfl rfl)) ?_
          refine d_v' (j_want rfl rfl h9r (j_load_box leaf23 rfl rfl rfl)) ?_
          refine d_v' (j_want rfl rfl h9r (j_move (evo rfl))) ?_
          refine d_v' (j_want rfl rfl h9r (j_elemN slt23 rfl rfl rfl (at_map (by first | omega | (simp only [nr, nl, bstL_len, brD_len, brP_len]; omega))) rfl)) ?_
          refine d_v' (j_want rfl rfl h9r (j_load_el leaf3 rfl (at_map (by first | omega | (simp only [nr, nl, bstL_len, brD_len, brP_len]; omega))) rfl)) ?_
          refine d_v' (j_want rfl rfl h9r (j_move (evo rfl))) ?_
          refine d_v' (j_want rfl rfl h9r (j_mul rfl rfl (by first | omega | (simp only [nr, nl, bstL_len, brD_len, brP_len]; omega)) (by first | omega | (simp only [nr, nl, bstL_len, brD_len, brP_len]; omega)))) ?_
          refine d_v' (j_want rfl rfl h9r (j_add rfl rfl (by first | omega | (simp only [nr, nl, bstL_len, brD_len, brP_len]; omega)) (by first | omega | (simp only [nr, nl, bstL_len, brD_len, brP_len]; omega)))) ?_
          refine d_v' (j_want rfl rfl h9r (j_fldp fld43f3 rfl rfl)) ?_
          refine d_v' (j_want rfl rfl h9r (j_load_box leaf3 rfl rfl rfl)) ?_
          refine d_v' (j_want rfl rfl h9r (j_ge rfl rfl)) ?_
          refine d_v' (j_pick_t rfl h9r (evo rfl)) ?_
          refine d_v' (j_elem_ownN slt34 rfl rfl rfl rfl (by first | omega | (simp only [nr, nl, bstL_len, brD_len, brP_len]; omega))) ?_
          refine d_s' (j_store_row leaf4 rfl rfl (by first | omega | (simp only [nr, nl, bstL_len, brD_len, brP_len]; omega)) (evo rfl) rfl rfl) ?_
          refine d_nil (by kernel_rfl) (by kernel_rfl) ?_
          refine a_back 74 111 (by decide) rfl rfl rfl rfl (ms_at (by rw [brD_len]; omega)) (ms_set (y := (brP (totR q d - bstR q d k) (q.2.2.1.getD k default) q.2.2.2.1 (d.getD (q.2.1.getD k default).toNat default) (j + 1))) (by show [V.sl (List.set _ j _)] = [V.sl (List.map dB (List.set _ j _))]; rw [List.map_set]; first | rfl | (exact congrArg (fun z => [V.sl (List.set _ j [.p (.bool z)])]) (by simp_all)))) ?_
          refine a_region (by kernel_rfl) ?_
          refine op_v' (j_move (evo rfl)) ?_
          refine op_v' (j_add rfl rfl (by first | omega | (simp only [nr, nl, bstL_len, brD_len, brP_len]; omega)) (by first | omega | (simp only [nr, nl, bstL_len, brD_len, brP_len]; omega))) ?_
          refine op_v' (j_assign (evo rfl)) ?_
          refine op_nil ?_
          exact ⟨j + 1, (by first | omega | (simp only [nr, nl, bstL_len, brD_len, brP_len]; omega)), ⟨⟨rfl, rfl⟩, ⟨rfl, trivial⟩, ⟨rfl, trivial⟩, ⟨rfl, rfl⟩, ⟨rfl, rfl⟩⟩, (by first | omega | (simp only [nr, nl, bstL_len, brD_len, brP_len]; omega))⟩
         ·
          have h9r := h9
          try simp only [nq, nr, nl, bstL_len, brD_len, brP_len] at h9
          refine d_v' (j_unwantV rfl rfl h9r) ?_
          refine d_v' (j_unwantV rfl rfl h9r) ?_
          refine d_v' (j_unwantV rfl rfl h9r) ?_
          refine d_v' (j_unwantV rfl rfl h9r) ?_
          refine d_v' (j_unwantV rfl rfl h9r) ?_
          refine d_v' (j_unwantV rfl rfl h9r) ?_
          refine d_v' (j_unwantV rfl rfl h9r) ?_
          refine d_v' (j_unwantV rfl rfl h9r) ?_
          refine d_v' (j_unwantV rfl rfl h9r) ?_
          refine d_v' (j_unwantV rfl rfl h9r) ?_
          refine d_v' (j_unwantV rfl rfl h9r) ?_
          refine d_v' (j_unwantV rfl rfl h9r) ?_
          refine d_v' (j_pick_f rfl h9r (evo rfl)) ?_
          refine d_v' (j_elem_ownN slt34 rfl rfl rfl rfl (by first | omega | (simp only [nr, nl, bstL_len, brD_len, brP_len]; omega))) ?_
          refine d_s' (j_store_row leaf4 rfl rfl (by first | omega | (simp only [nr, nl, bstL_len, brD_len, brP_len]; omega)) (evo rfl) rfl rfl) ?_
          refine d_nil (by kernel_rfl) (by kernel_rfl) ?_
          refine a_back 74 111 (by decide) rfl rfl rfl rfl (ms_at (by rw [brD_len]; omega)) (ms_set (y := (brP (totR q d - bstR q d k) (q.2.2.1.getD k default) q.2.2.2.1 (d.getD (q.2.1.getD k default).toNat default) (j + 1))) (by show [V.sl (List.set _ j _)] = [V.sl (List.map dB (List.set _ j _))]; rw [List.map_set]; first | rfl | (exact congrArg (fun z => [V.sl (List.set _ j [.p (.bool z)])]) (by simp_all)))) ?_
          refine a_region (by kernel_rfl) ?_
          refine op_v' (j_move (evo rfl)) ?_
          refine op_v' (j_add rfl rfl (by first | omega | (simp only [nr, nl, bstL_len, brD_len, brP_len]; omega)) (by first | omega | (simp only [nr, nl, bstL_len, brD_len, brP_len]; omega))) ?_
          refine op_v' (j_assign (evo rfl)) ?_
          refine op_nil ?_
          exact ⟨j + 1, (by first | omega | (simp only [nr, nl, bstL_len, brD_len, brP_len]; omega)), ⟨⟨rfl, rfl⟩, ⟨rfl, trivial⟩, ⟨rfl, trivial⟩, ⟨rfl, rfl⟩, ⟨rfl, rfl⟩⟩, (by first | omega | (simp only [nr, nl, bstL_len, brD_len, brP_len]; omega))⟩
        ·
         have h8r := h8
         try simp only [nq, nr, nl, bstL_len, brD_len, brP_len] at h8
         refine a_exit ?_
         obtain rfl : j = (d.getD (q.2.1.getD k default).toNat default).length := by omega
         refine a_region (by kernel_rfl) ?_
         refine op_v' (j_move (evo rfl)) ?_
         refine op_v' (j_add rfl rfl (by first | omega | (simp only [nr, nl, bstL_len, brD_len, brP_len]; omega)) (by first | omega | (simp only [nr, nl, bstL_len, brD_len, brP_len]; omega))) ?_
         refine op_v' (j_assign (evo rfl)) ?_
         refine op_nil ?_
         exact ⟨k + 1, (by first | omega | (simp only [nr, nl, bstL_len, brD_len, brP_len]; omega)), ⟨⟨rfl, rfl⟩, ⟨rfl, trivial⟩, ⟨rfl, trivial⟩, ⟨rfl, rfl⟩, ⟨rfl, rfl⟩⟩, (by first | omega | (simp only [nr, nl, bstL_len, brD_len, brP_len]; omega))⟩
       ·
        have h7r := h7
        try simp only [nq, nr, nl, bstL_len, brD_len, brP_len] at h7
        refine a_exit ?_
        refine a_seq ?_
        refine a_region (by kernel_rfl) ?_
        refine op_v' (j_move (evo rfl)) ?_
        refine op_v' (j_assign (evo rfl)) ?_
        refine op_v' (j_assign (evo rfl)) ?_
        refine op_nil ?_
        refine a_freezeG 6 trivial rfl rfl rfl rfl ?_
        refine a_ret ?_
        exact ⟨[.sl _, .p _], .tup [.sl _, .p _], [], [], [], ⟨rfl, rfl, trivial⟩, rfl, rfl, trivial, rfl, rfl, ⟨by rw [hgd, bd_ok hgd, hqe, show k = q.2.1.length by omega], rfl, rfl⟩⟩


end Go.Ab

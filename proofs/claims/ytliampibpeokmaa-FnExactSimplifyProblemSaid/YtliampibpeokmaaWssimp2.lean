/- Walks. -/
import Derived.Test.YtliampibpeokmaaBase
import Derived.Test.YtliampibpeokmaaWssimp
import Derived.Test.YtliampibpeokmaaWsdeep2
import Derived.Test.YtliampibpeokmaaDeep3
namespace Go.Ab
open Go.Proofs
set_option maxRecDepth 100000
set_option maxHeartbeats 8000000
set_option linter.unusedSimpArgs false
set_option linter.unusedVariables false
theorem f_simpImplD (l : List Con) : Fn Try.prog 25 [.sl (l.map dC)] [] (fun rr ii nn => rr = .tup [.own 0 0, .own 1 0, .p (.bool (sOk l))] ∧ ii = [] ∧ nn = [.deep (.mk 99 2 [(0, .mk 146 2 [])]) ((sL l).map dC) none, .row 3 1 ((sP l).map dI)]) := by
  refine fn_of Try.func25 rfl (Nat.le_of_ble_eq_true rfl) fun w X g => ?_
  show AWp _ _ _ ⟨[(0, .sl (l.map dC))], []⟩
  refine a_seq ?_
  refine a_region (by kernel_rfl) ?_
  refine op_v' (j_assign (evo rfl)) ?_
  refine op_v' (j_assign (evo rfl)) ?_
  refine op_v' (j_assign (evo rfl)) ?_
  refine op_nil ?_
  refine a_seq ?_
  refine a_seq ?_
  refine a_region (by kernel_rfl) ?_
  refine op_v' (j_move (evo rfl)) ?_
  refine op_v0' (j_call0 (v := .p _) (hp1 := []) [] false [] ent83 (f_pvImpl l) ⟨.inl ⟨rfl, rfl⟩, trivial⟩ trivial rfl rfl (fun h => by cases h) rfl (fun _ h => by cases h) (.inl rfl) rfl rfl) ?_
  refine op_v' (j_not rfl) ?_
  refine op_nil ?_
  refine a_cond rfl (fun h1 => ?_) (fun h1 => ?_)
  ·
    have h1r := h1
    try simp only [Bool.not_eq_true', Bool.not_eq_false', Bool.not_not, bne_iff_ne, bne_eq_false_iff_eq, beq_eq_false_iff_ne, beq_iff_eq, ne_eq, decide_eq_true_eq, decide_eq_false_iff_not, Classical.not_not, List.length_map, List.length_take, Int.toNat_natCast, List.length_map, List.length_append, List.length_cons, List.length_nil, List.length_set, List.length_take] at h1
    refine a_seq ?_
    refine a_region (by kernel_rfl) ?_
    refine op_v' (j_assign (evo rfl)) ?_
    refine op_v' (j_assign (evo rfl)) ?_
    refine op_v' (j_assign (evo rfl)) ?_
    refine op_nil ?_
    refine a_adopt' 2 2 99 2 rfl fun v2 => ?_
    refine a_adopt' 3 3 3 1 rfl fun v3 => ?_
    refine a_todeep 2 0 (.mk 99 2 [(0, (.mk 146 2 []))]) (zs := []) (zs' := []) rfl rfl rfl rfl eat_end rfl ?_
    refine a_ret ?_
    exact ⟨[.own 2 v2, .own 3 v3, .p _], .tup [.own 0 0, .own 1 0, .p _], [], [.deep (.mk 99 2 [(0, (.mk 146 2 []))]) _ none, .row 3 1 _], [(2, v2), (3, v3)], ⟨rfl, rfl, rfl, trivial⟩, rfl, rfl, ⟨⟨rfl, rfl⟩, ⟨rfl, rfl⟩, trivial⟩, rfl, rfl, ⟨by rw [(sOk_no (.inl h1))], rfl, by rw [sL_bad (sOk_no (.inl h1)), sP_bad (sOk_no (.inl h1))]; rfl⟩⟩
  ·
    have h1r := h1
    try simp only [Bool.not_eq_true', Bool.not_eq_false', Bool.not_not, bne_iff_ne, bne_eq_false_iff_eq, beq_eq_false_iff_ne, beq_iff_eq, ne_eq, decide_eq_true_eq, decide_eq_false_iff_not, Classical.not_not, List.length_map, List.length_take, Int.toNat_natCast, List.length_map, List.length_append, List.length_cons, List.length_nil, List.length_set, List.length_take] at h1
    refine a_skip ?_
    refine a_seq ?_
    have hpo : pOk l = true := h1
    refine a_region (by kernel_rfl) ?_
    refine op_v' (j_move (evo rfl)) ?_
    refine op_n' (fun ver => j_make (n := 12) slt23 elt3 rfl rfl (by decide) rfl rfl rfl rfl (by first | omega | (simp only [List.length_map, List.length_take, Int.toNat_natCast, List.length_map, List.length_append, List.length_cons, List.length_nil, List.length_set, List.length_take]; omega)) (by rw [maxLen_eq]; first | omega | (simp only [List.length_map, List.length_take, Int.toNat_natCast, List.length_map, List.length_append, List.length_cons, List.length_nil, List.length_set, List.length_take]; omega))) fun v18x1 => ?_
    refine op_n1' (fun ver => j_call1 (v := .tup [.own 19 ver, .p _]) (hp1 := [(19, some (ver, .row 3 1 _))]) [] true [18] ent84 (f_prop l zeroP (pOk_all hpo) (by have := pOk_len hpo; omega) zero_ok) ⟨.inl ⟨rfl, rfl⟩, .inr ⟨rfl, view_own rfl rfl, rfl⟩, trivial⟩ trivial rfl rfl rfl (fun _ => rfl) rfl (List.all_eq_true.1 rfl) (.inr ⟨rfl, by first | exact pl_new1 (fun _ => rfl) | exact pl_newC | (simp [plO, plV, plV.plL]; done)⟩) rfl rfl) fun v19x2 => ?_
    refine op_v' (j_move (evo rfl)) ?_
    refine op_v' (j_extract rfl rfl) ?_
    refine op_v' (j_extract rfl rfl) ?_
    refine op_v' (j_assign (evo rfl)) ?_
    refine op_v' (j_assign (evo rfl)) ?_
    refine op_nil ?_
    refine a_seq ?_
    refine a_seq ?_
    refine a_region (by kernel_rfl) ?_
    refine op_v' (j_move (evo rfl)) ?_
    refine op_v' (j_ge rfl rfl) ?_
    refine op_nil ?_
    refine a_cond rfl (fun h2 => ?_) (fun h2 => ?_)
    ·
      have h2r := h2
      try simp only [Bool.not_eq_true', Bool.not_eq_false', Bool.not_not, bne_iff_ne, bne_eq_false_iff_eq, beq_eq_false_iff_ne, beq_iff_eq, ne_eq, decide_eq_true_eq, decide_eq_false_iff_not, Classical.not_not, List.length_map, List.length_take, Int.toNat_natCast, List.length_map, List.length_append, List.length_cons, List.length_nil, List.length_set, List.length_take] at h2
      refine a_seq ?_
      refine a_region (by kernel_rfl) ?_
      refine op_v' (j_assign (evo rfl)) ?_
      refine op_v' (j_assign (evo rfl)) ?_
      refine op_v' (j_assign (evo rfl)) ?_
      refine op_nil ?_
      refine a_adopt' 2 2 99 2 rfl fun v2 => ?_
      refine a_adopt' 3 3 3 1 rfl fun v3 => ?_
      refine a_todeep 2 0 (.mk 99 2 [(0, (.mk 146 2 []))]) (zs := []) (zs' := []) rfl rfl rfl rfl eat_end rfl ?_
      refine a_ret ?_
      exact ⟨[.own 2 v2, .own 3 v3, .p _], .tup [.own 0 0, .own 1 0, .p _], [], [.deep (.mk 99 2 [(0, (.mk 146 2 []))]) _ none, .row 3 1 _], [(2, v2), (3, v3)], ⟨rfl, rfl, rfl, trivial⟩, rfl, rfl, ⟨⟨rfl, rfl⟩, ⟨rfl, rfl⟩, trivial⟩, rfl, rfl, ⟨by rw [(sOk_no (.inr (by omega)))], rfl, by rw [sL_bad (sOk_no (.inr (by omega))), sP_bad (sOk_no (.inr (by omega)))]; rfl⟩⟩
    ·
      have h2r := h2
      try simp only [Bool.not_eq_true', Bool.not_eq_false', Bool.not_not, bne_iff_ne, bne_eq_false_iff_eq, beq_eq_false_iff_ne, beq_iff_eq, ne_eq, decide_eq_true_eq, decide_eq_false_iff_not, Classical.not_not, List.length_map, List.length_take, Int.toNat_natCast, List.length_map, List.length_append, List.length_cons, List.length_nil, List.length_set, List.length_take] at h2
      refine a_skip ?_
      refine a_seq ?_
      have hso : sOk l = true := sOk_of hpo (by omega)
      refine a_region (by kernel_rfl) ?_
      refine op_v' (j_move (evo rfl)) ?_
      refine op_v' (j_move (evo rfl)) ?_
      refine op_n1' (fun ver => j_call1 (v := .own 26 ver) (hp1 := [(26, some (ver, .deep (.mk 99 2 [(0, (.mk 146 2 []))]) _ none))]) [] true [19] ent85 (f_fixedD l (prop l zeroP).1 (pOk_all hpo) (by have := pOk_len hpo; omega) (prop_ok zero_ok)) ⟨.inl ⟨rfl, rfl⟩, .inr ⟨rfl, view_own rfl rfl, rfl⟩, trivial⟩ trivial rfl rfl rfl (fun _ => rfl) rfl (List.all_eq_true.1 rfl) (.inr ⟨rfl, by first | exact pl_new1 (fun _ => rfl) | exact pl_newC | (simp [plO, plV, plV.plL]; done)⟩) rfl rfl) fun v26x3 => ?_
      refine op_v' (j_assign (evo rfl)) ?_
      refine op_nil ?_
      refine a_freezeG 7 trivial rfl rfl rfl rfl ?_
      refine a_block ?_
      refine a_loopF' (ι := List Con) (fun x => pOk x = true ∧ simpL (l.map (fixC (prop l zeroP).1)) = simpL x) (fun x r => (7, .sl (x.map dC)) :: r) (fun x r => r) (fun x => mu x) (fun _ _ => rfl) (fun _ _ => rfl) (l.map (fixC (prop l zeroP).1)) (by first | exact ⟨s_fixed_ok hpo, rfl⟩ | (dsimp only; exact ⟨s_fixed_ok hpo, rfl⟩)) ⟨⟨rfl, rfl⟩, ⟨rfl, trivial⟩, trivial, ⟨rfl, rfl⟩, ⟨rfl, rfl⟩⟩ ?_
      intro x hx; have hxl := pOk_len hx.1; have hxa := pOk_all hx.1
      refine a_block ?_
      refine a_seq ?_
      refine a_region (by kernel_rfl) ?_
      refine op_v' (j_assign (evo rfl)) ?_
      refine op_nil ?_
      refine a_adopt' 8 8 99 2 rfl fun v8 => ?_
      refine a_seq ?_
      refine a_seq ?_
      refine a_region (by kernel_rfl) ?_
      refine op_v' (j_move (evo rfl)) ?_
      refine op_v' (j_len_map Try.underlying37 rfl) ?_
      refine op_v' (j_move (evo rfl)) ?_
      refine op_nil ?_
      refine a_block ?_
      refine a_loopF' (ι := Nat × Nat) (fun y => y.1 ≤ x.length) (fun y r => (29, .p (.int .i64 ((y.1 : Nat)))) :: (8, .own 8 y.2) :: r) (fun y r => (8, some (y.2, .row 99 2 ((stL (x.take y.1)).map dC))) :: r) (fun y => x.length - y.1) (fun _ _ => rfl) (fun _ _ => rfl) (0, v8) (by first | exact (Nat.zero_le _) | (dsimp only; exact (Nat.zero_le _))) ⟨⟨rfl, rfl⟩, ⟨rfl, rfl, trivial⟩, ⟨rfl, trivial⟩, ⟨rfl, rfl⟩, ⟨rfl, rfl⟩⟩ ?_
      rintro ⟨k, v⟩ hk; dsimp only at hk ⊢
      refine a_seq ?_
      refine a_region (by kernel_rfl) ?_
      refine op_v' (j_lt rfl rfl) ?_
      refine op_nil ?_
      refine a_seq ?_
      refine a_cond rfl (fun h3 => ?_) (fun h3 => ?_)
      ·
        have h3r := h3
        try simp only [Bool.not_eq_true', Bool.not_eq_false', Bool.not_not, bne_iff_ne, bne_eq_false_iff_eq, beq_eq_false_iff_ne, beq_iff_eq, ne_eq, decide_eq_true_eq, decide_eq_false_iff_not, Classical.not_not, List.length_map, List.length_take, Int.toNat_natCast, List.length_map, List.length_append, List.length_cons, List.length_nil, List.length_set, List.length_take] at h3
        refine a_skip ?_
        refine a_seq ?_
        refine a_block ?_
        refine a_seq ?_
        have hck := all_at (d := default) hxa (k := k) (by omega)
        have hlc := cOk_len hck
        have hbc := cOk_bound hck
        have hst := stL_takelen (l := x) (k := k)
        refine a_region (by kernel_rfl) ?_
        refine op_v' (j_elemN slt37 rfl rfl rfl (at_map (by first | omega | (simp only [List.length_map, List.length_take, Int.toNat_natCast, List.length_map, List.length_append, List.length_cons, List.length_nil, List.length_set, List.length_take]; omega))) rfl) ?_
        refine op_v' (j_loada_el (ys := [.sl _, .p _]) agg99 rfl (at_map (by first | omega | (simp only [List.length_map, List.length_take, Int.toNat_natCast, List.length_map, List.length_append, List.length_cons, List.length_nil, List.length_set, List.length_take]; omega))) rfl (Nat.le_refl _)) ?_
        refine op_n' (fun ver => j_alloc elt99 rfl) fun v10x4 => ?_
        refine op_s' (j_storea_box0 agg99 rfl rfl rfl rfl rfl rfl) ?_
        refine op_nil ?_
        refine a_seq ?_
        refine a_region (by kernel_rfl) ?_
        refine op_v' (j_fldp fld99f1 rfl rfl) ?_
        refine op_v' (j_load_box leaf3 rfl rfl rfl) ?_
        refine op_v' (j_gt rfl rfl) ?_
        refine op_nil ?_
        refine a_cond rfl (fun h4 => ?_) (fun h4 => ?_)
        ·
          have h4r := h4
          try simp only [Bool.not_eq_true', Bool.not_eq_false', Bool.not_not, bne_iff_ne, bne_eq_false_iff_eq, beq_eq_false_iff_ne, beq_iff_eq, ne_eq, decide_eq_true_eq, decide_eq_false_iff_not, Classical.not_not, List.length_map, List.length_take, Int.toNat_natCast, List.length_map, List.length_append, List.length_cons, List.length_nil, List.length_set, List.length_take] at h4
          refine a_seq ?_
          refine a_region (by kernel_rfl) ?_
          refine op_v' (j_loada_box (ys := [.sl _, .p _]) agg99 rfl rfl rfl (Nat.le_of_ble_eq_true rfl)) ?_
          refine op_v0' (j_call0 (v := .tup [.agg [.sl _, .p _], .p _]) (hp1 := []) [] false [] ent86 (f_satImpl (x.getD k default) hck) ⟨.inl ⟨rfl, rfl⟩, trivial⟩ trivial rfl rfl (fun h => by cases h) rfl (fun _ h => by cases h) (.inl rfl) rfl rfl) ?_
          refine op_v' (j_move (evo rfl)) ?_
          refine op_v' (j_extract rfl rfl) ?_
          refine op_v' (j_extract rfl rfl) ?_
          refine op_n' (fun ver => j_alloc elt99 rfl) fun v11x5 => ?_
          refine op_s' (j_storea_box0 agg99 rfl rfl rfl rfl rfl rfl) ?_
          refine op_v' (j_assign (evo rfl)) ?_
          refine op_nil ?_
          refine a_region (by kernel_rfl) ?_
          refine op_v' (j_move (evo rfl)) ?_
          refine op_v' (j_loada_box (ys := [.sl _, .p _]) agg99 rfl rfl rfl (Nat.le_of_ble_eq_true rfl)) ?_
          refine op_n' (fun ver => j_buildSlice (parts := [(0, .tmp 42)]) (es := [[_, _]]) slt37 elt99 rfl rfl (by decide) (by decide) rfl rfl (by simp) rfl) fun v43x6 => ?_
          refine op_n' (fun ver => j_append_own slt37 elt99 rfl rfl rfl rfl rfl rfl (by rw [maxLen_eq]; first | omega | (simp only [List.length_map, List.length_take, Int.toNat_natCast, List.length_map, List.length_append, List.length_cons, List.length_nil, List.length_set, List.length_take]; omega)) (by first | omega | (simp only [List.length_map, List.length_take, Int.toNat_natCast, List.length_map, List.length_append, List.length_cons, List.length_nil, List.length_set, List.length_take]; omega))) fun v8x7 => ?_
          refine op_v' (j_assign (evo rfl)) ?_
          refine op_nil ?_
          refine a_region (by kernel_rfl) ?_
          refine op_v' (j_add rfl rfl (by first | omega | (simp only [List.length_map, List.length_take, Int.toNat_natCast, List.length_map, List.length_append, List.length_cons, List.length_nil, List.length_set, List.length_take]; omega)) (by first | omega | (simp only [List.length_map, List.length_take, Int.toNat_natCast, List.length_map, List.length_append, List.length_cons, List.length_nil, List.length_set, List.length_take]; omega))) ?_
          refine op_v' (j_move (evo rfl)) ?_
          refine op_nil ?_
          exact ⟨(k + 1, v8x7), (by first | exact (by first | omega | (simp only [List.length_map, List.length_take, Int.toNat_natCast, List.length_map, List.length_append, List.length_cons, List.length_nil, List.length_set, List.length_take]; omega)) | (dsimp only; exact (by first | omega | (simp only [List.length_map, List.length_take, Int.toNat_natCast, List.length_map, List.length_append, List.length_cons, List.length_nil, List.length_set, List.length_take]; omega)))), ⟨⟨rfl, rfl⟩, ⟨rfl, rfl, trivial⟩, ⟨rowEq (by rw [stL_y (by omega) (by omega), List.map_append]; rfl), trivial⟩, ⟨rfl, rfl⟩, ⟨rfl, rfl⟩⟩, (by first | exact (by first | omega | (simp only [List.length_map, List.length_take, Int.toNat_natCast, List.length_map, List.length_append, List.length_cons, List.length_nil, List.length_set, List.length_take]; omega)) | (dsimp only; exact (by first | omega | (simp only [List.length_map, List.length_take, Int.toNat_natCast, List.length_map, List.length_append, List.length_cons, List.length_nil, List.length_set, List.length_take]; omega))))⟩
        ·
          have h4r := h4
          try simp only [Bool.not_eq_true', Bool.not_eq_false', Bool.not_not, bne_iff_ne, bne_eq_false_iff_eq, beq_eq_false_iff_ne, beq_iff_eq, ne_eq, decide_eq_true_eq, decide_eq_false_iff_not, Classical.not_not, List.length_map, List.length_take, Int.toNat_natCast, List.length_map, List.length_append, List.length_cons, List.length_nil, List.length_set, List.length_take] at h4
          refine a_skip ?_
          refine a_region (by kernel_rfl) ?_
          refine op_v' (j_add rfl rfl (by first | omega | (simp only [List.length_map, List.length_take, Int.toNat_natCast, List.length_map, List.length_append, List.length_cons, List.length_nil, List.length_set, List.length_take]; omega)) (by first | omega | (simp only [List.length_map, List.length_take, Int.toNat_natCast, List.length_map, List.length_append, List.length_cons, List.length_nil, List.length_set, List.length_take]; omega))) ?_
          refine op_v' (j_move (evo rfl)) ?_
          refine op_nil ?_
          exact ⟨(k + 1, v), (by first | exact (by first | omega | (simp only [List.length_map, List.length_take, Int.toNat_natCast, List.length_map, List.length_append, List.length_cons, List.length_nil, List.length_set, List.length_take]; omega)) | (dsimp only; exact (by first | omega | (simp only [List.length_map, List.length_take, Int.toNat_natCast, List.length_map, List.length_append, List.length_cons, List.length_nil, List.length_set, List.length_take]; omega)))), ⟨⟨rfl, rfl⟩, ⟨rfl, rfl, trivial⟩, ⟨rowEq (by rw [stL_n (by omega) (by omega)]), trivial⟩, ⟨rfl, rfl⟩, ⟨rfl, rfl⟩⟩, (by first | exact (by first | omega | (simp only [List.length_map, List.length_take, Int.toNat_natCast, List.length_map, List.length_append, List.length_cons, List.length_nil, List.length_set, List.length_take]; omega)) | (dsimp only; exact (by first | omega | (simp only [List.length_map, List.length_take, Int.toNat_natCast, List.length_map, List.length_append, List.length_cons, List.length_nil, List.length_set, List.length_take]; omega))))⟩
      ·
        have h3r := h3
        try simp only [Bool.not_eq_true', Bool.not_eq_false', Bool.not_not, bne_iff_ne, bne_eq_false_iff_eq, beq_eq_false_iff_ne, beq_iff_eq, ne_eq, decide_eq_true_eq, decide_eq_false_iff_not, Classical.not_not, List.length_map, List.length_take, Int.toNat_natCast, List.length_map, List.length_append, List.length_cons, List.length_nil, List.length_set, List.length_take] at h3
        refine a_exit ?_
        refine a_seq ?_
        obtain rfl : k = x.length := by omega
        rw [List.take_length]
        refine a_freeze' 8 (noA _ _ _ _ _) rfl rfl ?_
        refine a_region (by kernel_rfl) ?_
        refine op_v' (j_move (evo rfl)) ?_
        refine op_n1' (fun ver => j_call1 (v := .own 47 ver) (hp1 := [(47, some (ver, .row 99 2 _))]) [] false [] ent87 (f_unc (stL x) (stL_ok hx.1)) ⟨.inl ⟨rfl, rfl⟩, trivial⟩ trivial rfl rfl rfl (fun h => by cases h) rfl (List.all_eq_true.1 rfl) (.inl rfl) rfl rfl) fun v47x8 => ?_
        refine op_freezeK 47 trivial rfl rfl rfl ?_
        refine op_v' (j_assign (evo rfl)) ?_
        refine op_nil ?_
        refine a_seq ?_
        refine a_seq ?_
        refine a_region (by kernel_rfl) ?_
        refine op_v' (j_move (evo rfl)) ?_
        refine op_v' (j_move (evo rfl)) ?_
        refine op_v0' (j_call0 (v := .p _) (hp1 := []) [] false [] ent88 (f_eqFC 89 x (stepL x) ent89 (fun c d => f_same c d)) ⟨.inl ⟨rfl, rfl⟩, .inl ⟨rfl, rfl⟩, .inl ⟨rfl, rfl⟩, trivial⟩ trivial rfl rfl (fun h => by cases h) rfl (fun _ h => by cases h) (.inl rfl) rfl rfl) ?_
        refine op_nil ?_
        refine a_cond rfl (fun h5 => ?_) (fun h5 => ?_)
        ·
          have h5r := h5
          try simp only [Bool.not_eq_true', Bool.not_eq_false', Bool.not_not, bne_iff_ne, bne_eq_false_iff_eq, beq_eq_false_iff_ne, beq_iff_eq, ne_eq, decide_eq_true_eq, decide_eq_false_iff_not, Classical.not_not, List.length_map, List.length_take, Int.toNat_natCast, List.length_map, List.length_append, List.length_cons, List.length_nil, List.length_set, List.length_take] at h5
          refine a_seq ?_
          have hend : simpL (l.map (fixC (prop l zeroP).1)) = stepL x := by have he : x = stepL x := (by assumption); rw [hx.2, simp_end he.symm]; exact he
          refine a_region (by kernel_rfl) ?_
          refine op_v' (j_move (evo rfl)) ?_
          refine op_n1' (fun ver => j_call1 (v := .own 52 ver) (hp1 := [(52, some (ver, .deep (.mk 99 2 [(0, (.mk 146 2 []))]) _ none))]) [] false [] ent90 (f_ownAllD (stepL x) (by have := step_len (l := x); omega) (fun c hc => by have := cOk_len (List.all_eq_true.1 (pOk_all (step_ok hx.1)) c hc); omega)) ⟨.inl ⟨rfl, rfl⟩, trivial⟩ trivial rfl rfl rfl (fun h => by cases h) rfl (List.all_eq_true.1 rfl) (.inl rfl) rfl rfl) fun v52x9 => ?_
          refine op_v' (j_move (evo rfl)) ?_
          refine op_v' (j_assign (evo rfl)) ?_
          refine op_v' (j_assign (evo rfl)) ?_
          refine op_v' (j_assign (evo rfl)) ?_
          refine op_nil ?_
          refine a_ret ?_
          exact ⟨[.own 52 v52x9, .own 19 v19x2, .p _], .tup [.own 0 0, .own 1 0, .p _], [], [.deep (.mk 99 2 [(0, (.mk 146 2 []))]) _ none, .row 3 1 _], [(52, v52x9), (19, v19x2)], ⟨rfl, rfl, rfl, trivial⟩, rfl, rfl, ⟨⟨rfl, rfl⟩, ⟨rfl, rfl⟩, trivial⟩, rfl, rfl, ⟨by rw [hso], rfl, by rw [sL_ok hso, sP_ok hso, hend]⟩⟩
        ·
          have h5r := h5
          try simp only [Bool.not_eq_true', Bool.not_eq_false', Bool.not_not, bne_iff_ne, bne_eq_false_iff_eq, beq_eq_false_iff_ne, beq_iff_eq, ne_eq, decide_eq_true_eq, decide_eq_false_iff_not, Classical.not_not, List.length_map, List.length_take, Int.toNat_natCast, List.length_map, List.length_append, List.length_cons, List.length_nil, List.length_set, List.length_take] at h5
          refine a_skip ?_
          refine a_region (by kernel_rfl) ?_
          refine op_v' (j_move (evo rfl)) ?_
          refine op_v' (j_assign (evo rfl)) ?_
          refine op_nil ?_
          exact ⟨stepL x, (by first | exact ⟨step_ok hx.1, hx.2.trans (simp_next hxa (ne_sw (by first | exact .inl (by assumption) | exact .inr (by assumption))))⟩ | (dsimp only; exact ⟨step_ok hx.1, hx.2.trans (simp_next hxa (ne_sw (by first | exact .inl (by assumption) | exact .inr (by assumption))))⟩)), ⟨⟨rfl, rfl⟩, ⟨rfl, trivial⟩, trivial, ⟨rfl, rfl⟩, ⟨rfl, rfl⟩⟩, (by first | exact step_lt hxa (ne_sw (by first | exact .inl (by assumption) | exact .inr (by assumption))) | (dsimp only; exact step_lt hxa (ne_sw (by first | exact .inl (by assumption) | exact .inr (by assumption)))))⟩


theorem f_lawESP (l : List Con) : Fn Try.prog 9 [.sl (l.map dC)] [] (fun rr ii nn => rr = .p (.bool true) ∧ ii = [] ∧ nn = []) := by
  refine fn_of Try.func9 rfl (Nat.le_of_ble_eq_true rfl) fun w X g => ?_
  show AWp _ _ _ ⟨[(0, .sl (l.map dC))], []⟩
  refine a_seq ?_
  refine a_region (by kernel_rfl) ?_
  refine op_v' (j_assign (evo rfl)) ?_
  refine op_nil ?_
  refine a_seq ?_
  refine a_region (by kernel_rfl) ?_
  refine op_v' (j_assign (evo rfl)) ?_
  refine op_nil ?_
  refine a_seq ?_
  refine a_region (by kernel_rfl) ?_
  refine op_v' (j_move (evo rfl)) ?_
  refine op_v' (j_move (evo rfl)) ?_
  refine op_v0' (j_call0 (v := .p _) (hp1 := []) [] false [] ent33 (f_szConS l _ (by omega)) ⟨.inl ⟨rfl, rfl⟩, .inl ⟨rfl, rfl⟩, trivial⟩ trivial rfl rfl (fun h => by cases h) rfl (fun _ h => by cases h) (.inl rfl) rfl rfl) ?_
  refine op_v' (j_assign (evo rfl)) ?_
  refine op_nil ?_
  refine a_seq ?_
  refine a_seq ?_
  refine a_region (by kernel_rfl) ?_
  refine op_v' (j_move (evo rfl)) ?_
  refine op_v' (j_lt rfl rfl) ?_
  refine op_nil ?_
  refine a_cond rfl (fun h1 => ?_) (fun h1 => ?_)
  ·
    have h1r := h1
    try simp only [Bool.not_eq_true', Bool.not_eq_false', Bool.not_not, bne_iff_ne, bne_eq_false_iff_eq, beq_eq_false_iff_ne, beq_iff_eq, ne_eq, decide_eq_true_eq, decide_eq_false_iff_not, Classical.not_not, List.length_map, List.length_take, Int.toNat_natCast] at h1
    refine a_seq ?_
    refine a_region (by kernel_rfl) ?_
    refine op_v' (j_assign (evo rfl)) ?_
    refine op_nil ?_
    refine a_ret ?_
    exact ⟨[.p _], .p _, [], [], [], ⟨rfl, trivial⟩, rfl, rfl, trivial, rfl, rfl, ⟨rfl, rfl, rfl⟩⟩
  ·
    have h1r := h1
    try simp only [Bool.not_eq_true', Bool.not_eq_false', Bool.not_not, bne_iff_ne, bne_eq_false_iff_eq, beq_eq_false_iff_ne, beq_iff_eq, ne_eq, decide_eq_true_eq, decide_eq_false_iff_not, Classical.not_not, List.length_map, List.length_take, Int.toNat_natCast] at h1
    have hsz := fitC_of h1
    have hpm : endC 1 (sL l) + (sP l).length ≤ 4611686018427387904 := by have := fitC_end (fit_sL (l := l)); have h2 := endC_sum (k := 1) (l := sL l); have h3 := fit_sL (l := l); have h4 := sP_len (l := l); unfold fitC at h3; omega
    refine a_skip ?_
    refine a_seq ?_
    refine a_region (by kernel_rfl) ?_
    refine op_v' (j_move (evo rfl)) ?_
    refine op_n1' (fun ver => j_call1 (v := .own 24 ver) (hp1 := [(24, some (ver, .deep (.mk 99 2 [(0, (.mk 146 2 []))]) _ none))]) [] false [] ent34 (f_toConS l hsz) ⟨.inl ⟨rfl, rfl⟩, trivial⟩ trivial rfl rfl rfl (fun h => by cases h) rfl (List.all_eq_true.1 rfl) (.inl rfl) rfl rfl) fun v24x1 => ?_
    refine op_freezeG 24 trivial rfl rfl rfl rfl ?_
    refine op_v0' (j_call0 (v := .tup [.sl _, .sl _, .p _]) (hp1 := []) [] false [] ent26 (f_simpSpec l) ⟨.inl ⟨rfl, rfl⟩, trivial⟩ trivial rfl rfl (fun h => by cases h) rfl (fun _ h => by cases h) (.inl rfl) rfl rfl) ?_
    refine op_v' (j_move (evo rfl)) ?_
    refine op_v' (j_extract rfl rfl) ?_
    refine op_v' (j_extract rfl rfl) ?_
    refine op_v' (j_extract rfl rfl) ?_
    refine op_v' (j_assign (evo rfl)) ?_
    refine op_v' (j_assign (evo rfl)) ?_
    refine op_v' (j_assign (evo rfl)) ?_
    refine op_nil ?_
    refine a_seq ?_
    refine a_region (by kernel_rfl) ?_
    refine op_v' (j_move (evo rfl)) ?_
    refine op_n1' (fun ver => j_call1 (v := .own 30 ver) (hp1 := [(30, some (ver, .deep (.mk 99 2 [(0, (.mk 146 2 []))]) _ none))]) [] false [] ent34 (f_toConS l hsz) ⟨.inl ⟨rfl, rfl⟩, trivial⟩ trivial rfl rfl rfl (fun h => by cases h) rfl (List.all_eq_true.1 rfl) (.inl rfl) rfl rfl) fun v30x2 => ?_
    refine op_v' (j_assign (evo rfl)) ?_
    refine op_nil ?_
    refine a_seq ?_
    refine a_region (by kernel_rfl) ?_
    refine op_v' (j_move (evo rfl)) ?_
    refine op_call2 (v := fun ver ver2 => .tup [.own 33 ver, .own 100033 ver2, .p _]) (hp1 := fun ver ver2 => [(33, some (ver, .deep (.mk 99 2 [(0, (.mk 146 2 []))]) _ none)), (100033, some (ver2, .row 3 1 _))]) [] true ent25 (f_simpImplD l) ⟨.inr ⟨rfl, view_ownD rfl rfl, rfl⟩, trivial⟩ trivial rfl rfl rfl rfl (.inr ⟨rfl, by first | exact pl_two pl_conD (pl_rowM (fun _ => rfl)) | exact pl_two (pl_rowM (fun _ => rfl)) pl_conD | exact pl_two (pl_rowM (fun _ => rfl)) (pl_rowM (fun _ => rfl))⟩) (fun _ _ => rfl) (fun _ _ => rfl) ?_
    rintro  v33x3 v100033x3
    dsimp only [List.cons_append, List.nil_append]
    refine op_v' (j_move (evo rfl)) ?_
    refine op_v' (j_extract rfl rfl) ?_
    refine op_v' (j_extract rfl rfl) ?_
    refine op_v' (j_extract rfl rfl) ?_
    refine op_v' (j_assign (evo rfl)) ?_
    refine op_v' (j_assign (evo rfl)) ?_
    refine op_v' (j_assign (evo rfl)) ?_
    refine op_nil ?_
    refine a_seq ?_
    refine a_seq ?_
    refine a_region (by kernel_rfl) ?_
    refine op_v' (j_move (evo rfl)) ?_
    refine op_v' (j_move (evo rfl)) ?_
    refine op_v0' (j_call0 (v := .p _) (hp1 := []) [] true [33] ent35 (f_eqConS (sL l) (sL l)) ⟨.inr ⟨rfl, view_ownD rfl rfl, rfl⟩, .inl ⟨rfl, rfl⟩, trivial⟩ trivial rfl rfl (fun _ => rfl) rfl (fun _ h => by cases h) (.inr ⟨rfl, by first | exact pl_new1 (fun _ => rfl) | exact pl_newC | (simp [plO, plV, plV.plL]; done)⟩) rfl rfl) ?_
    refine op_v' (j_not rfl) ?_
    refine op_v' (j_move (evo rfl)) ?_
    refine op_split' 41 rfl (fun h2 => ?_) (fun h2 => ?_)
    ·
      have h2r := h2
      try simp only [Bool.not_eq_true', Bool.not_eq_false', Bool.not_not, bne_iff_ne, bne_eq_false_iff_eq, beq_eq_false_iff_ne, beq_iff_eq, ne_eq, decide_eq_true_eq, decide_eq_false_iff_not, Classical.not_not, List.length_map, List.length_take, Int.toNat_natCast] at h2
      exact absurd h2r (by simp)
    ·
      have h2r := h2
      try simp only [Bool.not_eq_true', Bool.not_eq_false', Bool.not_not, bne_iff_ne, bne_eq_false_iff_eq, beq_eq_false_iff_ne, beq_iff_eq, ne_eq, decide_eq_true_eq, decide_eq_false_iff_not, Classical.not_not, List.length_map, List.length_take, Int.toNat_natCast] at h2
      refine op_v' (j_want rfl rfl h2r (j_move (evo rfl))) ?_
      refine op_v' (j_want rfl rfl h2r (j_move (evo rfl))) ?_
      refine op_v0' (j_want rfl rfl h2r (j_call0 (v := .p _) (hp1 := []) [] true [100033] ent36 (f_eqIntS (sP l) (sP l)) ⟨.inr ⟨rfl, view_own rfl rfl, rfl⟩, .inl ⟨rfl, rfl⟩, trivial⟩ trivial rfl rfl (fun _ => rfl) rfl (fun _ h => by cases h) (.inr ⟨rfl, by first | exact pl_new1 (fun _ => rfl) | exact pl_newC | (simp [plO, plV, plV.plL]; done)⟩) rfl rfl)) ?_
      refine op_v' (j_want rfl rfl h2r (j_not rfl)) ?_
      refine op_v' (j_pick_f rfl h2r (evo rfl)) ?_
      refine op_v' (j_move (evo rfl)) ?_
      refine op_split' 47 rfl (fun h3 => ?_) (fun h3 => ?_)
      ·
        have h3r := h3
        try simp only [Bool.not_eq_true', Bool.not_eq_false', Bool.not_not, bne_iff_ne, bne_eq_false_iff_eq, beq_eq_false_iff_ne, beq_iff_eq, ne_eq, decide_eq_true_eq, decide_eq_false_iff_not, Classical.not_not, List.length_map, List.length_take, Int.toNat_natCast] at h3
        exact absurd h3r (by simp)
      ·
        have h3r := h3
        try simp only [Bool.not_eq_true', Bool.not_eq_false', Bool.not_not, bne_iff_ne, bne_eq_false_iff_eq, beq_eq_false_iff_ne, beq_iff_eq, ne_eq, decide_eq_true_eq, decide_eq_false_iff_not, Classical.not_not, List.length_map, List.length_take, Int.toNat_natCast] at h3
        refine op_v' (j_want rfl rfl h3r (j_move (evo rfl))) ?_
        refine op_v' (j_want rfl rfl h3r (j_move (evo rfl))) ?_
        refine op_v' (j_want rfl rfl h3r (j_neb Try.underlying4 rfl rfl)) ?_
        refine op_v' (j_pick_f rfl h3r (evo rfl)) ?_
        refine op_nil ?_
        refine a_cond rfl (fun h4 => ?_) (fun h4 => ?_)
        ·
          have h4r := h4
          try simp only [Bool.not_eq_true', Bool.not_eq_false', Bool.not_not, bne_iff_ne, bne_eq_false_iff_eq, beq_eq_false_iff_ne, beq_iff_eq, ne_eq, decide_eq_true_eq, decide_eq_false_iff_not, Classical.not_not, List.length_map, List.length_take, Int.toNat_natCast] at h4
          exact absurd h4r (by simp)
        ·
          have h4r := h4
          try simp only [Bool.not_eq_true', Bool.not_eq_false', Bool.not_not, bne_iff_ne, bne_eq_false_iff_eq, beq_eq_false_iff_ne, beq_iff_eq, ne_eq, decide_eq_true_eq, decide_eq_false_iff_not, Classical.not_not, List.length_map, List.length_take, Int.toNat_natCast] at h4
          refine a_skip ?_
          refine a_seq ?_
          refine a_seq ?_
          refine a_region (by kernel_rfl) ?_
          refine op_v' (j_move (evo rfl)) ?_
          refine op_v' (j_move (evo rfl)) ?_
          refine op_n1' (fun ver => j_call1 (v := .own 54 ver) (hp1 := [(54, some (ver, .deep (.mk 99 2 [(0, (.mk 146 2 []))]) _ none))]) [] false [] ent34 (f_toConS l hsz) ⟨.inl ⟨rfl, rfl⟩, trivial⟩ trivial rfl rfl rfl (fun h => by cases h) rfl (List.all_eq_true.1 rfl) (.inl rfl) rfl rfl) fun v54x4 => ?_
          refine op_v0' (j_call0 (v := .p _) (hp1 := []) [] true [30, 54] ent35 (f_eqConS l l) ⟨.inr ⟨rfl, view_ownD rfl rfl, rfl⟩, .inr ⟨rfl, view_ownD rfl rfl, rfl⟩, trivial⟩ trivial rfl rfl (fun _ => rfl) rfl (fun _ h => by cases h) (.inr ⟨rfl, by first | exact pl_new1 (fun _ => rfl) | exact pl_newC | (simp [plO, plV, plV.plL]; done)⟩) rfl rfl) ?_
          refine op_v' (j_not rfl) ?_
          refine op_nil ?_
          refine a_cond rfl (fun h5 => ?_) (fun h5 => ?_)
          ·
            have h5r := h5
            try simp only [Bool.not_eq_true', Bool.not_eq_false', Bool.not_not, bne_iff_ne, bne_eq_false_iff_eq, beq_eq_false_iff_ne, beq_iff_eq, ne_eq, decide_eq_true_eq, decide_eq_false_iff_not, Classical.not_not, List.length_map, List.length_take, Int.toNat_natCast] at h5
            exact absurd h5r (by simp)
          ·
            have h5r := h5
            try simp only [Bool.not_eq_true', Bool.not_eq_false', Bool.not_not, bne_iff_ne, bne_eq_false_iff_eq, beq_eq_false_iff_ne, beq_iff_eq, ne_eq, decide_eq_true_eq, decide_eq_false_iff_not, Classical.not_not, List.length_map, List.length_take, Int.toNat_natCast] at h5
            refine a_skip ?_
            refine a_seq ?_
            refine a_region (by kernel_rfl) ?_
            refine op_v' (j_assign (evo rfl)) ?_
            refine op_nil ?_
            refine a_seq ?_
            refine a_region (by kernel_rfl) ?_
            refine op_v' (j_move (evo rfl)) ?_
            refine op_v' (j_move (evo rfl)) ?_
            refine op_v0' (j_call0 (v := .p _) (hp1 := [(30, some (v30x2, .deep (.mk 99 2 [(0, (.mk 146 2 []))]) _ none))]) [(30, v30x2)] false [30] ent37 (f_markConS 1 l (fitC_end hsz)) ⟨.inl ⟨rfl, rfl⟩, .inl ⟨rfl, rfl⟩, trivial⟩ ⟨⟨rfl, rfl⟩, trivial⟩ rfl rfl (fun h => by cases h) rfl (List.all_eq_true.1 rfl) (.inl rfl) rfl rfl) ?_
            refine op_v' (j_assign (evo rfl)) ?_
            refine op_nil ?_
            refine a_seq ?_
            refine a_seq ?_
            refine a_region (by kernel_rfl) ?_
            refine op_v' (j_move (evo rfl)) ?_
            refine op_v' (j_lt rfl rfl) ?_
            refine op_v' (j_move (evo rfl)) ?_
            refine op_split' 62 rfl (fun h6 => ?_) (fun h6 => ?_)
            ·
              have h6r := h6
              try simp only [Bool.not_eq_true', Bool.not_eq_false', Bool.not_not, bne_iff_ne, bne_eq_false_iff_eq, beq_eq_false_iff_ne, beq_iff_eq, ne_eq, decide_eq_true_eq, decide_eq_false_iff_not, Classical.not_not, List.length_map, List.length_take, Int.toNat_natCast] at h6
              exact absurd (of_decide_eq_true h6r) (by omega)
            ·
              have h6r := h6
              try simp only [Bool.not_eq_true', Bool.not_eq_false', Bool.not_not, bne_iff_ne, bne_eq_false_iff_eq, beq_eq_false_iff_ne, beq_iff_eq, ne_eq, decide_eq_true_eq, decide_eq_false_iff_not, Classical.not_not, List.length_map, List.length_take, Int.toNat_natCast] at h6
              refine op_v' (j_want rfl rfl h6r (j_move (evo rfl))) ?_
              refine op_v' (j_want rfl rfl h6r (j_move (evo rfl))) ?_
              refine op_v0' (j_want rfl rfl h6r (j_call0 (v := .p _) (hp1 := []) [] true [33] ent35 (f_eqConS (sL l) (sL l)) ⟨.inr ⟨rfl, view_ownD rfl rfl, rfl⟩, .inl ⟨rfl, rfl⟩, trivial⟩ trivial rfl rfl (fun _ => rfl) rfl (fun _ h => by cases h) (.inr ⟨rfl, by first | exact pl_new1 (fun _ => rfl) | exact pl_newC | (simp [plO, plV, plV.plL]; done)⟩) rfl rfl)) ?_
              refine op_v' (j_want rfl rfl h6r (j_not rfl)) ?_
              refine op_v' (j_pick_f rfl h6r (evo rfl)) ?_
              refine op_v' (j_move (evo rfl)) ?_
              refine op_split' 68 rfl (fun h7 => ?_) (fun h7 => ?_)
              ·
                have h7r := h7
                try simp only [Bool.not_eq_true', Bool.not_eq_false', Bool.not_not, bne_iff_ne, bne_eq_false_iff_eq, beq_eq_false_iff_ne, beq_iff_eq, ne_eq, decide_eq_true_eq, decide_eq_false_iff_not, Classical.not_not, List.length_map, List.length_take, Int.toNat_natCast] at h7
                exact absurd h7r (by simp)
              ·
                have h7r := h7
                try simp only [Bool.not_eq_true', Bool.not_eq_false', Bool.not_not, bne_iff_ne, bne_eq_false_iff_eq, beq_eq_false_iff_ne, beq_iff_eq, ne_eq, decide_eq_true_eq, decide_eq_false_iff_not, Classical.not_not, List.length_map, List.length_take, Int.toNat_natCast] at h7
                refine op_v' (j_want rfl rfl h7r (j_move (evo rfl))) ?_
                refine op_v' (j_want rfl rfl h7r (j_move (evo rfl))) ?_
                refine op_v0' (j_want rfl rfl h7r (j_call0 (v := .p _) (hp1 := []) [] true [100033] ent36 (f_eqIntS (sP l) (sP l)) ⟨.inr ⟨rfl, view_own rfl rfl, rfl⟩, .inl ⟨rfl, rfl⟩, trivial⟩ trivial rfl rfl (fun _ => rfl) rfl (fun _ h => by cases h) (.inr ⟨rfl, by first | exact pl_new1 (fun _ => rfl) | exact pl_newC | (simp [plO, plV, plV.plL]; done)⟩) rfl rfl)) ?_
                refine op_v' (j_want rfl rfl h7r (j_not rfl)) ?_
                refine op_v' (j_pick_f rfl h7r (evo rfl)) ?_
                refine op_v' (j_move (evo rfl)) ?_
                refine op_split' 74 rfl (fun h8 => ?_) (fun h8 => ?_)
                ·
                  have h8r := h8
                  try simp only [Bool.not_eq_true', Bool.not_eq_false', Bool.not_not, bne_iff_ne, bne_eq_false_iff_eq, beq_eq_false_iff_ne, beq_iff_eq, ne_eq, decide_eq_true_eq, decide_eq_false_iff_not, Classical.not_not, List.length_map, List.length_take, Int.toNat_natCast] at h8
                  exact absurd h8r (by simp)
                ·
                  have h8r := h8
                  try simp only [Bool.not_eq_true', Bool.not_eq_false', Bool.not_not, bne_iff_ne, bne_eq_false_iff_eq, beq_eq_false_iff_ne, beq_iff_eq, ne_eq, decide_eq_true_eq, decide_eq_false_iff_not, Classical.not_not, List.length_map, List.length_take, Int.toNat_natCast] at h8
                  refine op_v' (j_want rfl rfl h8r (j_move (evo rfl))) ?_
                  refine op_v' (j_want rfl rfl h8r (j_move (evo rfl))) ?_
                  refine op_v' (j_want rfl rfl h8r (j_neb Try.underlying4 rfl rfl)) ?_
                  refine op_v' (j_pick_f rfl h8r (evo rfl)) ?_
                  refine op_nil ?_
                  refine a_cond rfl (fun h9 => ?_) (fun h9 => ?_)
                  ·
                    have h9r := h9
                    try simp only [Bool.not_eq_true', Bool.not_eq_false', Bool.not_not, bne_iff_ne, bne_eq_false_iff_eq, beq_eq_false_iff_ne, beq_iff_eq, ne_eq, decide_eq_true_eq, decide_eq_false_iff_not, Classical.not_not, List.length_map, List.length_take, Int.toNat_natCast] at h9
                    exact absurd h9r (by simp)
                  ·
                    have h9r := h9
                    try simp only [Bool.not_eq_true', Bool.not_eq_false', Bool.not_not, bne_iff_ne, bne_eq_false_iff_eq, beq_eq_false_iff_ne, beq_iff_eq, ne_eq, decide_eq_true_eq, decide_eq_false_iff_not, Classical.not_not, List.length_map, List.length_take, Int.toNat_natCast] at h9
                    refine a_skip ?_
                    refine a_seq ?_
                    refine a_region (by kernel_rfl) ?_
                    refine op_v' (j_assign (evo rfl)) ?_
                    refine op_nil ?_
                    refine a_seq ?_
                    refine a_region (by kernel_rfl) ?_
                    refine op_v' (j_move (evo rfl)) ?_
                    refine op_v' (j_move (evo rfl)) ?_
                    refine op_v0' (j_call0 (v := .p _) (hp1 := [(33, some (v33x3, .deep (.mk 99 2 [(0, (.mk 146 2 []))]) _ none))]) [(33, v33x3)] false [33] ent37 (f_markConS 1 (sL l) (fitC_end fit_sL)) ⟨.inl ⟨rfl, rfl⟩, .inl ⟨rfl, rfl⟩, trivial⟩ ⟨⟨rfl, rfl⟩, trivial⟩ rfl rfl (fun h => by cases h) rfl (List.all_eq_true.1 rfl) (.inl rfl) rfl rfl) ?_
                    refine op_v' (j_assign (evo rfl)) ?_
                    refine op_nil ?_
                    refine a_seq ?_
                    refine a_region (by kernel_rfl) ?_
                    refine op_v' (j_move (evo rfl)) ?_
                    refine op_v' (j_move (evo rfl)) ?_
                    refine op_v0' (j_call0 (v := .p _) (hp1 := [(100033, some (v100033x3, .row 3 1 _))]) [(100033, v100033x3)] false [100033] ent38 (f_markIntS (endC 1 (sL l)) (sP l) hpm) ⟨.inl ⟨rfl, rfl⟩, .inl ⟨rfl, rfl⟩, trivial⟩ ⟨⟨rfl, rfl⟩, trivial⟩ rfl rfl (fun h => by cases h) rfl (List.all_eq_true.1 rfl) (.inl rfl) rfl rfl) ?_
                    refine op_v' (j_assign (evo rfl)) ?_
                    refine op_nil ?_
                    refine a_seq ?_
                    refine a_region (by kernel_rfl) ?_
                    refine op_v' (j_assign (evo rfl)) ?_
                    refine op_nil ?_
                    refine a_seq ?_
                    refine a_region (by kernel_rfl) ?_
                    refine op_v' (j_move (evo rfl)) ?_
                    refine op_v' (j_move (evo rfl)) ?_
                    refine op_v0' (j_call0 (v := .p _) (hp1 := []) [] true [33] ent39 (f_heldConS 1 (sL l) (fitC_end fit_sL)) ⟨.inr ⟨rfl, view_ownD rfl rfl, rfl⟩, .inl ⟨rfl, rfl⟩, trivial⟩ trivial rfl rfl (fun _ => rfl) rfl (fun _ h => by cases h) (.inr ⟨rfl, by first | exact pl_new1 (fun _ => rfl) | exact pl_newC | (simp [plO, plV, plV.plL]; done)⟩) rfl rfl) ?_
                    refine op_v' (j_assign (evo rfl)) ?_
                    refine op_nil ?_
                    refine a_seq ?_
                    refine a_seq ?_
                    refine a_region (by kernel_rfl) ?_
                    refine op_v' (j_move (evo rfl)) ?_
                    refine op_v' (j_lt rfl rfl) ?_
                    refine op_nil ?_
                    refine a_cond rfl (fun h10 => ?_) (fun h10 => ?_)
                    ·
                      have h10r := h10
                      try simp only [Bool.not_eq_true', Bool.not_eq_false', Bool.not_not, bne_iff_ne, bne_eq_false_iff_eq, beq_eq_false_iff_ne, beq_iff_eq, ne_eq, decide_eq_true_eq, decide_eq_false_iff_not, Classical.not_not, List.length_map, List.length_take, Int.toNat_natCast] at h10
                      exact absurd (of_decide_eq_true h10r) (by omega)
                    ·
                      have h10r := h10
                      try simp only [Bool.not_eq_true', Bool.not_eq_false', Bool.not_not, bne_iff_ne, bne_eq_false_iff_eq, beq_eq_false_iff_ne, beq_iff_eq, ne_eq, decide_eq_true_eq, decide_eq_false_iff_not, Classical.not_not, List.length_map, List.length_take, Int.toNat_natCast] at h10
                      refine a_skip ?_
                      refine a_seq ?_
                      refine a_region (by kernel_rfl) ?_
                      refine op_v' (j_move (evo rfl)) ?_
                      refine op_v' (j_move (evo rfl)) ?_
                      refine op_v0' (j_call0 (v := .p _) (hp1 := []) [] true [100033] ent40 (f_heldIntS (endC 1 (sL l)) (sP l).length hpm) ⟨.inr ⟨rfl, view_own rfl rfl, rfl⟩, .inl ⟨rfl, rfl⟩, trivial⟩ trivial rfl rfl (fun _ => rfl) rfl (fun _ h => by cases h) (.inr ⟨rfl, by first | exact pl_new1 (fun _ => rfl) | exact pl_newC | (simp [plO, plV, plV.plL]; done)⟩) rfl rfl) ?_
                      refine op_v' (j_assign (evo rfl)) ?_
                      refine op_nil ?_
                      refine a_seq ?_
                      refine a_seq ?_
                      refine a_region (by kernel_rfl) ?_
                      refine op_v' (j_move (evo rfl)) ?_
                      refine op_v' (j_lt rfl rfl) ?_
                      refine op_nil ?_
                      refine a_cond rfl (fun h11 => ?_) (fun h11 => ?_)
                      ·
                        have h11r := h11
                        try simp only [Bool.not_eq_true', Bool.not_eq_false', Bool.not_not, bne_iff_ne, bne_eq_false_iff_eq, beq_eq_false_iff_ne, beq_iff_eq, ne_eq, decide_eq_true_eq, decide_eq_false_iff_not, Classical.not_not, List.length_map, List.length_take, Int.toNat_natCast] at h11
                        exact absurd (of_decide_eq_true h11r) (by omega)
                      ·
                        have h11r := h11
                        try simp only [Bool.not_eq_true', Bool.not_eq_false', Bool.not_not, bne_iff_ne, bne_eq_false_iff_eq, beq_eq_false_iff_ne, beq_iff_eq, ne_eq, decide_eq_true_eq, decide_eq_false_iff_not, Classical.not_not, List.length_map, List.length_take, Int.toNat_natCast] at h11
                        refine a_skip ?_
                        refine a_seq ?_
                        refine a_seq ?_
                        refine a_region (by kernel_rfl) ?_
                        refine op_v' (j_move (evo rfl)) ?_
                        refine op_v' (j_move (evo rfl)) ?_
                        refine op_v' (j_ne rfl rfl) ?_
                        refine op_nil ?_
                        refine a_cond rfl (fun h12 => ?_) (fun h12 => ?_)
                        ·
                          have h12r := h12
                          try simp only [Bool.not_eq_true', Bool.not_eq_false', Bool.not_not, bne_iff_ne, bne_eq_false_iff_eq, beq_eq_false_iff_ne, beq_iff_eq, ne_eq, decide_eq_true_eq, decide_eq_false_iff_not, Classical.not_not, List.length_map, List.length_take, Int.toNat_natCast] at h12
                          exact absurd (of_decide_eq_true h12r) (by omega)
                        ·
                          have h12r := h12
                          try simp only [Bool.not_eq_true', Bool.not_eq_false', Bool.not_not, bne_iff_ne, bne_eq_false_iff_eq, beq_eq_false_iff_ne, beq_iff_eq, ne_eq, decide_eq_true_eq, decide_eq_false_iff_not, Classical.not_not, List.length_map, List.length_take, Int.toNat_natCast] at h12
                          refine a_skip ?_
                          refine a_seq ?_
                          refine a_region (by kernel_rfl) ?_
                          refine op_v' (j_move (evo rfl)) ?_
                          refine op_n1' (fun ver => j_call1 (v := .own 100 ver) (hp1 := [(100, some (ver, .deep (.mk 99 2 [(0, (.mk 146 2 []))]) _ none))]) [] false [] ent34 (f_toConS l hsz) ⟨.inl ⟨rfl, rfl⟩, trivial⟩ trivial rfl rfl rfl (fun h => by cases h) rfl (List.all_eq_true.1 rfl) (.inl rfl) rfl rfl) fun v100x5 => ?_
                          refine op_call2 (v := fun ver ver2 => .tup [.own 101 ver, .own 100101 ver2, .p _]) (hp1 := fun ver ver2 => [(101, some (ver, .deep (.mk 99 2 [(0, (.mk 146 2 []))]) _ none)), (100101, some (ver2, .row 3 1 _))]) [] true ent25 (f_simpImplD l) ⟨.inr ⟨rfl, view_ownD rfl rfl, rfl⟩, trivial⟩ trivial rfl rfl rfl rfl (.inr ⟨rfl, by first | exact pl_two pl_conD (pl_rowM (fun _ => rfl)) | exact pl_two (pl_rowM (fun _ => rfl)) pl_conD | exact pl_two (pl_rowM (fun _ => rfl)) (pl_rowM (fun _ => rfl))⟩) (fun _ _ => rfl) (fun _ _ => rfl) ?_
                          rintro  v101x6 v100101x6
                          dsimp only [List.cons_append, List.nil_append]
                          refine op_v' (j_move (evo rfl)) ?_
                          refine op_v' (j_extract rfl rfl) ?_
                          refine op_v' (j_extract rfl rfl) ?_
                          refine op_v' (j_extract rfl rfl) ?_
                          refine op_v' (j_assign (evo rfl)) ?_
                          refine op_v' (j_assign (evo rfl)) ?_
                          refine op_v' (j_assign (evo rfl)) ?_
                          refine op_nil ?_
                          refine a_seq ?_
                          refine a_seq ?_
                          refine a_region (by kernel_rfl) ?_
                          refine op_v' (j_move (evo rfl)) ?_
                          refine op_v' (j_move (evo rfl)) ?_
                          refine op_v0' (j_call0 (v := .p _) (hp1 := []) [] true [101] ent35 (f_eqConS (sL l) (sL l)) ⟨.inr ⟨rfl, view_ownD rfl rfl, rfl⟩, .inl ⟨rfl, rfl⟩, trivial⟩ trivial rfl rfl (fun _ => rfl) rfl (fun _ h => by cases h) (.inr ⟨rfl, by first | exact pl_new1 (fun _ => rfl) | exact pl_newC | (simp [plO, plV, plV.plL]; done)⟩) rfl rfl) ?_
                          refine op_v' (j_not rfl) ?_
                          refine op_v' (j_move (evo rfl)) ?_
                          refine op_split' 109 rfl (fun h13 => ?_) (fun h13 => ?_)
                          ·
                            have h13r := h13
                            try simp only [Bool.not_eq_true', Bool.not_eq_false', Bool.not_not, bne_iff_ne, bne_eq_false_iff_eq, beq_eq_false_iff_ne, beq_iff_eq, ne_eq, decide_eq_true_eq, decide_eq_false_iff_not, Classical.not_not, List.length_map, List.length_take, Int.toNat_natCast] at h13
                            exact absurd h13r (by simp)
                          ·
                            have h13r := h13
                            try simp only [Bool.not_eq_true', Bool.not_eq_false', Bool.not_not, bne_iff_ne, bne_eq_false_iff_eq, beq_eq_false_iff_ne, beq_iff_eq, ne_eq, decide_eq_true_eq, decide_eq_false_iff_not, Classical.not_not, List.length_map, List.length_take, Int.toNat_natCast] at h13
                            refine op_v' (j_want rfl rfl h13r (j_move (evo rfl))) ?_
                            refine op_v' (j_want rfl rfl h13r (j_move (evo rfl))) ?_
                            refine op_v0' (j_want rfl rfl h13r (j_call0 (v := .p _) (hp1 := []) [] true [100101] ent36 (f_eqIntS (sP l) (sP l)) ⟨.inr ⟨rfl, view_own rfl rfl, rfl⟩, .inl ⟨rfl, rfl⟩, trivial⟩ trivial rfl rfl (fun _ => rfl) rfl (fun _ h => by cases h) (.inr ⟨rfl, by first | exact pl_new1 (fun _ => rfl) | exact pl_newC | (simp [plO, plV, plV.plL]; done)⟩) rfl rfl)) ?_
                            refine op_v' (j_want rfl rfl h13r (j_not rfl)) ?_
                            refine op_v' (j_pick_f rfl h13r (evo rfl)) ?_
                            refine op_v' (j_move (evo rfl)) ?_
                            refine op_split' 115 rfl (fun h14 => ?_) (fun h14 => ?_)
                            ·
                              have h14r := h14
                              try simp only [Bool.not_eq_true', Bool.not_eq_false', Bool.not_not, bne_iff_ne, bne_eq_false_iff_eq, beq_eq_false_iff_ne, beq_iff_eq, ne_eq, decide_eq_true_eq, decide_eq_false_iff_not, Classical.not_not, List.length_map, List.length_take, Int.toNat_natCast] at h14
                              exact absurd h14r (by simp)
                            ·
                              have h14r := h14
                              try simp only [Bool.not_eq_true', Bool.not_eq_false', Bool.not_not, bne_iff_ne, bne_eq_false_iff_eq, beq_eq_false_iff_ne, beq_iff_eq, ne_eq, decide_eq_true_eq, decide_eq_false_iff_not, Classical.not_not, List.length_map, List.length_take, Int.toNat_natCast] at h14
                              refine op_v' (j_want rfl rfl h14r (j_move (evo rfl))) ?_
                              refine op_v' (j_want rfl rfl h14r (j_move (evo rfl))) ?_
                              refine op_v' (j_want rfl rfl h14r (j_neb Try.underlying4 rfl rfl)) ?_
                              refine op_v' (j_pick_f rfl h14r (evo rfl)) ?_
                              refine op_nil ?_
                              refine a_cond rfl (fun h15 => ?_) (fun h15 => ?_)
                              ·
                                have h15r := h15
                                try simp only [Bool.not_eq_true', Bool.not_eq_false', Bool.not_not, bne_iff_ne, bne_eq_false_iff_eq, beq_eq_false_iff_ne, beq_iff_eq, ne_eq, decide_eq_true_eq, decide_eq_false_iff_not, Classical.not_not, List.length_map, List.length_take, Int.toNat_natCast] at h15
                                exact absurd h15r (by simp)
                              ·
                                have h15r := h15
                                try simp only [Bool.not_eq_true', Bool.not_eq_false', Bool.not_not, bne_iff_ne, bne_eq_false_iff_eq, beq_eq_false_iff_ne, beq_iff_eq, ne_eq, decide_eq_true_eq, decide_eq_false_iff_not, Classical.not_not, List.length_map, List.length_take, Int.toNat_natCast] at h15
                                refine a_skip ?_
                                refine a_seq ?_
                                refine a_region (by kernel_rfl) ?_
                                refine op_v' (j_assign (evo rfl)) ?_
                                refine op_nil ?_
                                refine a_seq ?_
                                refine a_region (by kernel_rfl) ?_
                                refine op_v' (j_move (evo rfl)) ?_
                                refine op_v' (j_move (evo rfl)) ?_
                                refine op_v0' (j_call0 (v := .p _) (hp1 := []) [] true [33] ent39 (f_heldConS 1 (sL l) (fitC_end fit_sL)) ⟨.inr ⟨rfl, view_ownD rfl rfl, rfl⟩, .inl ⟨rfl, rfl⟩, trivial⟩ trivial rfl rfl (fun _ => rfl) rfl (fun _ h => by cases h) (.inr ⟨rfl, by first | exact pl_new1 (fun _ => rfl) | exact pl_newC | (simp [plO, plV, plV.plL]; done)⟩) rfl rfl) ?_
                                refine op_v' (j_assign (evo rfl)) ?_
                                refine op_nil ?_
                                refine a_seq ?_
                                refine a_seq ?_
                                refine a_region (by kernel_rfl) ?_
                                refine op_v' (j_move (evo rfl)) ?_
                                refine op_v' (j_lt rfl rfl) ?_
                                refine op_nil ?_
                                refine a_cond rfl (fun h16 => ?_) (fun h16 => ?_)
                                ·
                                  have h16r := h16
                                  try simp only [Bool.not_eq_true', Bool.not_eq_false', Bool.not_not, bne_iff_ne, bne_eq_false_iff_eq, beq_eq_false_iff_ne, beq_iff_eq, ne_eq, decide_eq_true_eq, decide_eq_false_iff_not, Classical.not_not, List.length_map, List.length_take, Int.toNat_natCast] at h16
                                  exact absurd (of_decide_eq_true h16r) (by omega)
                                ·
                                  have h16r := h16
                                  try simp only [Bool.not_eq_true', Bool.not_eq_false', Bool.not_not, bne_iff_ne, bne_eq_false_iff_eq, beq_eq_false_iff_ne, beq_iff_eq, ne_eq, decide_eq_true_eq, decide_eq_false_iff_not, Classical.not_not, List.length_map, List.length_take, Int.toNat_natCast] at h16
                                  refine a_skip ?_
                                  refine a_seq ?_
                                  refine a_region (by kernel_rfl) ?_
                                  refine op_v' (j_move (evo rfl)) ?_
                                  refine op_v' (j_move (evo rfl)) ?_
                                  refine op_v0' (j_call0 (v := .p _) (hp1 := []) [] true [100033] ent40 (f_heldIntS (endC 1 (sL l)) (sP l).length hpm) ⟨.inr ⟨rfl, view_own rfl rfl, rfl⟩, .inl ⟨rfl, rfl⟩, trivial⟩ trivial rfl rfl (fun _ => rfl) rfl (fun _ h => by cases h) (.inr ⟨rfl, by first | exact pl_new1 (fun _ => rfl) | exact pl_newC | (simp [plO, plV, plV.plL]; done)⟩) rfl rfl) ?_
                                  refine op_v' (j_assign (evo rfl)) ?_
                                  refine op_nil ?_
                                  refine a_seq ?_
                                  refine a_seq ?_
                                  refine a_region (by kernel_rfl) ?_
                                  refine op_v' (j_move (evo rfl)) ?_
                                  refine op_v' (j_lt rfl rfl) ?_
                                  refine op_nil ?_
                                  refine a_cond rfl (fun h17 => ?_) (fun h17 => ?_)
                                  ·
                                    have h17r := h17
                                    try simp only [Bool.not_eq_true', Bool.not_eq_false', Bool.not_not, bne_iff_ne, bne_eq_false_iff_eq, beq_eq_false_iff_ne, beq_iff_eq, ne_eq, decide_eq_true_eq, decide_eq_false_iff_not, Classical.not_not, List.length_map, List.length_take, Int.toNat_natCast] at h17
                                    exact absurd (of_decide_eq_true h17r) (by omega)
                                  ·
                                    have h17r := h17
                                    try simp only [Bool.not_eq_true', Bool.not_eq_false', Bool.not_not, bne_iff_ne, bne_eq_false_iff_eq, beq_eq_false_iff_ne, beq_iff_eq, ne_eq, decide_eq_true_eq, decide_eq_false_iff_not, Classical.not_not, List.length_map, List.length_take, Int.toNat_natCast] at h17
                                    refine a_skip ?_
                                    refine a_seq ?_
                                    refine a_seq ?_
                                    refine a_region (by kernel_rfl) ?_
                                    refine op_v' (j_move (evo rfl)) ?_
                                    refine op_v' (j_move (evo rfl)) ?_
                                    refine op_v' (j_ne rfl rfl) ?_
                                    refine op_nil ?_
                                    refine a_cond rfl (fun h18 => ?_) (fun h18 => ?_)
                                    ·
                                      have h18r := h18
                                      try simp only [Bool.not_eq_true', Bool.not_eq_false', Bool.not_not, bne_iff_ne, bne_eq_false_iff_eq, beq_eq_false_iff_ne, beq_iff_eq, ne_eq, decide_eq_true_eq, decide_eq_false_iff_not, Classical.not_not, List.length_map, List.length_take, Int.toNat_natCast] at h18
                                      exact absurd (of_decide_eq_true h18r) (by omega)
                                    ·
                                      have h18r := h18
                                      try simp only [Bool.not_eq_true', Bool.not_eq_false', Bool.not_not, bne_iff_ne, bne_eq_false_iff_eq, beq_eq_false_iff_ne, beq_iff_eq, ne_eq, decide_eq_true_eq, decide_eq_false_iff_not, Classical.not_not, List.length_map, List.length_take, Int.toNat_natCast] at h18
                                      refine a_skip ?_
                                      refine a_seq ?_
                                      refine a_region (by kernel_rfl) ?_
                                      refine op_v' (j_assign (evo rfl)) ?_
                                      refine op_nil ?_
                                      refine a_ret ?_
                                      exact ⟨[.p _], .p _, [], [], [], ⟨rfl, trivial⟩, rfl, rfl, trivial, rfl, rfl, ⟨rfl, rfl, rfl⟩⟩


end Go.Ab

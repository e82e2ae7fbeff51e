/- Walks. -/
import Derived.Test.YtdnkggifpoknoaaBase
import Derived.Test.YtdnkggifpoknoaaClau2
import Derived.Test.YtdnkggifpoknoaaWsprop
import Derived.Test.YtdnkggifpoknoaaClau
import Derived.Test.YtdnkggifpoknoaaWsfix
import Derived.Test.YtdnkggifpoknoaaWsdrawd
import Derived.Test.YtdnkggifpoknoaaWstab
import Derived.Test.YtdnkggifpoknoaaWsprobd
import Derived.Test.YtdnkggifpoknoaaLaws1
import Derived.Test.YtdnkggifpoknoaaWsdraw
import Derived.Test.YtdnkggifpoknoaaCons
import Derived.Test.YtdnkggifpoknoaaWscons
import Derived.Test.YtdnkggifpoknoaaVals
import Derived.Test.YtdnkggifpoknoaaTabs2
import Derived.Test.YtdnkggifpoknoaaDeep2
import Derived.Test.YtdnkggifpoknoaaDeep
import Derived.Test.YtdnkggifpoknoaaSem
import Derived.Test.YtdnkggifpoknoaaWsfun
import Derived.Test.YtdnkggifpoknoaaProb
import Derived.Test.YtdnkggifpoknoaaWsprob
import Derived.Test.YtdnkggifpoknoaaEnum
import Derived.Test.YtdnkggifpoknoaaWsenum
import Derived.Test.YtdnkggifpoknoaaCov
namespace Go.Ab
open Go.Proofs
set_option maxRecDepth 100000
set_option maxHeartbeats 8000000
set_option linter.unusedSimpArgs false
set_option linter.unusedVariables false
theorem f_negationF (c : Con) (hc : cOk c = true) : Fn Try.prog 49 [.agg [.sl (c.1.map dT), .p (.int .i64 c.2)]] [] (fun rr ii nn => rr = .agg [.sl ((negC c).1.map dT), .p (.int .i64 (negC c).2)] ∧ ii = [] ∧ nn = []) := by
  refine fn_of Try.func49 rfl (Nat.le_of_ble_eq_true rfl) fun w X g => ?_
  show AWp _ _ _ ⟨[(0, .agg [.sl (c.1.map dT), .p (.int .i64 c.2)])], []⟩
  have htt := tot_all (coef_wide (cOk_coefs hc) (by decide) (by decide))
  have hln := cOk_len hc
  have hbd := cOk_bound hc
  refine a_seq ?_
  refine a_region (by kernel_rfl) ?_
  refine op_n' (fun ver => j_boxa rfl) fun v1x1 => ?_
  refine op_n' (fun ver => j_alloc elt32 rfl) fun v2x2 => ?_
  refine op_nil ?_
  refine a_seq ?_
  refine a_draw mixed (by kernel_rfl) (by kernel_rfl) fun vf => ?_
  refine d_v' (j_loada_box (ys := [.sl _, .p _]) agg32 rfl rfl rfl (Nat.le_of_ble_eq_true rfl)) ?_
  refine d_v0' (j_call0 (v := .p _) (hp1 := []) [] false [] ent72 (f_totImpl c hc) ⟨.inl ⟨rfl, rfl⟩, trivial⟩ trivial rfl rfl (fun h => by cases h) rfl (fun _ h => by cases h) (.inl rfl) rfl rfl) ?_
  refine d_v' (j_fldp fld32f1 rfl rfl) ?_
  refine d_v' (j_load_box leaf3 rfl rfl rfl) ?_
  refine d_v' (j_sub rfl rfl (by first | omega | (simp only [List.length_map, List.length_take, Int.toNat_natCast, List.length_map, List.length_append, List.length_cons, List.length_nil, List.length_take]; omega)) (by first | omega | (simp only [List.length_map, List.length_take, Int.toNat_natCast, List.length_map, List.length_append, List.length_cons, List.length_nil, List.length_take]; omega))) ?_
  refine d_v' (j_add rfl rfl (by first | omega | (simp only [List.length_map, List.length_take, Int.toNat_natCast, List.length_map, List.length_append, List.length_cons, List.length_nil, List.length_take]; omega)) (by first | omega | (simp only [List.length_map, List.length_take, Int.toNat_natCast, List.length_map, List.length_append, List.length_cons, List.length_nil, List.length_take]; omega))) ?_
  refine d_v' (j_max rfl rfl) ?_
  refine d_v' (j_build (parts := [(1, .tmp 12)]) str32 elt32 rfl rfl) ?_
  refine d_n' (fun ver => j_alloc elt32 rfl) ?_
  refine d_s' (j_storea_box0 agg32 rfl rfl rfl rfl rfl rfl) ?_
  refine d_nil (by kernel_rfl) (by kernel_rfl) ?_
  refine a_adopt_box' 0 1003 52 2 (by decide) (id := 3) rfl rfl fun v1003x3 => ?_
  refine a_seq ?_
  refine a_seq ?_
  refine a_region (by kernel_rfl) ?_
  refine op_v' (j_fldp fld32f0 rfl rfl) ?_
  refine op_v' (j_load_box leaf30 rfl rfl rfl) ?_
  refine op_v' (j_len_map Try.underlying30 rfl) ?_
  refine op_v' (j_move (evo rfl)) ?_
  refine op_nil ?_
  refine a_block ?_
  refine a_loopF' (ι := Nat × Nat) (fun x => x.1 ≤ c.1.length) (fun x r => (17, .p (.int .i64 ((x.1 : Nat)))) :: r) (fun x r => (3, some ((vf 3), .box 32 [.own 1003 x.2, .p (.int .i64 (max 0 (totV c.1 - c.2 + 1)))])) :: (1003, some (x.2, .row 52 2 (((c.1.take x.1).map negT).map dT))) :: r) (fun x => c.1.length - x.1) (fun _ _ => rfl) (fun _ _ => rfl) (0, v1003x3) (by first | exact (Nat.zero_le _) | (dsimp only; exact (Nat.zero_le _))) ⟨⟨rfl, rfl⟩, ⟨rfl, trivial⟩, ⟨rfl, rfl, trivial⟩, ⟨rfl, rfl⟩, ⟨rfl, rfl⟩⟩ ?_
  rintro ⟨k, v⟩ hpre; dsimp only at hpre ⊢
  refine a_seq ?_
  refine a_region (by kernel_rfl) ?_
  refine op_v' (j_lt rfl rfl) ?_
  refine op_nil ?_
  refine a_seq ?_
  refine a_cond rfl (fun h1 => ?_) (fun h1 => ?_)
  ·
    have h1r := h1
    try simp only [Bool.not_eq_true', Bool.not_eq_false', Bool.not_not, bne_iff_ne, bne_eq_false_iff_eq, beq_eq_false_iff_ne, beq_iff_eq, ne_eq, decide_eq_true_eq, decide_eq_false_iff_not, Classical.not_not, List.length_map, List.length_take, Int.toNat_natCast, List.length_map, List.length_append, List.length_cons, List.length_nil, List.length_take] at h1
    refine a_skip ?_
    refine a_seq ?_
    refine a_block ?_
    refine a_seq ?_
    have htm := cOk_terms hc (k := k) (by omega)
    have hli := litOk_iff.1 htm.1
    refine a_region (by kernel_rfl) ?_
    refine op_v' (j_elemN slt30 rfl rfl rfl (at_map (by first | omega | (simp only [List.length_map, List.length_take, Int.toNat_natCast, List.length_map, List.length_append, List.length_cons, List.length_nil, List.length_take]; omega))) rfl) ?_
    refine op_v' (j_loada_el (ys := [.p _, .p _]) agg52 rfl (at_map (by first | omega | (simp only [List.length_map, List.length_take, Int.toNat_natCast, List.length_map, List.length_append, List.length_cons, List.length_nil, List.length_take]; omega))) rfl (Nat.le_refl _)) ?_
    refine op_n' (fun ver => j_alloc elt52 rfl) fun v5x4 => ?_
    refine op_s' (j_storea_box0 agg52 rfl rfl rfl rfl rfl rfl) ?_
    refine op_nil ?_
    refine a_region (by kernel_rfl) ?_
    refine op_v' (j_fldp fld32f0 rfl rfl) ?_
    refine op_v' (j_load_box leaf30 rfl rfl rfl) ?_
    refine op_v' (j_fldp fld52f0 rfl rfl) ?_
    refine op_v' (j_load_box leaf3 rfl rfl rfl) ?_
    refine op_v' (j_fldp fld52f1 rfl rfl) ?_
    refine op_v' (j_load_box leaf3 rfl rfl rfl) ?_
    refine op_v' (j_neg rfl (by first | omega | (simp only [List.length_map, List.length_take, Int.toNat_natCast, List.length_map, List.length_append, List.length_cons, List.length_nil, List.length_take]; omega)) (by first | omega | (simp only [List.length_map, List.length_take, Int.toNat_natCast, List.length_map, List.length_append, List.length_cons, List.length_nil, List.length_take]; omega))) ?_
    refine op_v' (j_build (parts := [(0, .tmp 24), (1, .tmp 27)]) str52 elt52 rfl rfl) ?_
    refine op_n' (fun ver => j_buildSlice (parts := [(0, .tmp 28)]) (es := [[_, _]]) slt30 elt52 rfl rfl (by decide) (by decide) rfl rfl (by simp) rfl) fun v29x5 => ?_
    refine op_n' (fun ver => j_append_own slt30 elt52 rfl rfl rfl rfl rfl rfl (by rw [maxLen_eq]; first | omega | (simp only [List.length_map, List.length_take, Int.toNat_natCast, List.length_map, List.length_append, List.length_cons, List.length_nil, List.length_take]; omega)) (by first | omega | (simp only [List.length_map, List.length_take, Int.toNat_natCast, List.length_map, List.length_append, List.length_cons, List.length_nil, List.length_take]; omega))) fun v1003x6 => ?_
    refine op_v' (j_fldp fld32f0 rfl rfl) ?_
    refine op_s' (j_store_box leaf30 rfl rfl (Nat.le_of_ble_eq_true rfl) (evo rfl) rfl) ?_
    refine op_nil ?_
    refine a_region (by kernel_rfl) ?_
    refine op_v' (j_add rfl rfl (by first | omega | (simp only [List.length_map, List.length_take, Int.toNat_natCast, List.length_map, List.length_append, List.length_cons, List.length_nil, List.length_take]; omega)) (by first | omega | (simp only [List.length_map, List.length_take, Int.toNat_natCast, List.length_map, List.length_append, List.length_cons, List.length_nil, List.length_take]; omega))) ?_
    refine op_v' (j_move (evo rfl)) ?_
    refine op_nil ?_
    exact ⟨(k + 1, v1003x6), (by first | exact (by first | omega | (simp only [List.length_map, List.length_take, Int.toNat_natCast, List.length_map, List.length_append, List.length_cons, List.length_nil, List.length_take]; omega)) | (dsimp only; exact (by first | omega | (simp only [List.length_map, List.length_take, Int.toNat_natCast, List.length_map, List.length_append, List.length_cons, List.length_nil, List.length_take]; omega)))), ⟨⟨rfl, rfl⟩, ⟨rfl, trivial⟩, ⟨rfl, rowEq (neg_next (by omega)), trivial⟩, ⟨rfl, rfl⟩, ⟨rfl, rfl⟩⟩, (by first | exact (by first | omega | (simp only [List.length_map, List.length_take, Int.toNat_natCast, List.length_map, List.length_append, List.length_cons, List.length_nil, List.length_take]; omega)) | (dsimp only; exact (by first | omega | (simp only [List.length_map, List.length_take, Int.toNat_natCast, List.length_map, List.length_append, List.length_cons, List.length_nil, List.length_take]; omega))))⟩
  ·
    have h1r := h1
    try simp only [Bool.not_eq_true', Bool.not_eq_false', Bool.not_not, bne_iff_ne, bne_eq_false_iff_eq, beq_eq_false_iff_ne, beq_iff_eq, ne_eq, decide_eq_true_eq, decide_eq_false_iff_not, Classical.not_not, List.length_map, List.length_take, Int.toNat_natCast, List.length_map, List.length_append, List.length_cons, List.length_nil, List.length_take] at h1
    refine a_exit ?_
    refine a_seq ?_
    refine a_freezeboxK 0 3 (by decide) trivial rfl rfl rfl rfl ?_
    try dsimp only [List.set]
    refine a_region (by kernel_rfl) ?_
    refine op_v' (j_loada_box (ys := [.sl _, .p _]) agg32 rfl rfl rfl (Nat.le_of_ble_eq_true rfl)) ?_
    refine op_s' (j_storea_box0 agg32 rfl rfl rfl rfl rfl rfl) ?_
    refine op_nil ?_
    refine a_ret ?_
    exact ⟨[.agg [.sl _, .p _]], .agg [.sl _, .p _], [], [], [], ⟨⟨_, _, _, _, rfl, rfl, agg32, rfl⟩, trivial⟩, rfl, rfl, trivial, rfl, rfl, ⟨by rw [show k = c.1.length by omega, List.take_length]; rfl, rfl, rfl⟩⟩


theorem f_rup (l : List Con) (c : Con) (hl : l.all cOk = true) (hll : l.length ≤ 400) (hc : cOk c = true) : Fn Try.prog 30 [.sl (l.map dC), .agg [.sl (c.1.map dT), .p (.int .i64 c.2)]] [] (fun rr ii nn => rr = .p (.bool (rupV l c)) ∧ ii = [] ∧ nn = []) := by
  refine fn_of Try.func30 rfl (Nat.le_of_ble_eq_true rfl) fun w X g => ?_
  show AWp _ _ _ ⟨[(0, .sl (l.map dC)), (1, .agg [.sl (c.1.map dT), .p (.int .i64 c.2)])], []⟩
  have hnc := negC_ok hc
  have hla : (l ++ [negC c]).all cOk = true := by rw [List.all_append, hl]; simp [hnc]
  refine a_seq ?_
  refine a_region (by kernel_rfl) ?_
  refine op_n' (fun ver => j_boxa rfl) fun v3x1 => ?_
  refine op_v' (j_assign (evo rfl)) ?_
  refine op_nil ?_
  refine a_seq ?_
  refine a_draw mixed (by kernel_rfl) (by kernel_rfl) fun vf => ?_
  refine d_v' (j_move (evo rfl)) ?_
  refine d_n1' (fun ver => j_call1 (v := .own 9 ver) (hp1 := [(9, some (ver, .row 32 2 _))]) [] false [] ent48 (f_cloneC l (by omega)) ⟨.inl ⟨rfl, rfl⟩, trivial⟩ trivial rfl rfl rfl (fun h => by cases h) rfl (List.all_eq_true.1 rfl) (.inl rfl) rfl rfl) ?_
  refine d_v' (j_loada_box (ys := [.sl _, .p _]) agg32 rfl rfl rfl (Nat.le_of_ble_eq_true rfl)) ?_
  refine d_v0' (j_call0 (v := .agg [.sl _, .p _]) (hp1 := []) [] false [] ent49 (f_negationF c hc) ⟨.inl ⟨rfl, rfl⟩, trivial⟩ trivial rfl rfl (fun h => by cases h) rfl (fun _ h => by cases h) (.inl rfl) rfl rfl) ?_
  refine d_n' (fun ver => j_buildSlice (parts := [(0, .tmp 11)]) (es := [[_, _]]) slt23 elt32 rfl rfl (by decide) (by decide) rfl rfl (by simp) rfl) ?_
  refine d_n1' (fun ver => j_append_ownN (by decide) slt23 elt32 rfl rfl rfl rfl rfl rfl (by rw [maxLen_eq]; first | omega | (simp only [List.length_map, List.length_take, Int.toNat_natCast, List.length_map, List.length_append, List.length_cons, List.length_nil, List.length_set, List.length_take]; omega)) (by first | omega | (simp only [List.length_map, List.length_take, Int.toNat_natCast, List.length_map, List.length_append, List.length_cons, List.length_nil, List.length_set, List.length_take]; omega)) (show _ = (l ++ [negC c]).map dC from by rw [List.map_append]; rfl)) ?_
  refine d_n' (fun ver => j_make (n := 12) slt25 elt3 rfl rfl (by decide) rfl rfl rfl rfl (by first | omega | (simp only [List.length_map, List.length_take, Int.toNat_natCast, List.length_map, List.length_append, List.length_cons, List.length_nil, List.length_set, List.length_take]; omega)) (by rw [maxLen_eq]; first | omega | (simp only [List.length_map, List.length_take, Int.toNat_natCast, List.length_map, List.length_append, List.length_cons, List.length_nil, List.length_set, List.length_take]; omega))) ?_
  refine d_n1' (fun ver => j_call1 (v := .tup [.own 15 ver, .p _]) (hp1 := [(15, some (ver, .row 3 1 _))]) [] true [13, 14] ent14 (f_prop (l ++ [negC c]) zeroP hla (by rw [List.length_append]; simp; omega) zero_ok) ⟨.inr ⟨rfl, view_own rfl rfl, rfl⟩, .inr ⟨rfl, view_own rfl rfl, rfl⟩, trivial⟩ trivial rfl rfl rfl (fun _ => rfl) rfl (List.all_eq_true.1 rfl) (.inr ⟨rfl, by first | exact pl_new1 (fun _ => rfl) | exact pl_newC | (simp [plO, plV, plV.plL]; done)⟩) rfl rfl) ?_
  refine d_v' (j_move (evo rfl)) ?_
  refine d_v' (j_extract rfl rfl) ?_
  refine d_v' (j_extract rfl rfl) ?_
  refine d_v' (j_assign (evo rfl)) ?_
  refine d_v' (j_assign (evo rfl)) ?_
  refine d_nil (by kernel_rfl) (by kernel_rfl) ?_
  refine a_seq ?_
  refine a_region (by kernel_rfl) ?_
  refine op_v' (j_move (evo rfl)) ?_
  refine op_v' (j_ge rfl rfl) ?_
  refine op_v' (j_assign (evo rfl)) ?_
  refine op_nil ?_
  refine a_ret ?_
  exact ⟨[.p _], .p _, [], [], [], ⟨rfl, trivial⟩, rfl, rfl, trivial, rfl, rfl, ⟨rfl, rfl, rfl⟩⟩


theorem f_rupC (l : List Con) (c : Con) : Fn Try.prog 11 [.sl (l.map dC), .agg [.sl (c.1.map dT), .p (.int .i64 c.2)]] [] (fun rr ii nn => rr = .p (.bool (rupB l c)) ∧ ii = [] ∧ nn = []) := by
  refine fn_of Try.func11 rfl (Nat.le_of_ble_eq_true rfl) fun w X g => ?_
  show AWp _ _ _ ⟨[(0, .sl (l.map dC)), (1, .agg [.sl (c.1.map dT), .p (.int .i64 c.2)])], []⟩
  refine a_seq ?_
  refine a_region (by kernel_rfl) ?_
  refine op_n' (fun ver => j_boxa rfl) fun v3x1 => ?_
  refine op_v' (j_assign (evo rfl)) ?_
  refine op_nil ?_
  refine a_seq ?_
  refine a_region (by kernel_rfl) ?_
  refine op_v' (j_move (evo rfl)) ?_
  refine op_v0' (j_call0 (v := .p _) (hp1 := []) [] false [] ent13 (f_pvImpl _) ⟨.inl ⟨rfl, rfl⟩, trivial⟩ trivial rfl rfl (fun h => by cases h) rfl (fun _ h => by cases h) (.inl rfl) rfl rfl) ?_
  refine op_v' (j_move (evo rfl)) ?_
  refine op_split' 7 rfl (fun h1 => ?_) (fun h1 => ?_)
  ·
    have h1r := h1
    try simp only [Bool.not_eq_true', Bool.not_eq_false', Bool.not_not, bne_iff_ne, bne_eq_false_iff_eq, beq_eq_false_iff_ne, beq_iff_eq, ne_eq, decide_eq_true_eq, decide_eq_false_iff_not, Classical.not_not, List.length_map, List.length_take, Int.toNat_natCast] at h1
    refine op_v' (j_want rfl rfl h1r (j_loada_box (ys := [.sl _, .p _]) agg32 rfl rfl rfl (Nat.le_of_ble_eq_true rfl))) ?_
    refine op_v0' (j_want rfl rfl h1r (j_call0 (v := .p _) (hp1 := []) [] false [] ent29 (f_cvImpl _) ⟨.inl ⟨rfl, rfl⟩, trivial⟩ trivial rfl rfl (fun h => by cases h) rfl (fun _ h => by cases h) (.inl rfl) rfl rfl)) ?_
    refine op_v' (j_pick_t rfl h1r (evo rfl)) ?_
    refine op_v' (j_move (evo rfl)) ?_
    refine op_split' 11 rfl (fun h2 => ?_) (fun h2 => ?_)
    ·
      have h2r := h2
      try simp only [Bool.not_eq_true', Bool.not_eq_false', Bool.not_not, bne_iff_ne, bne_eq_false_iff_eq, beq_eq_false_iff_ne, beq_iff_eq, ne_eq, decide_eq_true_eq, decide_eq_false_iff_not, Classical.not_not, List.length_map, List.length_take, Int.toNat_natCast] at h2
      refine op_v' (j_want rfl rfl h2r (j_move (evo rfl))) ?_
      refine op_v' (j_want rfl rfl h2r (j_loada_box (ys := [.sl _, .p _]) agg32 rfl rfl rfl (Nat.le_of_ble_eq_true rfl))) ?_
      refine op_v0' (j_want rfl rfl h2r (j_call0 (v := .p _) (hp1 := []) [] false [] ent30 (f_rup l c (pOk_all (by assumption)) (pOk_len (by assumption)) (by assumption)) ⟨.inl ⟨rfl, rfl⟩, .inl ⟨rfl, rfl⟩, trivial⟩ trivial rfl rfl (fun h => by cases h) rfl (fun _ h => by cases h) (.inl rfl) rfl rfl)) ?_
      refine op_v' (j_pick_t rfl h2r (evo rfl)) ?_
      refine op_v' (j_assign (evo rfl)) ?_
      refine op_nil ?_
      refine a_ret ?_
      exact ⟨[.p _], .p _, [], [], [], ⟨rfl, trivial⟩, rfl, rfl, trivial, rfl, rfl, ⟨boolEq (by unfold rupB; simp_all), rfl, rfl⟩⟩
    ·
      have h2r := h2
      try simp only [Bool.not_eq_true', Bool.not_eq_false', Bool.not_not, bne_iff_ne, bne_eq_false_iff_eq, beq_eq_false_iff_ne, beq_iff_eq, ne_eq, decide_eq_true_eq, decide_eq_false_iff_not, Classical.not_not, List.length_map, List.length_take, Int.toNat_natCast] at h2
      refine op_v' (j_unwantV rfl rfl h2r) ?_
      refine op_v' (j_unwantV rfl rfl h2r) ?_
      refine op_v' (j_unwantV rfl rfl h2r) ?_
      refine op_v' (j_pick_f rfl h2r (evo rfl)) ?_
      refine op_v' (j_assign (evo rfl)) ?_
      refine op_nil ?_
      refine a_ret ?_
      exact ⟨[.p _], .p _, [], [], [], ⟨rfl, trivial⟩, rfl, rfl, trivial, rfl, rfl, ⟨boolEq (by unfold rupB; simp_all), rfl, rfl⟩⟩
  ·
    have h1r := h1
    try simp only [Bool.not_eq_true', Bool.not_eq_false', Bool.not_not, bne_iff_ne, bne_eq_false_iff_eq, beq_eq_false_iff_ne, beq_iff_eq, ne_eq, decide_eq_true_eq, decide_eq_false_iff_not, Classical.not_not, List.length_map, List.length_take, Int.toNat_natCast] at h1
    refine op_v' (j_unwantV rfl rfl h1r) ?_
    refine op_v' (j_unwantV rfl rfl h1r) ?_
    refine op_v' (j_pick_f rfl h1r (evo rfl)) ?_
    refine op_v' (j_move (evo rfl)) ?_
    refine op_v' (j_unwantV rfl rfl rfl) ?_
    refine op_v' (j_unwantV rfl rfl rfl) ?_
    refine op_v' (j_unwantV rfl rfl rfl) ?_
    refine op_v' (j_pick_f rfl rfl (evo rfl)) ?_
    refine op_v' (j_assign (evo rfl)) ?_
    refine op_nil ?_
    refine a_ret ?_
    exact ⟨[.p _], .p _, [], [], [], ⟨rfl, trivial⟩, rfl, rfl, trivial, rfl, rfl, ⟨boolEq (by unfold rupB; simp_all), rfl, rfl⟩⟩


end Go.Ab

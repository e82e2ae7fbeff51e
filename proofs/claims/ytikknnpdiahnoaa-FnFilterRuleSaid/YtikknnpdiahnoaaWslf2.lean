/- Walks. -/
import Derived.Test.YtikknnpdiahnoaaBase
import Derived.Test.YtikknnpdiahnoaaLf2
import Derived.Test.YtikknnpdiahnoaaWsfm
import Derived.Test.YtikknnpdiahnoaaWsdfr
import Derived.Test.YtikknnpdiahnoaaWsnm
import Derived.Test.YtikknnpdiahnoaaWsd8
namespace Go.Ab
open Go.Proofs
set_option maxRecDepth 100000
set_option maxHeartbeats 8000000
set_option linter.unusedSimpArgs false
set_option linter.unusedVariables false
theorem f_lawFlR (b : List Int) (hb : ∀ a ∈ b, 0 ≤ a ∧ a ≤ 255) : Fn Try.prog 9 [.sl (b.map dU)] [] (fun rr ii nn => rr = .p (.bool true) ∧ ii = [] ∧ nn = []) := by
 refine fn_of Try.func9 rfl (Nat.le_of_ble_eq_true rfl) fun w X g => ?_
 show AWp _ _ _ ⟨[(0, .sl (b.map dU))], []⟩
 refine a_seq ?_
 refine a_region (by kernel_rfl) ?_
 refine op_v' (j_assign (evo rfl)) ?_
 refine op_nil ?_
 refine a_seq ?_
 refine a_seq ?_
 refine a_region (by kernel_rfl) ?_
 refine op_v' (j_move (evo rfl)) ?_
 refine op_v' (j_len_map Try.underlying22 rfl) ?_
 refine op_v' (j_gt rfl rfl) ?_
 refine op_nil ?_
 refine a_cond rfl (fun h1 => ?_) (fun h1 => ?_)
 ·
  have h1r := h1
  try simp only [nq, nr, nl, clrD_len, markN_length] at h1
  refine a_seq ?_
  refine a_region (by kernel_rfl) ?_
  refine op_v' (j_assign (evo rfl)) ?_
  refine op_nil ?_
  refine a_ret ?_
  exact ⟨[.p _], .p _, [], [], [], ⟨rfl, trivial⟩, rfl, rfl, trivial, rfl, rfl, ⟨boolEq (by first | (simp; done) | assumption | exact decide_eq_true rfl | (exfalso; simp_all; done)), rfl, rfl⟩⟩
 ·
  have h1r := h1
  try simp only [nq, nr, nl, clrD_len, markN_length] at h1
  refine a_skip ?_
  refine a_seq ?_
  refine a_region (by kernel_rfl) ?_
  refine op_v' (j_move (evo rfl)) ?_
  refine op_callE (v := fun x => .tup [.agg [.sl _, .sl _], .p _, .sl _]) (hp1 := fun x => []) [] false ent27 (f_dFR b hb) ⟨.inl ⟨rfl, rfl⟩, trivial⟩ trivial rfl (fun _ => rfl) (fun _ => rfl) (.inl rfl) (fun _ => rfl) (fun _ => rfl) ?_
  rintro ⟨m, i, d⟩ ⟨hw, hl⟩
  try dsimp only at hw
  try dsimp only at hl
  have hwr : wRS m.2 ≤ 1048576 := by unfold wM at hw; omega
  dsimp only [List.cons_append, List.nil_append]
  refine op_v' (j_move (evo rfl)) ?_
  refine op_v' (j_extract rfl rfl) ?_
  refine op_v' (j_extract rfl rfl) ?_
  refine op_v' (j_extract rfl rfl) ?_
  refine op_n' (fun ver => j_alloc elt26 rfl) fun v3x1 => ?_
  refine op_s' (j_storea_box0 agg26 rfl rfl rfl rfl rfl rfl) ?_
  refine op_v' (j_assign (evo rfl)) ?_
  refine op_v' (j_assign (evo rfl)) ?_
  refine op_nil ?_
  refine a_seq ?_
  refine a_region (by kernel_rfl) ?_
  refine op_v' (j_loada_box (ys := [.sl _, .sl _]) agg26 rfl rfl rfl (Nat.le_of_ble_eq_true rfl)) ?_
  refine op_v' (j_move (evo rfl)) ?_
  refine op_v' (j_move (evo rfl)) ?_
  refine op_n1' (fun ver => j_call1 (v := .tup [.own 31 ver, .p _]) (hp1 := [(31, some (ver, .deep (.mk 34 1 [(0, (.mk 4 1 []))]) _ none))]) [] false [] ent26 (f_frImpl m i d hwr) ⟨.inl ⟨rfl, rfl⟩, .inl ⟨rfl, rfl⟩, .inl ⟨rfl, rfl⟩, trivial⟩ trivial rfl rfl rfl (fun h => by cases h) rfl (List.all_eq_true.1 rfl) (.inl rfl) rfl rfl) fun v31x2 => ?_
  refine op_v' (j_move (evo rfl)) ?_
  refine op_v' (j_extract rfl rfl) ?_
  refine op_v' (j_extract rfl rfl) ?_
  refine op_v' (j_assign (evo rfl)) ?_
  refine op_v' (j_assign (evo rfl)) ?_
  refine op_nil ?_
  refine a_freezeG 6 trivial rfl rfl rfl rfl ?_
  refine a_seq ?_
  refine a_region (by kernel_rfl) ?_
  refine op_v' (j_loada_box (ys := [.sl _, .sl _]) agg26 rfl rfl rfl (Nat.le_of_ble_eq_true rfl)) ?_
  refine op_v' (j_move (evo rfl)) ?_
  refine op_v' (j_move (evo rfl)) ?_
  refine op_v0' (j_call0 (v := .tup [.sl _, .p _]) (hp1 := []) [] false [] ent28 (f_frSpec m i d hwr) ⟨.inl ⟨rfl, rfl⟩, .inl ⟨rfl, rfl⟩, .inl ⟨rfl, rfl⟩, trivial⟩ trivial rfl rfl (fun h => by cases h) rfl (fun _ h => by cases h) (.inl rfl) rfl rfl) ?_
  refine op_v' (j_move (evo rfl)) ?_
  refine op_v' (j_extract rfl rfl) ?_
  refine op_v' (j_extract rfl rfl) ?_
  refine op_v' (j_assign (evo rfl)) ?_
  refine op_v' (j_assign (evo rfl)) ?_
  refine op_nil ?_
  refine a_seq ?_
  refine a_seq ?_
  refine a_region (by kernel_rfl) ?_
  refine op_v' (j_move (evo rfl)) ?_
  refine op_v' (j_move (evo rfl)) ?_
  refine op_v' (j_neb Try.underlying4 rfl rfl) ?_
  refine op_v' (j_move (evo rfl)) ?_
  refine op_split' 44 rfl (fun h2 => ?_) (fun h2 => ?_)
  ·
   have h2r := h2
   try simp only [nq, nr, nl, clrD_len, markN_length] at h2
   refine op_v' (j_unwantV rfl rfl h2r) ?_
   refine op_v' (j_unwantV rfl rfl h2r) ?_
   refine op_v' (j_unwantV rfl rfl h2r) ?_
   refine op_v' (j_unwantV rfl rfl h2r) ?_
   refine op_v' (j_pick_t rfl h2r (evo rfl)) ?_
   refine op_v' (j_move (evo rfl)) ?_
   refine op_v' (j_unwantV rfl rfl rfl) ?_
   refine op_v' (j_unwantV rfl rfl rfl) ?_
   refine op_v' (j_pick_t rfl rfl (evo rfl)) ?_
   refine op_nil ?_
   refine a_tt rfl ?_
   refine a_seq ?_
   refine a_region (by kernel_rfl) ?_
   refine op_v' (j_move (evo rfl)) ?_
   refine op_v' (j_move (evo rfl)) ?_
   refine op_v' (j_eqb Try.underlying4 rfl rfl) ?_
   refine op_v' (j_move (evo rfl)) ?_
   refine op_split' 57 rfl (fun h3 => ?_) (fun h3 => ?_)
   ·
    have h3r := h3
    try simp only [nq, nr, nl, clrD_len, markN_length] at h3
    refine op_v' (j_want rfl rfl h3r (j_move (evo rfl))) ?_
    refine op_v' (j_want rfl rfl h3r (j_move (evo rfl))) ?_
    refine op_v0' (j_want rfl rfl h3r (j_call0 (v := .p _) (hp1 := []) [] false [] ent16 (f_cpRows (frD m i d) (frD m i d)) ⟨.inl ⟨rfl, rfl⟩, .inl ⟨rfl, rfl⟩, trivial⟩ trivial rfl rfl (fun h => by cases h) rfl (fun _ h => by cases h) (.inl rfl) rfl rfl)) ?_
    refine op_v' (j_pick_t rfl h3r (evo rfl)) ?_
    refine op_v' (j_assign (evo rfl)) ?_
    refine op_nil ?_
    refine a_ret ?_
    exact ⟨[.p _], .p _, [], [], [], ⟨rfl, trivial⟩, rfl, rfl, trivial, rfl, rfl, ⟨boolEq (by first | (simp; done) | assumption | exact decide_eq_true rfl | (exfalso; simp_all; done)), rfl, rfl⟩⟩
   ·
    have h3r := h3
    try simp only [nq, nr, nl, clrD_len, markN_length] at h3
    exact absurd h3r (by simp)
  ·
   have h2r := h2
   try simp only [nq, nr, nl, clrD_len, markN_length] at h2
   refine op_v' (j_want rfl rfl h2r (j_move (evo rfl))) ?_
   refine op_v' (j_want rfl rfl h2r (j_move (evo rfl))) ?_
   refine op_v0' (j_want rfl rfl h2r (j_call0 (v := .p _) (hp1 := []) [] false [] ent16 (f_cpRows (frD m i d) (frD m i d)) ⟨.inl ⟨rfl, rfl⟩, .inl ⟨rfl, rfl⟩, trivial⟩ trivial rfl rfl (fun h => by cases h) rfl (fun _ h => by cases h) (.inl rfl) rfl rfl)) ?_
   refine op_v' (j_want rfl rfl h2r (j_not rfl)) ?_
   refine op_v' (j_pick_f rfl h2r (evo rfl)) ?_
   refine op_v' (j_move (evo rfl)) ?_
   refine op_split' 50 rfl (fun h4 => ?_) (fun h4 => ?_)
   ·
    have h4r := h4
    try simp only [nq, nr, nl, clrD_len, markN_length] at h4
    refine op_v' (j_unwantV rfl rfl h4r) ?_
    refine op_v' (j_unwantV rfl rfl h4r) ?_
    refine op_v' (j_pick_t rfl h4r (evo rfl)) ?_
    refine op_nil ?_
    refine a_tt rfl ?_
    refine a_seq ?_
    refine a_region (by kernel_rfl) ?_
    refine op_v' (j_move (evo rfl)) ?_
    refine op_v' (j_move (evo rfl)) ?_
    refine op_v' (j_eqb Try.underlying4 rfl rfl) ?_
    refine op_v' (j_move (evo rfl)) ?_
    refine op_split' 57 rfl (fun h5 => ?_) (fun h5 => ?_)
    ·
     have h5r := h5
     try simp only [nq, nr, nl, clrD_len, markN_length] at h5
     refine op_v' (j_want rfl rfl h5r (j_move (evo rfl))) ?_
     refine op_v' (j_want rfl rfl h5r (j_move (evo rfl))) ?_
     refine op_v0' (j_want rfl rfl h5r (j_call0 (v := .p _) (hp1 := []) [] false [] ent16 (f_cpRows (frD m i d) (frD m i d)) ⟨.inl ⟨rfl, rfl⟩, .inl ⟨rfl, rfl⟩, trivial⟩ trivial rfl rfl (fun h => by cases h) rfl (fun _ h => by cases h) (.inl rfl) rfl rfl)) ?_
     refine op_v' (j_pick_t rfl h5r (evo rfl)) ?_
     refine op_v' (j_assign (evo rfl)) ?_
     refine op_nil ?_
     refine a_ret ?_
     exact ⟨[.p _], .p _, [], [], [], ⟨rfl, trivial⟩, rfl, rfl, trivial, rfl, rfl, ⟨boolEq (by first | (simp; done) | assumption | exact decide_eq_true rfl | (exfalso; simp_all; done)), rfl, rfl⟩⟩
    ·
     have h5r := h5
     try simp only [nq, nr, nl, clrD_len, markN_length] at h5
     exact absurd h5r (by simp)
   ·
    have h4r := h4
    try simp only [nq, nr, nl, clrD_len, markN_length] at h4
    refine op_v' (j_want rfl rfl h4r (j_move (evo rfl))) ?_
    refine op_v' (j_want rfl rfl h4r (j_not rfl)) ?_
    refine op_v' (j_pick_f rfl h4r (evo rfl)) ?_
    refine op_nil ?_
    refine a_cond rfl (fun h6 => ?_) (fun h6 => ?_)
    ·
     have h6r := h6
     try simp only [nq, nr, nl, clrD_len, markN_length] at h6
     refine a_seq ?_
     refine a_region (by kernel_rfl) ?_
     refine op_v' (j_move (evo rfl)) ?_
     refine op_v' (j_move (evo rfl)) ?_
     refine op_v' (j_eqb Try.underlying4 rfl rfl) ?_
     refine op_v' (j_move (evo rfl)) ?_
     refine op_split' 57 rfl (fun h7 => ?_) (fun h7 => ?_)
     ·
      have h7r := h7
      try simp only [nq, nr, nl, clrD_len, markN_length] at h7
      refine op_v' (j_want rfl rfl h7r (j_move (evo rfl))) ?_
      refine op_v' (j_want rfl rfl h7r (j_move (evo rfl))) ?_
      refine op_v0' (j_want rfl rfl h7r (j_call0 (v := .p _) (hp1 := []) [] false [] ent16 (f_cpRows (frD m i d) (frD m i d)) ⟨.inl ⟨rfl, rfl⟩, .inl ⟨rfl, rfl⟩, trivial⟩ trivial rfl rfl (fun h => by cases h) rfl (fun _ h => by cases h) (.inl rfl) rfl rfl)) ?_
      refine op_v' (j_pick_t rfl h7r (evo rfl)) ?_
      refine op_v' (j_assign (evo rfl)) ?_
      refine op_nil ?_
      refine a_ret ?_
      exact ⟨[.p _], .p _, [], [], [], ⟨rfl, trivial⟩, rfl, rfl, trivial, rfl, rfl, ⟨boolEq (by first | (simp; done) | assumption | exact decide_eq_true rfl | (exfalso; simp_all; done)), rfl, rfl⟩⟩
     ·
      have h7r := h7
      try simp only [nq, nr, nl, clrD_len, markN_length] at h7
      exact absurd h7r (by simp)
    ·
     have h6r := h6
     try simp only [nq, nr, nl, clrD_len, markN_length] at h6
     refine a_skip ?_
     refine a_seq ?_
     have hok : frOk m i d = true := by assumption
     have hpt := fr_parts hok
     have hdm := hpt.1
     have hmk := (dm_parts hdm).1
     have hms := mOk_sz hmk
     have hxe := fr_ok hok
     have hqm : (m.2.getD i.toNat default) ∈ m.2 := getD_mem (by omega)
     have hqr := mOk_rule hmk (k := i.toNat) (by omega)
     refine a_draw mixed (by kernel_rfl) (by kernel_rfl) fun vf => ?_
     refine d_v' (j_fldp fld26f0 rfl rfl) ?_
     refine d_v' (j_load_box leaf23 rfl rfl rfl) ?_
     refine d_v' (j_fldp fld26f1 rfl rfl) ?_
     refine d_v' (j_load_box leaf24 rfl rfl rfl) ?_
     refine d_v' (j_move (evo rfl)) ?_
     refine d_v' (j_elemN (n := i.toNat) slt24 rfl rfl (by omega) (at_map (by first | omega | (simp only [nr, nl, clrD_len, markN_length]; omega))) rfl) ?_
     refine d_v' (j_loada_el (ys := [.p _, .sl _, .sl _, .p _, .sl _]) agg43 rfl (at_map (by first | omega | (simp only [nr, nl, clrD_len, markN_length]; omega))) rfl (Nat.le_refl _)) ?_
     refine d_n' (fun ver => j_buildSlice (parts := [(0, .tmp 68)]) (es := [[_, _, _, _, _]]) slt24 elt43 rfl rfl (by decide) (by decide) rfl rfl (by simp) rfl) ?_
     refine d_v' (j_build (parts := [(0, .tmp 63), (1, .tmp 69)]) str26 elt26 rfl rfl) ?_
     refine d_n' (fun ver => j_alloc elt26 rfl) ?_
     refine d_s' (j_storea_box0 agg26 rfl rfl rfl rfl rfl rfl) ?_
     refine d_nil (by kernel_rfl) (by kernel_rfl) ?_
     refine a_seq ?_
     refine a_region (by kernel_rfl) ?_
     refine op_v' (j_loada_box (ys := [.sl _, .sl _]) agg26 rfl rfl rfl (Nat.le_of_ble_eq_true rfl)) ?_
     refine op_n1' (fun ver => j_call1 (v := .own 72 ver) (hp1 := [(72, some (ver, .deep (.mk 34 1 [(0, (.mk 4 1 []))]) _ none))]) [] false [] ent15 (f_fdImpl m) ⟨.inl ⟨rfl, rfl⟩, trivial⟩ trivial rfl rfl rfl (fun h => by cases h) rfl (List.all_eq_true.1 rfl) (.inl rfl) rfl rfl) fun v72x3 => ?_
     refine op_v' (j_assign (evo rfl)) ?_
     refine op_nil ?_
     refine a_seq ?_
     refine a_seq ?_
     have hq9 : ∃ q, (m.2.getD i.toNat default) = q := ⟨_, rfl⟩
     obtain ⟨q, hqe⟩ := hq9
     rw [hqe] at hqm hqr hxe ⊢
     have hma := alone_ok hmk hqr
     have hwa := alone_wR hwr hqm
     have hfs9 := fullD_sum (m := m)
     refine a_region (by kernel_rfl) ?_
     refine op_v' (j_assign (evo rfl)) ?_
     refine op_nil ?_
     refine a_block ?_
     refine a_loopF' (ι := Nat) (fun k => k ≤ (fullD m).length) (fun k r => (12, .p (.int .i64 ((k : Nat)))) :: r) (fun k r => (72, some (v72x3, .deep (.mk 34 1 [(0, .mk 4 1 [])]) ((clrD (fullD m) k).map dD) none)) :: r) (fun k => (fullD m).length - k) (fun _ _ => rfl) (fun _ _ => rfl) 0 (by first | omega | (simp only [nr, nl, clrD_len, markN_length]; omega)) ⟨⟨rfl, rfl⟩, ⟨rfl, trivial⟩, ⟨rfl, trivial⟩, ⟨rfl, rfl⟩, ⟨rfl, rfl⟩⟩ ?_
     intro k hpre0
     refine a_seq ?_
     refine a_seq ?_
     refine a_region (by kernel_rfl) ?_
     refine op_v' (j_move (evo rfl)) ?_
     refine op_v' (j_move (evo rfl)) ?_
     refine op_v' (j_len_deep_map Try.underlying28 rfl rfl) ?_
     refine op_v' (j_lt rfl rfl) ?_
     refine op_nil ?_
     refine a_cond rfl (fun h8 => ?_) (fun h8 => ?_)
     ·
      have h8r := h8
      try simp only [nq, nr, nl, clrD_len, markN_length] at h8
      refine a_skip ?_
      refine a_seq ?_
      refine a_block ?_
      refine a_seq ?_
      refine a_region (by kernel_rfl) ?_
      refine op_v' (j_assign (evo rfl)) ?_
      refine op_nil ?_
      refine a_block ?_
      refine a_loopF' (ι := Nat) (fun j => j ≤ ((fullD m).getD k default).length) (fun j r => (13, .p (.int .i64 ((j : Nat)))) :: r) (fun j r => (72, some (v72x3, .deep (.mk 34 1 [(0, .mk 4 1 [])]) (((clrD (fullD m) k).set k (noneR ((fullD m).getD k default) j)).map dD) none)) :: r) (fun j => ((fullD m).getD k default).length - j) (fun _ _ => rfl) (fun _ _ => rfl) 0 (Nat.zero_le _) ⟨⟨rfl, rfl⟩, ⟨rfl, trivial⟩, ⟨deepEq (by rw [show noneR ((fullD m).getD k default) 0 = (clrD (fullD m) k).getD k default from (clrD_at (by first | omega | (simp only [nr, nl, clrD_len, markN_length]; omega))).symm, set_selfL]), trivial⟩, ⟨rfl, rfl⟩, ⟨rfl, rfl⟩⟩ ?_
      intro j hj
      refine a_seq ?_
      refine a_seq ?_
      have hnl := noneR_len (x := ((fullD m).getD k default)) hj
      have hr4 : ((fullD m).getD k default).length ≤ 4 := fits_row hmk (dm_parts (dm_full hmk)).2
      refine a_region (by kernel_rfl) ?_
      refine op_v' (j_move (evo rfl)) ?_
      refine op_v' (j_move (evo rfl)) ?_
      refine op_v' (j_move (evo rfl)) ?_
      refine op_v' (j_elem_deepN slt28 rfl rfl rfl rfl rfl (by first | omega | (simp only [nr, nl, clrD_len, markN_length]; omega))) ?_
      refine op_n1' (fun ver => j_out leaf34 (by decide) rfl rfl rfl (ms_at (by first | omega | (simp only [nr, nl, clrD_len, markN_length]; omega))) rfl rfl) fun v83x4 => ?_
      refine op_v' (j_len_own_map Try.underlying34 rfl rfl) ?_
      refine op_v' (j_lt rfl rfl) ?_
      refine op_nil ?_
      refine a_back 72 83 (by decide) rfl rfl rfl rfl (ms_at (by first | omega | (simp only [nr, nl, clrD_len, markN_length]; omega))) (ms_set (y := noneR ((fullD m).getD k default) j) rfl) ?_
      refine a_cond rfl (fun h9 => ?_) (fun h9 => ?_)
      ·
       have h9r := h9
       try simp only [nq, nr, nl, clrD_len, markN_length] at h9
       refine a_skip ?_
       refine a_seq ?_
       refine a_block ?_
       have hnl := noneR_len (x := ((fullD m).getD k default)) hj
       refine a_region (by kernel_rfl) ?_
       refine op_v' (j_move (evo rfl)) ?_
       refine op_v' (j_move (evo rfl)) ?_
       refine op_v' (j_elem_deepN slt28 rfl rfl rfl rfl rfl (by first | omega | (simp only [nr, nl, clrD_len, markN_length]; omega))) ?_
       refine op_n1' (fun ver => j_out leaf34 (by decide) rfl rfl rfl (ms_at (by first | omega | (simp only [nr, nl, clrD_len, markN_length]; omega))) rfl rfl) fun v91x5 => ?_
       refine op_v' (j_move (evo rfl)) ?_
       refine op_v' (j_elem_ownN slt34 rfl rfl rfl rfl (by first | omega | (simp only [nr, nl, clrD_len, markN_length]; omega))) ?_
       refine op_s' (j_store_row leaf4 rfl rfl (by first | omega | (simp only [nr, nl, clrD_len, markN_length]; omega)) (evo rfl) rfl rfl) ?_
       refine op_nil ?_
       refine a_back 72 91 (by decide) rfl rfl rfl rfl (ms_at (by first | omega | (simp only [nr, nl, clrD_len, markN_length]; omega))) (ms_set (y := noneR ((fullD m).getD k default) (j + 1)) (congrArg (fun z => [V.sl z]) (noneR_set (by omega)))) ?_
       refine a_region (by kernel_rfl) ?_
       refine op_v' (j_move (evo rfl)) ?_
       refine op_v' (j_add rfl rfl (by first | omega | (simp only [nr, nl, clrD_len, markN_length]; omega)) (by first | omega | (simp only [nr, nl, clrD_len, markN_length]; omega))) ?_
       refine op_v' (j_assign (evo rfl)) ?_
       refine op_nil ?_
       exact ⟨j + 1, (by first | omega | (simp only [nr, nl, clrD_len, markN_length]; omega)), ⟨⟨rfl, rfl⟩, ⟨rfl, trivial⟩, ⟨rfl, trivial⟩, ⟨rfl, rfl⟩, ⟨rfl, rfl⟩⟩, (by first | omega | (simp only [nr, nl, clrD_len, markN_length]; omega))⟩
      ·
       have h9r := h9
       try simp only [nq, nr, nl, clrD_len, markN_length] at h9
       refine a_exit ?_
       rw [noneR_end (x := ((fullD m).getD k default)) (by omega) (by omega)]
       refine a_region (by kernel_rfl) ?_
       refine op_v' (j_move (evo rfl)) ?_
       refine op_v' (j_add rfl rfl (by first | omega | (simp only [nr, nl, clrD_len, markN_length]; omega)) (by first | omega | (simp only [nr, nl, clrD_len, markN_length]; omega))) ?_
       refine op_v' (j_assign (evo rfl)) ?_
       refine op_nil ?_
       exact ⟨k + 1, (by first | omega | (simp only [nr, nl, clrD_len, markN_length]; omega)), ⟨⟨rfl, rfl⟩, ⟨rfl, trivial⟩, ⟨deepEq (by rw [clrD_next (by first | omega | (simp only [nr, nl, clrD_len, markN_length]; omega))]), trivial⟩, ⟨rfl, rfl⟩, ⟨rfl, rfl⟩⟩, (by first | omega | (simp only [nr, nl, clrD_len, markN_length]; omega))⟩
     ·
      have h8r := h8
      try simp only [nq, nr, nl, clrD_len, markN_length] at h8
      refine a_exit ?_
      refine a_seq ?_
      rw [clrD_end hmk (by omega)]
      refine a_region (by kernel_rfl) ?_
      refine op_v' (j_fldp fld26f0 rfl rfl) ?_
      refine op_v' (j_load_box leaf23 rfl rfl rfl) ?_
      refine op_v' (j_len_map Try.underlying23 rfl) ?_
      refine op_n' (fun ver => j_make (n := m.1.length) slt23 elt3 rfl rfl (by decide) rfl rfl rfl rfl (by first | omega | (simp only [nr, nl, clrD_len, markN_length]; omega)) (by rw [maxLen_eq]; first | omega | (simp only [nr, nl, clrD_len, markN_length]; omega))) fun v97x6 => ?_
      refine op_v' (j_assign (evo rfl)) ?_
      refine op_nil ?_
      refine a_seq ?_
      refine a_seq ?_
      refine a_row 97 (es' := (List.replicate m.1.length (0 : Int)).map dI) rfl (by rw [List.map_replicate]; rfl) ?_
      refine a_freezeboxK 1 10 (by decide) trivial rfl rfl rfl rfl ?_
      try dsimp only [List.set]
      refine a_freeze' 14 (noA _ _ _ _ _) rfl rfl ?_
      refine a_region (by kernel_rfl) ?_
      refine op_v' (j_loada_box (ys := [.sl _, .sl _]) agg26 rfl rfl rfl (Nat.le_of_ble_eq_true rfl)) ?_
      refine op_v' (j_move (evo rfl)) ?_
      refine op_v0' (j_call0 (v := .tup [.sl _, .p _]) (hp1 := []) [] false [] ent33 (f_nx (aloneM m q) (List.replicate m.1.length (0 : Int)) hwa) ⟨.inl ⟨rfl, rfl⟩, .inl ⟨rfl, rfl⟩, trivial⟩ trivial rfl rfl (fun h => by cases h) rfl (fun _ h => by cases h) (.inl rfl) rfl rfl) ?_
      refine op_v' (j_move (evo rfl)) ?_
      refine op_v' (j_extract rfl rfl) ?_
      refine op_v' (j_extract rfl rfl) ?_
      refine op_v' (j_assign (evo rfl)) ?_
      refine op_v' (j_assign (evo rfl)) ?_
      refine op_nil ?_
      refine a_block ?_
      refine a_loopF' (ι := Option (List Int) × List (List Bool)) (fun x => okSo (aloneM m q) x.1 ∧ fitsB m.1 x.2 = true ∧ restD (aloneM m q) (okC2 q d) x.1 x.2 = filtD m q d) (fun x r => (15, .sl ((x.1.getD []).map dI)) :: (16, .p (.bool (x.1.isSome))) :: r) (fun x r => (72, some (v72x3, .deep (.mk 34 1 [(0, .mk 4 1 [])]) ((x.2).map dD) none)) :: r) (fun x => muSo (aloneM m q) x.1) (fun _ _ => rfl) (fun _ _ => rfl) (nmV (aloneM m q) (List.replicate m.1.length (0 : Int)), fdL false m.1) (by first | exact ⟨okSo_nm (zero_cv hma), fits_full (sz_pos hmk), rest_zero hma alone_f⟩ | (dsimp only; exact ⟨okSo_nm (zero_cv hma), fits_full (sz_pos hmk), rest_zero hma alone_f⟩)) ⟨⟨rfl, rfl⟩, ⟨rfl, rfl, trivial⟩, ⟨rfl, trivial⟩, ⟨rfl, rfl⟩, ⟨rfl, rfl⟩⟩ ?_
      rintro ⟨o, s⟩ ho; dsimp only at ho ⊢
      refine a_seq ?_
      refine a_seq ?_
      refine a_region (by kernel_rfl) ?_
      refine op_v' (j_move (evo rfl)) ?_
      refine op_nil ?_
      refine a_cond rfl (fun h10 => ?_) (fun h10 => ?_)
      ·
       have h10r := h10
       try simp only [nq, nr, nl, clrD_len, markN_length] at h10
       obtain ⟨c, rfl⟩ := Option.isSome_iff_exists.1 h10
       have hoc := ho.1 c rfl
       have hcv := cv_at (sz := m.1) hoc.1
       have hfs := fits_at ho.2.1
       dsimp only [Option.getD_some]
       refine a_skip ?_
       refine a_seq ?_
       refine a_block ?_
       refine a_seq ?_
       refine a_region (by kernel_rfl) ?_
       refine op_v' (j_assign (evo rfl)) ?_
       refine op_nil ?_
       refine a_block ?_
       refine a_loopF' (ι := Nat) (fun j => j ≤ c.length ∧ (0 < j → ciB m d c = true)) (fun j r => (17, .p (.int .i64 ((j : Nat)))) :: r) (fun j r => (72, some (v72x3, .deep (.mk 34 1 [(0, .mk 4 1 [])]) ((markN s c j).map dD) none)) :: r) (fun j => c.length - j) (fun _ _ => rfl) (fun _ _ => rfl) 0 ⟨Nat.zero_le _, fun h => absurd h (Nat.lt_irrefl 0)⟩ ⟨⟨rfl, rfl⟩, ⟨rfl, trivial⟩, ⟨rfl, trivial⟩, ⟨rfl, rfl⟩, ⟨rfl, rfl⟩⟩ ?_
       intro j hj
       refine a_seq ?_
       refine a_seq ?_
       refine a_region (by kernel_rfl) ?_
       refine op_v' (j_move (evo rfl)) ?_
       refine op_v' (j_move (evo rfl)) ?_
       refine op_v' (j_len_map Try.underlying23 rfl) ?_
       refine op_v' (j_lt rfl rfl) ?_
       refine op_v' (j_move (evo rfl)) ?_
       refine op_split' 115 rfl (fun h11 => ?_) (fun h11 => ?_)
       ·
        have h11r := h11
        try simp only [nq, nr, nl, clrD_len, markN_length] at h11
        refine op_v' (j_want rfl rfl h11r (j_loada_box (ys := [.sl _, .sl _]) agg26 rfl rfl rfl (Nat.le_of_ble_eq_true rfl))) ?_
        refine op_v' (j_want rfl rfl h11r (j_move (evo rfl))) ?_
        refine op_v' (j_want rfl rfl h11r (j_move (evo rfl))) ?_
        refine op_v0' (j_want rfl rfl h11r (j_call0 (v := .p _) (hp1 := []) [] false [] ent19 (f_cellsIn m d c) ⟨.inl ⟨rfl, rfl⟩, .inl ⟨rfl, rfl⟩, .inl ⟨rfl, rfl⟩, trivial⟩ trivial rfl rfl (fun h => by cases h) rfl (fun _ h => by cases h) (.inl rfl) rfl rfl)) ?_
        refine op_v' (j_pick_t rfl h11r (evo rfl)) ?_
        refine op_nil ?_
        refine a_cond rfl (fun h12 => ?_) (fun h12 => ?_)
        ·
         have h12r := h12
         try simp only [nq, nr, nl, clrD_len, markN_length] at h12
         refine a_skip ?_
         refine a_seq ?_
         refine a_block ?_
         have hcj := hcv.2 j (by omega)
         have hms9 := hms.2 j (by omega)
         have hrm := (fits_at (fits_mark (c := c) (k := j) ho.2.1)).2 j (by rw [markN_length]; omega)
         refine a_draw mixed (by kernel_rfl) (by kernel_rfl) fun vf => ?_
         refine d_v' (j_move (evo rfl)) ?_
         refine d_v' (j_move (evo rfl)) ?_
         refine d_v' (j_elem_deepN slt28 rfl rfl rfl rfl rfl (by first | omega | (simp only [nr, nl, clrD_len, markN_length]; omega))) ?_
         refine d_n1' (fun ver => j_out leaf34 (by decide) rfl rfl rfl (at_map (by first | omega | (simp only [nr, nl, clrD_len, markN_length]; omega))) rfl rfl) ?_
         refine d_v' (j_move (evo rfl)) ?_
         refine d_v' (j_move (evo rfl)) ?_
         refine d_v' (j_elemN slt23 rfl rfl rfl (at_map (by first | omega | (simp only [nr, nl, clrD_len, markN_length]; omega))) rfl) ?_
         refine d_v' (j_load_el leaf3 rfl (at_map (by first | omega | (simp only [nr, nl, clrD_len, markN_length]; omega))) rfl) ?_
         refine d_v' (j_elem_ownN (n := (c.getD j default).toNat) slt34 rfl rfl rfl (by omega) (by first | omega | (simp only [nr, nl, clrD_len, markN_length]; omega))) ?_
         refine d_s' (j_store_row leaf4 rfl rfl (by first | omega | (simp only [nr, nl, clrD_len, markN_length]; omega)) (evo rfl) rfl rfl) ?_
         refine d_nil (by kernel_rfl) (by kernel_rfl) ?_
         refine a_back 72 126 (by decide) rfl rfl rfl rfl (at_map (by first | omega | (simp only [nr, nl, clrD_len, markN_length]; omega))) rfl ?_
         refine a_region (by kernel_rfl) ?_
         refine op_v' (j_move (evo rfl)) ?_
         refine op_v' (j_add rfl rfl (by first | omega | (simp only [nr, nl, clrD_len, markN_length]; omega)) (by first | omega | (simp only [nr, nl, clrD_len, markN_length]; omega))) ?_
         refine op_v' (j_assign (evo rfl)) ?_
         refine op_nil ?_
         exact ⟨j + 1, ⟨by omega, fun _ => by assumption⟩, ⟨⟨rfl, rfl⟩, ⟨rfl, trivial⟩, ⟨deepEq mark_eq, trivial⟩, ⟨rfl, rfl⟩, ⟨rfl, rfl⟩⟩, (by first | omega | (simp only [nr, nl, clrD_len, markN_length]; omega))⟩
        ·
         have h12r := h12
         try simp only [nq, nr, nl, clrD_len, markN_length] at h12
         refine a_exit ?_
         refine a_region (by kernel_rfl) ?_
         refine op_v' (j_loada_box (ys := [.sl _, .sl _]) agg26 rfl rfl rfl (Nat.le_of_ble_eq_true rfl)) ?_
         refine op_v' (j_move (evo rfl)) ?_
         refine op_v0' (j_call0 (v := .tup [.sl _, .p _]) (hp1 := []) [] false [] ent34 (f_cpAfter (aloneM m q) c hma hoc.1 hwa) ⟨.inl ⟨rfl, rfl⟩, .inl ⟨rfl, rfl⟩, trivial⟩ trivial rfl rfl (fun h => by cases h) rfl (fun _ h => by cases h) (.inl rfl) rfl rfl) ?_
         refine op_v' (j_move (evo rfl)) ?_
         refine op_v' (j_extract rfl rfl) ?_
         refine op_v' (j_extract rfl rfl) ?_
         refine op_v' (j_assign (evo rfl)) ?_
         refine op_v' (j_assign (evo rfl)) ?_
         refine op_nil ?_
         exact ⟨(caV (aloneM m q) c, stepO q d c s), (by first | exact ⟨(okSo_ca hma hoc.1).1, fits_step ho.2.1, (rest_next hma alone_f hoc.1).trans ho.2.2⟩ | (dsimp only; exact ⟨(okSo_ca hma hoc.1).1, fits_step ho.2.1, (rest_next hma alone_f hoc.1).trans ho.2.2⟩)), ⟨⟨rfl, rfl⟩, ⟨rfl, rfl, trivial⟩, ⟨deepEq (by rw [show j = 0 from Nat.eq_zero_of_not_pos (fun h => by have := hj.2 h; simp_all), step_n (alone_n hdm hoc.1 (by assumption))]; rfl), trivial⟩, ⟨rfl, rfl⟩, ⟨rfl, rfl⟩⟩, (by first | exact (okSo_ca hma hoc.1).2 | (dsimp only; exact (okSo_ca hma hoc.1).2))⟩
       ·
        have h11r := h11
        try simp only [nq, nr, nl, clrD_len, markN_length] at h11
        refine op_v' (j_unwantV rfl rfl h11r) ?_
        refine op_v' (j_unwantV rfl rfl h11r) ?_
        refine op_v' (j_unwantV rfl rfl h11r) ?_
        refine op_v' (j_unwantV rfl rfl h11r) ?_
        refine op_v' (j_pick_f rfl h11r (evo rfl)) ?_
        refine op_nil ?_
        refine a_ff rfl ?_
        refine a_exit ?_
        refine a_region (by kernel_rfl) ?_
        refine op_v' (j_loada_box (ys := [.sl _, .sl _]) agg26 rfl rfl rfl (Nat.le_of_ble_eq_true rfl)) ?_
        refine op_v' (j_move (evo rfl)) ?_
        refine op_v0' (j_call0 (v := .tup [.sl _, .p _]) (hp1 := []) [] false [] ent34 (f_cpAfter (aloneM m q) c hma hoc.1 hwa) ⟨.inl ⟨rfl, rfl⟩, .inl ⟨rfl, rfl⟩, trivial⟩ trivial rfl rfl (fun h => by cases h) rfl (fun _ h => by cases h) (.inl rfl) rfl rfl) ?_
        refine op_v' (j_move (evo rfl)) ?_
        refine op_v' (j_extract rfl rfl) ?_
        refine op_v' (j_extract rfl rfl) ?_
        refine op_v' (j_assign (evo rfl)) ?_
        refine op_v' (j_assign (evo rfl)) ?_
        refine op_nil ?_
        exact ⟨(caV (aloneM m q) c, stepO q d c s), (by first | exact ⟨(okSo_ca hma hoc.1).1, fits_step ho.2.1, (rest_next hma alone_f hoc.1).trans ho.2.2⟩ | (dsimp only; exact ⟨(okSo_ca hma hoc.1).1, fits_step ho.2.1, (rest_next hma alone_f hoc.1).trans ho.2.2⟩)), ⟨⟨rfl, rfl⟩, ⟨rfl, rfl, trivial⟩, ⟨deepEq (by rw [show j = c.length by omega, step_y (alone_y hoc.2 (hj.2 (by omega)))]), trivial⟩, ⟨rfl, rfl⟩, ⟨rfl, rfl⟩⟩, (by first | exact (okSo_ca hma hoc.1).2 | (dsimp only; exact (okSo_ca hma hoc.1).2))⟩
      ·
       have h10r := h10
       try simp only [nq, nr, nl, clrD_len, markN_length] at h10
       have hno : o = none := by cases o with | none => rfl | some c => simp at h10
       subst hno
       have hsR : s = (frD m i d) := by rw [hxe]; exact ho.2.2
       subst hsR
       refine a_exit ?_
       refine a_seq ?_
       refine a_region (by kernel_rfl) ?_
       refine op_v' (j_move (evo rfl)) ?_
       refine op_v' (j_move (evo rfl)) ?_
       refine op_v0' (j_call0 (v := .p _) (hp1 := []) [] true [72] ent16 (f_cpRows (frD m i d) (frD m i d)) ⟨.inr ⟨rfl, view_ownD rfl rfl, rfl⟩, .inl ⟨rfl, rfl⟩, trivial⟩ trivial rfl rfl (fun _ => rfl) rfl (fun _ h => by cases h) (.inr ⟨rfl, by first | exact pl_new1 (fun _ => rfl) | exact pl_newC | (simp [plO, plV, plV.plL]; done)⟩) rfl rfl) ?_
       refine op_v' (j_assign (evo rfl)) ?_
       refine op_nil ?_
       refine a_ret ?_
       exact ⟨[.p _], .p _, [], [], [], ⟨rfl, trivial⟩, rfl, rfl, trivial, rfl, rfl, ⟨boolEq (by first | (simp; done) | assumption | exact decide_eq_true rfl | (exfalso; simp_all; done)), rfl, rfl⟩⟩


end Go.Ab

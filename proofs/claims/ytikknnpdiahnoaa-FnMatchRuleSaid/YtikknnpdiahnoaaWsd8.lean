/- Walks. -/
import Derived.Test.YtikknnpdiahnoaaBase
import Derived.Test.YtikknnpdiahnoaaMt
import Derived.Test.YtikknnpdiahnoaaWsd6
import Derived.Test.YtikknnpdiahnoaaWsflt
namespace Go.Ab
open Go.Proofs
set_option maxRecDepth 100000
set_option maxHeartbeats 8000000
set_option linter.unusedSimpArgs false
set_option linter.unusedVariables false
theorem f_fdSpecD (m : Md) : Fn Try.prog 17 [.agg [.sl (m.1.map dI), .sl (m.2.map dR)]] [] (fun rr ii nn => rr = .own 0 0 ∧ ii = [] ∧ nn = [.deep (.mk 34 1 [(0, .mk 4 1 [])]) ((fullD m).map dD) none]) := by
 refine fn_of Try.func17 rfl (Nat.le_of_ble_eq_true rfl) fun w X g => ?_
 show AWp _ _ _ ⟨[(0, .agg [.sl (m.1.map dI), .sl (m.2.map dR)])], []⟩
 refine a_seq ?_
 refine a_region (by kernel_rfl) ?_
 refine op_n' (fun ver => j_boxa rfl) fun v1x1 => ?_
 refine op_v' (j_assign (evo rfl)) ?_
 refine op_nil ?_
 refine a_seq ?_
 refine a_seq ?_
 refine a_region (by kernel_rfl) ?_
 refine op_v' (j_loada_box (ys := [.sl _, .sl _]) agg26 rfl rfl rfl (Nat.le_of_ble_eq_true rfl)) ?_
 refine op_v0' (j_call0 (v := .p _) (hp1 := []) [] false [] ent56 (f_mvSpec _) ⟨.inl ⟨rfl, rfl⟩, trivial⟩ trivial rfl rfl (fun h => by cases h) rfl (fun _ h => by cases h) (.inl rfl) rfl rfl) ?_
 refine op_v' (j_not rfl) ?_
 refine op_nil ?_
 refine a_cond rfl (fun h1 => ?_) (fun h1 => ?_)
 ·
  have h1r := h1
  try simp only [nq, nr] at h1
  refine a_seq ?_
  refine a_region (by kernel_rfl) ?_
  refine op_n' (fun ver => j_buildSlice (parts := []) (es := []) slt28 elt34 rfl rfl (by decide) (by decide) rfl rfl (by simp) rfl) fun v6x2 => ?_
  refine op_v' (j_assign (evo rfl)) ?_
  refine op_nil ?_
  refine a_todeep 6 0 (.mk 34 1 [(0, (.mk 4 1 []))]) (zs := []) (zs' := []) rfl rfl rfl rfl eat_end rfl ?_
  refine a_ret ?_
  exact ⟨[.own 6 v6x2], .own 0 0, [], [.deep (.mk 34 1 [(0, (.mk 4 1 []))]) _ none], [(6, v6x2)], ⟨rfl, trivial⟩, rfl, rfl, ⟨⟨rfl, rfl⟩, trivial⟩, rfl, rfl, ⟨rfl, rfl, by rw [fullD_bad h1]; rfl⟩⟩
 ·
  have h1r := h1
  try simp only [nq, nr] at h1
  refine a_skip ?_
  refine a_seq ?_
  have hms := mOk_sz h1
  refine a_region (by kernel_rfl) ?_
  refine op_v' (j_loada_box (ys := [.sl _, .sl _]) agg26 rfl rfl rfl (Nat.le_of_ble_eq_true rfl)) ?_
  refine op_n1' (fun ver => j_call1 (v := .own 8 ver) (hp1 := [(8, some (ver, .deep (.mk 34 1 [(0, (.mk 4 1 []))]) _ none))]) [] false [] ent57 (f_l8MakeD m true ⟨hms.1.2, hms.2⟩) ⟨.inl ⟨rfl, rfl⟩, .inl ⟨rfl, rfl⟩, trivial⟩ trivial rfl rfl rfl (fun h => by cases h) rfl (List.all_eq_true.1 rfl) (.inl rfl) rfl rfl) fun v8x3 => ?_
  refine op_v' (j_assign (evo rfl)) ?_
  refine op_nil ?_
  refine a_ret ?_
  exact ⟨[.own 8 v8x3], .own 0 0, [], [.deep (.mk 34 1 [(0, (.mk 4 1 []))]) _ none], [(8, v8x3)], ⟨rfl, trivial⟩, rfl, rfl, ⟨⟨rfl, rfl⟩, trivial⟩, rfl, rfl, ⟨rfl, rfl, by rw [fullD_ok h1]⟩⟩


theorem f_l8Draw (b : List Int) (p : Nat) (m : Md) (hb : okB b) (hp : p ≤ 1099511620000) : Fn Try.prog 76 [.ptr 0 0 0, .agg [.sl (m.1.map dI), .sl (m.2.map dR)]] [.box 114 [.sl (b.map dU), .p (.int .i64 ((p : Nat) : Int))]] (fun rr ii nn => rr = .sl ((drawD b p m).1.map dD) ∧ ii = [.box 114 [.sl (b.map dU), .p (.int .i64 (((drawD b p m).2 : Nat) : Int))]] ∧ nn = []) := by
 refine fn_of Try.func76 rfl (Nat.le_of_ble_eq_true rfl) fun w X g => ?_
 show AWp _ _ _ ⟨[(0, .ptr 0 0 0), (1, .agg [.sl (m.1.map dI), .sl (m.2.map dR)])], [(0, some (0, .box 114 [.sl (b.map dU), .p (.int .i64 ((p : Nat) : Int))]))]⟩
 have hfs := fullD_sum (m := m)
 refine a_seq ?_
 refine a_region (by kernel_rfl) ?_
 refine op_n' (fun ver => j_boxa rfl) fun v3x1 => ?_
 refine op_v' (j_assign (evo rfl)) ?_
 refine op_nil ?_
 refine a_seq ?_
 refine a_region (by kernel_rfl) ?_
 refine op_v' (j_loada_box (ys := [.sl _, .sl _]) agg26 rfl rfl rfl (Nat.le_of_ble_eq_true rfl)) ?_
 refine op_n1' (fun ver => j_call1 (v := .own 9 ver) (hp1 := [(9, some (ver, .deep (.mk 34 1 [(0, (.mk 4 1 []))]) _ none))]) [] false [] ent17 (f_fdSpecD m) ⟨.inl ⟨rfl, rfl⟩, trivial⟩ trivial rfl rfl rfl (fun h => by cases h) rfl (List.all_eq_true.1 rfl) (.inl rfl) rfl rfl) fun v9x2 => ?_
 refine op_v' (j_assign (evo rfl)) ?_
 refine op_nil ?_
 refine a_seq ?_
 refine a_seq ?_
 refine a_region (by kernel_rfl) ?_
 refine op_v' (j_assign (evo rfl)) ?_
 refine op_nil ?_
 refine a_block ?_
 refine a_loopF' (ι := List (List Bool) × Nat) (fun x => x.1.length ≤ (fullD m).length ∧ x.1 ++ rowsD b x.2 ((fullD m).drop x.1.length) = rowsD b p (fullD m) ∧ x.2 + sumW List.length ((fullD m).drop x.1.length) = p + sumW List.length (fullD m)) (fun x r => (6, .p (.int .i64 ((x.1.length : Nat)))) :: r) (fun x r => (0, some (0, .box 114 [.sl (b.map dU), .p (.int .i64 ((x.2 : Nat) : Int))])) :: (9, some (v9x2, .deep (.mk 34 1 [(0, .mk 4 1 [])]) ((x.1 ++ (fullD m).drop x.1.length).map dD) none)) :: r) (fun x => (fullD m).length - x.1.length) (fun _ _ => rfl) (fun _ _ => rfl) ([], p) (by first | exact ⟨Nat.zero_le _, rfl, rfl⟩ | (dsimp only; exact ⟨Nat.zero_le _, rfl, rfl⟩)) ⟨⟨rfl, rfl⟩, ⟨rfl, trivial⟩, ⟨rfl, rfl, trivial⟩, ⟨rfl, rfl⟩, ⟨rfl, rfl⟩⟩ ?_
 rintro ⟨P, q⟩ hP; dsimp only at hP ⊢
 refine a_seq ?_
 refine a_seq ?_
 refine a_region (by kernel_rfl) ?_
 refine op_v' (j_move (evo rfl)) ?_
 refine op_v' (j_move (evo rfl)) ?_
 refine op_v' (j_len_deep_map Try.underlying28 rfl rfl) ?_
 refine op_v' (j_lt rfl rfl) ?_
 refine op_nil ?_
 refine a_cond rfl (fun h1 => ?_) (fun h1 => ?_)
 ·
  have h1r := h1
  try simp only [nq, nr, nl, List.length_drop, rowsD_len, mid_len] at h1
  refine a_skip ?_
  refine a_seq ?_
  refine a_block ?_
  refine a_seq ?_
  have hsd := sumW_drop (l := (fullD m)) (k := P.length) (by first | omega | (simp only [nr, nl, List.length_drop, rowsD_len, mid_len]; omega))
  refine a_region (by kernel_rfl) ?_
  refine op_v' (j_assign (evo rfl)) ?_
  refine op_nil ?_
  refine a_block ?_
  refine a_loopF' (ι := Nat) (fun k => k ≤ ((fullD m).getD P.length default).length) (fun k r => (7, .p (.int .i64 ((k : Nat)))) :: r) (fun k r => (0, some (0, .box 114 [.sl (b.map dU), .p (.int .i64 ((q + k : Nat) : Int))])) :: (9, some (v9x2, .deep (.mk 34 1 [(0, .mk 4 1 [])]) ((P ++ rowP b q ((fullD m).getD P.length default) k :: (fullD m).drop (P.length + 1)).map dD) none)) :: r) (fun k => ((fullD m).getD P.length default).length - k) (fun _ _ => rfl) (fun _ _ => rfl) 0 (Nat.zero_le _) ⟨⟨rfl, rfl⟩, ⟨rfl, trivial⟩, ⟨rfl, deepEq (ps_mid (by first | omega | (simp only [nr, nl, List.length_drop, rowsD_len, mid_len]; omega))), trivial⟩, ⟨rfl, rfl⟩, ⟨rfl, rfl⟩⟩ ?_
  intro k hk
  refine a_seq ?_
  refine a_seq ?_
  refine a_region (by kernel_rfl) ?_
  have hrl := rowP_len (b := b) (q := q) (k := k) (x := ((fullD m).getD P.length default)) hk
  refine op_v' (j_move (evo rfl)) ?_
  refine op_v' (j_move (evo rfl)) ?_
  refine op_v' (j_move (evo rfl)) ?_
  refine op_v' (j_elem_deepN slt28 rfl rfl rfl rfl rfl (by first | omega | (simp only [nr, nl, List.length_drop, rowsD_len, mid_len]; omega))) ?_
  refine op_n1' (fun ver => j_out leaf34 (by decide) rfl rfl rfl mid_at rfl rfl) fun v20x3 => ?_
  refine op_v' (j_len_own_map Try.underlying34 rfl rfl) ?_
  refine op_v' (j_lt rfl rfl) ?_
  refine op_nil ?_
  refine a_back 9 20 (by decide) rfl rfl rfl rfl mid_at (mid_set (r' := rowP b q ((fullD m).getD P.length default) k) rfl) ?_
  refine a_cond rfl (fun h2 => ?_) (fun h2 => ?_)
  ·
   have h2r := h2
   try simp only [nq, nr, nl, List.length_drop, rowsD_len, mid_len] at h2
   refine a_skip ?_
   refine a_seq ?_
   refine a_block ?_
   refine a_draw mixed (by kernel_rfl) (by kernel_rfl) fun vf => ?_
   refine d_v' (j_move (evo rfl)) ?_
   refine d_v' (j_move (evo rfl)) ?_
   refine d_v' (j_elem_deepN slt28 rfl rfl rfl rfl rfl (by first | omega | (simp only [nr, nl, List.length_drop, rowsD_len, mid_len]; omega))) ?_
   refine d_n1' (fun ver => j_out leaf34 (by decide) rfl rfl rfl mid_at rfl rfl) ?_
   refine d_v' (j_move (evo rfl)) ?_
   refine d_v' (j_move (evo rfl)) ?_
   refine d_v0' (j_call0 (v := .p _) (hp1 := [(0, some (0, .box 114 [.sl _, .p _]))]) [(0, 0)] false [0] ent99 (f_pick b (q + k) 5 hb (by omega)) ⟨.inl ⟨rfl, rfl⟩, .inl ⟨rfl, rfl⟩, trivial⟩ ⟨⟨rfl, rfl⟩, trivial⟩ rfl rfl (fun h => by cases h) rfl (List.all_eq_true.1 rfl) (.inl rfl) rfl rfl) ?_
   refine d_v' (j_gt rfl rfl) ?_
   refine d_v' (j_elem_ownN slt34 rfl rfl rfl rfl (by first | omega | (simp only [nr, nl, List.length_drop, rowsD_len, mid_len]; omega))) ?_
   refine d_s' (j_store_row leaf4 rfl rfl (by first | omega | (simp only [nr, nl, List.length_drop, rowsD_len, mid_len]; omega)) (evo rfl) rfl rfl) ?_
   refine d_nil (by kernel_rfl) (by kernel_rfl) ?_
   refine a_back 9 28 (by decide) rfl rfl rfl rfl mid_at rfl ?_
   refine a_region (by kernel_rfl) ?_
   refine op_v' (j_move (evo rfl)) ?_
   refine op_v' (j_add rfl rfl (by first | omega | (simp only [nr, nl, List.length_drop, rowsD_len, mid_len]; omega)) (by first | omega | (simp only [nr, nl, List.length_drop, rowsD_len, mid_len]; omega))) ?_
   refine op_v' (j_assign (evo rfl)) ?_
   refine op_nil ?_
   exact ⟨k + 1, (by first | omega | (simp only [nr, nl, List.length_drop, rowsD_len, mid_len]; omega)), ⟨⟨rfl, rfl⟩, ⟨rfl, trivial⟩, ⟨rfl, deepEq (mid_set (congrArg (fun z => [V.sl z]) (rowP_set (by first | omega | (simp only [nr, nl, List.length_drop, rowsD_len, mid_len]; omega))))), trivial⟩, ⟨rfl, rfl⟩, ⟨rfl, rfl⟩⟩, (by first | omega | (simp only [nr, nl, List.length_drop, rowsD_len, mid_len]; omega))⟩
  ·
   have h2r := h2
   try simp only [nq, nr, nl, List.length_drop, rowsD_len, mid_len] at h2
   refine a_exit ?_
   refine a_region (by kernel_rfl) ?_
   refine op_v' (j_move (evo rfl)) ?_
   refine op_v' (j_add rfl rfl (by first | omega | (simp only [nr, nl, List.length_drop, rowsD_len, mid_len]; omega)) (by first | omega | (simp only [nr, nl, List.length_drop, rowsD_len, mid_len]; omega))) ?_
   refine op_v' (j_assign (evo rfl)) ?_
   refine op_nil ?_
   exact ⟨(P ++ [rowD b q ((fullD m).getD P.length default).length], q + ((fullD m).getD P.length default).length), (by first | exact ⟨by first | omega | (simp only [nr, nl, List.length_drop, rowsD_len, mid_len]; omega), by rw [← hP.2.1]; exact (rowsD_next (by first | omega | (simp only [nr, nl, List.length_drop, rowsD_len, mid_len]; omega))).symm, by rw [show (P ++ [rowD b q ((fullD m).getD P.length default).length]).length = P.length + 1 by simp]; omega⟩ | (dsimp only; exact ⟨by first | omega | (simp only [nr, nl, List.length_drop, rowsD_len, mid_len]; omega), by rw [← hP.2.1]; exact (rowsD_next (by first | omega | (simp only [nr, nl, List.length_drop, rowsD_len, mid_len]; omega))).symm, by rw [show (P ++ [rowD b q ((fullD m).getD P.length default).length]).length = P.length + 1 by simp]; omega⟩)), ⟨⟨rfl, rfl⟩, ⟨intEq (by simp), trivial⟩, ⟨boxP (by first | omega | (simp only [nr, nl, List.length_drop, rowsD_len, mid_len]; omega)), deepEq (by rw [rowP_end (by first | omega | (simp only [nr, nl, List.length_drop, rowsD_len, mid_len]; omega)) (by first | omega | (simp only [nr, nl, List.length_drop, rowsD_len, mid_len]; omega))]; exact mid_end), trivial⟩, ⟨rfl, rfl⟩, ⟨rfl, rfl⟩⟩, (by first | exact (by first | omega | (simp only [nr, nl, List.length_drop, rowsD_len, mid_len]; omega)) | (dsimp only; exact (by first | omega | (simp only [nr, nl, List.length_drop, rowsD_len, mid_len]; omega))))⟩
 ·
  have h1r := h1
  try simp only [nq, nr, nl, List.length_drop, rowsD_len, mid_len] at h1
  refine a_exit ?_
  refine a_seq ?_
  refine a_seq ?_
  obtain ⟨hPe, hqe⟩ := drw_end hP (by first | omega | (simp only [nr, nl, List.length_drop, rowsD_len, mid_len]; omega))
  rw [hPe]
  obtain rfl := hqe
  have hs0 : (fullD m).length = 0 → sumW List.length (fullD m) = 0 := fun h => by rw [List.eq_nil_of_length_eq_zero h]; rfl
  have hr0 := rowsD_row (b := b) (q := p) (l := (fullD m)) (i := 0)
  refine a_region (by kernel_rfl) ?_
  refine op_v' (j_move (evo rfl)) ?_
  refine op_v' (j_len_deep_map Try.underlying28 rfl rfl) ?_
  refine op_v' (j_gt rfl rfl) ?_
  refine op_v' (j_move (evo rfl)) ?_
  refine op_split' 37 rfl (fun h3 => ?_) (fun h3 => ?_)
  ·
   have h3r := h3
   try simp only [nq, nr, nl, List.length_drop, rowsD_len, mid_len] at h3
   refine op_v' (j_want rfl rfl h3r (j_move (evo rfl))) ?_
   refine op_v0' (j_want rfl rfl h3r (j_call0 (v := .p _) (hp1 := [(0, some (0, .box 114 [.sl _, .p _]))]) [(0, 0)] false [0] ent99 (f_pick b (p + sumW List.length (fullD m)) 30 hb (by omega)) ⟨.inl ⟨rfl, rfl⟩, .inl ⟨rfl, rfl⟩, trivial⟩ ⟨⟨rfl, rfl⟩, trivial⟩ rfl rfl (fun h => by cases h) rfl (List.all_eq_true.1 rfl) (.inl rfl) rfl rfl)) ?_
   refine op_v' (j_want rfl rfl h3r (j_eq rfl rfl)) ?_
   refine op_v' (j_pick_t rfl h3r (evo rfl)) ?_
   refine op_nil ?_
   refine a_cond rfl (fun h4 => ?_) (fun h4 => ?_)
   ·
    have h4r := h4
    try simp only [nq, nr, nl, List.length_drop, rowsD_len, mid_len] at h4
    refine a_region (by kernel_rfl) ?_
    refine op_v' (j_move (evo rfl)) ?_
    refine op_v' (j_move (evo rfl)) ?_
    refine op_v' (j_elem_deepN slt28 rfl rfl rfl rfl rfl (by first | omega | (simp only [nr, nl, List.length_drop, rowsD_len, mid_len]; omega))) ?_
    refine op_n1' (fun ver => j_out leaf34 (by decide) rfl rfl rfl (at_map (by first | omega | (simp only [nr, nl, List.length_drop, rowsD_len, mid_len]; omega))) rfl rfl) fun v45x4 => ?_
    refine op_n' (fun ver => j_buildSlice (parts := [(0, .const (.bool true))]) (es := [[_]]) slt34 elt4 rfl rfl (by decide) (by decide) rfl rfl (by simp) rfl) fun v46x5 => ?_
    refine op_n' (fun ver => j_append_own slt34 elt4 rfl rfl rfl rfl rfl rfl (by rw [maxLen_eq]; first | omega | (simp only [nr, nl, List.length_drop, rowsD_len, mid_len]; omega)) (by first | omega | (simp only [nr, nl, List.length_drop, rowsD_len, mid_len]; omega))) fun v45x6 => ?_
    refine op_v' (j_elem_deepN slt28 rfl rfl rfl rfl rfl (by first | omega | (simp only [nr, nl, List.length_drop, rowsD_len, mid_len]; omega))) ?_
    refine op_s1' (j_storel_deep leaf34 rfl rfl (fun _ _ _ _ h => by cases h; rfl) rfl (by first | omega | (simp only [nr, nl, List.length_drop, rowsD_len, mid_len]; omega)) rfl (eat_own rfl rfl rfl eat_end) rfl rfl) ?_
    dsimp only [List.map_cons, List.map_nil, List.cons_append, List.nil_append]
    refine op_nil ?_
    refine a_deep 9 (es' := (bendD b (p + sumW List.length (fullD m)) (rowsD b p (fullD m))).map dD) rfl (by rw [bend_y (by assumption), List.map_set]; show _ = List.set _ 0 [V.sl (List.map dB (_ ++ [true]))]; rw [List.map_append]; rfl) ?_
    refine a_seq ?_
    refine a_seq ?_
    have hrl2 := rowsD_len (b := b) (q := p) (l := (fullD m))
    have hbl := bend_len (b := b) (q := p + sumW List.length (fullD m)) (R := rowsD b p (fullD m))
    try rw [← bend_n (b := b) (q := p + sumW List.length (fullD m)) (R := rowsD b p (fullD m)) (by assumption)]
    refine a_region (by kernel_rfl) ?_
    refine op_v' (j_move (evo rfl)) ?_
    refine op_v' (j_len_deep_map Try.underlying28 rfl rfl) ?_
    refine op_v' (j_gt rfl rfl) ?_
    refine op_v' (j_move (evo rfl)) ?_
    refine op_split' 52 rfl (fun h5 => ?_) (fun h5 => ?_)
    ·
     have h5r := h5
     try simp only [nq, nr, nl, List.length_drop, rowsD_len, mid_len] at h5
     refine op_v' (j_want rfl rfl h5r (j_move (evo rfl))) ?_
     refine op_v0' (j_want rfl rfl h5r (j_call0 (v := .p _) (hp1 := [(0, some (0, .box 114 [.sl _, .p _]))]) [(0, 0)] false [0] ent99 (f_pick b (p + sumW List.length (fullD m) + 1) 30 hb (by omega)) ⟨.inl ⟨rfl, rfl⟩, .inl ⟨rfl, rfl⟩, trivial⟩ ⟨⟨rfl, rfl⟩, trivial⟩ rfl rfl (fun h => by cases h) rfl (List.all_eq_true.1 rfl) (.inl rfl) rfl rfl)) ?_
     refine op_v' (j_want rfl rfl h5r (j_eq rfl rfl)) ?_
     refine op_v' (j_pick_t rfl h5r (evo rfl)) ?_
     refine op_nil ?_
     refine a_cond rfl (fun h6 => ?_) (fun h6 => ?_)
     ·
      have h6r := h6
      try simp only [nq, nr, nl, List.length_drop, rowsD_len, mid_len] at h6
      refine a_seq ?_
      refine a_freezeG 5 ⟨⟨_, _, rfl⟩, trivial⟩ rfl rfl rfl rfl ?_
      refine a_region (by kernel_rfl) ?_
      refine op_v' (j_move (evo rfl)) ?_
      refine op_v' (j_move (evo rfl)) ?_
      refine op_v' (j_len_map Try.underlying28 rfl) ?_
      refine op_v' (j_sub rfl rfl (by first | omega | (simp only [nr, nl, List.length_drop, rowsD_len, mid_len]; omega)) (by first | omega | (simp only [nr, nl, List.length_drop, rowsD_len, mid_len]; omega))) ?_
      refine op_v' (j_cut slt28 rfl (fun y hy => by obtain ⟨t, _, rfl⟩ := List.mem_map.1 hy; rfl) Bd.none (Bd.some rfl (show ((bendD b (p + sumW List.length (fullD m)) (rowsD b p (fullD m))).length : Int) - 1 = (((fullD m).length - 1 : Nat) : Int) by first | omega | (simp only [nr, nl, List.length_drop, rowsD_len, mid_len]; omega))) (by first | omega | (simp only [nr, nl, List.length_drop, rowsD_len, mid_len]; omega)) (by first | omega | (simp only [nr, nl, List.length_drop, rowsD_len, mid_len]; omega))) ?_
      refine op_v' (j_assign (evo rfl)) ?_
      refine op_nil ?_
      refine a_ret ?_
      exact ⟨[.sl _], .sl _, [.box 114 [.sl _, .p _]], [], [], ⟨rfl, trivial⟩, rfl, rfl, ⟨⟨rfl, rfl⟩, trivial⟩, rfl, rfl, ⟨by first | (exfalso; omega) | (rw [drawD_n (by first | omega | (simp only [nr, nl, List.length_drop, rowsD_len, mid_len]; omega)) (by assumption)]; done) | (rw [drawD_y (by first | omega | (simp only [nr, nl, List.length_drop, rowsD_len, mid_len]; omega)) (by assumption)]; exact slEq (by rw [List.map_take]; rfl)) | (rw [drawD_0 (by first | omega | (simp only [nr, nl, List.length_drop, rowsD_len, mid_len]; omega))]; exact slEq (by rw [List.eq_nil_of_length_eq_zero (l := rowsD b p (fullD m)) (by first | omega | (simp only [nr, nl, List.length_drop, rowsD_len, mid_len]; omega))] <;> rfl)) | (exfalso; first | omega | (simp only [nr, nl, List.length_drop, rowsD_len, mid_len]; omega)), by first | (exfalso; omega) | (rw [drawD_n (by first | omega | (simp only [nr, nl, List.length_drop, rowsD_len, mid_len]; omega)) (by assumption)]; done) | (rw [drawD_y (by first | omega | (simp only [nr, nl, List.length_drop, rowsD_len, mid_len]; omega)) (by assumption)]; done) | (rw [drawD_0 (by first | omega | (simp only [nr, nl, List.length_drop, rowsD_len, mid_len]; omega))]; exact congrArg (fun z => [z]) (boxO (by first | omega | (simp only [nr, nl, List.length_drop, rowsD_len, mid_len]; omega)))) | (exfalso; first | omega | (simp only [nr, nl, List.length_drop, rowsD_len, mid_len]; omega)), rfl⟩⟩
     ·
      have h6r := h6
      try simp only [nq, nr, nl, List.length_drop, rowsD_len, mid_len] at h6
      refine a_skip ?_
      refine a_seq ?_
      refine a_freezeG 5 ⟨⟨_, _, rfl⟩, trivial⟩ rfl rfl rfl rfl ?_
      refine a_region (by kernel_rfl) ?_
      refine op_v' (j_move (evo rfl)) ?_
      refine op_v' (j_assign (evo rfl)) ?_
      refine op_nil ?_
      refine a_ret ?_
      exact ⟨[.sl _], .sl _, [.box 114 [.sl _, .p _]], [], [], ⟨rfl, trivial⟩, rfl, rfl, ⟨⟨rfl, rfl⟩, trivial⟩, rfl, rfl, ⟨by first | (exfalso; omega) | (rw [drawD_n (by first | omega | (simp only [nr, nl, List.length_drop, rowsD_len, mid_len]; omega)) (by assumption)]; done) | (rw [drawD_y (by first | omega | (simp only [nr, nl, List.length_drop, rowsD_len, mid_len]; omega)) (by assumption)]; exact slEq (by rw [List.map_take]; rfl)) | (rw [drawD_0 (by first | omega | (simp only [nr, nl, List.length_drop, rowsD_len, mid_len]; omega))]; exact slEq (by rw [List.eq_nil_of_length_eq_zero (l := rowsD b p (fullD m)) (by first | omega | (simp only [nr, nl, List.length_drop, rowsD_len, mid_len]; omega))] <;> rfl)) | (exfalso; first | omega | (simp only [nr, nl, List.length_drop, rowsD_len, mid_len]; omega)), by first | (exfalso; omega) | (rw [drawD_n (by first | omega | (simp only [nr, nl, List.length_drop, rowsD_len, mid_len]; omega)) (by assumption)]; done) | (rw [drawD_y (by first | omega | (simp only [nr, nl, List.length_drop, rowsD_len, mid_len]; omega)) (by assumption)]; done) | (rw [drawD_0 (by first | omega | (simp only [nr, nl, List.length_drop, rowsD_len, mid_len]; omega))]; exact congrArg (fun z => [z]) (boxO (by first | omega | (simp only [nr, nl, List.length_drop, rowsD_len, mid_len]; omega)))) | (exfalso; first | omega | (simp only [nr, nl, List.length_drop, rowsD_len, mid_len]; omega)), rfl⟩⟩
    ·
     have h5r := h5
     try simp only [nq, nr, nl, List.length_drop, rowsD_len, mid_len] at h5
     refine op_v' (j_unwantV rfl rfl h5r) ?_
     refine op_v' (j_unwantV rfl rfl h5r) ?_
     refine op_v' (j_unwantV rfl rfl h5r) ?_
     refine op_v' (j_pick_f rfl h5r (evo rfl)) ?_
     refine op_nil ?_
     refine a_ff rfl ?_
     refine a_skip ?_
     refine a_seq ?_
     refine a_freezeG 5 ⟨⟨_, _, rfl⟩, trivial⟩ rfl rfl rfl rfl ?_
     refine a_region (by kernel_rfl) ?_
     refine op_v' (j_move (evo rfl)) ?_
     refine op_v' (j_assign (evo rfl)) ?_
     refine op_nil ?_
     refine a_ret ?_
     exact ⟨[.sl _], .sl _, [.box 114 [.sl _, .p _]], [], [], ⟨rfl, trivial⟩, rfl, rfl, ⟨⟨rfl, rfl⟩, trivial⟩, rfl, rfl, ⟨by first | (exfalso; omega) | (rw [drawD_n (by first | omega | (simp only [nr, nl, List.length_drop, rowsD_len, mid_len]; omega)) (by assumption)]; done) | (rw [drawD_y (by first | omega | (simp only [nr, nl, List.length_drop, rowsD_len, mid_len]; omega)) (by assumption)]; exact slEq (by rw [List.map_take]; rfl)) | (rw [drawD_0 (by first | omega | (simp only [nr, nl, List.length_drop, rowsD_len, mid_len]; omega))]; exact slEq (by rw [List.eq_nil_of_length_eq_zero (l := rowsD b p (fullD m)) (by first | omega | (simp only [nr, nl, List.length_drop, rowsD_len, mid_len]; omega))] <;> rfl)) | (exfalso; first | omega | (simp only [nr, nl, List.length_drop, rowsD_len, mid_len]; omega)), by first | (exfalso; omega) | (rw [drawD_n (by first | omega | (simp only [nr, nl, List.length_drop, rowsD_len, mid_len]; omega)) (by assumption)]; done) | (rw [drawD_y (by first | omega | (simp only [nr, nl, List.length_drop, rowsD_len, mid_len]; omega)) (by assumption)]; done) | (rw [drawD_0 (by first | omega | (simp only [nr, nl, List.length_drop, rowsD_len, mid_len]; omega))]; exact congrArg (fun z => [z]) (boxO (by first | omega | (simp only [nr, nl, List.length_drop, rowsD_len, mid_len]; omega)))) | (exfalso; first | omega | (simp only [nr, nl, List.length_drop, rowsD_len, mid_len]; omega)), rfl⟩⟩
   ·
    have h4r := h4
    try simp only [nq, nr, nl, List.length_drop, rowsD_len, mid_len] at h4
    refine a_skip ?_
    refine a_seq ?_
    refine a_seq ?_
    have hrl2 := rowsD_len (b := b) (q := p) (l := (fullD m))
    have hbl := bend_len (b := b) (q := p + sumW List.length (fullD m)) (R := rowsD b p (fullD m))
    try rw [← bend_n (b := b) (q := p + sumW List.length (fullD m)) (R := rowsD b p (fullD m)) (by assumption)]
    refine a_region (by kernel_rfl) ?_
    refine op_v' (j_move (evo rfl)) ?_
    refine op_v' (j_len_deep_map Try.underlying28 rfl rfl) ?_
    refine op_v' (j_gt rfl rfl) ?_
    refine op_v' (j_move (evo rfl)) ?_
    refine op_split' 52 rfl (fun h7 => ?_) (fun h7 => ?_)
    ·
     have h7r := h7
     try simp only [nq, nr, nl, List.length_drop, rowsD_len, mid_len] at h7
     refine op_v' (j_want rfl rfl h7r (j_move (evo rfl))) ?_
     refine op_v0' (j_want rfl rfl h7r (j_call0 (v := .p _) (hp1 := [(0, some (0, .box 114 [.sl _, .p _]))]) [(0, 0)] false [0] ent99 (f_pick b (p + sumW List.length (fullD m) + 1) 30 hb (by omega)) ⟨.inl ⟨rfl, rfl⟩, .inl ⟨rfl, rfl⟩, trivial⟩ ⟨⟨rfl, rfl⟩, trivial⟩ rfl rfl (fun h => by cases h) rfl (List.all_eq_true.1 rfl) (.inl rfl) rfl rfl)) ?_
     refine op_v' (j_want rfl rfl h7r (j_eq rfl rfl)) ?_
     refine op_v' (j_pick_t rfl h7r (evo rfl)) ?_
     refine op_nil ?_
     refine a_cond rfl (fun h8 => ?_) (fun h8 => ?_)
     ·
      have h8r := h8
      try simp only [nq, nr, nl, List.length_drop, rowsD_len, mid_len] at h8
      refine a_seq ?_
      refine a_freezeG 5 ⟨⟨_, _, rfl⟩, trivial⟩ rfl rfl rfl rfl ?_
      refine a_region (by kernel_rfl) ?_
      refine op_v' (j_move (evo rfl)) ?_
      refine op_v' (j_move (evo rfl)) ?_
      refine op_v' (j_len_map Try.underlying28 rfl) ?_
      refine op_v' (j_sub rfl rfl (by first | omega | (simp only [nr, nl, List.length_drop, rowsD_len, mid_len]; omega)) (by first | omega | (simp only [nr, nl, List.length_drop, rowsD_len, mid_len]; omega))) ?_
      refine op_v' (j_cut slt28 rfl (fun y hy => by obtain ⟨t, _, rfl⟩ := List.mem_map.1 hy; rfl) Bd.none (Bd.some rfl (show ((bendD b (p + sumW List.length (fullD m)) (rowsD b p (fullD m))).length : Int) - 1 = (((fullD m).length - 1 : Nat) : Int) by first | omega | (simp only [nr, nl, List.length_drop, rowsD_len, mid_len]; omega))) (by first | omega | (simp only [nr, nl, List.length_drop, rowsD_len, mid_len]; omega)) (by first | omega | (simp only [nr, nl, List.length_drop, rowsD_len, mid_len]; omega))) ?_
      refine op_v' (j_assign (evo rfl)) ?_
      refine op_nil ?_
      refine a_ret ?_
      exact ⟨[.sl _], .sl _, [.box 114 [.sl _, .p _]], [], [], ⟨rfl, trivial⟩, rfl, rfl, ⟨⟨rfl, rfl⟩, trivial⟩, rfl, rfl, ⟨by first | (exfalso; omega) | (rw [drawD_n (by first | omega | (simp only [nr, nl, List.length_drop, rowsD_len, mid_len]; omega)) (by assumption)]; done) | (rw [drawD_y (by first | omega | (simp only [nr, nl, List.length_drop, rowsD_len, mid_len]; omega)) (by assumption)]; exact slEq (by rw [List.map_take]; rfl)) | (rw [drawD_0 (by first | omega | (simp only [nr, nl, List.length_drop, rowsD_len, mid_len]; omega))]; exact slEq (by rw [List.eq_nil_of_length_eq_zero (l := rowsD b p (fullD m)) (by first | omega | (simp only [nr, nl, List.length_drop, rowsD_len, mid_len]; omega))] <;> rfl)) | (exfalso; first | omega | (simp only [nr, nl, List.length_drop, rowsD_len, mid_len]; omega)), by first | (exfalso; omega) | (rw [drawD_n (by first | omega | (simp only [nr, nl, List.length_drop, rowsD_len, mid_len]; omega)) (by assumption)]; done) | (rw [drawD_y (by first | omega | (simp only [nr, nl, List.length_drop, rowsD_len, mid_len]; omega)) (by assumption)]; done) | (rw [drawD_0 (by first | omega | (simp only [nr, nl, List.length_drop, rowsD_len, mid_len]; omega))]; exact congrArg (fun z => [z]) (boxO (by first | omega | (simp only [nr, nl, List.length_drop, rowsD_len, mid_len]; omega)))) | (exfalso; first | omega | (simp only [nr, nl, List.length_drop, rowsD_len, mid_len]; omega)), rfl⟩⟩
     ·
      have h8r := h8
      try simp only [nq, nr, nl, List.length_drop, rowsD_len, mid_len] at h8
      refine a_skip ?_
      refine a_seq ?_
      refine a_freezeG 5 ⟨⟨_, _, rfl⟩, trivial⟩ rfl rfl rfl rfl ?_
      refine a_region (by kernel_rfl) ?_
      refine op_v' (j_move (evo rfl)) ?_
      refine op_v' (j_assign (evo rfl)) ?_
      refine op_nil ?_
      refine a_ret ?_
      exact ⟨[.sl _], .sl _, [.box 114 [.sl _, .p _]], [], [], ⟨rfl, trivial⟩, rfl, rfl, ⟨⟨rfl, rfl⟩, trivial⟩, rfl, rfl, ⟨by first | (exfalso; omega) | (rw [drawD_n (by first | omega | (simp only [nr, nl, List.length_drop, rowsD_len, mid_len]; omega)) (by assumption)]; done) | (rw [drawD_y (by first | omega | (simp only [nr, nl, List.length_drop, rowsD_len, mid_len]; omega)) (by assumption)]; exact slEq (by rw [List.map_take]; rfl)) | (rw [drawD_0 (by first | omega | (simp only [nr, nl, List.length_drop, rowsD_len, mid_len]; omega))]; exact slEq (by rw [List.eq_nil_of_length_eq_zero (l := rowsD b p (fullD m)) (by first | omega | (simp only [nr, nl, List.length_drop, rowsD_len, mid_len]; omega))] <;> rfl)) | (exfalso; first | omega | (simp only [nr, nl, List.length_drop, rowsD_len, mid_len]; omega)), by first | (exfalso; omega) | (rw [drawD_n (by first | omega | (simp only [nr, nl, List.length_drop, rowsD_len, mid_len]; omega)) (by assumption)]; done) | (rw [drawD_y (by first | omega | (simp only [nr, nl, List.length_drop, rowsD_len, mid_len]; omega)) (by assumption)]; done) | (rw [drawD_0 (by first | omega | (simp only [nr, nl, List.length_drop, rowsD_len, mid_len]; omega))]; exact congrArg (fun z => [z]) (boxO (by first | omega | (simp only [nr, nl, List.length_drop, rowsD_len, mid_len]; omega)))) | (exfalso; first | omega | (simp only [nr, nl, List.length_drop, rowsD_len, mid_len]; omega)), rfl⟩⟩
    ·
     have h7r := h7
     try simp only [nq, nr, nl, List.length_drop, rowsD_len, mid_len] at h7
     refine op_v' (j_unwantV rfl rfl h7r) ?_
     refine op_v' (j_unwantV rfl rfl h7r) ?_
     refine op_v' (j_unwantV rfl rfl h7r) ?_
     refine op_v' (j_pick_f rfl h7r (evo rfl)) ?_
     refine op_nil ?_
     refine a_ff rfl ?_
     refine a_skip ?_
     refine a_seq ?_
     refine a_freezeG 5 ⟨⟨_, _, rfl⟩, trivial⟩ rfl rfl rfl rfl ?_
     refine a_region (by kernel_rfl) ?_
     refine op_v' (j_move (evo rfl)) ?_
     refine op_v' (j_assign (evo rfl)) ?_
     refine op_nil ?_
     refine a_ret ?_
     exact ⟨[.sl _], .sl _, [.box 114 [.sl _, .p _]], [], [], ⟨rfl, trivial⟩, rfl, rfl, ⟨⟨rfl, rfl⟩, trivial⟩, rfl, rfl, ⟨by first | (exfalso; omega) | (rw [drawD_n (by first | omega | (simp only [nr, nl, List.length_drop, rowsD_len, mid_len]; omega)) (by assumption)]; done) | (rw [drawD_y (by first | omega | (simp only [nr, nl, List.length_drop, rowsD_len, mid_len]; omega)) (by assumption)]; exact slEq (by rw [List.map_take]; rfl)) | (rw [drawD_0 (by first | omega | (simp only [nr, nl, List.length_drop, rowsD_len, mid_len]; omega))]; exact slEq (by rw [List.eq_nil_of_length_eq_zero (l := rowsD b p (fullD m)) (by first | omega | (simp only [nr, nl, List.length_drop, rowsD_len, mid_len]; omega))] <;> rfl)) | (exfalso; first | omega | (simp only [nr, nl, List.length_drop, rowsD_len, mid_len]; omega)), by first | (exfalso; omega) | (rw [drawD_n (by first | omega | (simp only [nr, nl, List.length_drop, rowsD_len, mid_len]; omega)) (by assumption)]; done) | (rw [drawD_y (by first | omega | (simp only [nr, nl, List.length_drop, rowsD_len, mid_len]; omega)) (by assumption)]; done) | (rw [drawD_0 (by first | omega | (simp only [nr, nl, List.length_drop, rowsD_len, mid_len]; omega))]; exact congrArg (fun z => [z]) (boxO (by first | omega | (simp only [nr, nl, List.length_drop, rowsD_len, mid_len]; omega)))) | (exfalso; first | omega | (simp only [nr, nl, List.length_drop, rowsD_len, mid_len]; omega)), rfl⟩⟩
  ·
   have h3r := h3
   try simp only [nq, nr, nl, List.length_drop, rowsD_len, mid_len] at h3
   refine op_v' (j_unwantV rfl rfl h3r) ?_
   refine op_v' (j_unwantV rfl rfl h3r) ?_
   refine op_v' (j_unwantV rfl rfl h3r) ?_
   refine op_v' (j_pick_f rfl h3r (evo rfl)) ?_
   refine op_nil ?_
   refine a_ff rfl ?_
   refine a_skip ?_
   refine a_seq ?_
   refine a_seq ?_
   have hrl2 := rowsD_len (b := b) (q := p) (l := (fullD m))
   have hbl := bend_len (b := b) (q := p + sumW List.length (fullD m)) (R := rowsD b p (fullD m))
   try rw [← bend_n (b := b) (q := p + sumW List.length (fullD m)) (R := rowsD b p (fullD m)) (by assumption)]
   refine a_region (by kernel_rfl) ?_
   refine op_v' (j_move (evo rfl)) ?_
   refine op_v' (j_len_deep_map Try.underlying28 rfl rfl) ?_
   refine op_v' (j_gt rfl rfl) ?_
   refine op_v' (j_move (evo rfl)) ?_
   refine op_split' 52 rfl (fun h9 => ?_) (fun h9 => ?_)
   ·
    have h9r := h9
    try simp only [nq, nr, nl, List.length_drop, rowsD_len, mid_len] at h9
    exact absurd (of_decide_eq_true h9r) (by omega)
   ·
    have h9r := h9
    try simp only [nq, nr, nl, List.length_drop, rowsD_len, mid_len] at h9
    refine op_v' (j_unwantV rfl rfl h9r) ?_
    refine op_v' (j_unwantV rfl rfl h9r) ?_
    refine op_v' (j_unwantV rfl rfl h9r) ?_
    refine op_v' (j_pick_f rfl h9r (evo rfl)) ?_
    refine op_nil ?_
    refine a_ff rfl ?_
    refine a_skip ?_
    refine a_seq ?_
    refine a_freezeG 5 ⟨⟨_, _, rfl⟩, trivial⟩ rfl rfl rfl rfl ?_
    refine a_region (by kernel_rfl) ?_
    refine op_v' (j_move (evo rfl)) ?_
    refine op_v' (j_assign (evo rfl)) ?_
    refine op_nil ?_
    refine a_ret ?_
    exact ⟨[.sl _], .sl _, [.box 114 [.sl _, .p _]], [], [], ⟨rfl, trivial⟩, rfl, rfl, ⟨⟨rfl, rfl⟩, trivial⟩, rfl, rfl, ⟨by first | (exfalso; omega) | (rw [drawD_n (by first | omega | (simp only [nr, nl, List.length_drop, rowsD_len, mid_len]; omega)) (by assumption)]; done) | (rw [drawD_y (by first | omega | (simp only [nr, nl, List.length_drop, rowsD_len, mid_len]; omega)) (by assumption)]; exact slEq (by rw [List.map_take]; rfl)) | (rw [drawD_0 (by first | omega | (simp only [nr, nl, List.length_drop, rowsD_len, mid_len]; omega))]; exact slEq (by rw [List.eq_nil_of_length_eq_zero (l := rowsD b p (fullD m)) (by first | omega | (simp only [nr, nl, List.length_drop, rowsD_len, mid_len]; omega))] <;> rfl)) | (exfalso; first | omega | (simp only [nr, nl, List.length_drop, rowsD_len, mid_len]; omega)), by first | (exfalso; omega) | (rw [drawD_n (by first | omega | (simp only [nr, nl, List.length_drop, rowsD_len, mid_len]; omega)) (by assumption)]; done) | (rw [drawD_y (by first | omega | (simp only [nr, nl, List.length_drop, rowsD_len, mid_len]; omega)) (by assumption)]; done) | (rw [drawD_0 (by first | omega | (simp only [nr, nl, List.length_drop, rowsD_len, mid_len]; omega))]; exact congrArg (fun z => [z]) (boxO (by first | omega | (simp only [nr, nl, List.length_drop, rowsD_len, mid_len]; omega)))) | (exfalso; first | omega | (simp only [nr, nl, List.length_drop, rowsD_len, mid_len]; omega)), rfl⟩⟩


end Go.Ab

/- Walks. -/
import Derived.Test.YtikknnpdiahnoaaBase
import Derived.Test.YtikknnpdiahnoaaOpt
import Derived.Test.YtikknnpdiahnoaaWsfm
import Derived.Test.YtikknnpdiahnoaaWsdfr
import Derived.Test.YtikknnpdiahnoaaWsnm
import Derived.Test.YtikknnpdiahnoaaWsd6
import Derived.Test.YtikknnpdiahnoaaWsflt
namespace Go.Ab
open Go.Proofs
set_option maxRecDepth 100000
set_option maxHeartbeats 8000000
set_option linter.unusedSimpArgs false
set_option linter.unusedVariables false
theorem f_l9Draw (b : List Int) (p : Nat) (m : Md) (hb : okB b) (hp : p ≤ 1099511610000) (hm : wM m ≤ 3000) : Fn Try.prog 89 [.ptr 0 0 0, .agg [.sl (m.1.map dI), .sl (m.2.map dR)]] [.box 114 [.sl (b.map dU), .p (.int .i64 ((p : Nat) : Int))]] (fun rr ii nn => rr = .sl ((drawC b p m.1.length).1.map dI) ∧ ii = [.box 114 [.sl (b.map dU), .p (.int .i64 (((drawC b p m.1.length).2 : Nat) : Int))]] ∧ nn = []) := by
 refine fn_of Try.func89 rfl (Nat.le_of_ble_eq_true rfl) fun w X g => ?_
 show AWp _ _ _ ⟨[(0, .ptr 0 0 0), (1, .agg [.sl (m.1.map dI), .sl (m.2.map dR)])], [(0, some (0, .box 114 [.sl (b.map dU), .p (.int .i64 ((p : Nat) : Int))]))]⟩
 have hml : m.1.length ≤ 3000 := by unfold wM at hm; omega
 refine a_seq ?_
 refine a_region (by kernel_rfl) ?_
 refine op_n' (fun ver => j_boxa rfl) fun v3x1 => ?_
 refine op_v' (j_assign (evo rfl)) ?_
 refine op_nil ?_
 refine a_seq ?_
 refine a_region (by kernel_rfl) ?_
 refine op_n' (fun ver => j_buildSlice (parts := []) (es := []) slt23 elt3 rfl rfl (by decide) (by decide) rfl rfl (by simp) rfl) fun v7x2 => ?_
 refine op_v' (j_assign (evo rfl)) ?_
 refine op_nil ?_
 refine a_seq ?_
 refine a_seq ?_
 refine a_region (by kernel_rfl) ?_
 refine op_v' (j_assign (evo rfl)) ?_
 refine op_nil ?_
 refine a_block ?_
 refine a_loopF' (ι := Nat × Nat) (fun x => x.1 ≤ m.1.length) (fun x r => (6, .p (.int .i64 ((x.1 : Nat)))) :: (5, .own 7 x.2) :: r) (fun x r => (0, some (0, .box 114 [.sl (b.map dU), .p (.int .i64 ((p + x.1 : Nat) : Int))])) :: (7, some (x.2, .row 3 1 ((coeV b p x.1).map dI))) :: r) (fun x => m.1.length - x.1) (fun _ _ => rfl) (fun _ _ => rfl) (0, v7x2) (by first | exact (Nat.zero_le _) | (dsimp only; exact (Nat.zero_le _))) ⟨⟨rfl, rfl⟩, ⟨rfl, rfl, trivial⟩, ⟨rfl, rfl, trivial⟩, ⟨rfl, rfl⟩, ⟨rfl, rfl⟩⟩ ?_
 rintro ⟨k, v⟩ hk; dsimp only at hk ⊢
 refine a_seq ?_
 refine a_seq ?_
 refine a_region (by kernel_rfl) ?_
 refine op_v' (j_move (evo rfl)) ?_
 refine op_v' (j_fldp fld26f0 rfl rfl) ?_
 refine op_v' (j_load_box leaf23 rfl rfl rfl) ?_
 refine op_v' (j_len_map Try.underlying23 rfl) ?_
 refine op_v' (j_lt rfl rfl) ?_
 refine op_nil ?_
 refine a_cond rfl (fun h1 => ?_) (fun h1 => ?_)
 ·
  have h1r := h1
  try simp only [nq, nr, nl, coeV_len] at h1
  refine a_skip ?_
  refine a_seq ?_
  refine a_block ?_
  refine a_region (by kernel_rfl) ?_
  refine op_v' (j_move (evo rfl)) ?_
  refine op_v' (j_move (evo rfl)) ?_
  refine op_n' (fun ver => j_buildSlice (parts := [(0, .const (.int .i64 1)), (1, .const (.int .i64 (-1))), (2, .const (.int .i64 2)), (3, .const (.int .i64 0)), (4, .const (.int .i64 (-2))), (5, .const (.int .i64 3))]) (es := [[_], [_], [_], [_], [_], [_]]) slt23 elt3 rfl rfl (by decide) (by decide) rfl rfl (by simp) rfl) fun v17x3 => ?_
  refine op_v0' (j_call0 (v := .p _) (hp1 := [(0, some (0, .box 114 [.sl _, .p _])), (17, some (v17x3, .row 3 1 _))]) [(0, 0), (17, v17x3)] false [0, 17] ent77 (f_num b (p + k) [1, -1, 2, 0, -2, 3] hb (by omega) (by decide) (by decide)) ⟨.inl ⟨rfl, rfl⟩, .inl ⟨rfl, rfl⟩, trivial⟩ ⟨⟨rfl, rfl⟩, ⟨rfl, rfl⟩, trivial⟩ rfl rfl (fun h => by cases h) rfl (List.all_eq_true.1 rfl) (.inl rfl) rfl rfl) ?_
  refine op_n' (fun ver => j_buildSlice (parts := [(0, .tmp 18)]) (es := [[_]]) slt23 elt3 rfl rfl (by decide) (by decide) rfl rfl (by simp) rfl) fun v19x4 => ?_
  refine op_n' (fun ver => j_append_own slt23 elt3 rfl rfl rfl rfl rfl rfl (by rw [maxLen_eq]; first | omega | (simp only [nr, nl, coeV_len]; omega)) (by first | omega | (simp only [nr, nl, coeV_len]; omega))) fun v7x5 => ?_
  refine op_v' (j_assign (evo rfl)) ?_
  refine op_nil ?_
  refine a_region (by kernel_rfl) ?_
  refine op_v' (j_move (evo rfl)) ?_
  refine op_v' (j_add rfl rfl (by first | omega | (simp only [nr, nl, coeV_len]; omega)) (by first | omega | (simp only [nr, nl, coeV_len]; omega))) ?_
  refine op_v' (j_assign (evo rfl)) ?_
  refine op_nil ?_
  exact ⟨(k + 1, v7x5), (by first | exact (by first | omega | (simp only [nr, nl, coeV_len]; omega)) | (dsimp only; exact (by first | omega | (simp only [nr, nl, coeV_len]; omega)))), ⟨⟨rfl, rfl⟩, ⟨rfl, rfl, trivial⟩, ⟨rfl, rowEq (by rw [coeV_next, List.map_append]; rfl), trivial⟩, ⟨rfl, rfl⟩, ⟨rfl, rfl⟩⟩, (by first | exact (by first | omega | (simp only [nr, nl, coeV_len]; omega)) | (dsimp only; exact (by first | omega | (simp only [nr, nl, coeV_len]; omega))))⟩
 ·
  have h1r := h1
  try simp only [nq, nr, nl, coeV_len] at h1
  refine a_exit ?_
  refine a_seq ?_
  refine a_seq ?_
  obtain rfl : k = m.1.length := by omega
  refine a_region (by kernel_rfl) ?_
  refine op_v' (j_move (evo rfl)) ?_
  refine op_v0' (j_call0 (v := .p _) (hp1 := [(0, some (0, .box 114 [.sl _, .p _]))]) [(0, 0)] false [0] ent99 (f_pick b (p + m.1.length) 30 hb (by omega)) ⟨.inl ⟨rfl, rfl⟩, .inl ⟨rfl, rfl⟩, trivial⟩ ⟨⟨rfl, rfl⟩, trivial⟩ rfl rfl (fun h => by cases h) rfl (List.all_eq_true.1 rfl) (.inl rfl) rfl rfl) ?_
  refine op_nil ?_
  refine a_block ?_
  refine a_seq ?_
  refine a_region (by kernel_rfl) ?_
  refine op_v' (j_eq rfl rfl) ?_
  refine op_v' (j_assign (evo rfl)) ?_
  refine op_nil ?_
  refine a_cond rfl (fun h2 => ?_) (fun h2 => ?_)
  ·
   have h2r := h2
   try simp only [nq, nr, nl, coeV_len] at h2
   refine a_seq ?_
   refine a_region (by kernel_rfl) ?_
   refine op_v' (j_move (evo rfl)) ?_
   refine op_v' (j_len_own_map Try.underlying23 rfl rfl) ?_
   refine op_v' (j_gt rfl rfl) ?_
   refine op_nil ?_
   refine a_cond rfl (fun h3 => ?_) (fun h3 => ?_)
   ·
    have h3r := h3
    try simp only [nq, nr, nl, coeV_len] at h3
    refine a_region (by kernel_rfl) ?_
    refine op_v' (j_move (evo rfl)) ?_
    refine op_v' (j_move (evo rfl)) ?_
    refine op_n' (fun ver => j_buildSlice (parts := [(0, .const (.int .i64 10)), (1, .const (.int .i64 (-10))), (2, .const (.int .i64 9)), (3, .const (.int .i64 9223372036854775807))]) (es := [[_], [_], [_], [_]]) slt23 elt3 rfl rfl (by decide) (by decide) rfl rfl (by simp) rfl) fun v30x6 => ?_
    refine op_v0' (j_call0 (v := .p _) (hp1 := [(0, some (0, .box 114 [.sl _, .p _])), (30, some (v30x6, .row 3 1 _))]) [(0, 0), (30, v30x6)] false [0, 30] ent77 (f_num b (p + m.1.length + 1) [10, -10, 9, 9223372036854775807] hb (by omega) (by decide) (by decide)) ⟨.inl ⟨rfl, rfl⟩, .inl ⟨rfl, rfl⟩, trivial⟩ ⟨⟨rfl, rfl⟩, ⟨rfl, rfl⟩, trivial⟩ rfl rfl (fun h => by cases h) rfl (List.all_eq_true.1 rfl) (.inl rfl) rfl rfl) ?_
    refine op_v' (j_elem_ownN slt23 rfl rfl rfl rfl (by first | omega | (simp only [nr, nl, coeV_len]; omega))) ?_
    refine op_s' (j_store_row leaf3 rfl rfl (by first | omega | (simp only [nr, nl, coeV_len]; omega)) (evo rfl) rfl rfl) ?_
    refine op_nil ?_
    refine a_seq ?_
    refine a_region (by kernel_rfl) ?_
    refine op_v' (j_move (evo rfl)) ?_
    refine op_v' (j_assign (evo rfl)) ?_
    refine op_nil ?_
    refine a_freezeK 4 ⟨⟨_, _, rfl⟩, trivial⟩ rfl rfl rfl ?_
    refine a_ret ?_
    exact ⟨[.sl _], .sl _, [.box 114 [.sl _, .p _]], [], [], ⟨rfl, trivial⟩, rfl, rfl, ⟨⟨rfl, rfl⟩, trivial⟩, rfl, rfl, ⟨by first | (rw [drC_0 (by assumption) (by omega)]; exact slEq (by rw [List.map_set]; rfl)) | (rw [drC_z (by assumption) (by omega)]; done) | (rw [drC_1 (by assumption)]; exact slEq (by rw [List.map_append]; rfl)) | (rw [drC_n (by assumption) (by assumption)]; done), by first | (rw [drC_0 (by assumption) (by omega)]; done) | (rw [drC_z (by assumption) (by omega)]; done) | (rw [drC_1 (by assumption)]; done) | (rw [drC_n (by assumption) (by assumption)]; done), rfl⟩⟩
   ·
    have h3r := h3
    try simp only [nq, nr, nl, coeV_len] at h3
    refine a_skip ?_
    refine a_seq ?_
    refine a_region (by kernel_rfl) ?_
    refine op_v' (j_move (evo rfl)) ?_
    refine op_v' (j_assign (evo rfl)) ?_
    refine op_nil ?_
    refine a_freezeK 4 ⟨⟨_, _, rfl⟩, trivial⟩ rfl rfl rfl ?_
    refine a_ret ?_
    exact ⟨[.sl _], .sl _, [.box 114 [.sl _, .p _]], [], [], ⟨rfl, trivial⟩, rfl, rfl, ⟨⟨rfl, rfl⟩, trivial⟩, rfl, rfl, ⟨by first | (rw [drC_0 (by assumption) (by omega)]; exact slEq (by rw [List.map_set]; rfl)) | (rw [drC_z (by assumption) (by omega)]; done) | (rw [drC_1 (by assumption)]; exact slEq (by rw [List.map_append]; rfl)) | (rw [drC_n (by assumption) (by assumption)]; done), by first | (rw [drC_0 (by assumption) (by omega)]; done) | (rw [drC_z (by assumption) (by omega)]; done) | (rw [drC_1 (by assumption)]; done) | (rw [drC_n (by assumption) (by assumption)]; done), rfl⟩⟩
  ·
   have h2r := h2
   try simp only [nq, nr, nl, coeV_len] at h2
   refine a_seq ?_
   refine a_region (by kernel_rfl) ?_
   refine op_v' (j_eq rfl rfl) ?_
   refine op_v' (j_assign (evo rfl)) ?_
   refine op_nil ?_
   refine a_cond rfl (fun h4 => ?_) (fun h4 => ?_)
   ·
    have h4r := h4
    try simp only [nq, nr, nl, coeV_len] at h4
    refine a_region (by kernel_rfl) ?_
    refine op_v' (j_move (evo rfl)) ?_
    refine op_n' (fun ver => j_buildSlice (parts := [(0, .const (.int .i64 1))]) (es := [[_]]) slt23 elt3 rfl rfl (by decide) (by decide) rfl rfl (by simp) rfl) fun v36x7 => ?_
    refine op_n' (fun ver => j_append_own slt23 elt3 rfl rfl rfl rfl rfl rfl (by rw [maxLen_eq]; first | omega | (simp only [nr, nl, coeV_len]; omega)) (by first | omega | (simp only [nr, nl, coeV_len]; omega))) fun v7x8 => ?_
    refine op_v' (j_assign (evo rfl)) ?_
    refine op_nil ?_
    refine a_seq ?_
    refine a_region (by kernel_rfl) ?_
    refine op_v' (j_move (evo rfl)) ?_
    refine op_v' (j_assign (evo rfl)) ?_
    refine op_nil ?_
    refine a_freezeK 4 ⟨⟨_, _, rfl⟩, trivial⟩ rfl rfl rfl ?_
    refine a_ret ?_
    exact ⟨[.sl _], .sl _, [.box 114 [.sl _, .p _]], [], [], ⟨rfl, trivial⟩, rfl, rfl, ⟨⟨rfl, rfl⟩, trivial⟩, rfl, rfl, ⟨by first | (rw [drC_0 (by assumption) (by omega)]; exact slEq (by rw [List.map_set]; rfl)) | (rw [drC_z (by assumption) (by omega)]; done) | (rw [drC_1 (by assumption)]; exact slEq (by rw [List.map_append]; rfl)) | (rw [drC_n (by assumption) (by assumption)]; done), by first | (rw [drC_0 (by assumption) (by omega)]; done) | (rw [drC_z (by assumption) (by omega)]; done) | (rw [drC_1 (by assumption)]; done) | (rw [drC_n (by assumption) (by assumption)]; done), rfl⟩⟩
   ·
    have h4r := h4
    try simp only [nq, nr, nl, coeV_len] at h4
    refine a_skip ?_
    refine a_seq ?_
    refine a_region (by kernel_rfl) ?_
    refine op_v' (j_move (evo rfl)) ?_
    refine op_v' (j_assign (evo rfl)) ?_
    refine op_nil ?_
    refine a_freezeK 4 ⟨⟨_, _, rfl⟩, trivial⟩ rfl rfl rfl ?_
    refine a_ret ?_
    exact ⟨[.sl _], .sl _, [.box 114 [.sl _, .p _]], [], [], ⟨rfl, trivial⟩, rfl, rfl, ⟨⟨rfl, rfl⟩, trivial⟩, rfl, rfl, ⟨by first | (rw [drC_0 (by assumption) (by omega)]; exact slEq (by rw [List.map_set]; rfl)) | (rw [drC_z (by assumption) (by omega)]; done) | (rw [drC_1 (by assumption)]; exact slEq (by rw [List.map_append]; rfl)) | (rw [drC_n (by assumption) (by assumption)]; done), by first | (rw [drC_0 (by assumption) (by omega)]; done) | (rw [drC_z (by assumption) (by omega)]; done) | (rw [drC_1 (by assumption)]; done) | (rw [drC_n (by assumption) (by assumption)]; done), rfl⟩⟩


theorem f_dMM (b : List Int) (hb : ∀ a ∈ b, 0 ≤ a ∧ a ≤ 255) : Fn Try.prog 35 [.sl (b.map dU)] [] (fun rr ii nn => ∃ x : Md × List Int, (wM x.1 ≤ 3000 ∧ x.2.length ≤ 4000) ∧ rr = .tup [.agg [.sl (x.1.1.map dI), .sl (x.1.2.map dR)], .sl (x.2.map dI)] ∧ ii = [] ∧ nn = []) := by
 refine fn_of Try.func35 rfl (Nat.le_of_ble_eq_true rfl) fun w X g => ?_
 show AWp _ _ _ ⟨[(0, .sl (b.map dU))], []⟩
 have hbt := okB_take (b := b) (Nat.le_refl _) hb
 refine a_seq ?_
 refine a_region (by kernel_rfl) ?_
 refine op_n' (fun ver => j_alloc elt26 rfl) fun v2x1 => ?_
 refine op_v' (j_assign (evo rfl)) ?_
 refine op_nil ?_
 refine a_seq ?_
 refine a_region (by kernel_rfl) ?_
 refine op_v' (j_move (evo rfl)) ?_
 refine op_n1' (fun ver => j_call1 (v := .ptr 7 ver 0) (hp1 := [(7, some (ver, .box 114 [.sl _, .p _]))]) [] false [] ent73 (f_open _) ⟨.inl ⟨rfl, rfl⟩, trivial⟩ trivial rfl rfl rfl (fun h => by cases h) rfl (List.all_eq_true.1 rfl) (.inl rfl) rfl rfl) fun v7x2 => ?_
 refine op_v' (j_assign (evo rfl)) ?_
 refine op_nil ?_
 refine a_seq ?_
 refine a_region (by kernel_rfl) ?_
 refine op_v' (j_move (evo rfl)) ?_
 refine op_v' (j_move (evo rfl)) ?_
 refine op_callE (v := fun x => .agg [.sl _, .sl _]) (hp1 := fun x => [(7, some (v7x2, .box 114 [.sl _, .p _]))]) [(7, v7x2)] false ent75 (f_l6Model (b.take 2000) 0 hbt (by omega)) ⟨.inl ⟨rfl, rfl⟩, trivial⟩ ⟨⟨rfl, rfl⟩, trivial⟩ rfl (fun _ => rfl) (fun _ => rfl) (.inl rfl) (fun _ => rfl) (fun _ => rfl) ?_
 rintro ⟨m10, p10⟩ ⟨hw10, hl10, hr10, hp10⟩
 try dsimp only at hw10
 try dsimp only at hl10
 try dsimp only at hr10
 try dsimp only at hp10
 dsimp only [List.cons_append, List.nil_append]
 refine op_callE (v := fun x => .agg [.sl _, .sl _]) (hp1 := fun x => [(7, some (v7x2, .box 114 [.sl _, .p _]))]) [(7, v7x2)] false ent74 (f_l6Mutate (b.take 2000) p10 m10 hbt (by omega) (by omega)) ⟨.inl ⟨rfl, rfl⟩, .inl ⟨rfl, rfl⟩, trivial⟩ ⟨⟨rfl, rfl⟩, trivial⟩ rfl (fun _ => rfl) (fun _ => rfl) (.inl rfl) (fun _ => rfl) (fun _ => rfl) ?_
 rintro ⟨m11, p11⟩ ⟨hw11, hp11⟩
 try dsimp only at hw11
 try dsimp only at hp11
 dsimp only [List.cons_append, List.nil_append]
 refine op_n' (fun ver => j_alloc elt26 rfl) fun v5x3 => ?_
 refine op_s' (j_storea_box0 agg26 rfl rfl rfl rfl rfl rfl) ?_
 refine op_nil ?_
 refine a_seq ?_
 have hdc := drC_ok (b := (b.take 2000)) (p := p11) (n := m11.1.length)
 have hml : m11.1.length ≤ 3000 := by unfold wM at hw11; omega
 refine a_draw mixed (by kernel_rfl) (by kernel_rfl) fun vf => ?_
 refine d_v' (j_loada_box (ys := [.sl _, .sl _]) agg26 rfl rfl rfl (Nat.le_of_ble_eq_true rfl)) ?_
 refine d_v' (j_move (evo rfl)) ?_
 refine d_v' (j_loada_box (ys := [.sl _, .sl _]) agg26 rfl rfl rfl (Nat.le_of_ble_eq_true rfl)) ?_
 refine d_v0' (j_call0 (v := .sl _) (hp1 := [(7, some (v7x2, .box 114 [.sl _, .p _]))]) [(7, v7x2)] false [7] ent89 (f_l9Draw (b.take 2000) p11 m11 hbt (by omega) (by omega)) ⟨.inl ⟨rfl, rfl⟩, .inl ⟨rfl, rfl⟩, trivial⟩ ⟨⟨rfl, rfl⟩, trivial⟩ rfl rfl (fun h => by cases h) rfl (List.all_eq_true.1 rfl) (.inl rfl) rfl rfl) ?_
 refine d_s' (j_storea_box0 agg26 rfl rfl rfl rfl rfl rfl) ?_
 refine d_v' (j_assign (evo rfl)) ?_
 refine d_nil (by kernel_rfl) (by kernel_rfl) ?_
 refine a_ret ?_
 exact ⟨[.agg [.sl _, .sl _], .sl _], .tup [.agg [.sl _, .sl _], .sl _], [], [], [], ⟨⟨_, _, _, _, rfl, rfl, agg26, rfl⟩, rfl, trivial⟩, rfl, rfl, trivial, rfl, rfl, ⟨(m11, (drawC (b.take 2000) p11 m11.1.length).1), ⟨hw11, by dsimp only; omega⟩, rfl, rfl, rfl⟩⟩


theorem f_obj1 (n : Int) : Fn Try.prog 132 [.p (.int .i64 (n))] [] (fun rr ii nn => rr = .p (.bool (!cfOk n)) ∧ ii = [] ∧ nn = []) := by
 refine fn_of Try.func132 rfl (Nat.le_of_ble_eq_true rfl) fun w X g => ?_
 show AWp _ _ _ ⟨[(0, .p (.int .i64 (n)))], []⟩
 refine a_seq ?_
 refine a_region (by kernel_rfl) ?_
 refine op_v' (j_assign (evo rfl)) ?_
 refine op_nil ?_
 refine a_seq ?_
 refine a_region (by kernel_rfl) ?_
 refine op_v' (j_move (evo rfl)) ?_
 refine op_v0' (j_call0 (v := .p _) (hp1 := []) [] false [] ent58 (f_within _ _ _) ⟨.inl ⟨rfl, rfl⟩, .inl ⟨rfl, rfl⟩, .inl ⟨rfl, rfl⟩, trivial⟩ trivial rfl rfl (fun h => by cases h) rfl (fun _ h => by cases h) (.inl rfl) rfl rfl) ?_
 refine op_v' (j_not rfl) ?_
 refine op_v' (j_assign (evo rfl)) ?_
 refine op_nil ?_
 refine a_ret ?_
 exact ⟨[.p _], .p _, [], [], [], ⟨rfl, trivial⟩, rfl, rfl, trivial, rfl, rfl, ⟨rfl, rfl, rfl⟩⟩


theorem f_isObj (m : Md) (co : List Int) : Fn Try.prog 90 [.agg [.sl (m.1.map dI), .sl (m.2.map dR)], .sl (co.map dI)] [] (fun rr ii nn => rr = .p (.bool (objB m co)) ∧ ii = [] ∧ nn = []) := by
 refine fn_of Try.func90 rfl (Nat.le_of_ble_eq_true rfl) fun w X g => ?_
 show AWp _ _ _ ⟨[(0, .agg [.sl (m.1.map dI), .sl (m.2.map dR)]), (1, .sl (co.map dI))], []⟩
 refine a_seq ?_
 refine a_region (by kernel_rfl) ?_
 refine op_n' (fun ver => j_boxa rfl) fun v2x1 => ?_
 refine op_v' (j_assign (evo rfl)) ?_
 refine op_nil ?_
 refine a_seq ?_
 refine a_region (by kernel_rfl) ?_
 refine op_v' (j_move (evo rfl)) ?_
 refine op_v' (j_len_map Try.underlying23 rfl) ?_
 refine op_v' (j_fldp fld26f0 rfl rfl) ?_
 refine op_v' (j_load_box leaf23 rfl rfl rfl) ?_
 refine op_v' (j_len_map Try.underlying23 rfl) ?_
 refine op_v' (j_eq rfl rfl) ?_
 refine op_v' (j_move (evo rfl)) ?_
 refine op_split' 11 rfl (fun h1 => ?_) (fun h1 => ?_)
 ·
  have h1r := h1
  try simp only [nq, nr] at h1
  refine op_v' (j_want rfl rfl h1r (j_move (evo rfl))) ?_
  refine op_v0' (j_want rfl rfl h1r (j_call0 (v := .p _) (hp1 := []) [] false [] ent115 (f_ctf_Int_0 132 co (fun n => !cfOk n) ent132 (fun a _ => f_obj1 a)) ⟨.inl ⟨rfl, rfl⟩, .inl ⟨rfl, rfl⟩, trivial⟩ trivial rfl rfl (fun h => by cases h) rfl (fun _ h => by cases h) (.inl rfl) rfl rfl)) ?_
  refine op_v' (j_want rfl rfl h1r (j_not rfl)) ?_
  refine op_v' (j_pick_t rfl h1r (evo rfl)) ?_
  refine op_v' (j_assign (evo rfl)) ?_
  refine op_nil ?_
  refine a_ret ?_
  exact ⟨[.p _], .p _, [], [], [], ⟨rfl, trivial⟩, rfl, rfl, trivial, rfl, rfl, ⟨boolEq (by first | (rw [obj_len (by omega), ← not_any_not]; done) | (rw [obj_no (by omega)]; done)), rfl, rfl⟩⟩
 ·
  have h1r := h1
  try simp only [nq, nr] at h1
  refine op_v' (j_unwantV rfl rfl h1r) ?_
  refine op_v' (j_unwantV rfl rfl h1r) ?_
  refine op_v' (j_unwantV rfl rfl h1r) ?_
  refine op_v' (j_pick_f rfl h1r (evo rfl)) ?_
  refine op_v' (j_assign (evo rfl)) ?_
  refine op_nil ?_
  refine a_ret ?_
  exact ⟨[.p _], .p _, [], [], [], ⟨rfl, trivial⟩, rfl, rfl, trivial, rfl, rfl, ⟨boolEq (by first | (rw [obj_len (by omega), ← not_any_not]; done) | (rw [obj_no (by omega)]; done)), rfl, rfl⟩⟩


theorem f_valueOf (m : Md) (co c : List Int) (hm : mOk m = true) (ho : objB m co = true) (hc : cvL m.1 c = true) : Fn Try.prog 92 [.sl (co.map dI), .sl (c.map dI)] [] (fun rr ii nn => rr = .p (.int .i64 (valO co c)) ∧ ii = [] ∧ nn = []) := by
 refine fn_of Try.func92 rfl (Nat.le_of_ble_eq_true rfl) fun w X g => ?_
 show AWp _ _ _ ⟨[(0, .sl (co.map dI)), (1, .sl (c.map dI))], []⟩
 have ho2 := obj_at ho
 have hc2 := cv_three hm hc
 have hms := mOk_sz hm
 refine a_seq ?_
 refine a_region (by kernel_rfl) ?_
 refine op_v' (j_assign (evo rfl)) ?_
 refine op_nil ?_
 refine a_seq ?_
 refine a_region (by kernel_rfl) ?_
 refine op_v' (j_assign (evo rfl)) ?_
 refine op_nil ?_
 refine a_seq ?_
 refine a_seq ?_
 refine a_region (by kernel_rfl) ?_
 refine op_v' (j_move (evo rfl)) ?_
 refine op_v' (j_len_map Try.underlying23 rfl) ?_
 refine op_v' (j_move (evo rfl)) ?_
 refine op_nil ?_
 refine a_block ?_
 refine a_loopF' (ι := Nat) (fun k => k ≤ c.length) (fun k r => (10, .p (.int .i64 ((k : Nat)))) :: (5, .p (.int .i64 (dotC co c k))) :: r) (fun k r => r) (fun k => c.length - k) (fun _ _ => rfl) (fun _ _ => rfl) 0 (by first | omega | (simp only [nr]; omega)) ⟨⟨rfl, rfl⟩, ⟨rfl, rfl, trivial⟩, trivial, ⟨rfl, rfl⟩, ⟨rfl, rfl⟩⟩ ?_
 intro k hpre0
 refine a_seq ?_
 refine a_region (by kernel_rfl) ?_
 refine op_v' (j_lt rfl rfl) ?_
 refine op_nil ?_
 refine a_seq ?_
 refine a_cond rfl (fun h1 => ?_) (fun h1 => ?_)
 ·
  have h1r := h1
  try simp only [nq, nr] at h1
  refine a_skip ?_
  refine a_seq ?_
  refine a_block ?_
  refine a_seq ?_
  refine a_region (by kernel_rfl) ?_
  refine op_v' (j_move (evo rfl)) ?_
  refine op_v' (j_elemN slt23 rfl rfl rfl (at_map (by first | omega | (simp only [nr]; omega))) rfl) ?_
  refine op_v' (j_load_el leaf3 rfl (at_map (by first | omega | (simp only [nr]; omega))) rfl) ?_
  refine op_v' (j_assign (evo rfl)) ?_
  refine op_v' (j_assign (evo rfl)) ?_
  refine op_nil ?_
  have hmr := mulR39 (ho2.2 k (by omega)) (hc2.2 k (by omega))
  have hvr := val_rng hm ho hc (k := k) (by omega)
  refine a_region (by kernel_rfl) ?_
  refine op_v' (j_move (evo rfl)) ?_
  refine op_v' (j_move (evo rfl)) ?_
  refine op_v' (j_move (evo rfl)) ?_
  refine op_v' (j_elemN slt23 rfl rfl rfl (at_map (by first | omega | (simp only [nr]; omega))) rfl) ?_
  refine op_v' (j_load_el leaf3 rfl (at_map (by first | omega | (simp only [nr]; omega))) rfl) ?_
  refine op_v' (j_move (evo rfl)) ?_
  refine op_v' (j_mul rfl rfl (by first | omega | (simp only [nr]; omega)) (by first | omega | (simp only [nr]; omega))) ?_
  refine op_v' (j_add rfl rfl (by first | omega | (simp only [nr]; omega)) (by first | omega | (simp only [nr]; omega))) ?_
  refine op_v' (j_assign (evo rfl)) ?_
  refine op_nil ?_
  refine a_region (by kernel_rfl) ?_
  refine op_v' (j_add rfl rfl (by first | omega | (simp only [nr]; omega)) (by first | omega | (simp only [nr]; omega))) ?_
  refine op_v' (j_move (evo rfl)) ?_
  refine op_nil ?_
  exact ⟨k + 1, (by first | omega | (simp only [nr]; omega)), ⟨⟨rfl, rfl⟩, ⟨rfl, intEq (by rw [dot_next]), trivial⟩, trivial, ⟨rfl, rfl⟩, ⟨rfl, rfl⟩⟩, (by first | omega | (simp only [nr]; omega))⟩
 ·
  have h1r := h1
  try simp only [nq, nr] at h1
  refine a_exit ?_
  refine a_seq ?_
  refine a_region (by kernel_rfl) ?_
  refine op_v' (j_move (evo rfl)) ?_
  refine op_v' (j_assign (evo rfl)) ?_
  refine op_nil ?_
  refine a_ret ?_
  exact ⟨[.p _], .p _, [], [], [], ⟨rfl, trivial⟩, rfl, rfl, trivial, rfl, rfl, ⟨intEq (by rw [show k = c.length by omega]), rfl, rfl⟩⟩


theorem f_l9Value (m : Md) (co c : List Int) (hm : mOk m = true) (ho : objB m co = true) (hc : cvL m.1 c = true) : Fn Try.prog 95 [.sl (co.map dI), .sl (c.map dI)] [] (fun rr ii nn => rr = .p (.int .i64 (valO co c)) ∧ ii = [] ∧ nn = []) := by
 refine fn_of Try.func95 rfl (Nat.le_of_ble_eq_true rfl) fun w X g => ?_
 show AWp _ _ _ ⟨[(0, .sl (co.map dI)), (1, .sl (c.map dI))], []⟩
 have ho2 := obj_at ho
 have hc2 := cv_three hm hc
 have hms := mOk_sz hm
 refine a_seq ?_
 refine a_region (by kernel_rfl) ?_
 refine op_v' (j_assign (evo rfl)) ?_
 refine op_nil ?_
 refine a_seq ?_
 refine a_region (by kernel_rfl) ?_
 refine op_v' (j_assign (evo rfl)) ?_
 refine op_nil ?_
 refine a_seq ?_
 refine a_seq ?_
 refine a_region (by kernel_rfl) ?_
 refine op_v' (j_assign (evo rfl)) ?_
 refine op_nil ?_
 refine a_block ?_
 refine a_loopF' (ι := Nat) (fun k => k ≤ c.length) (fun k r => (6, .p (.int .i64 ((k : Nat)))) :: (5, .p (.int .i64 (dotC co c k))) :: r) (fun k r => r) (fun k => c.length - k) (fun _ _ => rfl) (fun _ _ => rfl) 0 (by first | omega | (simp only [nr]; omega)) ⟨⟨rfl, rfl⟩, ⟨rfl, rfl, trivial⟩, trivial, ⟨rfl, rfl⟩, ⟨rfl, rfl⟩⟩ ?_
 intro k hpre0
 refine a_seq ?_
 refine a_seq ?_
 refine a_region (by kernel_rfl) ?_
 refine op_v' (j_move (evo rfl)) ?_
 refine op_v' (j_move (evo rfl)) ?_
 refine op_v' (j_len_map Try.underlying23 rfl) ?_
 refine op_v' (j_lt rfl rfl) ?_
 refine op_nil ?_
 refine a_cond rfl (fun h1 => ?_) (fun h1 => ?_)
 ·
  have h1r := h1
  try simp only [nq, nr] at h1
  refine a_skip ?_
  refine a_seq ?_
  refine a_block ?_
  have hmr := mulR39 (ho2.2 k (by omega)) (hc2.2 k (by omega))
  have hvr := val_rng hm ho hc (k := k) (by omega)
  refine a_draw mixed (by kernel_rfl) (by kernel_rfl) fun vf => ?_
  refine d_v' (j_move (evo rfl)) ?_
  refine d_v' (j_move (evo rfl)) ?_
  refine d_v' (j_move (evo rfl)) ?_
  refine d_v' (j_elemN slt23 rfl rfl rfl (at_map (by first | omega | (simp only [nr]; omega))) rfl) ?_
  refine d_v' (j_load_el leaf3 rfl (at_map (by first | omega | (simp only [nr]; omega))) rfl) ?_
  refine d_v' (j_move (evo rfl)) ?_
  refine d_v' (j_move (evo rfl)) ?_
  refine d_v' (j_elemN slt23 rfl rfl rfl (at_map (by first | omega | (simp only [nr]; omega))) rfl) ?_
  refine d_v' (j_load_el leaf3 rfl (at_map (by first | omega | (simp only [nr]; omega))) rfl) ?_
  refine d_v' (j_mul rfl rfl (by first | omega | (simp only [nr]; omega)) (by first | omega | (simp only [nr]; omega))) ?_
  refine d_v' (j_add rfl rfl (by first | omega | (simp only [nr]; omega)) (by first | omega | (simp only [nr]; omega))) ?_
  refine d_v' (j_assign (evo rfl)) ?_
  refine d_nil (by kernel_rfl) (by kernel_rfl) ?_
  refine a_region (by kernel_rfl) ?_
  refine op_v' (j_move (evo rfl)) ?_
  refine op_v' (j_add rfl rfl (by first | omega | (simp only [nr]; omega)) (by first | omega | (simp only [nr]; omega))) ?_
  refine op_v' (j_assign (evo rfl)) ?_
  refine op_nil ?_
  exact ⟨k + 1, (by first | omega | (simp only [nr]; omega)), ⟨⟨rfl, rfl⟩, ⟨rfl, intEq (by rw [dot_next]), trivial⟩, trivial, ⟨rfl, rfl⟩, ⟨rfl, rfl⟩⟩, (by first | omega | (simp only [nr]; omega))⟩
 ·
  have h1r := h1
  try simp only [nq, nr] at h1
  refine a_exit ?_
  refine a_seq ?_
  refine a_region (by kernel_rfl) ?_
  refine op_v' (j_move (evo rfl)) ?_
  refine op_v' (j_assign (evo rfl)) ?_
  refine op_nil ?_
  refine a_ret ?_
  exact ⟨[.p _], .p _, [], [], [], ⟨rfl, trivial⟩, rfl, rfl, trivial, rfl, rfl, ⟨intEq (by rw [show k = c.length by omega]), rfl, rfl⟩⟩


theorem f_objV (m : Md) (co c : List Int) : Fn Try.prog 39 [.agg [.sl (m.1.map dI), .sl (m.2.map dR)], .sl (co.map dI), .sl (c.map dI)] [] (fun rr ii nn => rr = .tup [.p (.int .i64 (obV m co c)), .p (.bool (obOk m co c))] ∧ ii = [] ∧ nn = []) := by
 refine fn_of Try.func39 rfl (Nat.le_of_ble_eq_true rfl) fun w X g => ?_
 show AWp _ _ _ ⟨[(0, .agg [.sl (m.1.map dI), .sl (m.2.map dR)]), (1, .sl (co.map dI)), (2, .sl (c.map dI))], []⟩
 refine a_seq ?_
 refine a_region (by kernel_rfl) ?_
 refine op_n' (fun ver => j_boxa rfl) fun v3x1 => ?_
 refine op_v' (j_assign (evo rfl)) ?_
 refine op_v' (j_assign (evo rfl)) ?_
 refine op_nil ?_
 refine a_seq ?_
 refine a_seq ?_
 refine a_region (by kernel_rfl) ?_
 refine op_v' (j_loada_box (ys := [.sl _, .sl _]) agg26 rfl rfl rfl (Nat.le_of_ble_eq_true rfl)) ?_
 refine op_v' (j_move (evo rfl)) ?_
 refine op_v0' (j_call0 (v := .p _) (hp1 := []) [] false [] ent62 (f_cellsV m c) ⟨.inl ⟨rfl, rfl⟩, .inl ⟨rfl, rfl⟩, trivial⟩ trivial rfl rfl (fun h => by cases h) rfl (fun _ h => by cases h) (.inl rfl) rfl rfl) ?_
 refine op_v' (j_not rfl) ?_
 refine op_v' (j_move (evo rfl)) ?_
 refine op_split' 12 rfl (fun h1 => ?_) (fun h1 => ?_)
 ·
  have h1r := h1
  try simp only [nq, nr] at h1
  refine op_v' (j_unwantV rfl rfl h1r) ?_
  refine op_v' (j_unwantV rfl rfl h1r) ?_
  refine op_v' (j_unwantV rfl rfl h1r) ?_
  refine op_v' (j_unwantV rfl rfl h1r) ?_
  refine op_v' (j_pick_t rfl h1r (evo rfl)) ?_
  refine op_nil ?_
  refine a_tt rfl ?_
  refine a_seq ?_
  refine a_region (by kernel_rfl) ?_
  refine op_v' (j_assign (evo rfl)) ?_
  refine op_v' (j_assign (evo rfl)) ?_
  refine op_nil ?_
  refine a_ret ?_
  exact ⟨[.p _, .p _], .tup [.p _, .p _], [], [], [], ⟨rfl, rfl, trivial⟩, rfl, rfl, trivial, rfl, rfl, ⟨by have hb : obOk m co c = false := (by unfold obOk; simp_all); unfold obV; rw [hb]; rfl, rfl, rfl⟩⟩
 ·
  have h1r := h1
  try simp only [nq, nr] at h1
  refine op_v' (j_want rfl rfl h1r (j_loada_box (ys := [.sl _, .sl _]) agg26 rfl rfl rfl (Nat.le_of_ble_eq_true rfl))) ?_
  refine op_v' (j_want rfl rfl h1r (j_move (evo rfl))) ?_
  refine op_v0' (j_want rfl rfl h1r (j_call0 (v := .p _) (hp1 := []) [] false [] ent90 (f_isObj m co) ⟨.inl ⟨rfl, rfl⟩, .inl ⟨rfl, rfl⟩, trivial⟩ trivial rfl rfl (fun h => by cases h) rfl (fun _ h => by cases h) (.inl rfl) rfl rfl)) ?_
  refine op_v' (j_want rfl rfl h1r (j_not rfl)) ?_
  refine op_v' (j_pick_f rfl h1r (evo rfl)) ?_
  refine op_nil ?_
  refine a_cond rfl (fun h2 => ?_) (fun h2 => ?_)
  ·
   have h2r := h2
   try simp only [nq, nr] at h2
   refine a_seq ?_
   refine a_region (by kernel_rfl) ?_
   refine op_v' (j_assign (evo rfl)) ?_
   refine op_v' (j_assign (evo rfl)) ?_
   refine op_nil ?_
   refine a_ret ?_
   exact ⟨[.p _, .p _], .tup [.p _, .p _], [], [], [], ⟨rfl, rfl, trivial⟩, rfl, rfl, trivial, rfl, rfl, ⟨by have hb : obOk m co c = false := (by unfold obOk; simp_all); unfold obV; rw [hb]; rfl, rfl, rfl⟩⟩
  ·
   have h2r := h2
   try simp only [nq, nr] at h2
   refine a_skip ?_
   refine a_seq ?_
   refine a_region (by kernel_rfl) ?_
   refine op_v' (j_move (evo rfl)) ?_
   refine op_v' (j_move (evo rfl)) ?_
   refine op_v0' (j_call0 (v := .p _) (hp1 := []) [] false [] ent92 (f_valueOf m co c (cv_parts (show cvB m c = true by assumption)).1 (by assumption) (cv_parts (show cvB m c = true by assumption)).2) ⟨.inl ⟨rfl, rfl⟩, .inl ⟨rfl, rfl⟩, trivial⟩ trivial rfl rfl (fun h => by cases h) rfl (fun _ h => by cases h) (.inl rfl) rfl rfl) ?_
   refine op_v' (j_assign (evo rfl)) ?_
   refine op_v' (j_assign (evo rfl)) ?_
   refine op_nil ?_
   refine a_ret ?_
   exact ⟨[.p _, .p _], .tup [.p _, .p _], [], [], [], ⟨rfl, rfl, trivial⟩, rfl, rfl, trivial, rfl, rfl, ⟨by have hb : obOk m co c = true := (by unfold obOk; simp_all); unfold obV; rw [hb]; rfl, rfl, rfl⟩⟩


theorem f_lb (m : Md) (co : List Int) (d : List (List Bool)) : Fn Try.prog 38 [.agg [.sl (m.1.map dI), .sl (m.2.map dR)], .sl (co.map dI), .sl (d.map dD)] [] (fun rr ii nn => rr = .tup [.p (.int .i64 (lbV m co d)), .p (.bool (lbOk m co d))] ∧ ii = [] ∧ nn = []) := by
 refine fn_of Try.func38 rfl (Nat.le_of_ble_eq_true rfl) fun w X g => ?_
 show AWp _ _ _ ⟨[(0, .agg [.sl (m.1.map dI), .sl (m.2.map dR)]), (1, .sl (co.map dI)), (2, .sl (d.map dD))], []⟩
 refine a_seq ?_
 refine a_region (by kernel_rfl) ?_
 refine op_n' (fun ver => j_boxa rfl) fun v3x1 => ?_
 refine op_v' (j_assign (evo rfl)) ?_
 refine op_v' (j_assign (evo rfl)) ?_
 refine op_nil ?_
 refine a_seq ?_
 refine a_seq ?_
 refine a_region (by kernel_rfl) ?_
 refine op_v' (j_loada_box (ys := [.sl _, .sl _]) agg26 rfl rfl rfl (Nat.le_of_ble_eq_true rfl)) ?_
 refine op_v' (j_move (evo rfl)) ?_
 refine op_v0' (j_call0 (v := .p _) (hp1 := []) [] false [] ent25 (f_dvImpl m d) ⟨.inl ⟨rfl, rfl⟩, .inl ⟨rfl, rfl⟩, trivial⟩ trivial rfl rfl (fun h => by cases h) rfl (fun _ h => by cases h) (.inl rfl) rfl rfl) ?_
 refine op_v' (j_not rfl) ?_
 refine op_v' (j_move (evo rfl)) ?_
 refine op_split' 20 rfl (fun h1 => ?_) (fun h1 => ?_)
 ·
  have h1r := h1
  try simp only [nq, nr] at h1
  refine op_v' (j_unwantV rfl rfl h1r) ?_
  refine op_v' (j_unwantV rfl rfl h1r) ?_
  refine op_v' (j_unwantV rfl rfl h1r) ?_
  refine op_v' (j_unwantV rfl rfl h1r) ?_
  refine op_v' (j_pick_t rfl h1r (evo rfl)) ?_
  refine op_v' (j_move (evo rfl)) ?_
  refine op_v' (j_unwantV rfl rfl rfl) ?_
  refine op_v' (j_unwantV rfl rfl rfl) ?_
  refine op_v' (j_unwantV rfl rfl rfl) ?_
  refine op_v' (j_pick_t rfl rfl (evo rfl)) ?_
  refine op_nil ?_
  refine a_tt rfl ?_
  refine a_seq ?_
  refine a_region (by kernel_rfl) ?_
  refine op_v' (j_assign (evo rfl)) ?_
  refine op_v' (j_assign (evo rfl)) ?_
  refine op_nil ?_
  refine a_ret ?_
  exact ⟨[.p _, .p _], .tup [.p _, .p _], [], [], [], ⟨rfl, rfl, trivial⟩, rfl, rfl, trivial, rfl, rfl, ⟨by have hb : lbOk m co d = false := lbOk_no (by first | exact .inl (by assumption) | exact .inr (.inl (by assumption)) | exact .inr (.inr (de_em (by assumption)))); rw [hb, lb_bad hb], rfl, rfl⟩⟩
 ·
  have h1r := h1
  try simp only [nq, nr] at h1
  refine op_v' (j_want rfl rfl h1r (j_loada_box (ys := [.sl _, .sl _]) agg26 rfl rfl rfl (Nat.le_of_ble_eq_true rfl))) ?_
  refine op_v' (j_want rfl rfl h1r (j_move (evo rfl))) ?_
  refine op_v0' (j_want rfl rfl h1r (j_call0 (v := .p _) (hp1 := []) [] false [] ent90 (f_isObj m co) ⟨.inl ⟨rfl, rfl⟩, .inl ⟨rfl, rfl⟩, trivial⟩ trivial rfl rfl (fun h => by cases h) rfl (fun _ h => by cases h) (.inl rfl) rfl rfl)) ?_
  refine op_v' (j_want rfl rfl h1r (j_not rfl)) ?_
  refine op_v' (j_pick_f rfl h1r (evo rfl)) ?_
  refine op_v' (j_move (evo rfl)) ?_
  refine op_split' 26 rfl (fun h2 => ?_) (fun h2 => ?_)
  ·
   have h2r := h2
   try simp only [nq, nr] at h2
   refine op_v' (j_unwantV rfl rfl h2r) ?_
   refine op_v' (j_unwantV rfl rfl h2r) ?_
   refine op_v' (j_unwantV rfl rfl h2r) ?_
   refine op_v' (j_pick_t rfl h2r (evo rfl)) ?_
   refine op_nil ?_
   refine a_tt rfl ?_
   refine a_seq ?_
   refine a_region (by kernel_rfl) ?_
   refine op_v' (j_assign (evo rfl)) ?_
   refine op_v' (j_assign (evo rfl)) ?_
   refine op_nil ?_
   refine a_ret ?_
   exact ⟨[.p _, .p _], .tup [.p _, .p _], [], [], [], ⟨rfl, rfl, trivial⟩, rfl, rfl, trivial, rfl, rfl, ⟨by have hb : lbOk m co d = false := lbOk_no (by first | exact .inl (by assumption) | exact .inr (.inl (by assumption)) | exact .inr (.inr (de_em (by assumption)))); rw [hb, lb_bad hb], rfl, rfl⟩⟩
  ·
   have h2r := h2
   try simp only [nq, nr] at h2
   refine op_v' (j_want rfl rfl h2r (j_loada_box (ys := [.sl _, .sl _]) agg26 rfl rfl rfl (Nat.le_of_ble_eq_true rfl))) ?_
   refine op_v' (j_want rfl rfl h2r (j_move (evo rfl))) ?_
   refine op_v0' (j_want rfl rfl h2r (j_call0 (v := .p _) (hp1 := []) [] false [] ent20 (f_deImpl m d) ⟨.inl ⟨rfl, rfl⟩, .inl ⟨rfl, rfl⟩, trivial⟩ trivial rfl rfl (fun h => by cases h) rfl (fun _ h => by cases h) (.inl rfl) rfl rfl)) ?_
   refine op_v' (j_pick_f rfl h2r (evo rfl)) ?_
   refine op_nil ?_
   refine a_cond rfl (fun h3 => ?_) (fun h3 => ?_)
   ·
    have h3r := h3
    try simp only [nq, nr] at h3
    refine a_seq ?_
    refine a_region (by kernel_rfl) ?_
    refine op_v' (j_assign (evo rfl)) ?_
    refine op_v' (j_assign (evo rfl)) ?_
    refine op_nil ?_
    refine a_ret ?_
    exact ⟨[.p _, .p _], .tup [.p _, .p _], [], [], [], ⟨rfl, rfl, trivial⟩, rfl, rfl, trivial, rfl, rfl, ⟨by have hb : lbOk m co d = false := lbOk_no (by first | exact .inl (by assumption) | exact .inr (.inl (by assumption)) | exact .inr (.inr (de_em (by assumption)))); rw [hb, lb_bad hb], rfl, rfl⟩⟩
   ·
    have h3r := h3
    try simp only [nq, nr] at h3
    refine a_skip ?_
    refine a_seq ?_
    have hdm : dmB m d = true := by assumption
    have hdp := dm_parts hdm
    have hob : objB m co = true := by assumption
    have hem : emB d = false := de_no (by assumption) hdm
    have hgd := lbOk_yes hdm hob hem
    have ho2 := obj_at hob
    have hfd := fits_at hdp.2
    have hfs := fits_sum hdp.1 hdp.2
    refine a_region (by kernel_rfl) ?_
    refine op_v' (j_assign (evo rfl)) ?_
    refine op_nil ?_
    refine a_seq ?_
    refine a_seq ?_
    refine a_region (by kernel_rfl) ?_
    refine op_v' (j_move (evo rfl)) ?_
    refine op_v' (j_len_map Try.underlying28 rfl) ?_
    refine op_v' (j_move (evo rfl)) ?_
    refine op_nil ?_
    refine a_block ?_
    refine a_loopF' (ι := Nat) (fun k => k ≤ d.length) (fun k r => (33, .p (.int .i64 ((k : Nat)))) :: (8, .p (.int .i64 (lbS co d k))) :: r) (fun k r => r) (fun k => d.length - k) (fun _ _ => rfl) (fun _ _ => rfl) 0 (by first | omega | (simp only [nr]; omega)) ⟨⟨rfl, rfl⟩, ⟨rfl, rfl, trivial⟩, trivial, ⟨rfl, rfl⟩, ⟨rfl, rfl⟩⟩ ?_
    intro k hpre0
    refine a_seq ?_
    refine a_region (by kernel_rfl) ?_
    refine op_v' (j_lt rfl rfl) ?_
    refine op_nil ?_
    refine a_seq ?_
    refine a_cond rfl (fun h4 => ?_) (fun h4 => ?_)
    ·
     have h4r := h4
     try simp only [nq, nr] at h4
     refine a_skip ?_
     refine a_seq ?_
     refine a_block ?_
     refine a_seq ?_
     have hck := ho2.2 k (by omega)
     have hr4 : (d.getD k default).length ≤ 4 := fits_row hdp.1 hdp.2
     have hsr : -(27 * (k : Int)) ≤ lbS co d k ∧ lbS co d k ≤ 27 * (k : Int) := sumR_rng (f := fun i => lstN (co.getD i default) (d.getD i default) (d.getD i default).length) (b := 27) (n := k) (fun j hj => lst_rng (ho2.2 j (by omega)) (fits_row hdp.1 hdp.2))
     refine a_region (by kernel_rfl) ?_
     refine op_v' (j_move (evo rfl)) ?_
     refine op_v' (j_elemN slt28 rfl rfl rfl (at_map (by first | omega | (simp only [nr]; omega))) rfl) ?_
     refine op_v' (j_load_el leaf34 rfl (at_map (by first | omega | (simp only [nr]; omega))) rfl) ?_
     refine op_v' (j_assign (evo rfl)) ?_
     refine op_v' (j_assign (evo rfl)) ?_
     refine op_nil ?_
     refine a_seq ?_
     refine a_region (by kernel_rfl) ?_
     refine op_v' (j_assign (evo rfl)) ?_
     refine op_v' (j_assign (evo rfl)) ?_
     refine op_nil ?_
     refine a_seq ?_
     refine a_seq ?_
     refine a_region (by kernel_rfl) ?_
     refine op_v' (j_move (evo rfl)) ?_
     refine op_v' (j_len_map Try.underlying34 rfl) ?_
     refine op_v' (j_move (evo rfl)) ?_
     refine op_nil ?_
     refine a_block ?_
     refine a_loopF' (ι := Nat) (fun j => j ≤ (d.getD k default).length) (fun j r => (40, .p (.int .i64 ((j : Nat)))) :: (11, .p (.int .i64 ((lstN (co.getD k default) (d.getD k default) j)))) :: (12, .p (.bool ((bstN (-(co.getD k default)) (d.getD k default) j).2))) :: r) (fun j r => r) (fun j => (d.getD k default).length - j) (fun _ _ => rfl) (fun _ _ => rfl) 0 (Nat.zero_le _) ⟨⟨rfl, rfl⟩, ⟨rfl, rfl, rfl, trivial⟩, trivial, ⟨rfl, rfl⟩, ⟨rfl, rfl⟩⟩ ?_
     intro j hj
     refine a_seq ?_
     refine a_region (by kernel_rfl) ?_
     refine op_v' (j_lt rfl rfl) ?_
     refine op_nil ?_
     refine a_seq ?_
     refine a_cond rfl (fun h5 => ?_) (fun h5 => ?_)
     ·
      have h5r := h5
      try simp only [nq, nr] at h5
      refine a_skip ?_
      refine a_seq ?_
      refine a_block ?_
      refine a_seq ?_
      refine a_region (by kernel_rfl) ?_
      refine op_v' (j_move (evo rfl)) ?_
      refine op_v' (j_elemN slt34 rfl rfl rfl (at_map (by first | omega | (simp only [nr]; omega))) rfl) ?_
      refine op_v' (j_load_el leaf4 rfl (at_map (by first | omega | (simp only [nr]; omega))) rfl) ?_
      refine op_v' (j_assign (evo rfl)) ?_
      refine op_v' (j_assign (evo rfl)) ?_
      refine op_nil ?_
      refine a_seq ?_
      have hja := mulR (n := 4) hck (v := j) (by omega) (by omega)
      refine a_region (by kernel_rfl) ?_
      refine op_v' (j_move (evo rfl)) ?_
      refine op_v' (j_move (evo rfl)) ?_
      refine op_v' (j_elemN slt23 rfl rfl rfl (at_map (by first | omega | (simp only [nr]; omega))) rfl) ?_
      refine op_v' (j_load_el leaf3 rfl (at_map (by first | omega | (simp only [nr]; omega))) rfl) ?_
      refine op_v' (j_move (evo rfl)) ?_
      refine op_v' (j_mul rfl rfl (by first | omega | (simp only [nr]; omega)) (by first | omega | (simp only [nr]; omega))) ?_
      refine op_v' (j_assign (evo rfl)) ?_
      refine op_nil ?_
      refine a_seq ?_
      refine a_region (by kernel_rfl) ?_
      refine op_v' (j_move (evo rfl)) ?_
      refine op_v' (j_move (evo rfl)) ?_
      refine op_split' 52 rfl (fun h6 => ?_) (fun h6 => ?_)
      ·
       have h6r := h6
       try simp only [nq, nr] at h6
       refine op_v' (j_want rfl rfl h6r (j_move (evo rfl))) ?_
       refine op_v' (j_want rfl rfl h6r (j_not rfl)) ?_
       refine op_v' (j_want rfl rfl h6r (j_move (evo rfl))) ?_
       refine op_split' 55 rfl (fun h7 => ?_) (fun h7 => ?_)
       ·
        have h7r := h7
        try simp only [nq, nr] at h7
        refine op_v' (j_unwantV rfl rfl h7r) ?_
        refine op_v' (j_unwantV rfl rfl h7r) ?_
        refine op_v' (j_unwantV rfl rfl h7r) ?_
        refine op_v' (j_want rfl rfl h6r (j_pick_t rfl h7r (evo rfl))) ?_
        refine op_v' (j_pick_t rfl h6r (evo rfl)) ?_
        refine op_nil ?_
        refine a_tt rfl ?_
        refine a_region (by kernel_rfl) ?_
        refine op_v' (j_move (evo rfl)) ?_
        refine op_v' (j_assign (evo rfl)) ?_
        refine op_v' (j_assign (evo rfl)) ?_
        refine op_nil ?_
        refine a_region (by kernel_rfl) ?_
        refine op_v' (j_add rfl rfl (by first | omega | (simp only [nr]; omega)) (by first | omega | (simp only [nr]; omega))) ?_
        refine op_v' (j_move (evo rfl)) ?_
        refine op_nil ?_
        first | (have hbq := lst_y (a := (co.getD k default)) (row := (d.getD k default)) (k := j) (by assumption) (by first | exact .inl (by assumption) | exact .inr (by omega))) | (have hbq := lst_n (a := (co.getD k default)) (row := (d.getD k default)) (k := j) (by first | exact .inl (by assumption) | exact .inr ⟨by assumption, by omega⟩))
        exact ⟨j + 1, (by first | omega | (simp only [nr]; omega)), ⟨⟨rfl, rfl⟩, ⟨rfl, intEq (by rw [hbq.1]), boolEq (by rw [hbq.2]), trivial⟩, trivial, ⟨rfl, rfl⟩, ⟨rfl, rfl⟩⟩, (by first | omega | (simp only [nr]; omega))⟩
       ·
        have h7r := h7
        try simp only [nq, nr] at h7
        refine op_v' (j_want rfl rfl h7r (j_move (evo rfl))) ?_
        refine op_v' (j_want rfl rfl h7r (j_move (evo rfl))) ?_
        refine op_v' (j_want rfl rfl h7r (j_lt rfl rfl)) ?_
        refine op_v' (j_want rfl rfl h6r (j_pick_f rfl h7r (evo rfl))) ?_
        refine op_v' (j_pick_t rfl h6r (evo rfl)) ?_
        refine op_nil ?_
        refine a_cond rfl (fun h8 => ?_) (fun h8 => ?_)
        ·
         have h8r := h8
         try simp only [nq, nr] at h8
         refine a_region (by kernel_rfl) ?_
         refine op_v' (j_move (evo rfl)) ?_
         refine op_v' (j_assign (evo rfl)) ?_
         refine op_v' (j_assign (evo rfl)) ?_
         refine op_nil ?_
         refine a_region (by kernel_rfl) ?_
         refine op_v' (j_add rfl rfl (by first | omega | (simp only [nr]; omega)) (by first | omega | (simp only [nr]; omega))) ?_
         refine op_v' (j_move (evo rfl)) ?_
         refine op_nil ?_
         first | (have hbq := lst_y (a := (co.getD k default)) (row := (d.getD k default)) (k := j) (by assumption) (by first | exact .inl (by assumption) | exact .inr (by omega))) | (have hbq := lst_n (a := (co.getD k default)) (row := (d.getD k default)) (k := j) (by first | exact .inl (by assumption) | exact .inr ⟨by assumption, by omega⟩))
         exact ⟨j + 1, (by first | omega | (simp only [nr]; omega)), ⟨⟨rfl, rfl⟩, ⟨rfl, intEq (by rw [hbq.1]), boolEq (by rw [hbq.2]), trivial⟩, trivial, ⟨rfl, rfl⟩, ⟨rfl, rfl⟩⟩, (by first | omega | (simp only [nr]; omega))⟩
        ·
         have h8r := h8
         try simp only [nq, nr] at h8
         refine a_skip ?_
         refine a_region (by kernel_rfl) ?_
         refine op_v' (j_add rfl rfl (by first | omega | (simp only [nr]; omega)) (by first | omega | (simp only [nr]; omega))) ?_
         refine op_v' (j_move (evo rfl)) ?_
         refine op_nil ?_
         first | (have hbq := lst_y (a := (co.getD k default)) (row := (d.getD k default)) (k := j) (by assumption) (by first | exact .inl (by assumption) | exact .inr (by omega))) | (have hbq := lst_n (a := (co.getD k default)) (row := (d.getD k default)) (k := j) (by first | exact .inl (by assumption) | exact .inr ⟨by assumption, by omega⟩))
         exact ⟨j + 1, (by first | omega | (simp only [nr]; omega)), ⟨⟨rfl, rfl⟩, ⟨rfl, intEq (by rw [hbq.1]), boolEq (by rw [hbq.2]), trivial⟩, trivial, ⟨rfl, rfl⟩, ⟨rfl, rfl⟩⟩, (by first | omega | (simp only [nr]; omega))⟩
      ·
       have h6r := h6
       try simp only [nq, nr] at h6
       refine op_v' (j_unwantV rfl rfl h6r) ?_
       refine op_v' (j_unwantV rfl rfl h6r) ?_
       refine op_v' (j_unwantV rfl rfl h6r) ?_
       refine op_v' (j_unwantU rfl rfl) ?_
       refine op_v' (j_unwantU rfl rfl) ?_
       refine op_v' (j_unwantU rfl rfl) ?_
       refine op_v' (j_unwantV rfl rfl h6r) ?_
       refine op_v' (j_pick_f rfl h6r (evo rfl)) ?_
       refine op_nil ?_
       refine a_ff rfl ?_
       refine a_skip ?_
       refine a_region (by kernel_rfl) ?_
       refine op_v' (j_add rfl rfl (by first | omega | (simp only [nr]; omega)) (by first | omega | (simp only [nr]; omega))) ?_
       refine op_v' (j_move (evo rfl)) ?_
       refine op_nil ?_
       first | (have hbq := lst_y (a := (co.getD k default)) (row := (d.getD k default)) (k := j) (by assumption) (by first | exact .inl (by assumption) | exact .inr (by omega))) | (have hbq := lst_n (a := (co.getD k default)) (row := (d.getD k default)) (k := j) (by first | exact .inl (by assumption) | exact .inr ⟨by assumption, by omega⟩))
       exact ⟨j + 1, (by first | omega | (simp only [nr]; omega)), ⟨⟨rfl, rfl⟩, ⟨rfl, intEq (by rw [hbq.1]), boolEq (by rw [hbq.2]), trivial⟩, trivial, ⟨rfl, rfl⟩, ⟨rfl, rfl⟩⟩, (by first | omega | (simp only [nr]; omega))⟩
     ·
      have h5r := h5
      try simp only [nq, nr] at h5
      refine a_exit ?_
      obtain rfl : j = (d.getD k default).length := by omega
      have hlr := lst_rng (a := (co.getD k default)) (row := (d.getD k default)) hck hr4
      refine a_region (by kernel_rfl) ?_
      refine op_v' (j_move (evo rfl)) ?_
      refine op_v' (j_move (evo rfl)) ?_
      refine op_v' (j_add rfl rfl (by first | omega | (simp only [nr]; omega)) (by first | omega | (simp only [nr]; omega))) ?_
      refine op_v' (j_assign (evo rfl)) ?_
      refine op_nil ?_
      refine a_region (by kernel_rfl) ?_
      refine op_v' (j_add rfl rfl (by first | omega | (simp only [nr]; omega)) (by first | omega | (simp only [nr]; omega))) ?_
      refine op_v' (j_move (evo rfl)) ?_
      refine op_nil ?_
      exact ⟨k + 1, (by first | omega | (simp only [nr]; omega)), ⟨⟨rfl, rfl⟩, ⟨rfl, rfl, trivial⟩, trivial, ⟨rfl, rfl⟩, ⟨rfl, rfl⟩⟩, (by first | omega | (simp only [nr]; omega))⟩
    ·
     have h4r := h4
     try simp only [nq, nr] at h4
     refine a_exit ?_
     refine a_seq ?_
     refine a_region (by kernel_rfl) ?_
     refine op_v' (j_move (evo rfl)) ?_
     refine op_v' (j_assign (evo rfl)) ?_
     refine op_v' (j_assign (evo rfl)) ?_
     refine op_nil ?_
     refine a_ret ?_
     exact ⟨[.p _, .p _], .tup [.p _, .p _], [], [], [], ⟨rfl, rfl, trivial⟩, rfl, rfl, trivial, rfl, rfl, ⟨by rw [hgd, lb_ok hgd, show d.length = k by omega] <;> rfl, rfl, rfl⟩⟩


theorem f_l9Coefs (m : Md) (co : List Int) : Fn Try.prog 93 [.agg [.sl (m.1.map dI), .sl (m.2.map dR)], .sl (co.map dI)] [] (fun rr ii nn => rr = .p (.bool (mOk m && objB m co)) ∧ ii = [] ∧ nn = []) := by
 refine fn_of Try.func93 rfl (Nat.le_of_ble_eq_true rfl) fun w X g => ?_
 show AWp _ _ _ ⟨[(0, .agg [.sl (m.1.map dI), .sl (m.2.map dR)]), (1, .sl (co.map dI))], []⟩
 refine a_len_map 1 rfl fun hlc => ?_
 refine a_seq ?_
 refine a_region (by kernel_rfl) ?_
 refine op_n' (fun ver => j_boxa rfl) fun v2x1 => ?_
 refine op_v' (j_assign (evo rfl)) ?_
 refine op_nil ?_
 refine a_seq ?_
 refine a_seq ?_
 refine a_region (by kernel_rfl) ?_
 refine op_v' (j_loada_box (ys := [.sl _, .sl _]) agg26 rfl rfl rfl (Nat.le_of_ble_eq_true rfl)) ?_
 refine op_v0' (j_call0 (v := .p _) (hp1 := []) [] false [] ent56 (f_mvSpec m) ⟨.inl ⟨rfl, rfl⟩, trivial⟩ trivial rfl rfl (fun h => by cases h) rfl (fun _ h => by cases h) (.inl rfl) rfl rfl) ?_
 refine op_v' (j_not rfl) ?_
 refine op_v' (j_move (evo rfl)) ?_
 refine op_split' 9 rfl (fun h1 => ?_) (fun h1 => ?_)
 ·
  have h1r := h1
  try simp only [nq, nr] at h1
  refine op_v' (j_unwantV rfl rfl h1r) ?_
  refine op_v' (j_unwantV rfl rfl h1r) ?_
  refine op_v' (j_unwantV rfl rfl h1r) ?_
  refine op_v' (j_unwantV rfl rfl h1r) ?_
  refine op_v' (j_unwantV rfl rfl h1r) ?_
  refine op_v' (j_unwantV rfl rfl h1r) ?_
  refine op_v' (j_pick_t rfl h1r (evo rfl)) ?_
  refine op_nil ?_
  refine a_tt rfl ?_
  refine a_seq ?_
  refine a_region (by kernel_rfl) ?_
  refine op_v' (j_assign (evo rfl)) ?_
  refine op_nil ?_
  refine a_ret ?_
  exact ⟨[.p _], .p _, [], [], [], ⟨rfl, trivial⟩, rfl, rfl, trivial, rfl, rfl, ⟨boolEq (by symm; first | (rw [show mOk m = false by assumption]; rfl) | (rw [obj_no (by omega), Bool.and_false])), rfl, rfl⟩⟩
 ·
  have h1r := h1
  try simp only [nq, nr] at h1
  refine op_v' (j_want rfl rfl h1r (j_move (evo rfl))) ?_
  refine op_v' (j_want rfl rfl h1r (j_len_map Try.underlying23 rfl)) ?_
  refine op_v' (j_want rfl rfl h1r (j_fldp fld26f0 rfl rfl)) ?_
  refine op_v' (j_want rfl rfl h1r (j_load_box leaf23 rfl rfl rfl)) ?_
  refine op_v' (j_want rfl rfl h1r (j_len_map Try.underlying23 rfl)) ?_
  refine op_v' (j_want rfl rfl h1r (j_ne rfl rfl)) ?_
  refine op_v' (j_pick_f rfl h1r (evo rfl)) ?_
  refine op_nil ?_
  refine a_cond rfl (fun h2 => ?_) (fun h2 => ?_)
  ·
   have h2r := h2
   try simp only [nq, nr] at h2
   refine a_seq ?_
   refine a_region (by kernel_rfl) ?_
   refine op_v' (j_assign (evo rfl)) ?_
   refine op_nil ?_
   refine a_ret ?_
   exact ⟨[.p _], .p _, [], [], [], ⟨rfl, trivial⟩, rfl, rfl, trivial, rfl, rfl, ⟨boolEq (by symm; first | (rw [show mOk m = false by assumption]; rfl) | (rw [obj_no (by omega), Bool.and_false])), rfl, rfl⟩⟩
  ·
   have h2r := h2
   try simp only [nq, nr] at h2
   refine a_skip ?_
   refine a_seq ?_
   refine a_seq ?_
   refine a_region (by kernel_rfl) ?_
   refine op_v' (j_assign (evo rfl)) ?_
   refine op_nil ?_
   refine a_block ?_
   refine a_loopF' (ι := Nat) (fun k => k ≤ co.length ∧ (co.take k).all cfOk = true) (fun k r => (5, .p (.int .i64 ((k : Nat)))) :: r) (fun k r => r) (fun k => co.length - k) (fun _ _ => rfl) (fun _ _ => rfl) 0 ⟨Nat.zero_le _, rfl⟩ ⟨⟨rfl, rfl⟩, ⟨rfl, trivial⟩, trivial, ⟨rfl, rfl⟩, ⟨rfl, rfl⟩⟩ ?_
   intro k hk
   refine a_seq ?_
   refine a_seq ?_
   refine a_region (by kernel_rfl) ?_
   refine op_v' (j_move (evo rfl)) ?_
   refine op_v' (j_move (evo rfl)) ?_
   refine op_v' (j_len_map Try.underlying23 rfl) ?_
   refine op_v' (j_lt rfl rfl) ?_
   refine op_nil ?_
   refine a_cond rfl (fun h3 => ?_) (fun h3 => ?_)
   ·
    have h3r := h3
    try simp only [nq, nr] at h3
    refine a_skip ?_
    refine a_seq ?_
    refine a_block ?_
    refine a_seq ?_
    refine a_region (by kernel_rfl) ?_
    refine op_v' (j_move (evo rfl)) ?_
    refine op_v' (j_move (evo rfl)) ?_
    refine op_v' (j_elemN slt23 rfl rfl rfl (at_map (by first | omega | (simp only [nr]; omega))) rfl) ?_
    refine op_v' (j_load_el leaf3 rfl (at_map (by first | omega | (simp only [nr]; omega))) rfl) ?_
    refine op_v' (j_lt rfl rfl) ?_
    refine op_v' (j_move (evo rfl)) ?_
    refine op_split' 28 rfl (fun h4 => ?_) (fun h4 => ?_)
    ·
     have h4r := h4
     try simp only [nq, nr] at h4
     refine op_v' (j_unwantV rfl rfl h4r) ?_
     refine op_v' (j_unwantV rfl rfl h4r) ?_
     refine op_v' (j_unwantV rfl rfl h4r) ?_
     refine op_v' (j_unwantV rfl rfl h4r) ?_
     refine op_v' (j_unwantV rfl rfl h4r) ?_
     refine op_v' (j_pick_t rfl h4r (evo rfl)) ?_
     refine op_nil ?_
     refine a_tt rfl ?_
     refine a_seq ?_
     refine a_region (by kernel_rfl) ?_
     refine op_v' (j_assign (evo rfl)) ?_
     refine op_nil ?_
     refine a_ret ?_
     exact ⟨[.p _], .p _, [], [], [], ⟨rfl, trivial⟩, rfl, rfl, trivial, rfl, rfl, ⟨boolEq (by symm; rw [obj_len (by omega), all_no (d := default) (k := k) (by omega) (by unfold cfOk; exact decide_eq_false (by omega)), Bool.and_false]), rfl, rfl⟩⟩
    ·
     have h4r := h4
     try simp only [nq, nr] at h4
     refine op_v' (j_want rfl rfl h4r (j_move (evo rfl))) ?_
     refine op_v' (j_want rfl rfl h4r (j_move (evo rfl))) ?_
     refine op_v' (j_want rfl rfl h4r (j_elemN slt23 rfl rfl rfl (at_map (by first | omega | (simp only [nr]; omega))) rfl)) ?_
     refine op_v' (j_want rfl rfl h4r (j_load_el leaf3 rfl (at_map (by first | omega | (simp only [nr]; omega))) rfl)) ?_
     refine op_v' (j_want rfl rfl h4r (j_gt rfl rfl)) ?_
     refine op_v' (j_pick_f rfl h4r (evo rfl)) ?_
     refine op_nil ?_
     refine a_cond rfl (fun h5 => ?_) (fun h5 => ?_)
     ·
      have h5r := h5
      try simp only [nq, nr] at h5
      refine a_seq ?_
      refine a_region (by kernel_rfl) ?_
      refine op_v' (j_assign (evo rfl)) ?_
      refine op_nil ?_
      refine a_ret ?_
      exact ⟨[.p _], .p _, [], [], [], ⟨rfl, trivial⟩, rfl, rfl, trivial, rfl, rfl, ⟨boolEq (by symm; rw [obj_len (by omega), all_no (d := default) (k := k) (by omega) (by unfold cfOk; exact decide_eq_false (by omega)), Bool.and_false]), rfl, rfl⟩⟩
     ·
      have h5r := h5
      try simp only [nq, nr] at h5
      refine a_skip ?_
      refine a_region (by kernel_rfl) ?_
      refine op_v' (j_move (evo rfl)) ?_
      refine op_v' (j_add rfl rfl (by first | omega | (simp only [nr]; omega)) (by first | omega | (simp only [nr]; omega))) ?_
      refine op_v' (j_assign (evo rfl)) ?_
      refine op_nil ?_
      exact ⟨k + 1, ⟨by omega, all_next (d := default) hk.2 (by omega) (by unfold cfOk; exact decide_eq_true (by omega))⟩, ⟨⟨rfl, rfl⟩, ⟨rfl, trivial⟩, trivial, ⟨rfl, rfl⟩, ⟨rfl, rfl⟩⟩, (by first | omega | (simp only [nr]; omega))⟩
   ·
    have h3r := h3
    try simp only [nq, nr] at h3
    refine a_exit ?_
    refine a_seq ?_
    refine a_region (by kernel_rfl) ?_
    refine op_v' (j_assign (evo rfl)) ?_
    refine op_nil ?_
    refine a_ret ?_
    exact ⟨[.p _], .p _, [], [], [], ⟨rfl, trivial⟩, rfl, rfl, trivial, rfl, rfl, ⟨boolEq (by symm; rw [obj_len (by omega), all_full hk.2 (by omega), show mOk m = true by assumption]; rfl), rfl, rfl⟩⟩


theorem f_l6Solves (m : Md) (c : List Int) (hm : mOk m = true) (hc : cvL m.1 c = true) (hw : wRS m.2 ≤ 1048576) : Fn Try.prog 94 [.agg [.sl (m.1.map dI), .sl (m.2.map dR)], .sl (c.map dI)] [] (fun rr ii nn => rr = .p (.bool (solB m c)) ∧ ii = [] ∧ nn = []) := by
 refine fn_of Try.func94 rfl (Nat.le_of_ble_eq_true rfl) fun w X g => ?_
 show AWp _ _ _ ⟨[(0, .agg [.sl (m.1.map dI), .sl (m.2.map dR)]), (1, .sl (c.map dI))], []⟩
 refine a_len_rule 0 rfl fun hlr => ?_
 have hc3 := cv_three hm hc
 refine a_seq ?_
 refine a_region (by kernel_rfl) ?_
 refine op_n' (fun ver => j_boxa rfl) fun v2x1 => ?_
 refine op_v' (j_assign (evo rfl)) ?_
 refine op_nil ?_
 refine a_seq ?_
 refine a_seq ?_
 refine a_region (by kernel_rfl) ?_
 refine op_v' (j_assign (evo rfl)) ?_
 refine op_nil ?_
 refine a_block ?_
 refine a_loopF' (ι := Nat) (fun k => k ≤ m.2.length ∧ (m.2.take k).all (fun r => holdB r (valsC r.2.1 c)) = true) (fun k r => (5, .p (.int .i64 ((k : Nat)))) :: r) (fun k r => r) (fun k => m.2.length - k) (fun _ _ => rfl) (fun _ _ => rfl) 0 ⟨Nat.zero_le _, rfl⟩ ⟨⟨rfl, rfl⟩, ⟨rfl, trivial⟩, trivial, ⟨rfl, rfl⟩, ⟨rfl, rfl⟩⟩ ?_
 intro k hk
 refine a_seq ?_
 refine a_seq ?_
 refine a_region (by kernel_rfl) ?_
 refine op_v' (j_move (evo rfl)) ?_
 refine op_v' (j_fldp fld26f1 rfl rfl) ?_
 refine op_v' (j_load_box leaf24 rfl rfl rfl) ?_
 refine op_v' (j_len_map Try.underlying24 rfl) ?_
 refine op_v' (j_lt rfl rfl) ?_
 refine op_nil ?_
 refine a_cond rfl (fun h1 => ?_) (fun h1 => ?_)
 ·
  have h1r := h1
  try simp only [nq, nr] at h1
  refine a_skip ?_
  refine a_seq ?_
  refine a_block ?_
  refine a_seq ?_
  refine a_region (by kernel_rfl) ?_
  refine op_v' (j_fldp fld26f1 rfl rfl) ?_
  refine op_v' (j_load_box leaf24 rfl rfl rfl) ?_
  refine op_v' (j_move (evo rfl)) ?_
  refine op_v' (j_elemN slt24 rfl rfl rfl (at_map (by first | omega | (simp only [nr]; omega))) rfl) ?_
  refine op_v' (j_loada_el (ys := [.p _, .sl _, .sl _, .p _, .sl _]) agg43 rfl (at_map (by first | omega | (simp only [nr]; omega))) rfl (Nat.le_refl _)) ?_
  refine op_v' (j_move (evo rfl)) ?_
  refine op_v0' (j_call0 (v := .p _) (hp1 := []) [] false [] ent129 (f_l6Holds m.1.length (m.2.getD k default) c (mOk_rule hm (by omega)) hc3 (wRS_rule hw (by omega))) ⟨.inl ⟨rfl, rfl⟩, .inl ⟨rfl, rfl⟩, trivial⟩ trivial rfl rfl (fun h => by cases h) rfl (fun _ h => by cases h) (.inl rfl) rfl rfl) ?_
  refine op_v' (j_not rfl) ?_
  refine op_nil ?_
  refine a_cond rfl (fun h2 => ?_) (fun h2 => ?_)
  ·
   have h2r := h2
   try simp only [nq, nr] at h2
   refine a_seq ?_
   refine a_region (by kernel_rfl) ?_
   refine op_v' (j_assign (evo rfl)) ?_
   refine op_nil ?_
   refine a_ret ?_
   exact ⟨[.p _], .p _, [], [], [], ⟨rfl, trivial⟩, rfl, rfl, trivial, rfl, rfl, ⟨boolEq (by symm; exact all_no (d := default) (k := k) (by omega) (by assumption)), rfl, rfl⟩⟩
  ·
   have h2r := h2
   try simp only [nq, nr] at h2
   refine a_skip ?_
   refine a_region (by kernel_rfl) ?_
   refine op_v' (j_move (evo rfl)) ?_
   refine op_v' (j_add rfl rfl (by first | omega | (simp only [nr]; omega)) (by first | omega | (simp only [nr]; omega))) ?_
   refine op_v' (j_assign (evo rfl)) ?_
   refine op_nil ?_
   exact ⟨k + 1, ⟨by omega, all_next (d := default) hk.2 (by omega) (by assumption)⟩, ⟨⟨rfl, rfl⟩, ⟨rfl, trivial⟩, trivial, ⟨rfl, rfl⟩, ⟨rfl, rfl⟩⟩, (by first | omega | (simp only [nr]; omega))⟩
 ·
  have h1r := h1
  try simp only [nq, nr] at h1
  refine a_exit ?_
  refine a_seq ?_
  refine a_region (by kernel_rfl) ?_
  refine op_v' (j_assign (evo rfl)) ?_
  refine op_nil ?_
  refine a_ret ?_
  exact ⟨[.p _], .p _, [], [], [], ⟨rfl, trivial⟩, rfl, rfl, trivial, rfl, rfl, ⟨boolEq (by symm; exact all_full hk.2 (by omega)), rfl, rfl⟩⟩


theorem f_mn1N (m : Md) (co c : List Int) (hm : mOk m = true) (ho : objB m co = true) (hc : cvL m.1 c = true) (hw : wRS m.2 ≤ 1048576) : Fn Try.prog 91 [.own 3 0, .ptr 0 0 0, .ptr 1 0 0, .ptr 2 0 0] [.box 26 [.sl (m.1.map dI), .sl (m.2.map dR)], .box 23 [.p (.slice none 0 0)], .box 23 [.sl (co.map dI)], .row 3 1 (c.map dI)] (fun rr ii nn => rr = .p (.bool (true)) ∧ ii = [.box 26 [.sl (m.1.map dI), .sl (m.2.map dR)], .box 23 [(outV (stepM m co c none))], .box 23 [.sl (co.map dI)], .row 3 1 (c.map dI)] ∧ nn = []) := by
 refine fn_of Try.func91 rfl (Nat.le_of_ble_eq_true rfl) fun w X g => ?_
 show AWp _ _ _ ⟨[(0, .own 3 0), (1, .ptr 0 0 0), (2, .ptr 1 0 0), (3, .ptr 2 0 0)], [(0, some (0, .box 26 [.sl (m.1.map dI), .sl (m.2.map dR)])), (1, some (0, .box 23 [.p (.slice none 0 0)])), (2, some (0, .box 23 [.sl (co.map dI)])), (3, some (0, .row 3 1 (c.map dI)))]⟩
 have hms := mOk_sz hm
 have hcv := cv_at hc
 refine a_seq ?_
 refine a_region (by kernel_rfl) ?_
 refine op_v' (j_assign (evo rfl)) ?_
 refine op_nil ?_
 refine a_seq ?_
 refine a_seq ?_
 refine a_draw mixed (by kernel_rfl) (by kernel_rfl) fun vf => ?_
 refine d_v' (j_loada_box (ys := [.sl _, .sl _]) agg26 rfl rfl rfl (Nat.le_of_ble_eq_true rfl)) ?_
 refine d_v' (j_move (evo rfl)) ?_
 refine d_v0' (j_call0 (v := .p _) (hp1 := []) [] true [3] ent87 (f_solves m c hm hc hw) ⟨.inl ⟨rfl, rfl⟩, .inr ⟨rfl, view_own rfl rfl, rfl⟩, trivial⟩ trivial rfl rfl (fun _ => rfl) rfl (fun _ h => by cases h) (.inr ⟨rfl, by first | exact pl_new1 (fun _ => rfl) | exact pl_newC | (simp [plO, plV, plV.plL]; done)⟩) rfl rfl) ?_
 refine d_v' (j_move (evo rfl)) ?_
 refine d_split' 9 rfl (fun h1 => ?_) (fun h1 => ?_)
 ·
  have h1r := h1
  try simp only [nq, nr] at h1
  refine d_v' (j_want rfl rfl h1r (j_load_box leaf23 rfl rfl rfl)) ?_
  refine d_v' (j_want rfl rfl h1r (j_eqnil_n Try.underlying23 rfl)) ?_
  refine d_v' (j_want rfl rfl h1r (j_move (evo rfl))) ?_
  refine d_split' 12 rfl (fun h2 => ?_) (fun h2 => ?_)
  ·
   have h2r := h2
   try simp only [nq, nr] at h2
   refine d_v' (j_unwantV rfl rfl h2r) ?_
   refine d_v' (j_unwantV rfl rfl h2r) ?_
   refine d_v' (j_unwantV rfl rfl h2r) ?_
   refine d_v' (j_unwantV rfl rfl h2r) ?_
   refine d_v' (j_unwantV rfl rfl h2r) ?_
   refine d_v' (j_unwantV rfl rfl h2r) ?_
   refine d_v' (j_unwantV rfl rfl h2r) ?_
   refine d_v' (j_want rfl rfl h1r (j_pick_t rfl h2r (evo rfl))) ?_
   refine d_v' (j_pick_t rfl h1r (evo rfl)) ?_
   refine d_nil (by kernel_rfl) (by kernel_rfl) ?_
   refine a_tt rfl ?_
   refine a_region (by kernel_rfl) ?_
   refine op_v' (j_move (evo rfl)) ?_
   refine op_n1' (fun ver => j_call1 (v := .own 23 ver) (hp1 := [(23, some (ver, .row 3 1 _))]) [] true [3] ent88 (f_cloneI2 c (by omega)) ⟨.inr ⟨rfl, view_own rfl rfl, rfl⟩, trivial⟩ trivial rfl rfl rfl (fun _ => rfl) rfl (List.all_eq_true.1 rfl) (.inr ⟨rfl, by first | exact pl_new1 (fun _ => rfl) | exact pl_newC | (simp [plO, plV, plV.plL]; done)⟩) rfl rfl) fun v23x1 => ?_
   refine op_freezeK 23 ⟨⟨_, _, rfl⟩, ⟨_, _, rfl⟩, ⟨_, _, rfl⟩, ⟨_, _, _, rfl⟩, trivial⟩ rfl rfl rfl ?_
   refine op_s' (j_store_box leaf23 rfl rfl (Nat.le_of_ble_eq_true rfl) (evo rfl) rfl) ?_
   refine op_nil ?_
   refine a_seq ?_
   refine a_region (by kernel_rfl) ?_
   refine op_v' (j_assign (evo rfl)) ?_
   refine op_nil ?_
   refine a_ret ?_
   exact ⟨[.p _], .p _, [.box 26 [.sl _, .sl _], .box 23 [.sl _], .box 23 [.sl _], .row 3 1 _], [], [], ⟨rfl, trivial⟩, rfl, rfl, ⟨⟨rfl, rfl⟩, ⟨rfl, rfl⟩, ⟨rfl, rfl⟩, ⟨rfl, rfl⟩, trivial⟩, rfl, rfl, ⟨rfl, by first | (rw [stM_n (by assumption)] <;> rfl) | (rw [stM_y (by assumption) (by assumption)] <;> rfl) | (rw [stM_0 (by assumption)] <;> rfl) | (rw [stM_k (by assumption)] <;> rfl), rfl⟩⟩
  ·
   have h2r := h2
   try simp only [nq, nr] at h2
   exact absurd h2r (by decide)
 ·
  have h1r := h1
  try simp only [nq, nr] at h1
  refine d_v' (j_unwantV rfl rfl h1r) ?_
  refine d_v' (j_unwantV rfl rfl h1r) ?_
  refine d_v' (j_unwantV rfl rfl h1r) ?_
  refine d_v' (j_unwantU rfl rfl) ?_
  refine d_v' (j_unwantU rfl rfl) ?_
  refine d_v' (j_unwantU rfl rfl) ?_
  refine d_v' (j_unwantU rfl rfl) ?_
  refine d_v' (j_unwantU rfl rfl) ?_
  refine d_v' (j_unwantU rfl rfl) ?_
  refine d_v' (j_unwantU rfl rfl) ?_
  refine d_v' (j_unwantV rfl rfl h1r) ?_
  refine d_v' (j_pick_f rfl h1r (evo rfl)) ?_
  refine d_nil (by kernel_rfl) (by kernel_rfl) ?_
  refine a_ff rfl ?_
  refine a_skip ?_
  refine a_seq ?_
  refine a_region (by kernel_rfl) ?_
  refine op_v' (j_assign (evo rfl)) ?_
  refine op_nil ?_
  refine a_ret ?_
  exact ⟨[.p _], .p _, [.box 26 [.sl _, .sl _], .box 23 [.p _], .box 23 [.sl _], .row 3 1 _], [], [], ⟨rfl, trivial⟩, rfl, rfl, ⟨⟨rfl, rfl⟩, ⟨rfl, rfl⟩, ⟨rfl, rfl⟩, ⟨rfl, rfl⟩, trivial⟩, rfl, rfl, ⟨rfl, by first | (rw [stM_n (by assumption)] <;> rfl) | (rw [stM_y (by assumption) (by assumption)] <;> rfl) | (rw [stM_0 (by assumption)] <;> rfl) | (rw [stM_k (by assumption)] <;> rfl), rfl⟩⟩


theorem f_mn1S (m : Md) (co c : List Int) (e : List Int) (hm : mOk m = true) (ho : objB m co = true) (hc : cvL m.1 c = true) (hw : wRS m.2 ≤ 1048576) (he : cvL m.1 e = true) : Fn Try.prog 91 [.own 3 0, .ptr 0 0 0, .ptr 1 0 0, .ptr 2 0 0] [.box 26 [.sl (m.1.map dI), .sl (m.2.map dR)], .box 23 [.sl (e.map dI)], .box 23 [.sl (co.map dI)], .row 3 1 (c.map dI)] (fun rr ii nn => rr = .p (.bool (true)) ∧ ii = [.box 26 [.sl (m.1.map dI), .sl (m.2.map dR)], .box 23 [(outV (stepM m co c (some e)))], .box 23 [.sl (co.map dI)], .row 3 1 (c.map dI)] ∧ nn = []) := by
 refine fn_of Try.func91 rfl (Nat.le_of_ble_eq_true rfl) fun w X g => ?_
 show AWp _ _ _ ⟨[(0, .own 3 0), (1, .ptr 0 0 0), (2, .ptr 1 0 0), (3, .ptr 2 0 0)], [(0, some (0, .box 26 [.sl (m.1.map dI), .sl (m.2.map dR)])), (1, some (0, .box 23 [.sl (e.map dI)])), (2, some (0, .box 23 [.sl (co.map dI)])), (3, some (0, .row 3 1 (c.map dI)))]⟩
 have hms := mOk_sz hm
 have hcv := cv_at hc
 refine a_seq ?_
 refine a_region (by kernel_rfl) ?_
 refine op_v' (j_assign (evo rfl)) ?_
 refine op_nil ?_
 refine a_seq ?_
 refine a_seq ?_
 refine a_draw mixed (by kernel_rfl) (by kernel_rfl) fun vf => ?_
 refine d_v' (j_loada_box (ys := [.sl _, .sl _]) agg26 rfl rfl rfl (Nat.le_of_ble_eq_true rfl)) ?_
 refine d_v' (j_move (evo rfl)) ?_
 refine d_v0' (j_call0 (v := .p _) (hp1 := []) [] true [3] ent87 (f_solves m c hm hc hw) ⟨.inl ⟨rfl, rfl⟩, .inr ⟨rfl, view_own rfl rfl, rfl⟩, trivial⟩ trivial rfl rfl (fun _ => rfl) rfl (fun _ h => by cases h) (.inr ⟨rfl, by first | exact pl_new1 (fun _ => rfl) | exact pl_newC | (simp [plO, plV, plV.plL]; done)⟩) rfl rfl) ?_
 refine d_v' (j_move (evo rfl)) ?_
 refine d_split' 9 rfl (fun h1 => ?_) (fun h1 => ?_)
 ·
  have h1r := h1
  try simp only [nq, nr] at h1
  refine d_v' (j_want rfl rfl h1r (j_load_box leaf23 rfl rfl rfl)) ?_
  refine d_v' (j_want rfl rfl h1r (j_eqnil_s Try.underlying23 rfl (cvl_ne hm he))) ?_
  refine d_v' (j_want rfl rfl h1r (j_move (evo rfl))) ?_
  refine d_split' 12 rfl (fun h2 => ?_) (fun h2 => ?_)
  ·
   have h2r := h2
   try simp only [nq, nr] at h2
   exact absurd h2r (by decide)
  ·
   have h2r := h2
   try simp only [nq, nr] at h2
   refine d_v' (j_want rfl rfl h2r (j_load_box leaf23 rfl rfl rfl)) ?_
   refine d_v' (j_want rfl rfl h2r (j_move (evo rfl))) ?_
   refine d_v0' (j_want rfl rfl h2r (j_call0 (v := .p _) (hp1 := []) [] true [3] ent92 (f_valueOf m co c hm ho hc) ⟨.inl ⟨rfl, rfl⟩, .inr ⟨rfl, view_own rfl rfl, rfl⟩, trivial⟩ trivial rfl rfl (fun _ => rfl) rfl (fun _ h => by cases h) (.inr ⟨rfl, by first | exact pl_new1 (fun _ => rfl) | exact pl_newC | (simp [plO, plV, plV.plL]; done)⟩) rfl rfl)) ?_
   refine d_v' (j_want rfl rfl h2r (j_load_box leaf23 rfl rfl rfl)) ?_
   refine d_v' (j_want rfl rfl h2r (j_load_box leaf23 rfl rfl rfl)) ?_
   refine d_v0' (j_want rfl rfl h2r (j_call0 (v := .p _) (hp1 := []) [] false [] ent92 (f_valueOf m co e hm ho he) ⟨.inl ⟨rfl, rfl⟩, .inl ⟨rfl, rfl⟩, trivial⟩ trivial rfl rfl (fun h => by cases h) rfl (fun _ h => by cases h) (.inl rfl) rfl rfl)) ?_
   refine d_v' (j_want rfl rfl h2r (j_lt rfl rfl)) ?_
   refine d_v' (j_want rfl rfl h1r (j_pick_f rfl h2r (evo rfl))) ?_
   refine d_v' (j_pick_t rfl h1r (evo rfl)) ?_
   refine d_nil (by kernel_rfl) (by kernel_rfl) ?_
   refine a_cond rfl (fun h3 => ?_) (fun h3 => ?_)
   ·
    have h3r := h3
    try simp only [nq, nr] at h3
    refine a_region (by kernel_rfl) ?_
    refine op_v' (j_move (evo rfl)) ?_
    refine op_n1' (fun ver => j_call1 (v := .own 23 ver) (hp1 := [(23, some (ver, .row 3 1 _))]) [] true [3] ent88 (f_cloneI2 c (by omega)) ⟨.inr ⟨rfl, view_own rfl rfl, rfl⟩, trivial⟩ trivial rfl rfl rfl (fun _ => rfl) rfl (List.all_eq_true.1 rfl) (.inr ⟨rfl, by first | exact pl_new1 (fun _ => rfl) | exact pl_newC | (simp [plO, plV, plV.plL]; done)⟩) rfl rfl) fun v23x1 => ?_
    refine op_freezeK 23 ⟨⟨_, _, rfl⟩, ⟨_, _, rfl⟩, ⟨_, _, rfl⟩, ⟨_, _, _, rfl⟩, trivial⟩ rfl rfl rfl ?_
    refine op_s' (j_store_box leaf23 rfl rfl (Nat.le_of_ble_eq_true rfl) (evo rfl) rfl) ?_
    refine op_nil ?_
    refine a_seq ?_
    refine a_region (by kernel_rfl) ?_
    refine op_v' (j_assign (evo rfl)) ?_
    refine op_nil ?_
    refine a_ret ?_
    exact ⟨[.p _], .p _, [.box 26 [.sl _, .sl _], .box 23 [.sl _], .box 23 [.sl _], .row 3 1 _], [], [], ⟨rfl, trivial⟩, rfl, rfl, ⟨⟨rfl, rfl⟩, ⟨rfl, rfl⟩, ⟨rfl, rfl⟩, ⟨rfl, rfl⟩, trivial⟩, rfl, rfl, ⟨rfl, by first | (rw [stM_n (by assumption)] <;> rfl) | (rw [stM_y (by assumption) (by assumption)] <;> rfl) | (rw [stM_0 (by assumption)] <;> rfl) | (rw [stM_k (by assumption)] <;> rfl), rfl⟩⟩
   ·
    have h3r := h3
    try simp only [nq, nr] at h3
    refine a_skip ?_
    refine a_seq ?_
    refine a_region (by kernel_rfl) ?_
    refine op_v' (j_assign (evo rfl)) ?_
    refine op_nil ?_
    refine a_ret ?_
    exact ⟨[.p _], .p _, [.box 26 [.sl _, .sl _], .box 23 [.sl _], .box 23 [.sl _], .row 3 1 _], [], [], ⟨rfl, trivial⟩, rfl, rfl, ⟨⟨rfl, rfl⟩, ⟨rfl, rfl⟩, ⟨rfl, rfl⟩, ⟨rfl, rfl⟩, trivial⟩, rfl, rfl, ⟨rfl, by first | (rw [stM_n (by assumption)] <;> rfl) | (rw [stM_y (by assumption) (by assumption)] <;> rfl) | (rw [stM_0 (by assumption)] <;> rfl) | (rw [stM_k (by assumption)] <;> rfl), rfl⟩⟩
 ·
  have h1r := h1
  try simp only [nq, nr] at h1
  refine d_v' (j_unwantV rfl rfl h1r) ?_
  refine d_v' (j_unwantV rfl rfl h1r) ?_
  refine d_v' (j_unwantV rfl rfl h1r) ?_
  refine d_v' (j_unwantU rfl rfl) ?_
  refine d_v' (j_unwantU rfl rfl) ?_
  refine d_v' (j_unwantU rfl rfl) ?_
  refine d_v' (j_unwantU rfl rfl) ?_
  refine d_v' (j_unwantU rfl rfl) ?_
  refine d_v' (j_unwantU rfl rfl) ?_
  refine d_v' (j_unwantU rfl rfl) ?_
  refine d_v' (j_unwantV rfl rfl h1r) ?_
  refine d_v' (j_pick_f rfl h1r (evo rfl)) ?_
  refine d_nil (by kernel_rfl) (by kernel_rfl) ?_
  refine a_ff rfl ?_
  refine a_skip ?_
  refine a_seq ?_
  refine a_region (by kernel_rfl) ?_
  refine op_v' (j_assign (evo rfl)) ?_
  refine op_nil ?_
  refine a_ret ?_
  exact ⟨[.p _], .p _, [.box 26 [.sl _, .sl _], .box 23 [.sl _], .box 23 [.sl _], .row 3 1 _], [], [], ⟨rfl, trivial⟩, rfl, rfl, ⟨⟨rfl, rfl⟩, ⟨rfl, rfl⟩, ⟨rfl, rfl⟩, ⟨rfl, rfl⟩, trivial⟩, rfl, rfl, ⟨rfl, by first | (rw [stM_n (by assumption)] <;> rfl) | (rw [stM_y (by assumption) (by assumption)] <;> rfl) | (rw [stM_0 (by assumption)] <;> rfl) | (rw [stM_k (by assumption)] <;> rfl), rfl⟩⟩


theorem f_mn1 (m : Md) (co c : List Int) (b : Option (List Int)) (hm : mOk m = true) (ho : objB m co = true) (hc : cvL m.1 c = true) (hw : wRS m.2 ≤ 1048576) (hg : gdO m b) : Fn Try.prog 91 [.own 3 0, .ptr 0 0 0, .ptr 1 0 0, .ptr 2 0 0] [.box 26 [.sl (m.1.map dI), .sl (m.2.map dR)], .box 23 [outV b], .box 23 [.sl (co.map dI)], .row 3 1 (c.map dI)] (fun rr ii nn => rr = .p (.bool (true)) ∧ ii = [.box 26 [.sl (m.1.map dI), .sl (m.2.map dR)], .box 23 [(outV (stepM m co c b))], .box 23 [.sl (co.map dI)], .row 3 1 (c.map dI)] ∧ nn = []) := by
 cases b with
 | none => exact f_mn1N m co c hm ho hc hw
 | some e => exact f_mn1S m co c e hm ho hc hw (hg e rfl).1

theorem f_eachM (F : Nat) (m : Md) (co : List Int) (e : Option (List Int)) (hm : mOk m = true) (he : mnS m co = e) (hE : Ent' Try.prog F) (hF : ∀ (c : List Int) (b : Option (List Int)), cvL m.1 c = true → gdO m b → Fn Try.prog F [.own 3 0, .ptr 0 0 0, .ptr 1 0 0, .ptr 2 0 0] [.box 26 [.sl (m.1.map dI), .sl (m.2.map dR)], .box 23 [outV b], .box 23 [.sl (co.map dI)], .row 3 1 (c.map dI)] (fun rr ii nn => rr = .p (.bool (true)) ∧ ii = [.box 26 [.sl (m.1.map dI), .sl (m.2.map dR)], .box 23 [(outV (stepM m co c b))], .box 23 [.sl (co.map dI)], .row 3 1 (c.map dI)] ∧ nn = [])) : Fn Try.prog 85 [.sl (m.1.map dI), .own 3 0, .fn F [.ptr 0 0 0, .ptr 1 0 0, .ptr 2 0 0]] [.box 26 [.sl (m.1.map dI), .sl (m.2.map dR)], .box 23 [.p (.slice none 0 0)], .box 23 [.sl (co.map dI)], .row 3 1 (List.replicate m.1.length [.p (.int .i64 0)])] (fun rr ii nn => rr = .tup [] ∧ ii = [.box 26 [.sl (m.1.map dI), .sl (m.2.map dR)], .box 23 [outV e], .box 23 [.sl (co.map dI)], .row 3 1 ((List.replicate m.1.length (0 : Int)).map dI)] ∧ nn = []) := by
 refine fn_of Try.func85 rfl (Nat.le_of_ble_eq_true rfl) fun w X g => ?_
 show AWp _ _ _ ⟨[(0, .sl (m.1.map dI)), (1, .own 3 0), (2, .fn F [.ptr 0 0 0, .ptr 1 0 0, .ptr 2 0 0])], [(0, some (0, .box 26 [.sl (m.1.map dI), .sl (m.2.map dR)])), (1, some (0, .box 23 [.p (.slice none 0 0)])), (2, some (0, .box 23 [.sl (co.map dI)])), (3, some (0, .row 3 1 (List.replicate m.1.length [.p (.int .i64 0)])))]⟩
 have hms := mOk_sz hm
 refine a_row 3 (es' := (List.replicate m.1.length (0 : Int)).map dI) rfl (by rw [List.map_replicate]; rfl) ?_
 refine a_seq ?_
 refine a_region (by kernel_rfl) ?_
 refine op_v' (j_move (evo rfl)) ?_
 refine op_n1' (fun ver => j_call1 (v := .own 9 ver) (hp1 := [(9, some (ver, .row 3 1 _))]) [] true [3] ent88 (f_cloneI2 (List.replicate m.1.length (0 : Int)) (by rw [List.length_replicate]; omega)) ⟨.inr ⟨rfl, view_own rfl rfl, rfl⟩, trivial⟩ trivial rfl rfl rfl (fun _ => rfl) rfl (List.all_eq_true.1 rfl) (.inr ⟨rfl, by first | exact pl_new1 (fun _ => rfl) | exact pl_newC | (simp [plO, plV, plV.plL]; done)⟩) rfl rfl) fun v9x1 => ?_
 refine op_v' (j_assign (evo rfl)) ?_
 refine op_nil ?_
 refine a_block ?_
 refine a_loopF' (ι := List Int × Option (List Int)) (fun x => cvL m.1 x.1 = true ∧ gdO m x.2 ∧ mnF m co (prS m.1 - vlS m.1 x.1) x.1 x.2 = e) (fun x r => r) (fun x r => (0, some (0, .box 26 [.sl (m.1.map dI), .sl (m.2.map dR)])) :: (1, some (0, .box 23 [outV x.2])) :: (2, some (0, .box 23 [.sl (co.map dI)])) :: (9, some (v9x1, .row 3 1 (x.1.map dI))) :: r) (fun x => prS m.1 - vlS m.1 x.1) (fun _ _ => rfl) (fun _ _ => rfl) ((List.replicate m.1.length (0 : Int)), none) (by first | exact ⟨zero_cv hm, (fun c q => by cases q), by rw [vl_zero]; exact he⟩ | (dsimp only; exact ⟨zero_cv hm, (fun c q => by cases q), by rw [vl_zero]; exact he⟩)) ⟨⟨rfl, rfl⟩, trivial, ⟨rfl, rfl, rfl, rfl, trivial⟩, ⟨rfl, rfl⟩, ⟨rfl, rfl⟩⟩ ?_
 rintro ⟨c1, b1⟩ hk; dsimp only at hk ⊢
 refine a_seq ?_
 refine a_seq ?_
 have hcv := cv_at hk.1
 have hrn := mn_next hk.1 hk.2.2
 refine a_region (by kernel_rfl) ?_
 refine op_v' (j_move (evo rfl)) ?_
 refine op_v' (j_move (evo rfl)) ?_
 refine op_v0' (j_callF0 (v := .p _) (hp1 := [(0, some (0, .box 26 [.sl _, .sl _])), (1, some (0, .box 23 [_])), (2, some (0, .box 23 [.sl _])), (9, some (v9x1, .row 3 1 _))]) [(0, 0), (1, 0), (2, 0), (9, v9x1)] false [9, 0, 1, 2] rfl hE (hF c1 b1 hk.1 hk.2.1) ⟨.inl ⟨rfl, rfl⟩, .inl ⟨rfl, rfl⟩, .inl ⟨rfl, rfl⟩, .inl ⟨rfl, rfl⟩, trivial⟩ ⟨⟨rfl, rfl⟩, ⟨out_ob rfl, okO_out⟩, ⟨rfl, rfl⟩, ⟨rfl, rfl⟩, trivial⟩ rfl rfl (fun h => by cases h) rfl (List.all_eq_true.1 (by cases stepM m co c1 b1 <;> rfl)) (.inl rfl) rfl rfl) ?_
 refine op_nil ?_
 refine a_cond rfl (fun h1 => ?_) (fun h1 => ?_)
 ·
  have h1r := h1
  try simp only [nq, nr, nl] at h1
  rw [ren_out]
  refine a_skip ?_
  refine a_block ?_
  refine a_seq ?_
  refine a_region (by kernel_rfl) ?_
  refine op_v' (j_move (evo rfl)) ?_
  refine op_v' (j_len_own_map Try.underlying23 rfl rfl) ?_
  refine op_v' (j_sub rfl rfl (by first | omega | (simp only [nr, nl]; omega)) (by first | omega | (simp only [nr, nl]; omega))) ?_
  refine op_v' (j_assign (evo rfl)) ?_
  refine op_nil ?_
  refine a_seq ?_
  refine a_block ?_
  refine a_loopF' (ι := Nat × List Int) (fun x => x.1 ≤ c1.length ∧ x.2.length = c1.length ∧ (∀ i, i < x.1 → 0 ≤ x.2.getD i default ∧ x.2.getD i default ≤ m.1.getD i default) ∧ nxt m.1 x.2 x.1 = (nxt m.1 c1 c1.length)) (fun x r => (7, .p (.int .i64 ((x.1 : Int) - 1))) :: r) (fun x r => (9, some (v9x1, .row 3 1 (x.2.map dI))) :: r) (fun x => x.1) (fun _ _ => rfl) (fun _ _ => rfl) (c1.length, c1) (by first | exact ⟨Nat.le_refl _, rfl, (fun i hi => hcv.2 i hi), rfl⟩ | (dsimp only; exact ⟨Nat.le_refl _, rfl, (fun i hi => hcv.2 i hi), rfl⟩)) ⟨⟨rfl, rfl⟩, ⟨intEq (by omega), trivial⟩, ⟨rfl, trivial⟩, ⟨rfl, rfl⟩, ⟨rfl, rfl⟩⟩ ?_
  rintro ⟨k, ee⟩ hk2; dsimp only at hk2 ⊢
  refine a_seq ?_
  refine a_seq ?_
  refine a_draw mixed (by kernel_rfl) (by kernel_rfl) fun vf => ?_
  refine d_v' (j_move (evo rfl)) ?_
  refine d_v' (j_ge rfl rfl) ?_
  refine d_v' (j_move (evo rfl)) ?_
  refine d_split' 18 rfl (fun h2 => ?_) (fun h2 => ?_)
  ·
   have h2r := h2
   try simp only [nq, nr, nl] at h2
   refine d_v' (j_want rfl rfl h2r (j_move (evo rfl))) ?_
   refine d_v' (j_want rfl rfl h2r (j_move (evo rfl))) ?_
   refine d_v' (j_want rfl rfl h2r (j_elem_ownN (n := (k - 1)) slt23 rfl rfl rfl (by omega) (by first | omega | (simp only [nr, nl]; omega)))) ?_
   refine d_v' (j_want rfl rfl h2r (j_load_pel leaf3 rfl rfl (at_map (by first | omega | (simp only [nr, nl]; omega))) rfl)) ?_
   refine d_v' (j_want rfl rfl h2r (j_move (evo rfl))) ?_
   refine d_v' (j_want rfl rfl h2r (j_move (evo rfl))) ?_
   refine d_v' (j_want rfl rfl h2r (j_elemN (n := (k - 1)) slt23 rfl rfl (by omega) (at_map (by first | omega | (simp only [nr, nl]; omega))) rfl)) ?_
   refine d_v' (j_want rfl rfl h2r (j_load_el leaf3 rfl (at_map (by first | omega | (simp only [nr, nl]; omega))) rfl)) ?_
   refine d_v' (j_want rfl rfl h2r (j_eq rfl rfl)) ?_
   refine d_v' (j_pick_t rfl h2r (evo rfl)) ?_
   refine d_nil (by kernel_rfl) (by kernel_rfl) ?_
   refine a_cond rfl (fun h3 => ?_) (fun h3 => ?_)
   ·
    have h3r := h3
    try simp only [nq, nr, nl] at h3
    refine a_skip ?_
    refine a_block ?_
    refine a_seq ?_
    refine a_region (by kernel_rfl) ?_
    refine op_v' (j_move (evo rfl)) ?_
    refine op_v' (j_move (evo rfl)) ?_
    refine op_v' (j_elem_ownN (n := (k - 1)) slt23 rfl rfl rfl (by omega) (by first | omega | (simp only [nr, nl]; omega))) ?_
    refine op_s' (j_store_row leaf3 rfl rfl (by first | omega | (simp only [nr, nl]; omega)) (evo rfl) rfl rfl) ?_
    refine op_nil ?_
    refine a_region (by kernel_rfl) ?_
    refine op_v' (j_move (evo rfl)) ?_
    refine op_v' (j_sub rfl rfl (by first | omega | (simp only [nr, nl]; omega)) (by first | omega | (simp only [nr, nl]; omega))) ?_
    refine op_v' (j_assign (evo rfl)) ?_
    refine op_nil ?_
    exact ⟨(k - 1, ee.set (k - 1) 0), (by first | exact ⟨by omega, by rw [List.length_set]; exact hk2.2.1, fun i hi => by rw [getD_setne (by omega)]; exact hk2.2.2.1 i (by omega), by rw [← hk2.2.2.2, nxt_at (k := k) (by omega), if_neg (by omega)]⟩ | (dsimp only; exact ⟨by omega, by rw [List.length_set]; exact hk2.2.1, fun i hi => by rw [getD_setne (by omega)]; exact hk2.2.2.1 i (by omega), by rw [← hk2.2.2.2, nxt_at (k := k) (by omega), if_neg (by omega)]⟩)), ⟨⟨rfl, rfl⟩, ⟨intEq (by omega), trivial⟩, ⟨rowEq (List.map_set ..).symm, trivial⟩, ⟨rfl, rfl⟩, ⟨rfl, rfl⟩⟩, (by first | exact (by omega) | (dsimp only; exact (by omega)))⟩
   ·
    have h3r := h3
    try simp only [nq, nr, nl] at h3
    refine a_exit ?_
    refine a_seq ?_
    refine a_seq ?_
    refine a_region (by kernel_rfl) ?_
    refine op_v' (j_move (evo rfl)) ?_
    refine op_v' (j_lt rfl rfl) ?_
    refine op_nil ?_
    refine a_cond rfl (fun h4 => ?_) (fun h4 => ?_)
    ·
     have h4r := h4
     try simp only [nq, nr, nl] at h4
     refine a_ret ?_
     have h9 : stepM m co c1 b1 = e := by have hq : (nxt m.1 c1 c1.length) = (ee, false) := (by rw [← hk2.2.2.2, show k = 0 by omega]; rfl); rw [hq] at hrn; exact hrn.2.1
     rw [h9]
     exact ⟨[], .tup [], [.box 26 [.sl _, .sl _], .box 23 [outV e], .box 23 [.sl _], .row 3 1 _], [], [], trivial, rfl, rfl, ⟨⟨rfl, rfl⟩, ⟨(out_ob rfl), okO_out⟩, ⟨rfl, rfl⟩, ⟨rfl, rfl⟩, trivial⟩, rfl, rfl, ⟨rfl, rfl, rfl⟩⟩
    ·
     have h4r := h4
     try simp only [nq, nr, nl] at h4
     refine a_skip ?_
     have hek := hk2.2.2.1 (k - 1) (by omega)
     have hmk := hms.2 (k - 1) (by omega)
     have hq : (nxt m.1 c1 c1.length) = (ee.set (k - 1) (ee.getD (k - 1) default + 1), true) := by rw [← hk2.2.2.2, nxt_at (by omega), if_pos (by omega)]
     rw [hq] at hrn
     refine a_region (by kernel_rfl) ?_
     refine op_v' (j_move (evo rfl)) ?_
     refine op_v' (j_move (evo rfl)) ?_
     refine op_v' (j_elem_ownN (n := (k - 1)) slt23 rfl rfl rfl (by omega) (by first | omega | (simp only [nr, nl]; omega))) ?_
     refine op_v' (j_load_pel leaf3 rfl rfl (at_map (by first | omega | (simp only [nr, nl]; omega))) rfl) ?_
     refine op_v' (j_add rfl rfl (by first | omega | (simp only [nr, nl]; omega)) (by first | omega | (simp only [nr, nl]; omega))) ?_
     refine op_v' (j_elem_ownN (n := (k - 1)) slt23 rfl rfl rfl (by omega) (by first | omega | (simp only [nr, nl]; omega))) ?_
     refine op_s' (j_store_row leaf3 rfl rfl (by first | omega | (simp only [nr, nl]; omega)) (evo rfl) rfl rfl) ?_
     refine op_nil ?_
     exact ⟨((nxt m.1 c1 c1.length).1, stepM m co c1 b1), (by first | exact ⟨by rw [hq]; exact hrn.1, gd_step hk.1 hk.2.1, by rw [hq]; exact hrn.2.1⟩ | (dsimp only; exact ⟨by rw [hq]; exact hrn.1, gd_step hk.1 hk.2.1, by rw [hq]; exact hrn.2.1⟩)), ⟨⟨rfl, rfl⟩, trivial, ⟨rfl, rfl, rfl, rowEq (by rw [hq]; exact (List.map_set ..).symm), trivial⟩, ⟨rfl, rfl⟩, ⟨rfl, rfl⟩⟩, (by first | exact (by rw [hq]; exact hrn.2.2) | (dsimp only; exact (by rw [hq]; exact hrn.2.2)))⟩
  ·
   have h2r := h2
   try simp only [nq, nr, nl] at h2
   refine d_v' (j_unwantV rfl rfl h2r) ?_
   refine d_v' (j_unwantV rfl rfl h2r) ?_
   refine d_v' (j_unwantV rfl rfl h2r) ?_
   refine d_v' (j_unwantV rfl rfl h2r) ?_
   refine d_v' (j_unwantV rfl rfl h2r) ?_
   refine d_v' (j_unwantV rfl rfl h2r) ?_
   refine d_v' (j_unwantV rfl rfl h2r) ?_
   refine d_v' (j_unwantV rfl rfl h2r) ?_
   refine d_v' (j_unwantV rfl rfl h2r) ?_
   refine d_v' (j_pick_f rfl h2r (evo rfl)) ?_
   refine d_nil (by kernel_rfl) (by kernel_rfl) ?_
   refine a_ff rfl ?_
   refine a_exit ?_
   refine a_seq ?_
   refine a_seq ?_
   refine a_region (by kernel_rfl) ?_
   refine op_v' (j_move (evo rfl)) ?_
   refine op_v' (j_lt rfl rfl) ?_
   refine op_nil ?_
   refine a_cond rfl (fun h5 => ?_) (fun h5 => ?_)
   ·
    have h5r := h5
    try simp only [nq, nr, nl] at h5
    refine a_ret ?_
    have h9 : stepM m co c1 b1 = e := by have hq : (nxt m.1 c1 c1.length) = (ee, false) := (by rw [← hk2.2.2.2, show k = 0 by omega]; rfl); rw [hq] at hrn; exact hrn.2.1
    rw [h9]
    exact ⟨[], .tup [], [.box 26 [.sl _, .sl _], .box 23 [outV e], .box 23 [.sl _], .row 3 1 _], [], [], trivial, rfl, rfl, ⟨⟨rfl, rfl⟩, ⟨(out_ob rfl), okO_out⟩, ⟨rfl, rfl⟩, ⟨rfl, rfl⟩, trivial⟩, rfl, rfl, ⟨rfl, rfl, rfl⟩⟩
   ·
    have h5r := h5
    try simp only [nq, nr, nl] at h5
    refine a_skip ?_
    have hek := hk2.2.2.1 (k - 1) (by omega)
    have hmk := hms.2 (k - 1) (by omega)
    have hq : (nxt m.1 c1 c1.length) = (ee.set (k - 1) (ee.getD (k - 1) default + 1), true) := by rw [← hk2.2.2.2, nxt_at (by omega), if_pos (by omega)]
    rw [hq] at hrn
    refine a_region (by kernel_rfl) ?_
    refine op_v' (j_move (evo rfl)) ?_
    refine op_v' (j_move (evo rfl)) ?_
    refine op_v' (j_elem_ownN (n := (k - 1)) slt23 rfl rfl rfl (by omega) (by first | omega | (simp only [nr, nl]; omega))) ?_
    refine op_v' (j_load_pel leaf3 rfl rfl (at_map (by first | omega | (simp only [nr, nl]; omega))) rfl) ?_
    refine op_v' (j_add rfl rfl (by first | omega | (simp only [nr, nl]; omega)) (by first | omega | (simp only [nr, nl]; omega))) ?_
    refine op_v' (j_elem_ownN (n := (k - 1)) slt23 rfl rfl rfl (by omega) (by first | omega | (simp only [nr, nl]; omega))) ?_
    refine op_s' (j_store_row leaf3 rfl rfl (by first | omega | (simp only [nr, nl]; omega)) (evo rfl) rfl rfl) ?_
    refine op_nil ?_
    exact ⟨((nxt m.1 c1 c1.length).1, stepM m co c1 b1), (by first | exact ⟨by rw [hq]; exact hrn.1, gd_step hk.1 hk.2.1, by rw [hq]; exact hrn.2.1⟩ | (dsimp only; exact ⟨by rw [hq]; exact hrn.1, gd_step hk.1 hk.2.1, by rw [hq]; exact hrn.2.1⟩)), ⟨⟨rfl, rfl⟩, trivial, ⟨rfl, rfl, rfl, rowEq (by rw [hq]; exact (List.map_set ..).symm), trivial⟩, ⟨rfl, rfl⟩, ⟨rfl, rfl⟩⟩, (by first | exact (by rw [hq]; exact hrn.2.2) | (dsimp only; exact (by rw [hq]; exact hrn.2.2)))⟩
 ·
  have h1r := h1
  try simp only [nq, nr, nl] at h1
  exact absurd h1r (by simp)


theorem f_mmN (m : Md) (co : List Int) (hw : wRS m.2 ≤ 1048576) (hn : mnO m co = none) : Fn Try.prog 36 [.agg [.sl (m.1.map dI), .sl (m.2.map dR)], .sl (co.map dI)] [] (fun rr ii nn => rr = .tup [.sl (([] : List Int).map dI), .p (.bool false)] ∧ ii = [] ∧ nn = []) := by
 refine fn_of Try.func36 rfl (Nat.le_of_ble_eq_true rfl) fun w X g => ?_
 show AWp _ _ _ ⟨[(0, .agg [.sl (m.1.map dI), .sl (m.2.map dR)]), (1, .sl (co.map dI))], []⟩
 refine a_seq ?_
 refine a_region (by kernel_rfl) ?_
 refine op_n' (fun ver => j_boxa rfl) fun v2x1 => ?_
 refine op_n' (fun ver => j_box (evo rfl) rfl) fun v3x2 => ?_
 refine op_v' (j_assign (evo rfl)) ?_
 refine op_v' (j_assign (evo rfl)) ?_
 refine op_nil ?_
 refine a_seq ?_
 refine a_seq ?_
 refine a_region (by kernel_rfl) ?_
 refine op_v' (j_loada_box (ys := [.sl _, .sl _]) agg26 rfl rfl rfl (Nat.le_of_ble_eq_true rfl)) ?_
 refine op_v0' (j_call0 (v := .p _) (hp1 := []) [] false [] ent18 (f_mvImpl m) ⟨.inl ⟨rfl, rfl⟩, trivial⟩ trivial rfl rfl (fun h => by cases h) rfl (fun _ h => by cases h) (.inl rfl) rfl rfl) ?_
 refine op_v' (j_not rfl) ?_
 refine op_v' (j_move (evo rfl)) ?_
 refine op_split' 10 rfl (fun h1 => ?_) (fun h1 => ?_)
 ·
  have h1r := h1
  try simp only [nq, nr] at h1
  refine op_v' (j_unwantV rfl rfl h1r) ?_
  refine op_v' (j_unwantV rfl rfl h1r) ?_
  refine op_v' (j_unwantV rfl rfl h1r) ?_
  refine op_v' (j_unwantV rfl rfl h1r) ?_
  refine op_v' (j_pick_t rfl h1r (evo rfl)) ?_
  refine op_nil ?_
  refine a_tt rfl ?_
  refine a_seq ?_
  refine a_region (by kernel_rfl) ?_
  refine op_v' (j_assign (evo rfl)) ?_
  refine op_v' (j_assign (evo rfl)) ?_
  refine op_nil ?_
  refine a_nil 4 rfl ?_
  refine a_ret ?_
  exact ⟨[.sl _, .p _], .tup [.sl _, .p _], [], [], [], ⟨rfl, rfl, trivial⟩, rfl, rfl, trivial, rfl, rfl, ⟨rfl, rfl, rfl⟩⟩
 ·
  have h1r := h1
  try simp only [nq, nr] at h1
  refine op_v' (j_want rfl rfl h1r (j_loada_box (ys := [.sl _, .sl _]) agg26 rfl rfl rfl (Nat.le_of_ble_eq_true rfl))) ?_
  refine op_v' (j_want rfl rfl h1r (j_load_box leaf23 rfl rfl rfl)) ?_
  refine op_v0' (j_want rfl rfl h1r (j_call0 (v := .p _) (hp1 := []) [] false [] ent90 (f_isObj m co) ⟨.inl ⟨rfl, rfl⟩, .inl ⟨rfl, rfl⟩, trivial⟩ trivial rfl rfl (fun h => by cases h) rfl (fun _ h => by cases h) (.inl rfl) rfl rfl)) ?_
  refine op_v' (j_want rfl rfl h1r (j_not rfl)) ?_
  refine op_v' (j_pick_f rfl h1r (evo rfl)) ?_
  refine op_nil ?_
  refine a_cond rfl (fun h2 => ?_) (fun h2 => ?_)
  ·
   have h2r := h2
   try simp only [nq, nr] at h2
   refine a_seq ?_
   refine a_region (by kernel_rfl) ?_
   refine op_v' (j_assign (evo rfl)) ?_
   refine op_v' (j_assign (evo rfl)) ?_
   refine op_nil ?_
   refine a_nil 4 rfl ?_
   refine a_ret ?_
   exact ⟨[.sl _, .p _], .tup [.sl _, .p _], [], [], [], ⟨rfl, rfl, trivial⟩, rfl, rfl, trivial, rfl, rfl, ⟨rfl, rfl, rfl⟩⟩
  ·
   have h2r := h2
   try simp only [nq, nr] at h2
   refine a_skip ?_
   refine a_seq ?_
   have hmk : mOk m = true := by assumption
   have hob : objB m co = true := by assumption
   rw [mnO_ok hmk hob] at hn
   have hms := mOk_sz hmk
   refine a_region (by kernel_rfl) ?_
   refine op_n' (fun ver => j_alloc elt23 rfl) fun v6x3 => ?_
   refine op_nil ?_
   refine a_seq ?_
   refine a_draw mixed (by kernel_rfl) (by kernel_rfl) fun vf => ?_
   refine d_v' (j_fldp fld26f0 rfl rfl) ?_
   refine d_v' (j_load_box leaf23 rfl rfl rfl) ?_
   refine d_v' (j_fldp fld26f0 rfl rfl) ?_
   refine d_v' (j_load_box leaf23 rfl rfl rfl) ?_
   refine d_v' (j_len_map Try.underlying23 rfl) ?_
   refine d_n' (fun ver => j_make (n := m.1.length) slt23 elt3 rfl rfl (by decide) rfl rfl rfl rfl (by first | omega | (simp only [nr]; omega)) (by rw [maxLen_eq]; first | omega | (simp only [nr]; omega))) ?_
   refine d_v' (j_makeFunc (f := 91) (xs := [.tmp 2, .tmp 6, .tmp 3]) (caps := [.ptr 2 v2x1 0, .ptr 6 v6x3 0, .ptr 3 v3x2 0]) rfl) ?_
   refine d_v0' (j_call0 (v := .tup []) (hp1 := [(2, some (v2x1, .box 26 [.sl _, .sl _])), (6, some (v6x3, .box 23 [_])), (3, some (v3x2, .box 23 [.sl _])), (21, some ((vf 21), .row 3 1 _))]) [(2, v2x1), (6, v6x3), (3, v3x2), (21, (vf 21))] false [21, 2, 6, 3] ent85 (f_eachM 91 m co none hmk hn ent91 (fun c1 b1 hc1 hg => f_mn1 m co c1 b1 hmk hob hc1 hw hg)) ⟨.inl ⟨rfl, rfl⟩, .inl ⟨rfl, rfl⟩, .inl ⟨rfl, rfl⟩, trivial⟩ ⟨⟨rfl, rfl⟩, ⟨rfl, rfl⟩, ⟨rfl, rfl⟩, ⟨rfl, rfl⟩, trivial⟩ rfl rfl (fun h => by cases h) rfl (List.all_eq_true.1 rfl) (.inl rfl) rfl rfl) ?_
   refine d_nil (by kernel_rfl) (by kernel_rfl) ?_
   refine a_seq ?_
   refine a_draw mixed (by kernel_rfl) (by kernel_rfl) fun vf => ?_
   refine d_v' (j_load_box leaf23 rfl rfl rfl) ?_
   refine d_v' (j_load_box leaf23 rfl rfl rfl) ?_
   refine d_v' (j_nenil_n Try.underlying23 rfl) ?_
   refine d_v' (j_assign (evo rfl)) ?_
   refine d_v' (j_assign (evo rfl)) ?_
   refine d_nil (by kernel_rfl) (by kernel_rfl) ?_
   refine a_nil 4 rfl ?_
   refine a_ret ?_
   exact ⟨[.sl _, .p _], .tup [.sl _, .p _], [], [], [], ⟨rfl, rfl, trivial⟩, rfl, rfl, trivial, rfl, rfl, ⟨rfl, rfl, rfl⟩⟩


theorem f_mmS (m : Md) (co : List Int) (hw : wRS m.2 ≤ 1048576) (c2 : List Int) (hn : mnO m co = some c2) : Fn Try.prog 36 [.agg [.sl (m.1.map dI), .sl (m.2.map dR)], .sl (co.map dI)] [] (fun rr ii nn => rr = .tup [.sl (c2.map dI), .p (.bool true)] ∧ ii = [] ∧ nn = []) := by
 refine fn_of Try.func36 rfl (Nat.le_of_ble_eq_true rfl) fun w X g => ?_
 show AWp _ _ _ ⟨[(0, .agg [.sl (m.1.map dI), .sl (m.2.map dR)]), (1, .sl (co.map dI))], []⟩
 refine a_seq ?_
 refine a_region (by kernel_rfl) ?_
 refine op_n' (fun ver => j_boxa rfl) fun v2x1 => ?_
 refine op_n' (fun ver => j_box (evo rfl) rfl) fun v3x2 => ?_
 refine op_v' (j_assign (evo rfl)) ?_
 refine op_v' (j_assign (evo rfl)) ?_
 refine op_nil ?_
 refine a_seq ?_
 refine a_seq ?_
 refine a_region (by kernel_rfl) ?_
 refine op_v' (j_loada_box (ys := [.sl _, .sl _]) agg26 rfl rfl rfl (Nat.le_of_ble_eq_true rfl)) ?_
 refine op_v0' (j_call0 (v := .p _) (hp1 := []) [] false [] ent18 (f_mvImpl m) ⟨.inl ⟨rfl, rfl⟩, trivial⟩ trivial rfl rfl (fun h => by cases h) rfl (fun _ h => by cases h) (.inl rfl) rfl rfl) ?_
 refine op_v' (j_not rfl) ?_
 refine op_v' (j_move (evo rfl)) ?_
 refine op_split' 10 rfl (fun h1 => ?_) (fun h1 => ?_)
 ·
  have h1r := h1
  try simp only [nq, nr] at h1
  have h9 := (mnO_some hn).1; simp_all
 ·
  have h1r := h1
  try simp only [nq, nr] at h1
  refine op_v' (j_want rfl rfl h1r (j_loada_box (ys := [.sl _, .sl _]) agg26 rfl rfl rfl (Nat.le_of_ble_eq_true rfl))) ?_
  refine op_v' (j_want rfl rfl h1r (j_load_box leaf23 rfl rfl rfl)) ?_
  refine op_v0' (j_want rfl rfl h1r (j_call0 (v := .p _) (hp1 := []) [] false [] ent90 (f_isObj m co) ⟨.inl ⟨rfl, rfl⟩, .inl ⟨rfl, rfl⟩, trivial⟩ trivial rfl rfl (fun h => by cases h) rfl (fun _ h => by cases h) (.inl rfl) rfl rfl)) ?_
  refine op_v' (j_want rfl rfl h1r (j_not rfl)) ?_
  refine op_v' (j_pick_f rfl h1r (evo rfl)) ?_
  refine op_nil ?_
  refine a_cond rfl (fun h2 => ?_) (fun h2 => ?_)
  ·
   have h2r := h2
   try simp only [nq, nr] at h2
   have h9 := mnO_some hn; simp_all
  ·
   have h2r := h2
   try simp only [nq, nr] at h2
   refine a_skip ?_
   refine a_seq ?_
   have hc2 := mnO_some hn
   have hmk : mOk m = true := by assumption
   have hob : objB m co = true := by assumption
   rw [mnO_ok hmk hob] at hn
   have hms := mOk_sz hmk
   refine a_region (by kernel_rfl) ?_
   refine op_n' (fun ver => j_alloc elt23 rfl) fun v6x3 => ?_
   refine op_nil ?_
   refine a_seq ?_
   refine a_draw mixed (by kernel_rfl) (by kernel_rfl) fun vf => ?_
   refine d_v' (j_fldp fld26f0 rfl rfl) ?_
   refine d_v' (j_load_box leaf23 rfl rfl rfl) ?_
   refine d_v' (j_fldp fld26f0 rfl rfl) ?_
   refine d_v' (j_load_box leaf23 rfl rfl rfl) ?_
   refine d_v' (j_len_map Try.underlying23 rfl) ?_
   refine d_n' (fun ver => j_make (n := m.1.length) slt23 elt3 rfl rfl (by decide) rfl rfl rfl rfl (by first | omega | (simp only [nr]; omega)) (by rw [maxLen_eq]; first | omega | (simp only [nr]; omega))) ?_
   refine d_v' (j_makeFunc (f := 91) (xs := [.tmp 2, .tmp 6, .tmp 3]) (caps := [.ptr 2 v2x1 0, .ptr 6 v6x3 0, .ptr 3 v3x2 0]) rfl) ?_
   refine d_v0' (j_call0 (v := .tup []) (hp1 := [(2, some (v2x1, .box 26 [.sl _, .sl _])), (6, some (v6x3, .box 23 [_])), (3, some (v3x2, .box 23 [.sl _])), (21, some ((vf 21), .row 3 1 _))]) [(2, v2x1), (6, v6x3), (3, v3x2), (21, (vf 21))] false [21, 2, 6, 3] ent85 (f_eachM 91 m co (some c2) hmk hn ent91 (fun c1 b1 hc1 hg => f_mn1 m co c1 b1 hmk hob hc1 hw hg)) ⟨.inl ⟨rfl, rfl⟩, .inl ⟨rfl, rfl⟩, .inl ⟨rfl, rfl⟩, trivial⟩ ⟨⟨rfl, rfl⟩, ⟨rfl, rfl⟩, ⟨rfl, rfl⟩, ⟨rfl, rfl⟩, trivial⟩ rfl rfl (fun h => by cases h) rfl (List.all_eq_true.1 rfl) (.inl rfl) rfl rfl) ?_
   refine d_nil (by kernel_rfl) (by kernel_rfl) ?_
   refine a_seq ?_
   refine a_draw mixed (by kernel_rfl) (by kernel_rfl) fun vf => ?_
   refine d_v' (j_load_box leaf23 rfl rfl rfl) ?_
   refine d_v' (j_load_box leaf23 rfl rfl rfl) ?_
   refine d_v' (j_nenil_s Try.underlying23 rfl (cvl_ne hmk hc2.2.2.1)) ?_
   refine d_v' (j_assign (evo rfl)) ?_
   refine d_v' (j_assign (evo rfl)) ?_
   refine d_nil (by kernel_rfl) (by kernel_rfl) ?_
   refine a_ret ?_
   exact ⟨[_, .p _], .tup [_, .p _], [], [], [], ⟨rfl, rfl, trivial⟩, rfl, rfl, trivial, rfl, rfl, ⟨rfl, rfl, rfl⟩⟩


theorem f_mm (m : Md) (co : List Int) (hw : wRS m.2 ≤ 1048576) : Fn Try.prog 36 [.agg [.sl (m.1.map dI), .sl (m.2.map dR)], .sl (co.map dI)] [] (fun rr ii nn => rr = .tup [.sl (((mnO m co).getD []).map dI), .p (.bool (mnO m co).isSome)] ∧ ii = [] ∧ nn = []) := by
 cases h : mnO m co with
 | none => exact f_mmN m co hw h
 | some c2 => exact f_mmS m co hw c2 h

theorem f_mmSpec (m : Md) (co : List Int) (hw : wRS m.2 ≤ 1048576)  : Fn Try.prog 37 [.agg [.sl (m.1.map dI), .sl (m.2.map dR)], .sl (co.map dI)] [] (fun rr ii nn => rr = .tup [.sl (((mnO m co).getD []).map dI), .p (.bool (mnO m co).isSome)] ∧ ii = [] ∧ nn = []) := by
 refine fn_of Try.func37 rfl (Nat.le_of_ble_eq_true rfl) fun w X g => ?_
 show AWp _ _ _ ⟨[(0, .agg [.sl (m.1.map dI), .sl (m.2.map dR)]), (1, .sl (co.map dI))], []⟩
 refine a_seq ?_
 refine a_region (by kernel_rfl) ?_
 refine op_n' (fun ver => j_boxa rfl) fun v2x1 => ?_
 refine op_v' (j_assign (evo rfl)) ?_
 refine op_v' (j_assign (evo rfl)) ?_
 refine op_nil ?_
 refine a_seq ?_
 refine a_region (by kernel_rfl) ?_
 refine op_n' (fun ver => j_buildSlice (parts := []) (es := []) slt23 elt3 rfl rfl (by decide) (by decide) rfl rfl (by simp) rfl) fun v10x2 => ?_
 refine op_v' (j_assign (evo rfl)) ?_
 refine op_nil ?_
 refine a_freeze' 6 (noA _ _ _ _ _) rfl rfl ?_
 refine a_seq ?_
 refine a_region (by kernel_rfl) ?_
 refine op_v' (j_assign (evo rfl)) ?_
 refine op_nil ?_
 refine a_seq ?_
 refine a_seq ?_
 refine a_region (by kernel_rfl) ?_
 refine op_v' (j_loada_box (ys := [.sl _, .sl _]) agg26 rfl rfl rfl (Nat.le_of_ble_eq_true rfl)) ?_
 refine op_v' (j_move (evo rfl)) ?_
 refine op_v0' (j_call0 (v := .p _) (hp1 := []) [] false [] ent93 (f_l9Coefs m co) ⟨.inl ⟨rfl, rfl⟩, .inl ⟨rfl, rfl⟩, trivial⟩ trivial rfl rfl (fun h => by cases h) rfl (fun _ h => by cases h) (.inl rfl) rfl rfl) ?_
 refine op_v' (j_not rfl) ?_
 refine op_nil ?_
 refine a_cond rfl (fun h1 => ?_) (fun h1 => ?_)
 ·
  have h1r := h1
  try simp only [nq, nr, nl] at h1
  refine a_seq ?_
  refine a_region (by kernel_rfl) ?_
  refine op_v' (j_move (evo rfl)) ?_
  refine op_v' (j_assign (evo rfl)) ?_
  refine op_v' (j_assign (evo rfl)) ?_
  refine op_nil ?_
  refine a_ret ?_
  exact ⟨[.sl _, .p _], .tup [.sl _, .p _], [], [], [], ⟨rfl, rfl, trivial⟩, rfl, rfl, trivial, rfl, rfl, ⟨by rw [mnO_bad (by have h9 : (mOk m && objB m co) = false := (by assumption); rw [Bool.and_eq_false_iff] at h9; exact h9)]; rfl, rfl, rfl⟩⟩
 ·
  have h1r := h1
  try simp only [nq, nr, nl] at h1
  refine a_skip ?_
  refine a_seq ?_
  have hcp : (mOk m && objB m co) = true := by assumption
  have hmk := (Bool.and_eq_true_iff.1 hcp).1
  have hob := (Bool.and_eq_true_iff.1 hcp).2
  have hms := mOk_sz hmk
  have hmo := mnO_ok hmk hob
  refine a_region (by kernel_rfl) ?_
  refine op_v' (j_fldp fld26f0 rfl rfl) ?_
  refine op_v' (j_load_box leaf23 rfl rfl rfl) ?_
  refine op_v' (j_len_map Try.underlying23 rfl) ?_
  refine op_n' (fun ver => j_make (n := m.1.length) slt23 elt3 rfl rfl (by decide) rfl rfl rfl rfl (by first | omega | (simp only [nr, nl]; omega)) (by rw [maxLen_eq]; first | omega | (simp only [nr, nl]; omega))) fun v19x3 => ?_
  refine op_v' (j_assign (evo rfl)) ?_
  refine op_nil ?_
  refine a_seq ?_
  refine a_seq ?_
  refine a_row 19 (es' := (List.replicate m.1.length (0 : Int)).map dI) rfl (by rw [List.map_replicate]; rfl) ?_
  refine a_freeze' 8 (noA _ _ _ _ _) rfl rfl ?_
  refine a_region (by kernel_rfl) ?_
  refine op_v' (j_assign (evo rfl)) ?_
  refine op_nil ?_
  refine a_block ?_
  refine a_loopF' (ι := List Int × Option (List Int) × Bool) (fun x => cvL m.1 x.1 = true ∧ gdO m x.2.1 ∧ (x.2.2 = true → mnF m co (prS m.1 - vlS m.1 x.1) x.1 x.2.1 = mnS m co) ∧ (x.2.2 = false → x.2.1 = mnS m co)) (fun x r => (8, .sl (x.1.map dI)) :: (6, .sl ((x.2.1.getD []).map dI)) :: (7, .p (.bool (x.2.1.isSome))) :: (9, .p (.bool (x.2.2))) :: r) (fun x r => r) (fun x => (if x.2.2 = true then prS m.1 - vlS m.1 x.1 else 0)) (fun _ _ => rfl) (fun _ _ => rfl) ((List.replicate m.1.length (0 : Int)), none, true) (by first | exact ⟨zero_cv hmk, (fun c q => by cases q), (fun _ => by rw [vl_zero]; rfl), (fun q => by cases q)⟩ | (dsimp only; exact ⟨zero_cv hmk, (fun c q => by cases q), (fun _ => by rw [vl_zero]; rfl), (fun q => by cases q)⟩)) ⟨⟨rfl, rfl⟩, ⟨rfl, rfl, rfl, rfl, trivial⟩, trivial, ⟨rfl, rfl⟩, ⟨rfl, rfl⟩⟩ ?_
  rintro ⟨c, b, mo⟩ hk; dsimp only at hk ⊢
  refine a_seq ?_
  refine a_seq ?_
  refine a_region (by kernel_rfl) ?_
  refine op_v' (j_move (evo rfl)) ?_
  refine op_nil ?_
  refine a_cond rfl (fun h2 => ?_) (fun h2 => ?_)
  ·
   have h2r := h2
   try simp only [nq, nr, nl] at h2
   have hmo2 : mo = true := by assumption
   subst hmo2
   have hmn := mn_next hk.1 (hk.2.2.1 rfl)
   refine a_skip ?_
   refine a_block ?_
   refine a_seq ?_
   refine a_seq ?_
   have hcv := cv_at hk.1
   refine a_region (by kernel_rfl) ?_
   refine op_v' (j_loada_box (ys := [.sl _, .sl _]) agg26 rfl rfl rfl (Nat.le_of_ble_eq_true rfl)) ?_
   refine op_v' (j_move (evo rfl)) ?_
   refine op_v0' (j_call0 (v := .p _) (hp1 := []) [] false [] ent94 (f_l6Solves m c hmk hk.1 hw) ⟨.inl ⟨rfl, rfl⟩, .inl ⟨rfl, rfl⟩, trivial⟩ trivial rfl rfl (fun h => by cases h) rfl (fun _ h => by cases h) (.inl rfl) rfl rfl) ?_
   refine op_v' (j_move (evo rfl)) ?_
   refine op_split' 24 rfl (fun h3 => ?_) (fun h3 => ?_)
   ·
    have h3r := h3
    try simp only [nq, nr, nl] at h3
    refine op_v' (j_want rfl rfl h3r (j_move (evo rfl))) ?_
    refine op_v' (j_want rfl rfl h3r (j_not rfl)) ?_
    refine op_v' (j_want rfl rfl h3r (j_move (evo rfl))) ?_
    refine op_split' 27 rfl (fun h4 => ?_) (fun h4 => ?_)
    ·
     have h4r := h4
     try simp only [nq, nr, nl] at h4
     refine op_v' (j_unwantV rfl rfl h4r) ?_
     refine op_v' (j_unwantV rfl rfl h4r) ?_
     refine op_v' (j_unwantV rfl rfl h4r) ?_
     refine op_v' (j_unwantV rfl rfl h4r) ?_
     refine op_v' (j_unwantV rfl rfl h4r) ?_
     refine op_v' (j_unwantV rfl rfl h4r) ?_
     refine op_v' (j_unwantV rfl rfl h4r) ?_
     refine op_v' (j_want rfl rfl h3r (j_pick_t rfl h4r (evo rfl))) ?_
     refine op_v' (j_pick_t rfl h3r (evo rfl)) ?_
     refine op_nil ?_
     refine a_tt rfl ?_
     refine a_seq ?_
     refine a_region (by kernel_rfl) ?_
     refine op_n' (fun ver => j_buildSlice (parts := []) (es := []) slt23 elt3 rfl rfl (by decide) (by decide) rfl rfl (by simp) rfl) fun v37x4 => ?_
     refine op_v' (j_move (evo rfl)) ?_
     refine op_n' (fun ver => j_append_sl slt23 elt3 rfl rfl rfl rfl (by simp [dI]) lf_ints (by rw [maxLen_eq]; first | omega | (simp only [nr, nl]; omega)) (by first | omega | (simp only [nr, nl]; omega))) fun v37x5 => ?_
     refine op_v' (j_assign (evo rfl)) ?_
     refine op_nil ?_
     refine a_freeze' 6 (noA _ _ _ _ _) rfl rfl ?_
     refine a_region (by kernel_rfl) ?_
     refine op_v' (j_assign (evo rfl)) ?_
     refine op_nil ?_
     refine a_region (by kernel_rfl) ?_
     refine op_v' (j_loada_box (ys := [.sl _, .sl _]) agg26 rfl rfl rfl (Nat.le_of_ble_eq_true rfl)) ?_
     refine op_v' (j_move (evo rfl)) ?_
     refine op_n1' (fun ver => j_call1 (v := .tup [.own 43 ver, .p _]) (hp1 := [(43, some (ver, .row 3 1 _))]) [] false [] ent96 (f_l6Next m c hmk hcv.1 (fun i hi => (hcv.2 i hi).1)) ⟨.inl ⟨rfl, rfl⟩, .inl ⟨rfl, rfl⟩, trivial⟩ trivial rfl rfl rfl (fun h => by cases h) rfl (List.all_eq_true.1 rfl) (.inl rfl) rfl rfl) fun v43x6 => ?_
     refine op_v' (j_move (evo rfl)) ?_
     refine op_v' (j_extract rfl rfl) ?_
     refine op_freezeK 44 trivial rfl rfl rfl ?_
     refine op_v' (j_extract rfl rfl) ?_
     refine op_v' (j_assign (evo rfl)) ?_
     refine op_v' (j_assign (evo rfl)) ?_
     refine op_nil ?_
     have hbn : b = none := by cases b with | none => rfl | some e => simp_all
     have hst : stepM m co c b = some c := by rw [hbn]; exact stM_n (by assumption)
     exact ⟨((nxt m.1 c c.length).1, stepM m co c b, (nxt m.1 c c.length).2), (by first | exact ⟨hmn.1, gd_step hk.1 hk.2.1, (fun q => by have h9 := hmn.2.1; rw [if_pos q] at h9; exact h9), (fun q => by have h9 := hmn.2.1; rw [if_neg (by rw [q]; decide)] at h9; exact h9)⟩ | (dsimp only; exact ⟨hmn.1, gd_step hk.1 hk.2.1, (fun q => by have h9 := hmn.2.1; rw [if_pos q] at h9; exact h9), (fun q => by have h9 := hmn.2.1; rw [if_neg (by rw [q]; decide)] at h9; exact h9)⟩)), ⟨⟨rfl, rfl⟩, ⟨rfl, slEq (by rw [hst]; rfl), boolEq (by rw [hst]; rfl), rfl, trivial⟩, trivial, ⟨rfl, rfl⟩, ⟨rfl, rfl⟩⟩, (by first | exact (by rw [if_pos (show (true = true) from rfl)]; exact hmn.2.2) | (dsimp only; exact (by rw [if_pos (show (true = true) from rfl)]; exact hmn.2.2)))⟩
    ·
     have h4r := h4
     try simp only [nq, nr, nl] at h4
     refine op_v' (j_want rfl rfl h4r (j_move (evo rfl))) ?_
     refine op_v' (j_want rfl rfl h4r (j_move (evo rfl))) ?_
     refine op_v0' (j_want rfl rfl h4r (j_call0 (v := .p _) (hp1 := []) [] false [] ent95 (f_l9Value m co c hmk hob hk.1) ⟨.inl ⟨rfl, rfl⟩, .inl ⟨rfl, rfl⟩, trivial⟩ trivial rfl rfl (fun h => by cases h) rfl (fun _ h => by cases h) (.inl rfl) rfl rfl)) ?_
     refine op_v' (j_want rfl rfl h4r (j_move (evo rfl))) ?_
     refine op_v' (j_want rfl rfl h4r (j_move (evo rfl))) ?_
     have hgb : cvL m.1 (b.getD []) = true := by obtain ⟨e, he⟩ := Option.isSome_iff_exists.1 (show b.isSome = true by assumption); rw [he]; exact (hk.2.1 e he).1
     refine op_v0' (j_want rfl rfl h4r (j_call0 (v := .p _) (hp1 := []) [] false [] ent95 (f_l9Value m co (b.getD []) hmk hob hgb) ⟨.inl ⟨rfl, rfl⟩, .inl ⟨rfl, rfl⟩, trivial⟩ trivial rfl rfl (fun h => by cases h) rfl (fun _ h => by cases h) (.inl rfl) rfl rfl)) ?_
     refine op_v' (j_want rfl rfl h4r (j_lt rfl rfl)) ?_
     refine op_v' (j_want rfl rfl h3r (j_pick_f rfl h4r (evo rfl))) ?_
     refine op_v' (j_pick_t rfl h3r (evo rfl)) ?_
     refine op_nil ?_
     refine a_cond rfl (fun h5 => ?_) (fun h5 => ?_)
     ·
      have h5r := h5
      try simp only [nq, nr, nl] at h5
      refine a_seq ?_
      refine a_region (by kernel_rfl) ?_
      refine op_n' (fun ver => j_buildSlice (parts := []) (es := []) slt23 elt3 rfl rfl (by decide) (by decide) rfl rfl (by simp) rfl) fun v37x7 => ?_
      refine op_v' (j_move (evo rfl)) ?_
      refine op_n' (fun ver => j_append_sl slt23 elt3 rfl rfl rfl rfl (by simp [dI]) lf_ints (by rw [maxLen_eq]; first | omega | (simp only [nr, nl]; omega)) (by first | omega | (simp only [nr, nl]; omega))) fun v37x8 => ?_
      refine op_v' (j_assign (evo rfl)) ?_
      refine op_nil ?_
      refine a_freeze' 6 (noA _ _ _ _ _) rfl rfl ?_
      refine a_region (by kernel_rfl) ?_
      refine op_v' (j_assign (evo rfl)) ?_
      refine op_nil ?_
      refine a_region (by kernel_rfl) ?_
      refine op_v' (j_loada_box (ys := [.sl _, .sl _]) agg26 rfl rfl rfl (Nat.le_of_ble_eq_true rfl)) ?_
      refine op_v' (j_move (evo rfl)) ?_
      refine op_n1' (fun ver => j_call1 (v := .tup [.own 43 ver, .p _]) (hp1 := [(43, some (ver, .row 3 1 _))]) [] false [] ent96 (f_l6Next m c hmk hcv.1 (fun i hi => (hcv.2 i hi).1)) ⟨.inl ⟨rfl, rfl⟩, .inl ⟨rfl, rfl⟩, trivial⟩ trivial rfl rfl rfl (fun h => by cases h) rfl (List.all_eq_true.1 rfl) (.inl rfl) rfl rfl) fun v43x9 => ?_
      refine op_v' (j_move (evo rfl)) ?_
      refine op_v' (j_extract rfl rfl) ?_
      refine op_freezeK 44 trivial rfl rfl rfl ?_
      refine op_v' (j_extract rfl rfl) ?_
      refine op_v' (j_assign (evo rfl)) ?_
      refine op_v' (j_assign (evo rfl)) ?_
      refine op_nil ?_
      obtain ⟨e, he⟩ : ∃ e, b = some e := Option.isSome_iff_exists.1 (by assumption)
      have hst : stepM m co c b = some c := by rw [he]; exact stM_y (by assumption) (by have h9 : valO co c < valO co (b.getD []) := (by assumption); rw [he] at h9; exact h9)
      exact ⟨((nxt m.1 c c.length).1, stepM m co c b, (nxt m.1 c c.length).2), (by first | exact ⟨hmn.1, gd_step hk.1 hk.2.1, (fun q => by have h9 := hmn.2.1; rw [if_pos q] at h9; exact h9), (fun q => by have h9 := hmn.2.1; rw [if_neg (by rw [q]; decide)] at h9; exact h9)⟩ | (dsimp only; exact ⟨hmn.1, gd_step hk.1 hk.2.1, (fun q => by have h9 := hmn.2.1; rw [if_pos q] at h9; exact h9), (fun q => by have h9 := hmn.2.1; rw [if_neg (by rw [q]; decide)] at h9; exact h9)⟩)), ⟨⟨rfl, rfl⟩, ⟨rfl, slEq (by rw [hst]; rfl), boolEq (by rw [hst]; rfl), rfl, trivial⟩, trivial, ⟨rfl, rfl⟩, ⟨rfl, rfl⟩⟩, (by first | exact (by rw [if_pos (show (true = true) from rfl)]; exact hmn.2.2) | (dsimp only; exact (by rw [if_pos (show (true = true) from rfl)]; exact hmn.2.2)))⟩
     ·
      have h5r := h5
      try simp only [nq, nr, nl] at h5
      refine a_skip ?_
      refine a_region (by kernel_rfl) ?_
      refine op_v' (j_loada_box (ys := [.sl _, .sl _]) agg26 rfl rfl rfl (Nat.le_of_ble_eq_true rfl)) ?_
      refine op_v' (j_move (evo rfl)) ?_
      refine op_n1' (fun ver => j_call1 (v := .tup [.own 43 ver, .p _]) (hp1 := [(43, some (ver, .row 3 1 _))]) [] false [] ent96 (f_l6Next m c hmk hcv.1 (fun i hi => (hcv.2 i hi).1)) ⟨.inl ⟨rfl, rfl⟩, .inl ⟨rfl, rfl⟩, trivial⟩ trivial rfl rfl rfl (fun h => by cases h) rfl (List.all_eq_true.1 rfl) (.inl rfl) rfl rfl) fun v43x10 => ?_
      refine op_v' (j_move (evo rfl)) ?_
      refine op_v' (j_extract rfl rfl) ?_
      refine op_freezeK 44 trivial rfl rfl rfl ?_
      refine op_v' (j_extract rfl rfl) ?_
      refine op_v' (j_assign (evo rfl)) ?_
      refine op_v' (j_assign (evo rfl)) ?_
      refine op_nil ?_
      obtain ⟨e, he⟩ : ∃ e, b = some e := Option.isSome_iff_exists.1 (by assumption)
      have hst : stepM m co c b = b := by rw [he]; exact stM_k (by have h9 : ¬ valO co c < valO co (b.getD []) := (by assumption); rw [he] at h9; exact h9)
      exact ⟨((nxt m.1 c c.length).1, stepM m co c b, (nxt m.1 c c.length).2), (by first | exact ⟨hmn.1, gd_step hk.1 hk.2.1, (fun q => by have h9 := hmn.2.1; rw [if_pos q] at h9; exact h9), (fun q => by have h9 := hmn.2.1; rw [if_neg (by rw [q]; decide)] at h9; exact h9)⟩ | (dsimp only; exact ⟨hmn.1, gd_step hk.1 hk.2.1, (fun q => by have h9 := hmn.2.1; rw [if_pos q] at h9; exact h9), (fun q => by have h9 := hmn.2.1; rw [if_neg (by rw [q]; decide)] at h9; exact h9)⟩)), ⟨⟨rfl, rfl⟩, ⟨rfl, slEq (by rw [hst]), boolEq (by rw [hst]), rfl, trivial⟩, trivial, ⟨rfl, rfl⟩, ⟨rfl, rfl⟩⟩, (by first | exact (by rw [if_pos (show (true = true) from rfl)]; exact hmn.2.2) | (dsimp only; exact (by rw [if_pos (show (true = true) from rfl)]; exact hmn.2.2)))⟩
   ·
    have h3r := h3
    try simp only [nq, nr, nl] at h3
    refine op_v' (j_unwantV rfl rfl h3r) ?_
    refine op_v' (j_unwantV rfl rfl h3r) ?_
    refine op_v' (j_unwantV rfl rfl h3r) ?_
    refine op_v' (j_unwantU rfl rfl) ?_
    refine op_v' (j_unwantU rfl rfl) ?_
    refine op_v' (j_unwantU rfl rfl) ?_
    refine op_v' (j_unwantU rfl rfl) ?_
    refine op_v' (j_unwantU rfl rfl) ?_
    refine op_v' (j_unwantU rfl rfl) ?_
    refine op_v' (j_unwantU rfl rfl) ?_
    refine op_v' (j_unwantV rfl rfl h3r) ?_
    refine op_v' (j_pick_f rfl h3r (evo rfl)) ?_
    refine op_nil ?_
    refine a_ff rfl ?_
    refine a_skip ?_
    refine a_region (by kernel_rfl) ?_
    refine op_v' (j_loada_box (ys := [.sl _, .sl _]) agg26 rfl rfl rfl (Nat.le_of_ble_eq_true rfl)) ?_
    refine op_v' (j_move (evo rfl)) ?_
    refine op_n1' (fun ver => j_call1 (v := .tup [.own 43 ver, .p _]) (hp1 := [(43, some (ver, .row 3 1 _))]) [] false [] ent96 (f_l6Next m c hmk hcv.1 (fun i hi => (hcv.2 i hi).1)) ⟨.inl ⟨rfl, rfl⟩, .inl ⟨rfl, rfl⟩, trivial⟩ trivial rfl rfl rfl (fun h => by cases h) rfl (List.all_eq_true.1 rfl) (.inl rfl) rfl rfl) fun v43x11 => ?_
    refine op_v' (j_move (evo rfl)) ?_
    refine op_v' (j_extract rfl rfl) ?_
    refine op_freezeK 44 trivial rfl rfl rfl ?_
    refine op_v' (j_extract rfl rfl) ?_
    refine op_v' (j_assign (evo rfl)) ?_
    refine op_v' (j_assign (evo rfl)) ?_
    refine op_nil ?_
    have hst : stepM m co c b = b := stM_0 (by assumption)
    exact ⟨((nxt m.1 c c.length).1, stepM m co c b, (nxt m.1 c c.length).2), (by first | exact ⟨hmn.1, gd_step hk.1 hk.2.1, (fun q => by have h9 := hmn.2.1; rw [if_pos q] at h9; exact h9), (fun q => by have h9 := hmn.2.1; rw [if_neg (by rw [q]; decide)] at h9; exact h9)⟩ | (dsimp only; exact ⟨hmn.1, gd_step hk.1 hk.2.1, (fun q => by have h9 := hmn.2.1; rw [if_pos q] at h9; exact h9), (fun q => by have h9 := hmn.2.1; rw [if_neg (by rw [q]; decide)] at h9; exact h9)⟩)), ⟨⟨rfl, rfl⟩, ⟨rfl, slEq (by rw [hst]), boolEq (by rw [hst]), rfl, trivial⟩, trivial, ⟨rfl, rfl⟩, ⟨rfl, rfl⟩⟩, (by first | exact (by rw [if_pos (show (true = true) from rfl)]; exact hmn.2.2) | (dsimp only; exact (by rw [if_pos (show (true = true) from rfl)]; exact hmn.2.2)))⟩
  ·
   have h2r := h2
   try simp only [nq, nr, nl] at h2
   refine a_exit ?_
   refine a_seq ?_
   refine a_region (by kernel_rfl) ?_
   refine op_v' (j_move (evo rfl)) ?_
   refine op_v' (j_move (evo rfl)) ?_
   refine op_v' (j_assign (evo rfl)) ?_
   refine op_v' (j_assign (evo rfl)) ?_
   refine op_nil ?_
   refine a_ret ?_
   exact ⟨[.sl _, .p _], .tup [.sl _, .p _], [], [], [], ⟨rfl, rfl, trivial⟩, rfl, rfl, trivial, rfl, rfl, ⟨by rw [hmo, ← hk.2.2.2 (by assumption)], rfl, rfl⟩⟩


theorem f_lawBF (b : List Int) (hb : ∀ a ∈ b, 0 ≤ a ∧ a ≤ 255) : Fn Try.prog 10 [.sl (b.map dU)] [] (fun rr ii nn => rr = .p (.bool true) ∧ ii = [] ∧ nn = []) := by
 refine fn_of Try.func10 rfl (Nat.le_of_ble_eq_true rfl) fun w X g => ?_
 show AWp _ _ _ ⟨[(0, .sl (b.map dU))], []⟩
 refine a_seq ?_
 refine a_region (by kernel_rfl) ?_
 refine op_v' (j_assign (evo rfl)) ?_
 refine op_nil ?_
 refine a_seq ?_
 refine a_seq ?_
 refine a_region (by kernel_rfl) ?_
 refine op_v' (j_move (evo rfl)) ?_
 refine op_v' (j_len_map Try.underlying22 rfl) ?_
 refine op_v' (j_gt rfl rfl) ?_
 refine op_nil ?_
 refine a_cond rfl (fun h1 => ?_) (fun h1 => ?_)
 ·
  have h1r := h1
  try simp only [nq, nr] at h1
  refine a_seq ?_
  refine a_region (by kernel_rfl) ?_
  refine op_v' (j_assign (evo rfl)) ?_
  refine op_nil ?_
  refine a_ret ?_
  exact ⟨[.p _], .p _, [], [], [], ⟨rfl, trivial⟩, rfl, rfl, trivial, rfl, rfl, ⟨boolEq (by first | (simp; done) | assumption | exact decide_eq_true hbf.2.2.2.2.2 | (exfalso; simp_all; done)), rfl, rfl⟩⟩
 ·
  have h1r := h1
  try simp only [nq, nr] at h1
  refine a_skip ?_
  refine a_seq ?_
  refine a_region (by kernel_rfl) ?_
  refine op_v' (j_move (evo rfl)) ?_
  refine op_callE (v := fun x => .tup [.agg [.sl _, .sl _], .sl _]) (hp1 := fun x => []) [] false ent35 (f_dMM b hb) ⟨.inl ⟨rfl, rfl⟩, trivial⟩ trivial rfl (fun _ => rfl) (fun _ => rfl) (.inl rfl) (fun _ => rfl) (fun _ => rfl) ?_
  rintro ⟨m, co⟩ ⟨hw, hl⟩
  try dsimp only at hw
  try dsimp only at hl
  have hwr : wRS m.2 ≤ 1048576 := by unfold wM at hw; omega
  dsimp only [List.cons_append, List.nil_append]
  refine op_v' (j_move (evo rfl)) ?_
  refine op_v' (j_extract rfl rfl) ?_
  refine op_v' (j_extract rfl rfl) ?_
  refine op_n' (fun ver => j_alloc elt26 rfl) fun v3x1 => ?_
  refine op_s' (j_storea_box0 agg26 rfl rfl rfl rfl rfl rfl) ?_
  refine op_v' (j_assign (evo rfl)) ?_
  refine op_nil ?_
  refine a_seq ?_
  refine a_region (by kernel_rfl) ?_
  refine op_v' (j_loada_box (ys := [.sl _, .sl _]) agg26 rfl rfl rfl (Nat.le_of_ble_eq_true rfl)) ?_
  refine op_v' (j_move (evo rfl)) ?_
  refine op_v0' (j_call0 (v := .tup [.sl _, .p _]) (hp1 := []) [] false [] ent36 (f_mm m co hwr) ⟨.inl ⟨rfl, rfl⟩, .inl ⟨rfl, rfl⟩, trivial⟩ trivial rfl rfl (fun h => by cases h) rfl (fun _ h => by cases h) (.inl rfl) rfl rfl) ?_
  refine op_v' (j_move (evo rfl)) ?_
  refine op_v' (j_extract rfl rfl) ?_
  refine op_v' (j_extract rfl rfl) ?_
  refine op_v' (j_assign (evo rfl)) ?_
  refine op_v' (j_assign (evo rfl)) ?_
  refine op_nil ?_
  refine a_seq ?_
  refine a_region (by kernel_rfl) ?_
  refine op_v' (j_loada_box (ys := [.sl _, .sl _]) agg26 rfl rfl rfl (Nat.le_of_ble_eq_true rfl)) ?_
  refine op_v' (j_move (evo rfl)) ?_
  refine op_v0' (j_call0 (v := .tup [.sl _, .p _]) (hp1 := []) [] false [] ent37 (f_mmSpec m co hwr) ⟨.inl ⟨rfl, rfl⟩, .inl ⟨rfl, rfl⟩, trivial⟩ trivial rfl rfl (fun h => by cases h) rfl (fun _ h => by cases h) (.inl rfl) rfl rfl) ?_
  refine op_v' (j_move (evo rfl)) ?_
  refine op_v' (j_extract rfl rfl) ?_
  refine op_v' (j_extract rfl rfl) ?_
  refine op_v' (j_assign (evo rfl)) ?_
  refine op_v' (j_assign (evo rfl)) ?_
  refine op_nil ?_
  refine a_seq ?_
  refine a_seq ?_
  refine a_region (by kernel_rfl) ?_
  refine op_v' (j_move (evo rfl)) ?_
  refine op_v' (j_move (evo rfl)) ?_
  refine op_v' (j_neb Try.underlying4 rfl rfl) ?_
  refine op_v' (j_move (evo rfl)) ?_
  refine op_split' 40 rfl (fun h2 => ?_) (fun h2 => ?_)
  ·
   have h2r := h2
   try simp only [nq, nr] at h2
   refine op_v' (j_unwantV rfl rfl h2r) ?_
   refine op_v' (j_unwantV rfl rfl h2r) ?_
   refine op_v' (j_unwantV rfl rfl h2r) ?_
   refine op_v' (j_unwantV rfl rfl h2r) ?_
   refine op_v' (j_pick_t rfl h2r (evo rfl)) ?_
   refine op_v' (j_move (evo rfl)) ?_
   refine op_v' (j_unwantV rfl rfl rfl) ?_
   refine op_v' (j_unwantV rfl rfl rfl) ?_
   refine op_v' (j_pick_t rfl rfl (evo rfl)) ?_
   refine op_nil ?_
   refine a_tt rfl ?_
   refine a_seq ?_
   refine a_region (by kernel_rfl) ?_
   refine op_v' (j_move (evo rfl)) ?_
   refine op_v' (j_move (evo rfl)) ?_
   refine op_v' (j_eqb Try.underlying4 rfl rfl) ?_
   refine op_v' (j_move (evo rfl)) ?_
   refine op_split' 53 rfl (fun h3 => ?_) (fun h3 => ?_)
   ·
    have h3r := h3
    try simp only [nq, nr] at h3
    refine op_v' (j_want rfl rfl h3r (j_move (evo rfl))) ?_
    refine op_v' (j_want rfl rfl h3r (j_move (evo rfl))) ?_
    refine op_v0' (j_want rfl rfl h3r (j_call0 (v := .p _) (hp1 := []) [] false [] ent24 (f_cpInts ((mnO m co).getD []) ((mnO m co).getD [])) ⟨.inl ⟨rfl, rfl⟩, .inl ⟨rfl, rfl⟩, trivial⟩ trivial rfl rfl (fun h => by cases h) rfl (fun _ h => by cases h) (.inl rfl) rfl rfl)) ?_
    refine op_v' (j_pick_t rfl h3r (evo rfl)) ?_
    refine op_v' (j_assign (evo rfl)) ?_
    refine op_nil ?_
    refine a_ret ?_
    exact ⟨[.p _], .p _, [], [], [], ⟨rfl, trivial⟩, rfl, rfl, trivial, rfl, rfl, ⟨boolEq (by first | (simp; done) | assumption | exact decide_eq_true hbf.2.2.2.2.2 | (exfalso; simp_all; done)), rfl, rfl⟩⟩
   ·
    have h3r := h3
    try simp only [nq, nr] at h3
    exact absurd h3r (by simp)
  ·
   have h2r := h2
   try simp only [nq, nr] at h2
   refine op_v' (j_want rfl rfl h2r (j_move (evo rfl))) ?_
   refine op_v' (j_want rfl rfl h2r (j_move (evo rfl))) ?_
   refine op_v0' (j_want rfl rfl h2r (j_call0 (v := .p _) (hp1 := []) [] false [] ent24 (f_cpInts ((mnO m co).getD []) ((mnO m co).getD [])) ⟨.inl ⟨rfl, rfl⟩, .inl ⟨rfl, rfl⟩, trivial⟩ trivial rfl rfl (fun h => by cases h) rfl (fun _ h => by cases h) (.inl rfl) rfl rfl)) ?_
   refine op_v' (j_want rfl rfl h2r (j_not rfl)) ?_
   refine op_v' (j_pick_f rfl h2r (evo rfl)) ?_
   refine op_v' (j_move (evo rfl)) ?_
   refine op_split' 46 rfl (fun h4 => ?_) (fun h4 => ?_)
   ·
    have h4r := h4
    try simp only [nq, nr] at h4
    refine op_v' (j_unwantV rfl rfl h4r) ?_
    refine op_v' (j_unwantV rfl rfl h4r) ?_
    refine op_v' (j_pick_t rfl h4r (evo rfl)) ?_
    refine op_nil ?_
    refine a_tt rfl ?_
    refine a_seq ?_
    refine a_region (by kernel_rfl) ?_
    refine op_v' (j_move (evo rfl)) ?_
    refine op_v' (j_move (evo rfl)) ?_
    refine op_v' (j_eqb Try.underlying4 rfl rfl) ?_
    refine op_v' (j_move (evo rfl)) ?_
    refine op_split' 53 rfl (fun h5 => ?_) (fun h5 => ?_)
    ·
     have h5r := h5
     try simp only [nq, nr] at h5
     refine op_v' (j_want rfl rfl h5r (j_move (evo rfl))) ?_
     refine op_v' (j_want rfl rfl h5r (j_move (evo rfl))) ?_
     refine op_v0' (j_want rfl rfl h5r (j_call0 (v := .p _) (hp1 := []) [] false [] ent24 (f_cpInts ((mnO m co).getD []) ((mnO m co).getD [])) ⟨.inl ⟨rfl, rfl⟩, .inl ⟨rfl, rfl⟩, trivial⟩ trivial rfl rfl (fun h => by cases h) rfl (fun _ h => by cases h) (.inl rfl) rfl rfl)) ?_
     refine op_v' (j_pick_t rfl h5r (evo rfl)) ?_
     refine op_v' (j_assign (evo rfl)) ?_
     refine op_nil ?_
     refine a_ret ?_
     exact ⟨[.p _], .p _, [], [], [], ⟨rfl, trivial⟩, rfl, rfl, trivial, rfl, rfl, ⟨boolEq (by first | (simp; done) | assumption | exact decide_eq_true hbf.2.2.2.2.2 | (exfalso; simp_all; done)), rfl, rfl⟩⟩
    ·
     have h5r := h5
     try simp only [nq, nr] at h5
     exact absurd h5r (by simp)
   ·
    have h4r := h4
    try simp only [nq, nr] at h4
    refine op_v' (j_want rfl rfl h4r (j_move (evo rfl))) ?_
    refine op_v' (j_want rfl rfl h4r (j_not rfl)) ?_
    refine op_v' (j_pick_f rfl h4r (evo rfl)) ?_
    refine op_nil ?_
    refine a_cond rfl (fun h6 => ?_) (fun h6 => ?_)
    ·
     have h6r := h6
     try simp only [nq, nr] at h6
     refine a_seq ?_
     refine a_region (by kernel_rfl) ?_
     refine op_v' (j_move (evo rfl)) ?_
     refine op_v' (j_move (evo rfl)) ?_
     refine op_v' (j_eqb Try.underlying4 rfl rfl) ?_
     refine op_v' (j_move (evo rfl)) ?_
     refine op_split' 53 rfl (fun h7 => ?_) (fun h7 => ?_)
     ·
      have h7r := h7
      try simp only [nq, nr] at h7
      refine op_v' (j_want rfl rfl h7r (j_move (evo rfl))) ?_
      refine op_v' (j_want rfl rfl h7r (j_move (evo rfl))) ?_
      refine op_v0' (j_want rfl rfl h7r (j_call0 (v := .p _) (hp1 := []) [] false [] ent24 (f_cpInts ((mnO m co).getD []) ((mnO m co).getD [])) ⟨.inl ⟨rfl, rfl⟩, .inl ⟨rfl, rfl⟩, trivial⟩ trivial rfl rfl (fun h => by cases h) rfl (fun _ h => by cases h) (.inl rfl) rfl rfl)) ?_
      refine op_v' (j_pick_t rfl h7r (evo rfl)) ?_
      refine op_v' (j_assign (evo rfl)) ?_
      refine op_nil ?_
      refine a_ret ?_
      exact ⟨[.p _], .p _, [], [], [], ⟨rfl, trivial⟩, rfl, rfl, trivial, rfl, rfl, ⟨boolEq (by first | (simp; done) | assumption | exact decide_eq_true hbf.2.2.2.2.2 | (exfalso; simp_all; done)), rfl, rfl⟩⟩
     ·
      have h7r := h7
      try simp only [nq, nr] at h7
      exact absurd h7r (by simp)
    ·
     have h6r := h6
     try simp only [nq, nr] at h6
     refine a_skip ?_
     refine a_seq ?_
     obtain ⟨c, hcb⟩ := Option.isSome_iff_exists.1 (show (mnO m co).isSome = true by assumption)
     have hbf := bf_law hcb
     have hgc : ((mnO m co).getD []) = c := by rw [hcb]; rfl
     refine a_draw mixed (by kernel_rfl) (by kernel_rfl) fun vf => ?_
     refine d_v' (j_loada_box (ys := [.sl _, .sl _]) agg26 rfl rfl rfl (Nat.le_of_ble_eq_true rfl)) ?_
     refine d_v' (j_loada_box (ys := [.sl _, .sl _]) agg26 rfl rfl rfl (Nat.le_of_ble_eq_true rfl)) ?_
     refine d_n1' (fun ver => j_call1 (v := .own 61 ver) (hp1 := [(61, some (ver, .deep (.mk 34 1 [(0, (.mk 4 1 []))]) _ none))]) [] false [] ent15 (f_fdImpl m) ⟨.inl ⟨rfl, rfl⟩, trivial⟩ trivial rfl rfl rfl (fun h => by cases h) rfl (List.all_eq_true.1 rfl) (.inl rfl) rfl rfl) ?_
     refine d_n1' (fun ver => j_call1 (v := .tup [.own 62 ver, .p _]) (hp1 := [(62, some (ver, .deep (.mk 34 1 [(0, (.mk 4 1 []))]) _ none))]) [] true [61] ent32 (f_fmImpl m (fullD m) hwr) ⟨.inl ⟨rfl, rfl⟩, .inr ⟨rfl, view_ownD rfl rfl, rfl⟩, trivial⟩ trivial rfl rfl rfl (fun _ => rfl) rfl (List.all_eq_true.1 rfl) (.inr ⟨rfl, pl_newB⟩) rfl rfl) ?_
     refine d_v' (j_move (evo rfl)) ?_
     refine d_v' (j_extract rfl rfl) ?_
     refine d_v' (j_extract rfl rfl) ?_
     refine d_v' (j_assign (evo rfl)) ?_
     refine d_v' (j_assign (evo rfl)) ?_
     refine d_nil (by kernel_rfl) (by kernel_rfl) ?_
     refine a_freezeG 9 trivial rfl rfl rfl rfl ?_
     refine a_seq ?_
     refine a_region (by kernel_rfl) ?_
     refine op_v' (j_loada_box (ys := [.sl _, .sl _]) agg26 rfl rfl rfl (Nat.le_of_ble_eq_true rfl)) ?_
     refine op_v' (j_move (evo rfl)) ?_
     refine op_v' (j_move (evo rfl)) ?_
     refine op_v0' (j_call0 (v := .tup [.p _, .p _]) (hp1 := []) [] false [] ent38 (f_lb m co (fmD m (fullD m))) ⟨.inl ⟨rfl, rfl⟩, .inl ⟨rfl, rfl⟩, .inl ⟨rfl, rfl⟩, trivial⟩ trivial rfl rfl (fun h => by cases h) rfl (fun _ h => by cases h) (.inl rfl) rfl rfl) ?_
     refine op_v' (j_move (evo rfl)) ?_
     refine op_v' (j_extract rfl rfl) ?_
     refine op_v' (j_extract rfl rfl) ?_
     refine op_v' (j_assign (evo rfl)) ?_
     refine op_v' (j_assign (evo rfl)) ?_
     refine op_nil ?_
     refine a_seq ?_
     refine a_draw mixed (by kernel_rfl) (by kernel_rfl) fun vf => ?_
     refine d_v' (j_loada_box (ys := [.sl _, .sl _]) agg26 rfl rfl rfl (Nat.le_of_ble_eq_true rfl)) ?_
     refine d_v' (j_move (evo rfl)) ?_
     refine d_v' (j_loada_box (ys := [.sl _, .sl _]) agg26 rfl rfl rfl (Nat.le_of_ble_eq_true rfl)) ?_
     refine d_n1' (fun ver => j_call1 (v := .own 76 ver) (hp1 := [(76, some (ver, .deep (.mk 34 1 [(0, (.mk 4 1 []))]) _ none))]) [] false [] ent15 (f_fdImpl m) ⟨.inl ⟨rfl, rfl⟩, trivial⟩ trivial rfl rfl rfl (fun h => by cases h) rfl (List.all_eq_true.1 rfl) (.inl rfl) rfl rfl) ?_
     refine d_v0' (j_call0 (v := .tup [.p _, .p _]) (hp1 := []) [] true [76] ent38 (f_lb m co (fullD m)) ⟨.inl ⟨rfl, rfl⟩, .inl ⟨rfl, rfl⟩, .inr ⟨rfl, view_ownD rfl rfl, rfl⟩, trivial⟩ trivial rfl rfl (fun _ => rfl) rfl (fun _ h => by cases h) (.inr ⟨rfl, by first | exact pl_new1 (fun _ => rfl) | exact pl_newC | (simp [plO, plV, plV.plL]; done)⟩) rfl rfl) ?_
     refine d_v' (j_move (evo rfl)) ?_
     refine d_v' (j_extract rfl rfl) ?_
     refine d_v' (j_extract rfl rfl) ?_
     refine d_v' (j_assign (evo rfl)) ?_
     refine d_v' (j_assign (evo rfl)) ?_
     refine d_nil (by kernel_rfl) (by kernel_rfl) ?_
     refine a_seq ?_
     refine a_region (by kernel_rfl) ?_
     refine op_v' (j_loada_box (ys := [.sl _, .sl _]) agg26 rfl rfl rfl (Nat.le_of_ble_eq_true rfl)) ?_
     refine op_v' (j_move (evo rfl)) ?_
     refine op_v' (j_move (evo rfl)) ?_
     refine op_v0' (j_call0 (v := .tup [.p _, .p _]) (hp1 := []) [] false [] ent39 (f_objV m co ((mnO m co).getD [])) ⟨.inl ⟨rfl, rfl⟩, .inl ⟨rfl, rfl⟩, .inl ⟨rfl, rfl⟩, trivial⟩ trivial rfl rfl (fun h => by cases h) rfl (fun _ h => by cases h) (.inl rfl) rfl rfl) ?_
     refine op_v' (j_move (evo rfl)) ?_
     refine op_v' (j_extract rfl rfl) ?_
     refine op_v' (j_extract rfl rfl) ?_
     refine op_v' (j_assign (evo rfl)) ?_
     refine op_v' (j_assign (evo rfl)) ?_
     refine op_nil ?_
     refine a_seq ?_
     rw [hgc]
     rw [hbf.1, hbf.2.1, hbf.2.2.1, hbf.2.2.2.1]
     refine a_region (by kernel_rfl) ?_
     refine op_v' (j_move (evo rfl)) ?_
     refine op_v' (j_move (evo rfl)) ?_
     refine op_split' 88 rfl (fun h8 => ?_) (fun h8 => ?_)
     ·
      have h8r := h8
      try simp only [nq, nr] at h8
      refine op_v' (j_want rfl rfl h8r (j_move (evo rfl))) ?_
      refine op_v' (j_pick_t rfl h8r (evo rfl)) ?_
      refine op_v' (j_move (evo rfl)) ?_
      refine op_split' 91 rfl (fun h9 => ?_) (fun h9 => ?_)
      ·
       have h9r := h9
       try simp only [nq, nr] at h9
       refine op_v' (j_want rfl rfl h9r (j_move (evo rfl))) ?_
       refine op_v' (j_pick_t rfl h9r (evo rfl)) ?_
       refine op_v' (j_move (evo rfl)) ?_
       refine op_split' 94 rfl (fun h10 => ?_) (fun h10 => ?_)
       ·
        have h10r := h10
        try simp only [nq, nr] at h10
        refine op_v' (j_want rfl rfl h10r (j_move (evo rfl))) ?_
        refine op_v' (j_pick_t rfl h10r (evo rfl)) ?_
        refine op_v' (j_move (evo rfl)) ?_
        refine op_split' 97 rfl (fun h11 => ?_) (fun h11 => ?_)
        ·
         have h11r := h11
         try simp only [nq, nr] at h11
         refine op_v' (j_want rfl rfl h11r (j_move (evo rfl))) ?_
         refine op_v' (j_want rfl rfl h11r (j_move (evo rfl))) ?_
         refine op_v' (j_want rfl rfl h11r (j_le rfl rfl)) ?_
         refine op_v' (j_pick_t rfl h11r (evo rfl)) ?_
         refine op_v' (j_move (evo rfl)) ?_
         refine op_split' 102 rfl (fun h12 => ?_) (fun h12 => ?_)
         ·
          have h12r := h12
          try simp only [nq, nr] at h12
          refine op_v' (j_want rfl rfl h12r (j_move (evo rfl))) ?_
          refine op_v' (j_want rfl rfl h12r (j_move (evo rfl))) ?_
          refine op_v' (j_want rfl rfl h12r (j_le rfl rfl)) ?_
          refine op_v' (j_pick_t rfl h12r (evo rfl)) ?_
          refine op_v' (j_assign (evo rfl)) ?_
          refine op_nil ?_
          refine a_ret ?_
          exact ⟨[.p _], .p _, [], [], [], ⟨rfl, trivial⟩, rfl, rfl, trivial, rfl, rfl, ⟨boolEq (by first | (simp; done) | assumption | exact decide_eq_true hbf.2.2.2.2.2 | (exfalso; simp_all; done)), rfl, rfl⟩⟩
         ·
          have h12r := h12
          try simp only [nq, nr] at h12
          exact absurd hbf.2.2.2.2.1 (of_decide_eq_false h12r)
        ·
         have h11r := h11
         try simp only [nq, nr] at h11
         exact absurd h11r (by decide)
       ·
        have h10r := h10
        try simp only [nq, nr] at h10
        exact absurd h10r (by decide)
      ·
       have h9r := h9
       try simp only [nq, nr] at h9
       exact absurd h9r (by decide)
     ·
      have h8r := h8
      try simp only [nq, nr] at h8
      exact absurd h8r (by decide)


end Go.Ab

/- Walks. -/
import Derived.Test.YtikknnpdiahnoaaBase
import Derived.Test.YtikknnpdiahnoaaLf2
import Derived.Test.YtikknnpdiahnoaaWsfm
import Derived.Test.YtikknnpdiahnoaaWsdfr
import Derived.Test.YtikknnpdiahnoaaWsnm
import Derived.Test.YtikknnpdiahnoaaWsd8
namespace Go.Ab
open Go.Proofs
set_option maxRecDepth 100000
set_option maxHeartbeats 8000000
set_option linter.unusedSimpArgs false
set_option linter.unusedVariables false
theorem f_dDE (b : List Int) (hb : ∀ a ∈ b, 0 ≤ a ∧ a ≤ 255) : Fn Try.prog 42 [.sl (b.map dU)] [] (fun rr ii nn => ∃ x : Md × List (List Bool), (wM x.1 ≤ 3000 ∧ x.2.length ≤ 5) ∧ rr = .tup [.agg [.sl (x.1.1.map dI), .sl (x.1.2.map dR)], .sl (x.2.map dD)] ∧ ii = [] ∧ nn = []) := by
 refine fn_of Try.func42 rfl (Nat.le_of_ble_eq_true rfl) fun w X g => ?_
 show AWp _ _ _ ⟨[(0, .sl (b.map dU))], []⟩
 have hbt := okB_take (b := b) (Nat.le_refl _) hb
 refine a_seq ?_
 refine a_region (by kernel_rfl) ?_
 refine op_n' (fun ver => j_alloc elt26 rfl) fun v2x1 => ?_
 refine op_v' (j_assign (evo rfl)) ?_
 refine op_nil ?_
 refine a_seq ?_
 refine a_region (by kernel_rfl) ?_
 refine op_v' (j_move (evo rfl)) ?_
 refine op_n1' (fun ver => j_call1 (v := .ptr 9 ver 0) (hp1 := [(9, some (ver, .box 114 [.sl _, .p _]))]) [] false [] ent73 (f_open _) ⟨.inl ⟨rfl, rfl⟩, trivial⟩ trivial rfl rfl rfl (fun h => by cases h) rfl (List.all_eq_true.1 rfl) (.inl rfl) rfl rfl) fun v9x2 => ?_
 refine op_v' (j_assign (evo rfl)) ?_
 refine op_nil ?_
 refine a_seq ?_
 refine a_region (by kernel_rfl) ?_
 refine op_v' (j_move (evo rfl)) ?_
 refine op_v' (j_move (evo rfl)) ?_
 refine op_callE (v := fun x => .agg [.sl _, .sl _]) (hp1 := fun x => [(9, some (v9x2, .box 114 [.sl _, .p _]))]) [(9, v9x2)] false ent75 (f_l6Model (b.take 2000) 0 hbt (by omega)) ⟨.inl ⟨rfl, rfl⟩, trivial⟩ ⟨⟨rfl, rfl⟩, trivial⟩ rfl (fun _ => rfl) (fun _ => rfl) (.inl rfl) (fun _ => rfl) (fun _ => rfl) ?_
 rintro ⟨m12, p12⟩ ⟨hw12, hl12, hr12, hp12⟩
 try dsimp only at hw12
 try dsimp only at hl12
 try dsimp only at hr12
 try dsimp only at hp12
 dsimp only [List.cons_append, List.nil_append]
 refine op_callE (v := fun x => .agg [.sl _, .sl _]) (hp1 := fun x => [(9, some (v9x2, .box 114 [.sl _, .p _]))]) [(9, v9x2)] false ent74 (f_l6Mutate (b.take 2000) p12 m12 hbt (by omega) (by omega)) ⟨.inl ⟨rfl, rfl⟩, .inl ⟨rfl, rfl⟩, trivial⟩ ⟨⟨rfl, rfl⟩, trivial⟩ rfl (fun _ => rfl) (fun _ => rfl) (.inl rfl) (fun _ => rfl) (fun _ => rfl) ?_
 rintro ⟨m13, p13⟩ ⟨hw13, hp13⟩
 try dsimp only at hw13
 try dsimp only at hp13
 dsimp only [List.cons_append, List.nil_append]
 refine op_n' (fun ver => j_alloc elt26 rfl) fun v5x3 => ?_
 refine op_s' (j_storea_box0 agg26 rfl rfl rfl rfl rfl rfl) ?_
 refine op_nil ?_
 refine a_seq ?_
 have hdd := drawD_ok (b := (b.take 2000)) (p := p13) (m := m13)
 have hdr := drawD_row (b := (b.take 2000)) (p := p13) (m := m13) (i := 0)
 refine a_region (by kernel_rfl) ?_
 refine op_v' (j_move (evo rfl)) ?_
 refine op_v' (j_loada_box (ys := [.sl _, .sl _]) agg26 rfl rfl rfl (Nat.le_of_ble_eq_true rfl)) ?_
 refine op_n1' (fun ver => j_call1 (v := .own 16 ver) (hp1 := [(9, some (v9x2, .box 114 [.sl _, .p _])), (16, some (ver, .deep (.mk 34 1 [(0, (.mk 4 1 []))]) _ none))]) [(9, v9x2)] false [9] ent76 (f_l8DrawD (b.take 2000) p13 m13 hbt (by omega)) ⟨.inl ⟨rfl, rfl⟩, .inl ⟨rfl, rfl⟩, trivial⟩ ⟨⟨rfl, rfl⟩, trivial⟩ rfl rfl rfl (fun h => by cases h) rfl (List.all_eq_true.1 rfl) (.inl rfl) rfl rfl) fun v16x4 => ?_
 refine op_v' (j_assign (evo rfl)) ?_
 refine op_nil ?_
 refine a_seq ?_
 refine a_seq ?_
 refine a_region (by kernel_rfl) ?_
 refine op_v' (j_move (evo rfl)) ?_
 refine op_v' (j_len_deep_map Try.underlying28 rfl rfl) ?_
 refine op_v' (j_gt rfl rfl) ?_
 refine op_v' (j_move (evo rfl)) ?_
 refine op_split' 20 rfl (fun h1 => ?_) (fun h1 => ?_)
 ·
  have h1r := h1
  try simp only [nq, nr, nl] at h1
  refine op_v' (j_want rfl rfl h1r (j_move (evo rfl))) ?_
  refine op_v0' (j_want rfl rfl h1r (j_call0 (v := .p _) (hp1 := [(9, some (v9x2, .box 114 [.sl _, .p _]))]) [(9, v9x2)] false [9] ent99 (f_pick (b.take 2000) (drawD (b.take 2000) p13 m13).2 2 hbt (by omega)) ⟨.inl ⟨rfl, rfl⟩, .inl ⟨rfl, rfl⟩, trivial⟩ ⟨⟨rfl, rfl⟩, trivial⟩ rfl rfl (fun h => by cases h) rfl (List.all_eq_true.1 rfl) (.inl rfl) rfl rfl)) ?_
  refine op_v' (j_want rfl rfl h1r (j_eq rfl rfl)) ?_
  refine op_v' (j_pick_t rfl h1r (evo rfl)) ?_
  refine op_nil ?_
  refine a_cond rfl (fun h2 => ?_) (fun h2 => ?_)
  ·
   have h2r := h2
   try simp only [nq, nr, nl] at h2
   refine a_seq ?_
   refine a_region (by kernel_rfl) ?_
   refine op_v' (j_assign (evo rfl)) ?_
   refine op_nil ?_
   refine a_block ?_
   refine a_loopF' (ι := Nat) (fun j => j ≤ ((drawD (b.take 2000) p13 m13).1.getD 0 default).length) (fun j r => (7, .p (.int .i64 ((j : Nat)))) :: r) (fun j r => (16, some (v16x4, .deep (.mk 34 1 [(0, .mk 4 1 [])]) (((drawD (b.take 2000) p13 m13).1.set 0 (noneR ((drawD (b.take 2000) p13 m13).1.getD 0 default) j)).map dD) none)) :: r) (fun j => ((drawD (b.take 2000) p13 m13).1.getD 0 default).length - j) (fun _ _ => rfl) (fun _ _ => rfl) 0 (Nat.zero_le _) ⟨⟨rfl, rfl⟩, ⟨rfl, trivial⟩, ⟨deepEq (by rw [show noneR ((drawD (b.take 2000) p13 m13).1.getD 0 default) 0 = ((drawD (b.take 2000) p13 m13).1.getD 0 default) from rfl, set_selfL]), trivial⟩, ⟨rfl, rfl⟩, ⟨rfl, rfl⟩⟩ ?_
   intro j hj
   refine a_seq ?_
   refine a_seq ?_
   have hnl := noneR_len (x := ((drawD (b.take 2000) p13 m13).1.getD 0 default)) hj
   refine a_region (by kernel_rfl) ?_
   refine op_v' (j_move (evo rfl)) ?_
   refine op_v' (j_move (evo rfl)) ?_
   refine op_v' (j_elem_deepN slt28 rfl rfl rfl rfl rfl (by first | omega | (simp only [nr, nl]; omega))) ?_
   refine op_n1' (fun ver => j_out leaf34 (by decide) rfl rfl rfl (ms_at (by first | omega | (simp only [nr, nl]; omega))) rfl rfl) fun v28x5 => ?_
   refine op_v' (j_len_own_map Try.underlying34 rfl rfl) ?_
   refine op_v' (j_lt rfl rfl) ?_
   refine op_nil ?_
   refine a_back 16 28 (by decide) rfl rfl rfl rfl (ms_at (by first | omega | (simp only [nr, nl]; omega))) (ms_set (y := noneR ((drawD (b.take 2000) p13 m13).1.getD 0 default) j) rfl) ?_
   refine a_cond rfl (fun h3 => ?_) (fun h3 => ?_)
   ·
    have h3r := h3
    try simp only [nq, nr, nl] at h3
    refine a_skip ?_
    refine a_seq ?_
    refine a_block ?_
    have hnl := noneR_len (x := ((drawD (b.take 2000) p13 m13).1.getD 0 default)) hj
    refine a_region (by kernel_rfl) ?_
    refine op_v' (j_move (evo rfl)) ?_
    refine op_v' (j_elem_deepN slt28 rfl rfl rfl rfl rfl (by first | omega | (simp only [nr, nl]; omega))) ?_
    refine op_n1' (fun ver => j_out leaf34 (by decide) rfl rfl rfl (ms_at (by first | omega | (simp only [nr, nl]; omega))) rfl rfl) fun v35x6 => ?_
    refine op_v' (j_move (evo rfl)) ?_
    refine op_v' (j_elem_ownN slt34 rfl rfl rfl rfl (by first | omega | (simp only [nr, nl]; omega))) ?_
    refine op_s' (j_store_row leaf4 rfl rfl (by first | omega | (simp only [nr, nl]; omega)) (evo rfl) rfl rfl) ?_
    refine op_nil ?_
    refine a_back 16 35 (by decide) rfl rfl rfl rfl (ms_at (by first | omega | (simp only [nr, nl]; omega))) (ms_set (y := noneR ((drawD (b.take 2000) p13 m13).1.getD 0 default) (j + 1)) (congrArg (fun z => [V.sl z]) (noneR_set (by omega)))) ?_
    refine a_region (by kernel_rfl) ?_
    refine op_v' (j_move (evo rfl)) ?_
    refine op_v' (j_add rfl rfl (by first | omega | (simp only [nr, nl]; omega)) (by first | omega | (simp only [nr, nl]; omega))) ?_
    refine op_v' (j_assign (evo rfl)) ?_
    refine op_nil ?_
    exact ⟨j + 1, (by first | omega | (simp only [nr, nl]; omega)), ⟨⟨rfl, rfl⟩, ⟨rfl, trivial⟩, ⟨rfl, trivial⟩, ⟨rfl, rfl⟩, ⟨rfl, rfl⟩⟩, (by first | omega | (simp only [nr, nl]; omega))⟩
   ·
    have h3r := h3
    try simp only [nq, nr, nl] at h3
    refine a_exit ?_
    refine a_seq ?_
    refine a_region (by kernel_rfl) ?_
    refine op_v' (j_loada_box (ys := [.sl _, .sl _]) agg26 rfl rfl rfl (Nat.le_of_ble_eq_true rfl)) ?_
    refine op_v' (j_move (evo rfl)) ?_
    refine op_s' (j_storea_box0 agg26 rfl rfl rfl rfl rfl rfl) ?_
    refine op_v' (j_assign (evo rfl)) ?_
    refine op_nil ?_
    refine a_freezeG 3 trivial rfl rfl rfl rfl ?_
    refine a_ret ?_
    exact ⟨[.agg [.sl _, .sl _], .sl _], .tup [.agg [.sl _, .sl _], .sl _], [], [], [], ⟨⟨_, _, _, _, rfl, rfl, agg26, rfl⟩, rfl, trivial⟩, rfl, rfl, trivial, rfl, rfl, ⟨(m13, (drawD (b.take 2000) p13 m13).1.set 0 (noneR ((drawD (b.take 2000) p13 m13).1.getD 0 default) j)), ⟨hw13, by dsimp only; first | omega | (rw [List.length_set]; omega)⟩, rfl, rfl, rfl⟩⟩
  ·
   have h2r := h2
   try simp only [nq, nr, nl] at h2
   refine a_skip ?_
   refine a_seq ?_
   refine a_region (by kernel_rfl) ?_
   refine op_v' (j_loada_box (ys := [.sl _, .sl _]) agg26 rfl rfl rfl (Nat.le_of_ble_eq_true rfl)) ?_
   refine op_v' (j_move (evo rfl)) ?_
   refine op_s' (j_storea_box0 agg26 rfl rfl rfl rfl rfl rfl) ?_
   refine op_v' (j_assign (evo rfl)) ?_
   refine op_nil ?_
   refine a_freezeG 3 trivial rfl rfl rfl rfl ?_
   refine a_ret ?_
   exact ⟨[.agg [.sl _, .sl _], .sl _], .tup [.agg [.sl _, .sl _], .sl _], [], [], [], ⟨⟨_, _, _, _, rfl, rfl, agg26, rfl⟩, rfl, trivial⟩, rfl, rfl, trivial, rfl, rfl, ⟨(m13, (drawD (b.take 2000) p13 m13).1), ⟨hw13, by dsimp only; first | omega | (rw [List.length_set]; omega)⟩, rfl, rfl, rfl⟩⟩
 ·
  have h1r := h1
  try simp only [nq, nr, nl] at h1
  refine op_v' (j_unwantV rfl rfl h1r) ?_
  refine op_v' (j_unwantV rfl rfl h1r) ?_
  refine op_v' (j_unwantV rfl rfl h1r) ?_
  refine op_v' (j_pick_f rfl h1r (evo rfl)) ?_
  refine op_nil ?_
  refine a_ff rfl ?_
  refine a_skip ?_
  refine a_seq ?_
  refine a_region (by kernel_rfl) ?_
  refine op_v' (j_loada_box (ys := [.sl _, .sl _]) agg26 rfl rfl rfl (Nat.le_of_ble_eq_true rfl)) ?_
  refine op_v' (j_move (evo rfl)) ?_
  refine op_s' (j_storea_box0 agg26 rfl rfl rfl rfl rfl rfl) ?_
  refine op_v' (j_assign (evo rfl)) ?_
  refine op_nil ?_
  refine a_freezeG 3 trivial rfl rfl rfl rfl ?_
  refine a_ret ?_
  exact ⟨[.agg [.sl _, .sl _], .sl _], .tup [.agg [.sl _, .sl _], .sl _], [], [], [], ⟨⟨_, _, _, _, rfl, rfl, agg26, rfl⟩, rfl, trivial⟩, rfl, rfl, trivial, rfl, rfl, ⟨(m13, (drawD (b.take 2000) p13 m13).1), ⟨hw13, by dsimp only; first | omega | (rw [List.length_set]; omega)⟩, rfl, rfl, rfl⟩⟩


theorem f_lawFlE (b : List Int) (hb : ∀ a ∈ b, 0 ≤ a ∧ a ≤ 255) : Fn Try.prog 12 [.sl (b.map dU)] [] (fun rr ii nn => rr = .p (.bool true) ∧ ii = [] ∧ nn = []) := by
 refine fn_of Try.func12 rfl (Nat.le_of_ble_eq_true rfl) fun w X g => ?_
 show AWp _ _ _ ⟨[(0, .sl (b.map dU))], []⟩
 refine a_seq ?_
 refine a_region (by kernel_rfl) ?_
 refine op_v' (j_assign (evo rfl)) ?_
 refine op_nil ?_
 refine a_seq ?_
 refine a_seq ?_
 refine a_region (by kernel_rfl) ?_
 refine op_v' (j_move (evo rfl)) ?_
 refine op_v' (j_len_map Try.underlying22 rfl) ?_
 refine op_v' (j_gt rfl rfl) ?_
 refine op_nil ?_
 refine a_cond rfl (fun h1 => ?_) (fun h1 => ?_)
 ·
  have h1r := h1
  try simp only [nq, nr] at h1
  refine a_seq ?_
  refine a_region (by kernel_rfl) ?_
  refine op_v' (j_assign (evo rfl)) ?_
  refine op_nil ?_
  refine a_ret ?_
  exact ⟨[.p _], .p _, [], [], [], ⟨rfl, trivial⟩, rfl, rfl, trivial, rfl, rfl, ⟨boolEq (by first | (simp; done) | assumption | (exfalso; simp_all; done)), rfl, rfl⟩⟩
 ·
  have h1r := h1
  try simp only [nq, nr] at h1
  refine a_skip ?_
  refine a_seq ?_
  refine a_region (by kernel_rfl) ?_
  refine op_v' (j_move (evo rfl)) ?_
  refine op_callE (v := fun x => .tup [.agg [.sl _, .sl _], .sl _]) (hp1 := fun x => []) [] false ent42 (f_dDE b hb) ⟨.inl ⟨rfl, rfl⟩, trivial⟩ trivial rfl (fun _ => rfl) (fun _ => rfl) (.inl rfl) (fun _ => rfl) (fun _ => rfl) ?_
  rintro ⟨m, d⟩ ⟨hw, hl⟩
  try dsimp only at hw
  try dsimp only at hl
  have hwr : wRS m.2 ≤ 1048576 := by unfold wM at hw; omega
  dsimp only [List.cons_append, List.nil_append]
  refine op_v' (j_move (evo rfl)) ?_
  refine op_v' (j_extract rfl rfl) ?_
  refine op_v' (j_extract rfl rfl) ?_
  refine op_n' (fun ver => j_alloc elt26 rfl) fun v3x1 => ?_
  refine op_s' (j_storea_box0 agg26 rfl rfl rfl rfl rfl rfl) ?_
  refine op_v' (j_assign (evo rfl)) ?_
  refine op_nil ?_
  refine a_seq ?_
  refine a_region (by kernel_rfl) ?_
  refine op_v' (j_loada_box (ys := [.sl _, .sl _]) agg26 rfl rfl rfl (Nat.le_of_ble_eq_true rfl)) ?_
  refine op_v' (j_move (evo rfl)) ?_
  refine op_n1' (fun ver => j_call1 (v := .tup [.own 25 ver, .p _]) (hp1 := [(25, some (ver, .deep (.mk 34 1 [(0, (.mk 4 1 []))]) _ none))]) [] false [] ent32 (f_fmImpl m d hwr) ⟨.inl ⟨rfl, rfl⟩, .inl ⟨rfl, rfl⟩, trivial⟩ trivial rfl rfl rfl (fun h => by cases h) rfl (List.all_eq_true.1 rfl) (.inl rfl) rfl rfl) fun v25x2 => ?_
  refine op_v' (j_move (evo rfl)) ?_
  refine op_v' (j_extract rfl rfl) ?_
  refine op_v' (j_extract rfl rfl) ?_
  refine op_v' (j_assign (evo rfl)) ?_
  refine op_v' (j_assign (evo rfl)) ?_
  refine op_nil ?_
  refine a_freezeG 5 trivial rfl rfl rfl rfl ?_
  refine a_seq ?_
  refine a_region (by kernel_rfl) ?_
  refine op_v' (j_loada_box (ys := [.sl _, .sl _]) agg26 rfl rfl rfl (Nat.le_of_ble_eq_true rfl)) ?_
  refine op_v' (j_move (evo rfl)) ?_
  refine op_v0' (j_call0 (v := .tup [.sl _, .p _]) (hp1 := []) [] false [] ent41 (f_fmSpec m d hwr) ⟨.inl ⟨rfl, rfl⟩, .inl ⟨rfl, rfl⟩, trivial⟩ trivial rfl rfl (fun h => by cases h) rfl (fun _ h => by cases h) (.inl rfl) rfl rfl) ?_
  refine op_v' (j_move (evo rfl)) ?_
  refine op_v' (j_extract rfl rfl) ?_
  refine op_v' (j_extract rfl rfl) ?_
  refine op_v' (j_assign (evo rfl)) ?_
  refine op_v' (j_assign (evo rfl)) ?_
  refine op_nil ?_
  refine a_seq ?_
  refine a_seq ?_
  refine a_draw mixed (by kernel_rfl) (by kernel_rfl) fun vf => ?_
  refine d_v' (j_move (evo rfl)) ?_
  refine d_v' (j_move (evo rfl)) ?_
  refine d_v' (j_neb Try.underlying4 rfl rfl) ?_
  refine d_v' (j_move (evo rfl)) ?_
  refine d_split' 37 rfl (fun h2 => ?_) (fun h2 => ?_)
  ·
   have h2r := h2
   try simp only [nq, nr] at h2
   refine d_v' (j_unwantV rfl rfl h2r) ?_
   refine d_v' (j_unwantV rfl rfl h2r) ?_
   refine d_v' (j_unwantV rfl rfl h2r) ?_
   refine d_v' (j_unwantV rfl rfl h2r) ?_
   refine d_v' (j_pick_t rfl h2r (evo rfl)) ?_
   refine d_v' (j_move (evo rfl)) ?_
   refine d_v' (j_unwantV rfl rfl rfl) ?_
   refine d_v' (j_unwantV rfl rfl rfl) ?_
   refine d_v' (j_unwantV rfl rfl rfl) ?_
   refine d_v' (j_unwantV rfl rfl rfl) ?_
   refine d_v' (j_unwantV rfl rfl rfl) ?_
   refine d_v' (j_unwantV rfl rfl rfl) ?_
   refine d_v' (j_unwantV rfl rfl rfl) ?_
   refine d_v' (j_pick_t rfl rfl (evo rfl)) ?_
   refine d_v' (j_move (evo rfl)) ?_
   refine d_v' (j_unwantV rfl rfl rfl) ?_
   refine d_v' (j_unwantV rfl rfl rfl) ?_
   refine d_v' (j_pick_t rfl rfl (evo rfl)) ?_
   refine d_v' (j_move (evo rfl)) ?_
   refine d_v' (j_unwantV rfl rfl rfl) ?_
   refine d_v' (j_unwantV rfl rfl rfl) ?_
   refine d_v' (j_unwantV rfl rfl rfl) ?_
   refine d_v' (j_unwantV rfl rfl rfl) ?_
   refine d_v' (j_pick_t rfl rfl (evo rfl)) ?_
   refine d_v' (j_move (evo rfl)) ?_
   refine d_v' (j_unwantV rfl rfl rfl) ?_
   refine d_v' (j_unwantV rfl rfl rfl) ?_
   refine d_v' (j_unwantV rfl rfl rfl) ?_
   refine d_v' (j_unwantV rfl rfl rfl) ?_
   refine d_v' (j_pick_t rfl rfl (evo rfl)) ?_
   refine d_nil (by kernel_rfl) (by kernel_rfl) ?_
   refine a_tt rfl ?_
   refine a_seq ?_
   refine a_draw mixed (by kernel_rfl) (by kernel_rfl) fun vf => ?_
   refine d_v' (j_move (evo rfl)) ?_
   refine d_v' (j_move (evo rfl)) ?_
   refine d_v' (j_eqb Try.underlying4 rfl rfl) ?_
   refine d_v' (j_move (evo rfl)) ?_
   refine d_split' 71 rfl (fun h3 => ?_) (fun h3 => ?_)
   ·
    have h3r := h3
    try simp only [nq, nr] at h3
    refine d_v' (j_want rfl rfl h3r (j_move (evo rfl))) ?_
    refine d_v' (j_want rfl rfl h3r (j_move (evo rfl))) ?_
    refine d_v0' (j_want rfl rfl h3r (j_call0 (v := .p _) (hp1 := []) [] false [] ent16 (f_cpRows (fmD m d) (fmD m d)) ⟨.inl ⟨rfl, rfl⟩, .inl ⟨rfl, rfl⟩, trivial⟩ trivial rfl rfl (fun h => by cases h) rfl (fun _ h => by cases h) (.inl rfl) rfl rfl)) ?_
    refine d_v' (j_pick_t rfl h3r (evo rfl)) ?_
    refine d_v' (j_move (evo rfl)) ?_
    refine d_split' 76 rfl (fun h4 => ?_) (fun h4 => ?_)
    ·
     have h4r := h4
     try simp only [nq, nr] at h4
     refine d_v' (j_want rfl rfl h4r (j_loada_box (ys := [.sl _, .sl _]) agg26 rfl rfl rfl (Nat.le_of_ble_eq_true rfl))) ?_
     refine d_v' (j_want rfl rfl h4r (j_move (evo rfl))) ?_
     refine d_v0' (j_want rfl rfl h4r (j_call0 (v := .p _) (hp1 := []) [] false [] ent20 (f_deImpl m d) ⟨.inl ⟨rfl, rfl⟩, .inl ⟨rfl, rfl⟩, trivial⟩ trivial rfl rfl (fun h => by cases h) rfl (fun _ h => by cases h) (.inl rfl) rfl rfl)) ?_
     refine d_v' (j_want rfl rfl h4r (j_loada_box (ys := [.sl _, .sl _]) agg26 rfl rfl rfl (Nat.le_of_ble_eq_true rfl))) ?_
     refine d_v' (j_want rfl rfl h4r (j_move (evo rfl))) ?_
     refine d_v0' (j_want rfl rfl h4r (j_call0 (v := .p _) (hp1 := []) [] false [] ent43 (f_deSpec m d) ⟨.inl ⟨rfl, rfl⟩, .inl ⟨rfl, rfl⟩, trivial⟩ trivial rfl rfl (fun h => by cases h) rfl (fun _ h => by cases h) (.inl rfl) rfl rfl)) ?_
     refine d_v' (j_want rfl rfl h4r (j_eqb Try.underlying4 rfl rfl)) ?_
     refine d_v' (j_pick_t rfl h4r (evo rfl)) ?_
     refine d_v' (j_assign (evo rfl)) ?_
     refine d_nil (by kernel_rfl) (by kernel_rfl) ?_
     refine a_ret ?_
     exact ⟨[.p _], .p _, [], [], [], ⟨rfl, trivial⟩, rfl, rfl, trivial, rfl, rfl, ⟨boolEq (by first | (simp; done) | assumption | (exfalso; simp_all; done)), rfl, rfl⟩⟩
    ·
     have h4r := h4
     try simp only [nq, nr] at h4
     exact absurd h4r (by simp)
   ·
    have h3r := h3
    try simp only [nq, nr] at h3
    exact absurd h3r (by simp)
  ·
   have h2r := h2
   try simp only [nq, nr] at h2
   refine d_v' (j_want rfl rfl h2r (j_move (evo rfl))) ?_
   refine d_v' (j_want rfl rfl h2r (j_move (evo rfl))) ?_
   refine d_v0' (j_want rfl rfl h2r (j_call0 (v := .p _) (hp1 := []) [] false [] ent16 (f_cpRows (fmD m d) (fmD m d)) ⟨.inl ⟨rfl, rfl⟩, .inl ⟨rfl, rfl⟩, trivial⟩ trivial rfl rfl (fun h => by cases h) rfl (fun _ h => by cases h) (.inl rfl) rfl rfl)) ?_
   refine d_v' (j_want rfl rfl h2r (j_not rfl)) ?_
   refine d_v' (j_pick_f rfl h2r (evo rfl)) ?_
   refine d_v' (j_move (evo rfl)) ?_
   refine d_split' 43 rfl (fun h5 => ?_) (fun h5 => ?_)
   ·
    have h5r := h5
    try simp only [nq, nr] at h5
    refine d_v' (j_unwantV rfl rfl h5r) ?_
    refine d_v' (j_unwantV rfl rfl h5r) ?_
    refine d_v' (j_unwantV rfl rfl h5r) ?_
    refine d_v' (j_unwantV rfl rfl h5r) ?_
    refine d_v' (j_unwantV rfl rfl h5r) ?_
    refine d_v' (j_unwantV rfl rfl h5r) ?_
    refine d_v' (j_unwantV rfl rfl h5r) ?_
    refine d_v' (j_pick_t rfl h5r (evo rfl)) ?_
    refine d_v' (j_move (evo rfl)) ?_
    refine d_v' (j_unwantV rfl rfl rfl) ?_
    refine d_v' (j_unwantV rfl rfl rfl) ?_
    refine d_v' (j_pick_t rfl rfl (evo rfl)) ?_
    refine d_v' (j_move (evo rfl)) ?_
    refine d_v' (j_unwantV rfl rfl rfl) ?_
    refine d_v' (j_unwantV rfl rfl rfl) ?_
    refine d_v' (j_unwantV rfl rfl rfl) ?_
    refine d_v' (j_unwantV rfl rfl rfl) ?_
    refine d_v' (j_pick_t rfl rfl (evo rfl)) ?_
    refine d_v' (j_move (evo rfl)) ?_
    refine d_v' (j_unwantV rfl rfl rfl) ?_
    refine d_v' (j_unwantV rfl rfl rfl) ?_
    refine d_v' (j_unwantV rfl rfl rfl) ?_
    refine d_v' (j_unwantV rfl rfl rfl) ?_
    refine d_v' (j_pick_t rfl rfl (evo rfl)) ?_
    refine d_nil (by kernel_rfl) (by kernel_rfl) ?_
    refine a_tt rfl ?_
    refine a_seq ?_
    refine a_draw mixed (by kernel_rfl) (by kernel_rfl) fun vf => ?_
    refine d_v' (j_move (evo rfl)) ?_
    refine d_v' (j_move (evo rfl)) ?_
    refine d_v' (j_eqb Try.underlying4 rfl rfl) ?_
    refine d_v' (j_move (evo rfl)) ?_
    refine d_split' 71 rfl (fun h6 => ?_) (fun h6 => ?_)
    ·
     have h6r := h6
     try simp only [nq, nr] at h6
     refine d_v' (j_want rfl rfl h6r (j_move (evo rfl))) ?_
     refine d_v' (j_want rfl rfl h6r (j_move (evo rfl))) ?_
     refine d_v0' (j_want rfl rfl h6r (j_call0 (v := .p _) (hp1 := []) [] false [] ent16 (f_cpRows (fmD m d) (fmD m d)) ⟨.inl ⟨rfl, rfl⟩, .inl ⟨rfl, rfl⟩, trivial⟩ trivial rfl rfl (fun h => by cases h) rfl (fun _ h => by cases h) (.inl rfl) rfl rfl)) ?_
     refine d_v' (j_pick_t rfl h6r (evo rfl)) ?_
     refine d_v' (j_move (evo rfl)) ?_
     refine d_split' 76 rfl (fun h7 => ?_) (fun h7 => ?_)
     ·
      have h7r := h7
      try simp only [nq, nr] at h7
      refine d_v' (j_want rfl rfl h7r (j_loada_box (ys := [.sl _, .sl _]) agg26 rfl rfl rfl (Nat.le_of_ble_eq_true rfl))) ?_
      refine d_v' (j_want rfl rfl h7r (j_move (evo rfl))) ?_
      refine d_v0' (j_want rfl rfl h7r (j_call0 (v := .p _) (hp1 := []) [] false [] ent20 (f_deImpl m d) ⟨.inl ⟨rfl, rfl⟩, .inl ⟨rfl, rfl⟩, trivial⟩ trivial rfl rfl (fun h => by cases h) rfl (fun _ h => by cases h) (.inl rfl) rfl rfl)) ?_
      refine d_v' (j_want rfl rfl h7r (j_loada_box (ys := [.sl _, .sl _]) agg26 rfl rfl rfl (Nat.le_of_ble_eq_true rfl))) ?_
      refine d_v' (j_want rfl rfl h7r (j_move (evo rfl))) ?_
      refine d_v0' (j_want rfl rfl h7r (j_call0 (v := .p _) (hp1 := []) [] false [] ent43 (f_deSpec m d) ⟨.inl ⟨rfl, rfl⟩, .inl ⟨rfl, rfl⟩, trivial⟩ trivial rfl rfl (fun h => by cases h) rfl (fun _ h => by cases h) (.inl rfl) rfl rfl)) ?_
      refine d_v' (j_want rfl rfl h7r (j_eqb Try.underlying4 rfl rfl)) ?_
      refine d_v' (j_pick_t rfl h7r (evo rfl)) ?_
      refine d_v' (j_assign (evo rfl)) ?_
      refine d_nil (by kernel_rfl) (by kernel_rfl) ?_
      refine a_ret ?_
      exact ⟨[.p _], .p _, [], [], [], ⟨rfl, trivial⟩, rfl, rfl, trivial, rfl, rfl, ⟨boolEq (by first | (simp; done) | assumption | (exfalso; simp_all; done)), rfl, rfl⟩⟩
     ·
      have h7r := h7
      try simp only [nq, nr] at h7
      exact absurd h7r (by simp)
    ·
     have h6r := h6
     try simp only [nq, nr] at h6
     exact absurd h6r (by simp)
   ·
    have h5r := h5
    try simp only [nq, nr] at h5
    refine d_v' (j_want rfl rfl h5r (j_loada_box (ys := [.sl _, .sl _]) agg26 rfl rfl rfl (Nat.le_of_ble_eq_true rfl))) ?_
    refine d_v' (j_want rfl rfl h5r (j_move (evo rfl))) ?_
    refine d_v0' (j_want rfl rfl h5r (j_call0 (v := .p _) (hp1 := []) [] false [] ent20 (f_deImpl m d) ⟨.inl ⟨rfl, rfl⟩, .inl ⟨rfl, rfl⟩, trivial⟩ trivial rfl rfl (fun h => by cases h) rfl (fun _ h => by cases h) (.inl rfl) rfl rfl)) ?_
    refine d_v' (j_want rfl rfl h5r (j_loada_box (ys := [.sl _, .sl _]) agg26 rfl rfl rfl (Nat.le_of_ble_eq_true rfl))) ?_
    refine d_v' (j_want rfl rfl h5r (j_move (evo rfl))) ?_
    refine d_v0' (j_want rfl rfl h5r (j_call0 (v := .p _) (hp1 := []) [] false [] ent43 (f_deSpec m d) ⟨.inl ⟨rfl, rfl⟩, .inl ⟨rfl, rfl⟩, trivial⟩ trivial rfl rfl (fun h => by cases h) rfl (fun _ h => by cases h) (.inl rfl) rfl rfl)) ?_
    refine d_v' (j_want rfl rfl h5r (j_neb Try.underlying4 rfl rfl)) ?_
    refine d_v' (j_pick_f rfl h5r (evo rfl)) ?_
    refine d_v' (j_move (evo rfl)) ?_
    refine d_split' 52 rfl (fun h8 => ?_) (fun h8 => ?_)
    ·
     have h8r := h8
     try simp only [nq, nr] at h8
     refine d_v' (j_unwantV rfl rfl h8r) ?_
     refine d_v' (j_unwantV rfl rfl h8r) ?_
     refine d_v' (j_pick_t rfl h8r (evo rfl)) ?_
     refine d_v' (j_move (evo rfl)) ?_
     refine d_v' (j_unwantV rfl rfl rfl) ?_
     refine d_v' (j_unwantV rfl rfl rfl) ?_
     refine d_v' (j_unwantV rfl rfl rfl) ?_
     refine d_v' (j_unwantV rfl rfl rfl) ?_
     refine d_v' (j_pick_t rfl rfl (evo rfl)) ?_
     refine d_v' (j_move (evo rfl)) ?_
     refine d_v' (j_unwantV rfl rfl rfl) ?_
     refine d_v' (j_unwantV rfl rfl rfl) ?_
     refine d_v' (j_unwantV rfl rfl rfl) ?_
     refine d_v' (j_unwantV rfl rfl rfl) ?_
     refine d_v' (j_pick_t rfl rfl (evo rfl)) ?_
     refine d_nil (by kernel_rfl) (by kernel_rfl) ?_
     refine a_tt rfl ?_
     refine a_seq ?_
     refine a_draw mixed (by kernel_rfl) (by kernel_rfl) fun vf => ?_
     refine d_v' (j_move (evo rfl)) ?_
     refine d_v' (j_move (evo rfl)) ?_
     refine d_v' (j_eqb Try.underlying4 rfl rfl) ?_
     refine d_v' (j_move (evo rfl)) ?_
     refine d_split' 71 rfl (fun h9 => ?_) (fun h9 => ?_)
     ·
      have h9r := h9
      try simp only [nq, nr] at h9
      refine d_v' (j_want rfl rfl h9r (j_move (evo rfl))) ?_
      refine d_v' (j_want rfl rfl h9r (j_move (evo rfl))) ?_
      refine d_v0' (j_want rfl rfl h9r (j_call0 (v := .p _) (hp1 := []) [] false [] ent16 (f_cpRows (fmD m d) (fmD m d)) ⟨.inl ⟨rfl, rfl⟩, .inl ⟨rfl, rfl⟩, trivial⟩ trivial rfl rfl (fun h => by cases h) rfl (fun _ h => by cases h) (.inl rfl) rfl rfl)) ?_
      refine d_v' (j_pick_t rfl h9r (evo rfl)) ?_
      refine d_v' (j_move (evo rfl)) ?_
      refine d_split' 76 rfl (fun h10 => ?_) (fun h10 => ?_)
      ·
       have h10r := h10
       try simp only [nq, nr] at h10
       refine d_v' (j_want rfl rfl h10r (j_loada_box (ys := [.sl _, .sl _]) agg26 rfl rfl rfl (Nat.le_of_ble_eq_true rfl))) ?_
       refine d_v' (j_want rfl rfl h10r (j_move (evo rfl))) ?_
       refine d_v0' (j_want rfl rfl h10r (j_call0 (v := .p _) (hp1 := []) [] false [] ent20 (f_deImpl m d) ⟨.inl ⟨rfl, rfl⟩, .inl ⟨rfl, rfl⟩, trivial⟩ trivial rfl rfl (fun h => by cases h) rfl (fun _ h => by cases h) (.inl rfl) rfl rfl)) ?_
       refine d_v' (j_want rfl rfl h10r (j_loada_box (ys := [.sl _, .sl _]) agg26 rfl rfl rfl (Nat.le_of_ble_eq_true rfl))) ?_
       refine d_v' (j_want rfl rfl h10r (j_move (evo rfl))) ?_
       refine d_v0' (j_want rfl rfl h10r (j_call0 (v := .p _) (hp1 := []) [] false [] ent43 (f_deSpec m d) ⟨.inl ⟨rfl, rfl⟩, .inl ⟨rfl, rfl⟩, trivial⟩ trivial rfl rfl (fun h => by cases h) rfl (fun _ h => by cases h) (.inl rfl) rfl rfl)) ?_
       refine d_v' (j_want rfl rfl h10r (j_eqb Try.underlying4 rfl rfl)) ?_
       refine d_v' (j_pick_t rfl h10r (evo rfl)) ?_
       refine d_v' (j_assign (evo rfl)) ?_
       refine d_nil (by kernel_rfl) (by kernel_rfl) ?_
       refine a_ret ?_
       exact ⟨[.p _], .p _, [], [], [], ⟨rfl, trivial⟩, rfl, rfl, trivial, rfl, rfl, ⟨boolEq (by first | (simp; done) | assumption | (exfalso; simp_all; done)), rfl, rfl⟩⟩
      ·
       have h10r := h10
       try simp only [nq, nr] at h10
       exact absurd h10r (by simp)
     ·
      have h9r := h9
      try simp only [nq, nr] at h9
      exact absurd h9r (by simp)
    ·
     have h8r := h8
     try simp only [nq, nr] at h8
     refine d_v' (j_want rfl rfl h8r (j_move (evo rfl))) ?_
     refine d_v' (j_want rfl rfl h8r (j_not rfl)) ?_
     refine d_v' (j_pick_f rfl h8r (evo rfl)) ?_
     refine d_v' (j_move (evo rfl)) ?_
     refine d_split' 56 rfl (fun h11 => ?_) (fun h11 => ?_)
     ·
      have h11r := h11
      try simp only [nq, nr] at h11
      refine d_v' (j_unwantV rfl rfl h11r) ?_
      refine d_v' (j_unwantV rfl rfl h11r) ?_
      refine d_v' (j_unwantV rfl rfl h11r) ?_
      refine d_v' (j_unwantV rfl rfl h11r) ?_
      refine d_v' (j_pick_t rfl h11r (evo rfl)) ?_
      refine d_v' (j_move (evo rfl)) ?_
      refine d_v' (j_unwantV rfl rfl rfl) ?_
      refine d_v' (j_unwantV rfl rfl rfl) ?_
      refine d_v' (j_unwantV rfl rfl rfl) ?_
      refine d_v' (j_unwantV rfl rfl rfl) ?_
      refine d_v' (j_pick_t rfl rfl (evo rfl)) ?_
      refine d_nil (by kernel_rfl) (by kernel_rfl) ?_
      refine a_tt rfl ?_
      refine a_seq ?_
      refine a_draw mixed (by kernel_rfl) (by kernel_rfl) fun vf => ?_
      refine d_v' (j_move (evo rfl)) ?_
      refine d_v' (j_move (evo rfl)) ?_
      refine d_v' (j_eqb Try.underlying4 rfl rfl) ?_
      refine d_v' (j_move (evo rfl)) ?_
      refine d_split' 71 rfl (fun h12 => ?_) (fun h12 => ?_)
      ·
       have h12r := h12
       try simp only [nq, nr] at h12
       refine d_v' (j_want rfl rfl h12r (j_move (evo rfl))) ?_
       refine d_v' (j_want rfl rfl h12r (j_move (evo rfl))) ?_
       refine d_v0' (j_want rfl rfl h12r (j_call0 (v := .p _) (hp1 := []) [] false [] ent16 (f_cpRows (fmD m d) (fmD m d)) ⟨.inl ⟨rfl, rfl⟩, .inl ⟨rfl, rfl⟩, trivial⟩ trivial rfl rfl (fun h => by cases h) rfl (fun _ h => by cases h) (.inl rfl) rfl rfl)) ?_
       refine d_v' (j_pick_t rfl h12r (evo rfl)) ?_
       refine d_v' (j_move (evo rfl)) ?_
       refine d_split' 76 rfl (fun h13 => ?_) (fun h13 => ?_)
       ·
        have h13r := h13
        try simp only [nq, nr] at h13
        refine d_v' (j_want rfl rfl h13r (j_loada_box (ys := [.sl _, .sl _]) agg26 rfl rfl rfl (Nat.le_of_ble_eq_true rfl))) ?_
        refine d_v' (j_want rfl rfl h13r (j_move (evo rfl))) ?_
        refine d_v0' (j_want rfl rfl h13r (j_call0 (v := .p _) (hp1 := []) [] false [] ent20 (f_deImpl m d) ⟨.inl ⟨rfl, rfl⟩, .inl ⟨rfl, rfl⟩, trivial⟩ trivial rfl rfl (fun h => by cases h) rfl (fun _ h => by cases h) (.inl rfl) rfl rfl)) ?_
        refine d_v' (j_want rfl rfl h13r (j_loada_box (ys := [.sl _, .sl _]) agg26 rfl rfl rfl (Nat.le_of_ble_eq_true rfl))) ?_
        refine d_v' (j_want rfl rfl h13r (j_move (evo rfl))) ?_
        refine d_v0' (j_want rfl rfl h13r (j_call0 (v := .p _) (hp1 := []) [] false [] ent43 (f_deSpec m d) ⟨.inl ⟨rfl, rfl⟩, .inl ⟨rfl, rfl⟩, trivial⟩ trivial rfl rfl (fun h => by cases h) rfl (fun _ h => by cases h) (.inl rfl) rfl rfl)) ?_
        refine d_v' (j_want rfl rfl h13r (j_eqb Try.underlying4 rfl rfl)) ?_
        refine d_v' (j_pick_t rfl h13r (evo rfl)) ?_
        refine d_v' (j_assign (evo rfl)) ?_
        refine d_nil (by kernel_rfl) (by kernel_rfl) ?_
        refine a_ret ?_
        exact ⟨[.p _], .p _, [], [], [], ⟨rfl, trivial⟩, rfl, rfl, trivial, rfl, rfl, ⟨boolEq (by first | (simp; done) | assumption | (exfalso; simp_all; done)), rfl, rfl⟩⟩
       ·
        have h13r := h13
        try simp only [nq, nr] at h13
        exact absurd h13r (by simp)
      ·
       have h12r := h12
       try simp only [nq, nr] at h12
       exact absurd h12r (by simp)
     ·
      have h11r := h11
      try simp only [nq, nr] at h11
      refine d_v' (j_want rfl rfl h11r (j_fldp fld26f1 rfl rfl)) ?_
      refine d_v' (j_want rfl rfl h11r (j_load_box leaf24 rfl rfl rfl)) ?_
      refine d_v' (j_want rfl rfl h11r (j_len_map Try.underlying24 rfl)) ?_
      refine d_v' (j_want rfl rfl h11r (j_eq rfl rfl)) ?_
      refine d_v' (j_pick_f rfl h11r (evo rfl)) ?_
      refine d_v' (j_move (evo rfl)) ?_
      refine d_split' 62 rfl (fun h14 => ?_) (fun h14 => ?_)
      ·
       have h14r := h14
       try simp only [nq, nr] at h14
       refine d_v' (j_unwantV rfl rfl h14r) ?_
       refine d_v' (j_unwantV rfl rfl h14r) ?_
       refine d_v' (j_unwantV rfl rfl h14r) ?_
       refine d_v' (j_unwantV rfl rfl h14r) ?_
       refine d_v' (j_pick_t rfl h14r (evo rfl)) ?_
       refine d_nil (by kernel_rfl) (by kernel_rfl) ?_
       refine a_tt rfl ?_
       refine a_seq ?_
       refine a_draw mixed (by kernel_rfl) (by kernel_rfl) fun vf => ?_
       refine d_v' (j_move (evo rfl)) ?_
       refine d_v' (j_move (evo rfl)) ?_
       refine d_v' (j_eqb Try.underlying4 rfl rfl) ?_
       refine d_v' (j_move (evo rfl)) ?_
       refine d_split' 71 rfl (fun h15 => ?_) (fun h15 => ?_)
       ·
        have h15r := h15
        try simp only [nq, nr] at h15
        refine d_v' (j_want rfl rfl h15r (j_move (evo rfl))) ?_
        refine d_v' (j_want rfl rfl h15r (j_move (evo rfl))) ?_
        refine d_v0' (j_want rfl rfl h15r (j_call0 (v := .p _) (hp1 := []) [] false [] ent16 (f_cpRows (fmD m d) (fmD m d)) ⟨.inl ⟨rfl, rfl⟩, .inl ⟨rfl, rfl⟩, trivial⟩ trivial rfl rfl (fun h => by cases h) rfl (fun _ h => by cases h) (.inl rfl) rfl rfl)) ?_
        refine d_v' (j_pick_t rfl h15r (evo rfl)) ?_
        refine d_v' (j_move (evo rfl)) ?_
        refine d_split' 76 rfl (fun h16 => ?_) (fun h16 => ?_)
        ·
         have h16r := h16
         try simp only [nq, nr] at h16
         refine d_v' (j_want rfl rfl h16r (j_loada_box (ys := [.sl _, .sl _]) agg26 rfl rfl rfl (Nat.le_of_ble_eq_true rfl))) ?_
         refine d_v' (j_want rfl rfl h16r (j_move (evo rfl))) ?_
         refine d_v0' (j_want rfl rfl h16r (j_call0 (v := .p _) (hp1 := []) [] false [] ent20 (f_deImpl m d) ⟨.inl ⟨rfl, rfl⟩, .inl ⟨rfl, rfl⟩, trivial⟩ trivial rfl rfl (fun h => by cases h) rfl (fun _ h => by cases h) (.inl rfl) rfl rfl)) ?_
         refine d_v' (j_want rfl rfl h16r (j_loada_box (ys := [.sl _, .sl _]) agg26 rfl rfl rfl (Nat.le_of_ble_eq_true rfl))) ?_
         refine d_v' (j_want rfl rfl h16r (j_move (evo rfl))) ?_
         refine d_v0' (j_want rfl rfl h16r (j_call0 (v := .p _) (hp1 := []) [] false [] ent43 (f_deSpec m d) ⟨.inl ⟨rfl, rfl⟩, .inl ⟨rfl, rfl⟩, trivial⟩ trivial rfl rfl (fun h => by cases h) rfl (fun _ h => by cases h) (.inl rfl) rfl rfl)) ?_
         refine d_v' (j_want rfl rfl h16r (j_eqb Try.underlying4 rfl rfl)) ?_
         refine d_v' (j_pick_t rfl h16r (evo rfl)) ?_
         refine d_v' (j_assign (evo rfl)) ?_
         refine d_nil (by kernel_rfl) (by kernel_rfl) ?_
         refine a_ret ?_
         exact ⟨[.p _], .p _, [], [], [], ⟨rfl, trivial⟩, rfl, rfl, trivial, rfl, rfl, ⟨boolEq (by first | (simp; done) | assumption | (exfalso; simp_all; done)), rfl, rfl⟩⟩
        ·
         have h16r := h16
         try simp only [nq, nr] at h16
         exact absurd h16r (by simp)
       ·
        have h15r := h15
        try simp only [nq, nr] at h15
        exact absurd h15r (by simp)
      ·
       have h14r := h14
       try simp only [nq, nr] at h14
       refine d_v' (j_want rfl rfl h14r (j_loada_box (ys := [.sl _, .sl _]) agg26 rfl rfl rfl (Nat.le_of_ble_eq_true rfl))) ?_
       refine d_v' (j_want rfl rfl h14r (j_move (evo rfl))) ?_
       refine d_v0' (j_want rfl rfl h14r (j_call0 (v := .p _) (hp1 := []) [] false [] ent20 (f_deImpl m (fmD m d)) ⟨.inl ⟨rfl, rfl⟩, .inl ⟨rfl, rfl⟩, trivial⟩ trivial rfl rfl (fun h => by cases h) rfl (fun _ h => by cases h) (.inl rfl) rfl rfl)) ?_
       refine d_v' (j_want rfl rfl h14r (j_not rfl)) ?_
       refine d_v' (j_pick_f rfl h14r (evo rfl)) ?_
       refine d_nil (by kernel_rfl) (by kernel_rfl) ?_
       refine a_cond rfl (fun h17 => ?_) (fun h17 => ?_)
       ·
        have h17r := h17
        try simp only [nq, nr] at h17
        refine a_seq ?_
        refine a_draw mixed (by kernel_rfl) (by kernel_rfl) fun vf => ?_
        refine d_v' (j_move (evo rfl)) ?_
        refine d_v' (j_move (evo rfl)) ?_
        refine d_v' (j_eqb Try.underlying4 rfl rfl) ?_
        refine d_v' (j_move (evo rfl)) ?_
        refine d_split' 71 rfl (fun h18 => ?_) (fun h18 => ?_)
        ·
         have h18r := h18
         try simp only [nq, nr] at h18
         refine d_v' (j_want rfl rfl h18r (j_move (evo rfl))) ?_
         refine d_v' (j_want rfl rfl h18r (j_move (evo rfl))) ?_
         refine d_v0' (j_want rfl rfl h18r (j_call0 (v := .p _) (hp1 := []) [] false [] ent16 (f_cpRows (fmD m d) (fmD m d)) ⟨.inl ⟨rfl, rfl⟩, .inl ⟨rfl, rfl⟩, trivial⟩ trivial rfl rfl (fun h => by cases h) rfl (fun _ h => by cases h) (.inl rfl) rfl rfl)) ?_
         refine d_v' (j_pick_t rfl h18r (evo rfl)) ?_
         refine d_v' (j_move (evo rfl)) ?_
         refine d_split' 76 rfl (fun h19 => ?_) (fun h19 => ?_)
         ·
          have h19r := h19
          try simp only [nq, nr] at h19
          refine d_v' (j_want rfl rfl h19r (j_loada_box (ys := [.sl _, .sl _]) agg26 rfl rfl rfl (Nat.le_of_ble_eq_true rfl))) ?_
          refine d_v' (j_want rfl rfl h19r (j_move (evo rfl))) ?_
          refine d_v0' (j_want rfl rfl h19r (j_call0 (v := .p _) (hp1 := []) [] false [] ent20 (f_deImpl m d) ⟨.inl ⟨rfl, rfl⟩, .inl ⟨rfl, rfl⟩, trivial⟩ trivial rfl rfl (fun h => by cases h) rfl (fun _ h => by cases h) (.inl rfl) rfl rfl)) ?_
          refine d_v' (j_want rfl rfl h19r (j_loada_box (ys := [.sl _, .sl _]) agg26 rfl rfl rfl (Nat.le_of_ble_eq_true rfl))) ?_
          refine d_v' (j_want rfl rfl h19r (j_move (evo rfl))) ?_
          refine d_v0' (j_want rfl rfl h19r (j_call0 (v := .p _) (hp1 := []) [] false [] ent43 (f_deSpec m d) ⟨.inl ⟨rfl, rfl⟩, .inl ⟨rfl, rfl⟩, trivial⟩ trivial rfl rfl (fun h => by cases h) rfl (fun _ h => by cases h) (.inl rfl) rfl rfl)) ?_
          refine d_v' (j_want rfl rfl h19r (j_eqb Try.underlying4 rfl rfl)) ?_
          refine d_v' (j_pick_t rfl h19r (evo rfl)) ?_
          refine d_v' (j_assign (evo rfl)) ?_
          refine d_nil (by kernel_rfl) (by kernel_rfl) ?_
          refine a_ret ?_
          exact ⟨[.p _], .p _, [], [], [], ⟨rfl, trivial⟩, rfl, rfl, trivial, rfl, rfl, ⟨boolEq (by first | (simp; done) | assumption | (exfalso; simp_all; done)), rfl, rfl⟩⟩
         ·
          have h19r := h19
          try simp only [nq, nr] at h19
          exact absurd h19r (by simp)
        ·
         have h18r := h18
         try simp only [nq, nr] at h18
         exact absurd h18r (by simp)
       ·
        have h17r := h17
        try simp only [nq, nr] at h17
        refine a_skip ?_
        refine a_seq ?_
        refine a_seq ?_
        have hdm : dmB m d = true := by assumption
        have hmk := (dm_parts hdm).1
        have hms := mOk_sz hmk
        have hde : deB m (fmD m d) = true := by assumption
        have hrl : 0 < m.2.length := by omega
        have hr9 := row9 hmk (fm_fits hdm)
        refine a_region (by kernel_rfl) ?_
        refine op_v' (j_assign (evo rfl)) ?_
        refine op_nil ?_
        refine a_block ?_
        refine a_loopF' (ι := Nat) (fun k => k ≤ (fmD m d).length) (fun k r => (9, .p (.int .i64 ((k : Nat)))) :: r) (fun k r => r) (fun k => (fmD m d).length - k) (fun _ _ => rfl) (fun _ _ => rfl) 0 (by first | omega | (simp only [nr]; omega)) ⟨⟨rfl, rfl⟩, ⟨rfl, trivial⟩, trivial, ⟨rfl, rfl⟩, ⟨rfl, rfl⟩⟩ ?_
        intro k hpre0
        refine a_seq ?_
        refine a_seq ?_
        refine a_region (by kernel_rfl) ?_
        refine op_v' (j_move (evo rfl)) ?_
        refine op_v' (j_move (evo rfl)) ?_
        refine op_v' (j_len_map Try.underlying28 rfl) ?_
        refine op_v' (j_lt rfl rfl) ?_
        refine op_nil ?_
        refine a_cond rfl (fun h20 => ?_) (fun h20 => ?_)
        ·
         have h20r := h20
         try simp only [nq, nr] at h20
         refine a_skip ?_
         refine a_seq ?_
         refine a_block ?_
         refine a_seq ?_
         refine a_region (by kernel_rfl) ?_
         refine op_v' (j_assign (evo rfl)) ?_
         refine op_nil ?_
         refine a_block ?_
         refine a_loopF' (ι := Nat) (fun j => j ≤ ((fmD m d).getD k default).length) (fun j r => (10, .p (.int .i64 ((j : Nat)))) :: r) (fun j r => r) (fun j => ((fmD m d).getD k default).length - j) (fun _ _ => rfl) (fun _ _ => rfl) 0 (Nat.zero_le _) ⟨⟨rfl, rfl⟩, ⟨rfl, trivial⟩, trivial, ⟨rfl, rfl⟩, ⟨rfl, rfl⟩⟩ ?_
         intro j hj
         refine a_seq ?_
         refine a_seq ?_
         have hr9k := hr9.2 k
         refine a_region (by kernel_rfl) ?_
         refine op_v' (j_move (evo rfl)) ?_
         refine op_v' (j_move (evo rfl)) ?_
         refine op_v' (j_move (evo rfl)) ?_
         refine op_v' (j_elemN slt28 rfl rfl rfl (at_map (by first | omega | (simp only [nr]; omega))) rfl) ?_
         refine op_v' (j_load_el leaf34 rfl (at_map (by first | omega | (simp only [nr]; omega))) rfl) ?_
         refine op_v' (j_len_map Try.underlying34 rfl) ?_
         refine op_v' (j_lt rfl rfl) ?_
         refine op_nil ?_
         refine a_cond rfl (fun h21 => ?_) (fun h21 => ?_)
         ·
          have h21r := h21
          try simp only [nq, nr] at h21
          refine a_skip ?_
          refine a_seq ?_
          refine a_block ?_
          refine a_seq ?_
          have hem : ((fmD m d).getD k default).getD j default = false := fm_em hdm hrl hde
          refine a_region (by kernel_rfl) ?_
          refine op_v' (j_move (evo rfl)) ?_
          refine op_v' (j_move (evo rfl)) ?_
          refine op_v' (j_elemN slt28 rfl rfl rfl (at_map (by first | omega | (simp only [nr]; omega))) rfl) ?_
          refine op_v' (j_load_el leaf34 rfl (at_map (by first | omega | (simp only [nr]; omega))) rfl) ?_
          refine op_v' (j_move (evo rfl)) ?_
          refine op_v' (j_elemN slt34 rfl rfl rfl (at_map (by first | omega | (simp only [nr]; omega))) rfl) ?_
          refine op_v' (j_load_el leaf4 rfl (at_map (by first | omega | (simp only [nr]; omega))) rfl) ?_
          refine op_nil ?_
          refine a_cond rfl (fun h22 => ?_) (fun h22 => ?_)
          ·
           have h22r := h22
           try simp only [nq, nr] at h22
           exact absurd h22r (by rw [hem]; decide)
          ·
           have h22r := h22
           try simp only [nq, nr] at h22
           refine a_skip ?_
           refine a_region (by kernel_rfl) ?_
           refine op_v' (j_move (evo rfl)) ?_
           refine op_v' (j_add rfl rfl (by first | omega | (simp only [nr]; omega)) (by first | omega | (simp only [nr]; omega))) ?_
           refine op_v' (j_assign (evo rfl)) ?_
           refine op_nil ?_
           exact ⟨j + 1, (by first | omega | (simp only [nr]; omega)), ⟨⟨rfl, rfl⟩, ⟨rfl, trivial⟩, trivial, ⟨rfl, rfl⟩, ⟨rfl, rfl⟩⟩, (by first | omega | (simp only [nr]; omega))⟩
         ·
          have h21r := h21
          try simp only [nq, nr] at h21
          refine a_exit ?_
          refine a_region (by kernel_rfl) ?_
          refine op_v' (j_move (evo rfl)) ?_
          refine op_v' (j_add rfl rfl (by first | omega | (simp only [nr]; omega)) (by first | omega | (simp only [nr]; omega))) ?_
          refine op_v' (j_assign (evo rfl)) ?_
          refine op_nil ?_
          exact ⟨k + 1, (by first | omega | (simp only [nr]; omega)), ⟨⟨rfl, rfl⟩, ⟨rfl, trivial⟩, trivial, ⟨rfl, rfl⟩, ⟨rfl, rfl⟩⟩, (by first | omega | (simp only [nr]; omega))⟩
        ·
         have h20r := h20
         try simp only [nq, nr] at h20
         refine a_exit ?_
         refine a_seq ?_
         refine a_region (by kernel_rfl) ?_
         refine op_v' (j_fldp fld26f0 rfl rfl) ?_
         refine op_v' (j_load_box leaf23 rfl rfl rfl) ?_
         refine op_v' (j_len_map Try.underlying23 rfl) ?_
         refine op_n' (fun ver => j_make (n := m.1.length) slt23 elt3 rfl rfl (by decide) rfl rfl rfl rfl (by first | omega | (simp only [nr]; omega)) (by rw [maxLen_eq]; first | omega | (simp only [nr]; omega))) fun v110x3 => ?_
         refine op_v' (j_assign (evo rfl)) ?_
         refine op_nil ?_
         refine a_seq ?_
         refine a_seq ?_
         refine a_row 110 (es' := (List.replicate m.1.length (0 : Int)).map dI) rfl (by rw [List.map_replicate]; rfl) ?_
         refine a_freeze' 11 (noA _ _ _ _ _) rfl rfl ?_
         refine a_region (by kernel_rfl) ?_
         refine op_v' (j_loada_box (ys := [.sl _, .sl _]) agg26 rfl rfl rfl (Nat.le_of_ble_eq_true rfl)) ?_
         refine op_v' (j_move (evo rfl)) ?_
         refine op_v0' (j_call0 (v := .tup [.sl _, .p _]) (hp1 := []) [] false [] ent33 (f_nx m (List.replicate m.1.length (0 : Int)) hwr) ⟨.inl ⟨rfl, rfl⟩, .inl ⟨rfl, rfl⟩, trivial⟩ trivial rfl rfl (fun h => by cases h) rfl (fun _ h => by cases h) (.inl rfl) rfl rfl) ?_
         refine op_v' (j_move (evo rfl)) ?_
         refine op_v' (j_extract rfl rfl) ?_
         refine op_v' (j_extract rfl rfl) ?_
         refine op_v' (j_assign (evo rfl)) ?_
         refine op_v' (j_assign (evo rfl)) ?_
         refine op_nil ?_
         refine a_block ?_
         refine a_loopF' (ι := Option (List Int)) (fun o => okSo m o) (fun o r => (12, .sl ((o.getD []).map dI)) :: (13, .p (.bool (o.isSome))) :: r) (fun o r => r) (fun o => muSo m o) (fun _ _ => rfl) (fun _ _ => rfl) (nmV m (List.replicate m.1.length (0 : Int))) (by first | exact okSo_nm (zero_cv hmk) | (dsimp only; exact okSo_nm (zero_cv hmk))) ⟨⟨rfl, rfl⟩, ⟨rfl, rfl, trivial⟩, trivial, ⟨rfl, rfl⟩, ⟨rfl, rfl⟩⟩ ?_
         intro o ho
         refine a_seq ?_
         refine a_seq ?_
         refine a_region (by kernel_rfl) ?_
         refine op_v' (j_move (evo rfl)) ?_
         refine op_nil ?_
         refine a_cond rfl (fun h23 => ?_) (fun h23 => ?_)
         ·
          have h23r := h23
          try simp only [nq, nr] at h23
          obtain ⟨c, rfl⟩ := Option.isSome_iff_exists.1 h23
          have hoc := ho c rfl
          dsimp only [Option.getD_some]
          refine a_skip ?_
          refine a_seq ?_
          refine a_block ?_
          refine a_seq ?_
          refine a_region (by kernel_rfl) ?_
          refine op_v' (j_loada_box (ys := [.sl _, .sl _]) agg26 rfl rfl rfl (Nat.le_of_ble_eq_true rfl)) ?_
          refine op_v' (j_move (evo rfl)) ?_
          refine op_v' (j_move (evo rfl)) ?_
          refine op_v0' (j_call0 (v := .p _) (hp1 := []) [] false [] ent19 (f_cellsIn m d c) ⟨.inl ⟨rfl, rfl⟩, .inl ⟨rfl, rfl⟩, .inl ⟨rfl, rfl⟩, trivial⟩ trivial rfl rfl (fun h => by cases h) rfl (fun _ h => by cases h) (.inl rfl) rfl rfl) ?_
          refine op_nil ?_
          refine a_cond rfl (fun h24 => ?_) (fun h24 => ?_)
          ·
           have h24r := h24
           try simp only [nq, nr] at h24
           exact absurd h24r (by rw [fm_none hdm hde hoc.2]; decide)
          ·
           have h24r := h24
           try simp only [nq, nr] at h24
           refine a_skip ?_
           refine a_region (by kernel_rfl) ?_
           refine op_v' (j_loada_box (ys := [.sl _, .sl _]) agg26 rfl rfl rfl (Nat.le_of_ble_eq_true rfl)) ?_
           refine op_v' (j_move (evo rfl)) ?_
           refine op_v0' (j_call0 (v := .tup [.sl _, .p _]) (hp1 := []) [] false [] ent34 (f_cpAfter m c hmk hoc.1 hwr) ⟨.inl ⟨rfl, rfl⟩, .inl ⟨rfl, rfl⟩, trivial⟩ trivial rfl rfl (fun h => by cases h) rfl (fun _ h => by cases h) (.inl rfl) rfl rfl) ?_
           refine op_v' (j_move (evo rfl)) ?_
           refine op_v' (j_extract rfl rfl) ?_
           refine op_v' (j_extract rfl rfl) ?_
           refine op_v' (j_assign (evo rfl)) ?_
           refine op_v' (j_assign (evo rfl)) ?_
           refine op_nil ?_
           exact ⟨(caV m c), (by first | exact (okSo_ca hmk hoc.1).1 | (dsimp only; exact (okSo_ca hmk hoc.1).1)), ⟨⟨rfl, rfl⟩, ⟨rfl, rfl, trivial⟩, trivial, ⟨rfl, rfl⟩, ⟨rfl, rfl⟩⟩, (by first | exact (okSo_ca hmk hoc.1).2 | (dsimp only; exact (okSo_ca hmk hoc.1).2))⟩
         ·
          have h23r := h23
          try simp only [nq, nr] at h23
          refine a_exit ?_
          refine a_seq ?_
          refine a_region (by kernel_rfl) ?_
          refine op_v' (j_assign (evo rfl)) ?_
          refine op_nil ?_
          refine a_ret ?_
          exact ⟨[.p _], .p _, [], [], [], ⟨rfl, trivial⟩, rfl, rfl, trivial, rfl, rfl, ⟨boolEq (by first | (simp; done) | assumption | (exfalso; simp_all; done)), rfl, rfl⟩⟩


end Go.Ab

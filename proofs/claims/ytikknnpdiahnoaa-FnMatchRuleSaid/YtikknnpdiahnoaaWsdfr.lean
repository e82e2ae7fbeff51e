/- Walks. -/
import Derived.Test.YtikknnpdiahnoaaBase
import Derived.Test.YtikknnpdiahnoaaMt
import Derived.Test.YtikknnpdiahnoaaWsd8
import Derived.Test.YtikknnpdiahnoaaWsflt
import Derived.Test.YtikknnpdiahnoaaWsmod2
import Derived.Test.YtikknnpdiahnoaaSimp
import Derived.Test.YtikknnpdiahnoaaWscons
import Derived.Test.YtikknnpdiahnoaaVals
namespace Go.Ab
open Go.Proofs
set_option maxRecDepth 100000
set_option maxHeartbeats 8000000
set_option linter.unusedSimpArgs false
set_option linter.unusedVariables false
theorem f_cpInts (a b : List Int) : Fn Try.prog 24 [.sl (a.map dI), .sl (b.map dI)] [] (fun rr ii nn => rr = .p (.bool (decide (a = b))) ∧ ii = [] ∧ nn = []) := by
 refine fn_of Try.func24 rfl (Nat.le_of_ble_eq_true rfl) fun w X g => ?_
 show AWp _ _ _ ⟨[(0, .sl (a.map dI)), (1, .sl (b.map dI))], []⟩
 refine a_len_map 0 rfl fun hla => ?_
 refine a_seq ?_
 refine a_region (by kernel_rfl) ?_
 refine op_v' (j_assign (evo rfl)) ?_
 refine op_nil ?_
 refine a_seq ?_
 refine a_seq ?_
 refine a_region (by kernel_rfl) ?_
 refine op_v' (j_move (evo rfl)) ?_
 refine op_v' (j_len_map Try.underlying23 rfl) ?_
 refine op_v' (j_move (evo rfl)) ?_
 refine op_v' (j_len_map Try.underlying23 rfl) ?_
 refine op_v' (j_ne rfl rfl) ?_
 refine op_nil ?_
 refine a_cond rfl (fun h1 => ?_) (fun h1 => ?_)
 ·
  have h1r := h1
  try simp only [nq, nr] at h1
  refine a_seq ?_
  refine a_region (by kernel_rfl) ?_
  refine op_v' (j_assign (evo rfl)) ?_
  refine op_nil ?_
  refine a_ret ?_
  exact ⟨[.p _], .p _, [], [], [], ⟨rfl, trivial⟩, rfl, rfl, trivial, rfl, rfl, ⟨boolEq (by symm; rw [decide_eq_false_iff_not]; rintro rfl; exact h1 rfl), rfl, rfl⟩⟩
 ·
  have h1r := h1
  try simp only [nq, nr] at h1
  refine a_skip ?_
  refine a_seq ?_
  refine a_seq ?_
  refine a_region (by kernel_rfl) ?_
  refine op_v' (j_assign (evo rfl)) ?_
  refine op_nil ?_
  refine a_block ?_
  refine a_loopF' (ι := Nat) (fun k => k ≤ a.length ∧ a.take k = b.take k) (fun k r => (5, .p (.int .i64 ((k : Nat)))) :: r) (fun k r => r) (fun k => a.length - k) (fun _ _ => rfl) (fun _ _ => rfl) 0 ⟨Nat.zero_le _, rfl⟩ ⟨⟨rfl, rfl⟩, ⟨rfl, trivial⟩, trivial, ⟨rfl, rfl⟩, ⟨rfl, rfl⟩⟩ ?_
  intro k hpre0
  have hpre := hpre0.1
  refine a_seq ?_
  refine a_seq ?_
  refine a_region (by kernel_rfl) ?_
  refine op_v' (j_move (evo rfl)) ?_
  refine op_v' (j_move (evo rfl)) ?_
  refine op_v' (j_len_map Try.underlying23 rfl) ?_
  refine op_v' (j_lt rfl rfl) ?_
  refine op_nil ?_
  refine a_cond rfl (fun h2 => ?_) (fun h2 => ?_)
  ·
   have h2r := h2
   try simp only [nq, nr] at h2
   refine a_skip ?_
   refine a_seq ?_
   refine a_block ?_
   refine a_seq ?_
   refine a_draw mixed (by kernel_rfl) (by kernel_rfl) fun vf => ?_
   refine d_v' (j_move (evo rfl)) ?_
   refine d_v' (j_move (evo rfl)) ?_
   refine d_v' (j_elemN slt23 rfl rfl rfl (at_map (by omega)) rfl) ?_
   refine d_v' (j_load_el leaf3 rfl (at_map (by omega)) rfl) ?_
   refine d_v' (j_move (evo rfl)) ?_
   refine d_v' (j_move (evo rfl)) ?_
   refine d_v' (j_elemN slt23 rfl rfl rfl (at_map (by omega)) rfl) ?_
   refine d_v' (j_load_el leaf3 rfl (at_map (by omega)) rfl) ?_
   refine d_v' (j_ne rfl rfl) ?_
   refine d_nil (by kernel_rfl) (by kernel_rfl) ?_
   refine a_cond rfl (fun h3 => ?_) (fun h3 => ?_)
   ·
    have h3r := h3
    try simp only [nq, nr] at h3
    refine a_seq ?_
    refine a_region (by kernel_rfl) ?_
    refine op_v' (j_assign (evo rfl)) ?_
    refine op_nil ?_
    refine a_ret ?_
    exact ⟨[.p _], .p _, [], [], [], ⟨rfl, trivial⟩, rfl, rfl, trivial, rfl, rfl, ⟨boolEq (by symm; rw [decide_eq_false_iff_not]; rintro rfl; exact h3 rfl), rfl, rfl⟩⟩
   ·
    have h3r := h3
    try simp only [nq, nr] at h3
    refine a_skip ?_
    refine a_region (by kernel_rfl) ?_
    refine op_v' (j_move (evo rfl)) ?_
    refine op_v' (j_add rfl rfl (by omega) (by omega)) ?_
    refine op_v' (j_assign (evo rfl)) ?_
    refine op_nil ?_
    exact ⟨k + 1, ⟨(by omega), take_next hpre0.2 (by omega) (by omega) h3⟩, ⟨⟨rfl, rfl⟩, ⟨rfl, trivial⟩, trivial, ⟨rfl, rfl⟩, ⟨rfl, rfl⟩⟩, (by omega)⟩
  ·
   have h2r := h2
   try simp only [nq, nr] at h2
   refine a_exit ?_
   refine a_seq ?_
   refine a_region (by kernel_rfl) ?_
   refine op_v' (j_assign (evo rfl)) ?_
   refine op_nil ?_
   refine a_ret ?_
   exact ⟨[.p _], .p _, [], [], [], ⟨rfl, trivial⟩, rfl, rfl, trivial, rfl, rfl, ⟨boolEq (by symm; rw [decide_eq_true_eq]; exact take_eq hpre0.2 (by omega) (by omega)), rfl, rfl⟩⟩


theorem f_dFR (b : List Int) (hb : ∀ a ∈ b, 0 ≤ a ∧ a ≤ 255) : Fn Try.prog 27 [.sl (b.map dU)] [] (fun rr ii nn => ∃ x : Md × Int × List (List Bool), (wM x.1 ≤ 3000 ∧ x.2.2.length ≤ 5) ∧ rr = .tup [.agg [.sl (x.1.1.map dI), .sl (x.1.2.map dR)], .p (.int .i64 x.2.1), .sl (x.2.2.map dD)] ∧ ii = [] ∧ nn = []) := by
 refine fn_of Try.func27 rfl (Nat.le_of_ble_eq_true rfl) fun w X g => ?_
 show AWp _ _ _ ⟨[(0, .sl (b.map dU))], []⟩
 have hbt := okB_take (b := b) (Nat.le_refl _) hb
 refine a_seq ?_
 refine a_region (by kernel_rfl) ?_
 refine op_n' (fun ver => j_alloc elt26 rfl) fun v2x1 => ?_
 refine op_v' (j_assign (evo rfl)) ?_
 refine op_v' (j_assign (evo rfl)) ?_
 refine op_nil ?_
 refine a_seq ?_
 refine a_region (by kernel_rfl) ?_
 refine op_v' (j_move (evo rfl)) ?_
 refine op_n1' (fun ver => j_call1 (v := .ptr 9 ver 0) (hp1 := [(9, some (ver, .box 114 [.sl _, .p _]))]) [] false [] ent73 (f_open _) ⟨.inl ⟨rfl, rfl⟩, trivial⟩ trivial rfl rfl rfl (fun h => by cases h) rfl (List.all_eq_true.1 rfl) (.inl rfl) rfl rfl) fun v9x2 => ?_
 refine op_v' (j_assign (evo rfl)) ?_
 refine op_nil ?_
 refine a_seq ?_
 refine a_region (by kernel_rfl) ?_
 refine op_v' (j_move (evo rfl)) ?_
 refine op_v' (j_move (evo rfl)) ?_
 refine op_callE (v := fun x => .agg [.sl _, .sl _]) (hp1 := fun x => [(9, some (v9x2, .box 114 [.sl _, .p _]))]) [(9, v9x2)] false ent75 (f_l6Model (b.take 2000) 0 hbt (by omega)) ⟨.inl ⟨rfl, rfl⟩, trivial⟩ ⟨⟨rfl, rfl⟩, trivial⟩ rfl (fun _ => rfl) (fun _ => rfl) (.inl rfl) (fun _ => rfl) (fun _ => rfl) ?_
 rintro ⟨m12, p12⟩ ⟨hw12, hl12, hr12, hp12⟩
 try dsimp only at hw12
 try dsimp only at hl12
 try dsimp only at hr12
 try dsimp only at hp12
 dsimp only [List.cons_append, List.nil_append]
 refine op_callE (v := fun x => .agg [.sl _, .sl _]) (hp1 := fun x => [(9, some (v9x2, .box 114 [.sl _, .p _]))]) [(9, v9x2)] false ent74 (f_l6Mutate (b.take 2000) p12 m12 hbt (by omega) (by omega)) ⟨.inl ⟨rfl, rfl⟩, .inl ⟨rfl, rfl⟩, trivial⟩ ⟨⟨rfl, rfl⟩, trivial⟩ rfl (fun _ => rfl) (fun _ => rfl) (.inl rfl) (fun _ => rfl) (fun _ => rfl) ?_
 rintro ⟨m13, p13⟩ ⟨hw13, hp13⟩
 try dsimp only at hw13
 try dsimp only at hp13
 dsimp only [List.cons_append, List.nil_append]
 refine op_n' (fun ver => j_alloc elt26 rfl) fun v6x3 => ?_
 refine op_s' (j_storea_box0 agg26 rfl rfl rfl rfl rfl rfl) ?_
 refine op_nil ?_
 refine a_seq ?_
 have hdd := drawD_ok (b := (b.take 2000)) (p := p13) (m := m13)
 refine a_region (by kernel_rfl) ?_
 refine op_v' (j_move (evo rfl)) ?_
 refine op_v' (j_loada_box (ys := [.sl _, .sl _]) agg26 rfl rfl rfl (Nat.le_of_ble_eq_true rfl)) ?_
 refine op_v0' (j_call0 (v := .sl _) (hp1 := [(9, some (v9x2, .box 114 [.sl _, .p _]))]) [(9, v9x2)] false [9] ent76 (f_l8Draw (b.take 2000) p13 m13 hbt (by omega)) ⟨.inl ⟨rfl, rfl⟩, .inl ⟨rfl, rfl⟩, trivial⟩ ⟨⟨rfl, rfl⟩, trivial⟩ rfl rfl (fun h => by cases h) rfl (List.all_eq_true.1 rfl) (.inl rfl) rfl rfl) ?_
 refine op_v' (j_assign (evo rfl)) ?_
 refine op_nil ?_
 refine a_seq ?_
 refine a_draw mixed (by kernel_rfl) (by kernel_rfl) fun vf => ?_
 refine d_v' (j_loada_box (ys := [.sl _, .sl _]) agg26 rfl rfl rfl (Nat.le_of_ble_eq_true rfl)) ?_
 refine d_v' (j_move (evo rfl)) ?_
 refine d_n' (fun ver => j_buildSlice (parts := [(0, .const (.int .i64 0)), (1, .const (.int .i64 0)), (2, .const (.int .i64 1)), (3, .const (.int .i64 2)), (4, .const (.int .i64 (-1))), (5, .const (.int .i64 8))]) (es := [[_], [_], [_], [_], [_], [_]]) slt23 elt3 rfl rfl (by decide) (by decide) rfl rfl (by simp) rfl) ?_
 refine d_v0' (j_call0 (v := .p _) (hp1 := [(9, some (v9x2, .box 114 [.sl _, .p _])), (19, some ((vf 19), .row 3 1 _))]) [(9, v9x2), (19, (vf 19))] false [9, 19] ent77 (f_num (b.take 2000) (drawD (b.take 2000) p13 m13).2 [0, 0, 1, 2, -1, 8] hbt (by omega) (by decide) (by decide)) ⟨.inl ⟨rfl, rfl⟩, .inl ⟨rfl, rfl⟩, trivial⟩ ⟨⟨rfl, rfl⟩, ⟨rfl, rfl⟩, trivial⟩ rfl rfl (fun h => by cases h) rfl (List.all_eq_true.1 rfl) (.inl rfl) rfl rfl) ?_
 refine d_v' (j_move (evo rfl)) ?_
 refine d_s' (j_storea_box0 agg26 rfl rfl rfl rfl rfl rfl) ?_
 refine d_v' (j_assign (evo rfl)) ?_
 refine d_v' (j_assign (evo rfl)) ?_
 refine d_nil (by kernel_rfl) (by kernel_rfl) ?_
 refine a_ret ?_
 exact ⟨[.agg [.sl _, .sl _], .p _, .sl _], .tup [.agg [.sl _, .sl _], .p _, .sl _], [], [], [], ⟨⟨_, _, _, _, rfl, rfl, agg26, rfl⟩, rfl, rfl, trivial⟩, rfl, rfl, trivial, rfl, rfl, ⟨(m13, ofV (b.take 2000) (drawD (b.take 2000) p13 m13).2 [0, 0, 1, 2, -1, 8], (drawD (b.take 2000) p13 m13).1), ⟨hw13, by dsimp only; omega⟩, rfl, rfl, rfl⟩⟩


theorem f_dMR (b : List Int) (hb : ∀ a ∈ b, 0 ≤ a ∧ a ≤ 255) : Fn Try.prog 21 [.sl (b.map dU)] [] (fun rr ii nn => ∃ x : Md × Int × List (List Bool), (wM x.1 ≤ 3000 ∧ x.2.2.length ≤ 5) ∧ rr = .tup [.agg [.sl (x.1.1.map dI), .sl (x.1.2.map dR)], .p (.int .i64 x.2.1), .sl (x.2.2.map dD)] ∧ ii = [] ∧ nn = []) := by
 refine fn_of Try.func21 rfl (Nat.le_of_ble_eq_true rfl) fun w X g => ?_
 show AWp _ _ _ ⟨[(0, .sl (b.map dU))], []⟩
 refine a_seq ?_
 refine a_region (by kernel_rfl) ?_
 refine op_n' (fun ver => j_alloc elt26 rfl) fun v2x1 => ?_
 refine op_v' (j_assign (evo rfl)) ?_
 refine op_v' (j_assign (evo rfl)) ?_
 refine op_nil ?_
 refine a_seq ?_
 refine a_region (by kernel_rfl) ?_
 refine op_v' (j_move (evo rfl)) ?_
 refine op_callE (v := fun x => .tup [.agg [.sl _, .sl _], .p _, .sl _]) (hp1 := fun x => []) [] false ent27 (f_dFR _ hb) ⟨.inl ⟨rfl, rfl⟩, trivial⟩ trivial rfl (fun _ => rfl) (fun _ => rfl) (.inl rfl) (fun _ => rfl) (fun _ => rfl) ?_
 rintro ⟨m6, i6, d6⟩ ⟨hw6, hl6⟩
 try dsimp only at hw6
 try dsimp only at hl6
 dsimp only [List.cons_append, List.nil_append]
 refine op_v' (j_extract rfl rfl) ?_
 refine op_v' (j_extract rfl rfl) ?_
 refine op_v' (j_extract rfl rfl) ?_
 refine op_s' (j_storea_box0 agg26 rfl rfl rfl rfl rfl rfl) ?_
 refine op_v' (j_assign (evo rfl)) ?_
 refine op_v' (j_assign (evo rfl)) ?_
 refine op_nil ?_
 refine a_ret ?_
 exact ⟨[.agg [.sl _, .sl _], .p _, .sl _], .tup [.agg [.sl _, .sl _], .p _, .sl _], [], [], [], ⟨⟨_, _, _, _, rfl, rfl, agg26, rfl⟩, rfl, rfl, trivial⟩, rfl, rfl, trivial, rfl, rfl, ⟨(m6, i6, d6), ⟨hw6, hl6⟩, rfl, rfl, rfl⟩⟩


end Go.Ab

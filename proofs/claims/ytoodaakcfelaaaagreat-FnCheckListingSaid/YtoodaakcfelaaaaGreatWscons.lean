/- Walks. -/
import Derived.Test.YtoodaakcfelaaaaGreatBase
import Derived.Test.YtoodaakcfelaaaaGreatSimp
import Derived.Test.YtoodaakcfelaaaaGreatVals
namespace Go.Ab
open Go.Proofs
set_option maxRecDepth 100000
set_option maxHeartbeats 8000000
set_option linter.unusedSimpArgs false
set_option linter.unusedVariables false
theorem f_within (n lo hi : Int) : Fn Tryz.prog 113 [.p (.int .i64 (n)), .p (.int .i64 (lo)), .p (.int .i64 (hi))] [] (fun rr ii nn => rr = .p (.bool (decide (lo ≤ n ∧ n ≤ hi))) ∧ ii = [] ∧ nn = []) := by
 refine fn_of Tryz.func113 rfl (Nat.le_of_ble_eq_true rfl) fun w X g => ?_
 show AWp _ _ _ ⟨[(0, .p (.int .i64 (n))), (1, .p (.int .i64 (lo))), (2, .p (.int .i64 (hi)))], []⟩
 refine rs ?_
 refine oa rfl ?_
 refine on ?_
 refine rs ?_
 refine om rfl ?_
 refine om rfl ?_
 refine op_v' (j_le rfl rfl) ?_
 refine om rfl ?_
 refine op_split' 10 rfl (fun h1 => ?_) (fun h1 => ?_)
 ·
  have h1r := h1
  try simp only [nq, nr] at h1
  refine op_v' (j_want rfl rfl h1r (j_move (evo rfl))) ?_
  refine op_v' (j_want rfl rfl h1r (j_move (evo rfl))) ?_
  refine op_v' (j_want rfl rfl h1r (j_le rfl rfl)) ?_
  refine op_v' (j_pick_t rfl h1r (evo rfl)) ?_
  refine oa rfl ?_
  refine on ?_
  refine a_ret ?_
  exact fin_p rfl ⟨boolEq (biff (by simp only [decide_eq_true_eq, Bool.false_eq_true, false_iff, litOk_iff]; omega)), rfl, rfl⟩
 have h1r := h1
 try simp only [nq, nr] at h1
 refine op_v' (j_unwantV rfl rfl h1r) ?_
 refine op_v' (j_unwantV rfl rfl h1r) ?_
 refine op_v' (j_unwantV rfl rfl h1r) ?_
 refine op_v' (j_pick_f rfl h1r (evo rfl)) ?_
 refine oa rfl ?_
 refine on ?_
 refine a_ret ?_
 exact fin_p rfl ⟨boolEq (biff (by simp only [decide_eq_true_eq, Bool.false_eq_true, false_iff, litOk_iff]; omega)), rfl, rfl⟩
theorem f_isLit (n : Int) : Fn Tryz.prog 106 [.p (.int .i64 (n))] [] (fun rr ii nn => rr = .p (.bool (litOk n)) ∧ ii = [] ∧ nn = []) := by
 refine fn_of Tryz.func106 rfl (Nat.le_of_ble_eq_true rfl) fun w X g => ?_
 show AWp _ _ _ ⟨[(0, .p (.int .i64 (n)))], []⟩
 refine rs ?_
 refine oa rfl ?_
 refine on ?_
 refine rs ?_
 refine om rfl ?_
 refine op_v' (j_ne rfl rfl) ?_
 refine om rfl ?_
 refine op_split' 5 rfl (fun h1 => ?_) (fun h1 => ?_)
 ·
  have h1r := h1
  try simp only [nq, nr] at h1
  refine op_v' (j_want rfl rfl h1r (j_move (evo rfl))) ?_
  refine op_v0' (j_want rfl rfl h1r (j_call0 (v := .p _) (hp1 := []) [] false [] ent113 (f_within _ _ _) ⟨.inl ⟨rfl, rfl⟩, .inl ⟨rfl, rfl⟩, .inl ⟨rfl, rfl⟩, trivial⟩ trivial rfl rfl (fun h => by cases h) rfl (fun _ h => by cases h) (.inl rfl) rfl rfl)) ?_
  refine op_v' (j_pick_t rfl h1r (evo rfl)) ?_
  refine oa rfl ?_
  refine on ?_
  refine a_ret ?_
  exact fin_p rfl ⟨boolEq (biff (by simp only [decide_eq_true_eq, Bool.false_eq_true, false_iff, litOk_iff]; omega)), rfl, rfl⟩
 have h1r := h1
 try simp only [nq, nr] at h1
 refine op_v' (j_unwantV rfl rfl h1r) ?_
 refine op_v' (j_unwantV rfl rfl h1r) ?_
 refine op_v' (j_pick_f rfl h1r (evo rfl)) ?_
 refine oa rfl ?_
 refine on ?_
 refine a_ret ?_
 exact fin_p rfl ⟨boolEq (biff (by simp only [decide_eq_true_eq, Bool.false_eq_true, false_iff, litOk_iff]; omega)), rfl, rfl⟩
theorem f_l1Lit (n : Int) : Fn Tryz.prog 170 [.p (.int .i64 (n))] [] (fun rr ii nn => rr = .p (.bool (litOk n)) ∧ ii = [] ∧ nn = []) := by
 refine fn_of Tryz.func170 rfl (Nat.le_of_ble_eq_true rfl) fun w X g => ?_
 show AWp _ _ _ ⟨[(0, .p (.int .i64 (n)))], []⟩
 refine rs ?_
 refine oa rfl ?_
 refine on ?_
 refine rs ?_
 refine om rfl ?_
 refine op_v' (j_ne rfl rfl) ?_
 refine om rfl ?_
 refine op_split' 5 rfl (fun h1 => ?_) (fun h1 => ?_)
 ·
  have h1r := h1
  try simp only [nq, nr] at h1
  refine op_v' (j_want rfl rfl h1r (j_move (evo rfl))) ?_
  refine op_v' (j_want rfl rfl h1r (j_ge rfl rfl)) ?_
  refine op_v' (j_pick_t rfl h1r (evo rfl)) ?_
  refine om rfl ?_
  refine op_split' 9 rfl (fun h2 => ?_) (fun h2 => ?_)
  ·
   have h2r := h2
   try simp only [nq, nr] at h2
   refine op_v' (j_want rfl rfl h2r (j_move (evo rfl))) ?_
   refine op_v' (j_want rfl rfl h2r (j_le rfl rfl)) ?_
   refine op_v' (j_pick_t rfl h2r (evo rfl)) ?_
   refine oa rfl ?_
   refine on ?_
   refine a_ret ?_
   exact fin_p rfl ⟨boolEq (biff (by simp only [decide_eq_true_eq, Bool.false_eq_true, false_iff, litOk_iff]; omega)), rfl, rfl⟩
  have h2r := h2
  try simp only [nq, nr] at h2
  refine op_v' (j_unwantV rfl rfl h2r) ?_
  refine op_v' (j_unwantV rfl rfl h2r) ?_
  refine op_v' (j_pick_f rfl h2r (evo rfl)) ?_
  refine oa rfl ?_
  refine on ?_
  refine a_ret ?_
  exact fin_p rfl ⟨boolEq (biff (by simp only [decide_eq_true_eq, Bool.false_eq_true, false_iff, litOk_iff]; omega)), rfl, rfl⟩
 have h1r := h1
 try simp only [nq, nr] at h1
 refine op_v' (j_unwantV rfl rfl h1r) ?_
 refine op_v' (j_unwantV rfl rfl h1r) ?_
 refine op_v' (j_pick_f rfl h1r (evo rfl)) ?_
 refine om rfl ?_
 refine op_v' (j_unwantV rfl rfl rfl) ?_
 refine op_v' (j_unwantV rfl rfl rfl) ?_
 refine op_v' (j_pick_f rfl rfl (evo rfl)) ?_
 refine oa rfl ?_
 refine on ?_
 refine a_ret ?_
 exact fin_p rfl ⟨boolEq (biff (by simp only [decide_eq_true_eq, Bool.false_eq_true, false_iff, litOk_iff]; omega)), rfl, rfl⟩
theorem f_varOf (n : Int) (hn : -12 ≤ n ∧ n ≤ 12) : Fn Tryz.prog 111 [.p (.int .i64 (n))] [] (fun rr ii nn => rr = .p (.int .i64 (varOf n)) ∧ ii = [] ∧ nn = []) := by
 refine fn_of Tryz.func111 rfl (Nat.le_of_ble_eq_true rfl) fun w X g => ?_
 show AWp _ _ _ ⟨[(0, .p (.int .i64 (n)))], []⟩
 refine rs ?_
 refine oa rfl ?_
 refine on ?_
 refine rs ?_
 refine om rfl ?_
 refine om rfl ?_
 refine op_v' (j_neg rfl (by omega) (by omega)) ?_
 refine op_v' (j_max rfl rfl) ?_
 refine oa rfl ?_
 refine on ?_
 refine a_ret ?_
 exact fin_p rfl ⟨rfl, rfl, rfl⟩
theorem f_l1Abs (n : Int) (hn : -12 ≤ n ∧ n ≤ 12) : Fn Tryz.prog 171 [.p (.int .i64 (n))] [] (fun rr ii nn => rr = .p (.int .i64 (varOf n)) ∧ ii = [] ∧ nn = []) := by
 refine fn_of Tryz.func171 rfl (Nat.le_of_ble_eq_true rfl) fun w X g => ?_
 show AWp _ _ _ ⟨[(0, .p (.int .i64 (n)))], []⟩
 refine rs ?_
 refine oa rfl ?_
 refine on ?_
 refine a_seq ?_
 refine rs ?_
 refine om rfl ?_
 refine op_v' (j_lt rfl rfl) ?_
 refine on ?_
 refine ac rfl (fun h1 => ?_) fun h1 => ?_
 ·
  have h1r := h1
  try simp only [nq, nr] at h1
  refine rs ?_
  refine om rfl ?_
  refine op_v' (j_neg rfl (by omega) (by omega)) ?_
  refine oa rfl ?_
  refine on ?_
  refine a_ret ?_
  exact fin_p rfl ⟨intEq (by unfold varOf; omega), rfl, rfl⟩
 have h1r := h1
 try simp only [nq, nr] at h1
 refine a_skip ?_
 refine rs ?_
 refine om rfl ?_
 refine oa rfl ?_
 refine on ?_
 refine a_ret ?_
 exact fin_p rfl ⟨intEq (by unfold varOf; omega), rfl, rfl⟩
theorem f_cvImpl (c : Con) : Fn Tryz.prog 115 [.agg [.sl (c.1.map dT), .p (.int .i64 c.2)]] [] (fun rr ii nn => rr = .p (.bool (cOk c)) ∧ ii = [] ∧ nn = []) := by
 refine fn_of Tryz.func115 rfl (Nat.le_of_ble_eq_true rfl) fun w X g => ?_
 show AWp _ _ _ ⟨[(0, .agg [.sl (c.1.map dT), .p (.int .i64 c.2)])], []⟩
 refine a_len_map2 0 rfl fun hlen => ?_
 refine rs ?_
 refine op_n' (fun ver => j_boxa rfl) fun v1x1 => ?_
 refine oa rfl ?_
 refine on ?_
 refine rs ?_
 refine oa rfl ?_
 refine on ?_
 refine a_seq ?_
 refine rs ?_
 refine op_v' (j_fldp fld69f0 rfl rfl) ?_
 refine op_v' (j_load_box leaf67 rfl rfl rfl) ?_
 refine op_v' (j_len_map Tryz.underlying67 rfl) ?_
 refine om rfl ?_
 refine on ?_
 refine a_block ?_
 refine a_loopF' (ι := Nat) (fun k => k ≤ c.1.length ∧ okFrom 0 c.1 = okFrom (prevV c.1 k) (c.1.drop k)) (fun k r => (9, .p (.int .i64 ((k : Nat)))) :: (3, .p (.int .i64 (prevV c.1 k))) :: r) (fun k r => r) (fun k => c.1.length - k) (fun _ _ => rfl) (fun _ _ => rfl) 0 ⟨Nat.zero_le _, rfl⟩ ⟨⟨rfl, rfl⟩, ⟨rfl, rfl, trivial⟩, trivial, ⟨rfl, rfl⟩, ⟨rfl, rfl⟩⟩ ?_
 intro k hpre
 refine rs ?_
 refine op_v' (j_lt rfl rfl) ?_
 refine on ?_
 refine a_seq ?_
 refine ac rfl (fun h1 => ?_) fun h1 => ?_
 ·
  have h1r := h1
  try simp only [nq, nr] at h1
  refine a_skip ?_
  refine a_seq ?_
  refine a_block ?_
  refine rs ?_
  refine op_v' (j_elemN slt67 rfl rfl rfl (at_map (by omega)) rfl) ?_
  refine op_v' (j_loada_el (ys := [.p _, .p _]) agg135 rfl (at_map (by omega)) rfl (Nat.le_refl _)) ?_
  refine op_n' (fun ver => j_alloc elt135 rfl) fun v5x2 => ?_
  refine op_s' (j_storea_box0 agg135 rfl rfl rfl rfl rfl rfl) ?_
  refine on ?_
  refine a_seq ?_
  refine rs ?_
  refine op_v' (j_fldp fld135f1 rfl rfl) ?_
  refine op_v' (j_load_box leaf3 rfl rfl rfl) ?_
  refine op_v0' (j_call0 (v := .p _) (hp1 := []) [] false [] ent106 (f_isLit _) ⟨.inl ⟨rfl, rfl⟩, trivial⟩ trivial rfl rfl (fun h => by cases h) rfl (fun _ h => by cases h) (.inl rfl) rfl rfl) ?_
  refine op_v' (j_not rfl) ?_
  refine om rfl ?_
  refine op_split' 17 rfl (fun h2 => ?_) (fun h2 => ?_)
  ·
   have h2r := h2
   try simp only [nq, nr] at h2
   refine op_v' (j_unwantV rfl rfl h2r) ?_
   refine op_v' (j_unwantV rfl rfl h2r) ?_
   refine op_v' (j_unwantV rfl rfl h2r) ?_
   refine op_v' (j_unwantV rfl rfl h2r) ?_
   refine op_v' (j_unwantV rfl rfl h2r) ?_
   refine op_v' (j_pick_t rfl h2r (evo rfl)) ?_
   refine om rfl ?_
   refine op_v' (j_unwantV rfl rfl rfl) ?_
   refine op_v' (j_unwantV rfl rfl rfl) ?_
   refine op_v' (j_unwantV rfl rfl rfl) ?_
   refine op_v' (j_unwantV rfl rfl rfl) ?_
   refine op_v' (j_pick_t rfl rfl (evo rfl)) ?_
   refine on ?_
   refine a_tt rfl ?_
   refine rs ?_
   refine oa rfl ?_
   refine on ?_
   refine a_ret ?_
   exact fin_p rfl ⟨boolEq (by symm; unfold cOk; rw [hpre.2, drop_getD (d := default) (by omega), (okFrom_bad (by rintro ⟨a1, a2, a3, a4⟩; first | omega | (rw [prevV_pos (by omega)] at a2; omega) | (simp_all; done))), Bool.false_and]), rfl, rfl⟩
  have h2r := h2
  try simp only [nq, nr] at h2
  refine op_v' (j_want rfl rfl h2r (j_fldp fld135f1 rfl rfl)) ?_
  refine op_v' (j_want rfl rfl h2r (j_load_box leaf3 rfl rfl rfl)) ?_
  refine op_v0' (j_want rfl rfl h2r (j_call0 (v := .p _) (hp1 := []) [] false [] ent111 (f_varOf _ (by have := litOk_iff.1 h2; omega)) ⟨.inl ⟨rfl, rfl⟩, trivial⟩ trivial rfl rfl (fun h => by cases h) rfl (fun _ h => by cases h) (.inl rfl) rfl rfl)) ?_
  refine op_v' (j_want rfl rfl h2r (j_move (evo rfl))) ?_
  refine op_v' (j_want rfl rfl h2r (j_le rfl rfl)) ?_
  refine op_v' (j_pick_f rfl h2r (evo rfl)) ?_
  refine om rfl ?_
  refine op_split' 24 rfl (fun h3 => ?_) (fun h3 => ?_)
  ·
   have h3r := h3
   try simp only [nq, nr] at h3
   refine op_v' (j_unwantV rfl rfl h3r) ?_
   refine op_v' (j_unwantV rfl rfl h3r) ?_
   refine op_v' (j_unwantV rfl rfl h3r) ?_
   refine op_v' (j_unwantV rfl rfl h3r) ?_
   refine op_v' (j_pick_t rfl h3r (evo rfl)) ?_
   refine on ?_
   refine a_tt rfl ?_
   refine rs ?_
   refine oa rfl ?_
   refine on ?_
   refine a_ret ?_
   exact fin_p rfl ⟨boolEq (by symm; unfold cOk; rw [hpre.2, drop_getD (d := default) (by omega), (okFrom_bad (by rintro ⟨a1, a2, a3, a4⟩; first | omega | (rw [prevV_pos (by omega)] at a2; omega) | (simp_all; done))), Bool.false_and]), rfl, rfl⟩
  have h3r := h3
  try simp only [nq, nr] at h3
  refine op_v' (j_want rfl rfl h3r (j_fldp fld135f0 rfl rfl)) ?_
  refine op_v' (j_want rfl rfl h3r (j_load_box leaf3 rfl rfl rfl)) ?_
  refine op_v0' (j_want rfl rfl h3r (j_call0 (v := .p _) (hp1 := []) [] false [] ent113 (f_within _ _ _) ⟨.inl ⟨rfl, rfl⟩, .inl ⟨rfl, rfl⟩, .inl ⟨rfl, rfl⟩, trivial⟩ trivial rfl rfl (fun h => by cases h) rfl (fun _ h => by cases h) (.inl rfl) rfl rfl)) ?_
  refine op_v' (j_want rfl rfl h3r (j_not rfl)) ?_
  refine op_v' (j_pick_f rfl h3r (evo rfl)) ?_
  refine on ?_
  refine ac rfl (fun h4 => ?_) fun h4 => ?_
  ·
   have h4r := h4
   try simp only [nq, nr] at h4
   refine rs ?_
   refine oa rfl ?_
   refine on ?_
   refine a_ret ?_
   exact fin_p rfl ⟨boolEq (by symm; unfold cOk; rw [hpre.2, drop_getD (d := default) (by omega), (okFrom_bad (by rintro ⟨a1, a2, a3, a4⟩; first | omega | (rw [prevV_pos (by omega)] at a2; omega) | (simp_all; done))), Bool.false_and]), rfl, rfl⟩
  have h4r := h4
  try simp only [nq, nr] at h4
  refine a_skip ?_
  refine ar ?_
  refine op_v' (j_fldp fld135f1 rfl rfl) ?_
  refine op_v' (j_load_box leaf3 rfl rfl rfl) ?_
  refine op_v0' (j_call0 (v := .p _) (hp1 := []) [] false [] ent111 (f_varOf _ (by have := litOk_iff.1 h2; omega)) ⟨.inl ⟨rfl, rfl⟩, trivial⟩ trivial rfl rfl (fun h => by cases h) rfl (fun _ h => by cases h) (.inl rfl) rfl rfl) ?_
  refine oa rfl ?_
  refine on ?_
  refine ar ?_
  refine op_v' (j_add rfl rfl (by omega) (by omega)) ?_
  refine om rfl ?_
  refine on ?_
  exact ⟨k + 1, ⟨by omega, by rw [hpre.2, drop_getD (d := default) (by omega), okFrom_good h2 (by omega) (by omega) (by omega), prevV_succ]⟩, ⟨⟨rfl, rfl⟩, ⟨rfl, intEq prevV_succ.symm, trivial⟩, trivial, ⟨rfl, rfl⟩, ⟨rfl, rfl⟩⟩, (by omega)⟩
 have h1r := h1
 try simp only [nq, nr] at h1
 refine a_exit ?_
 refine rs ?_
 refine op_v' (j_fldp fld69f1 rfl rfl) ?_
 refine op_v' (j_load_box leaf3 rfl rfl rfl) ?_
 refine op_v0' (j_call0 (v := .p _) (hp1 := []) [] false [] ent113 (f_within _ _ _) ⟨.inl ⟨rfl, rfl⟩, .inl ⟨rfl, rfl⟩, .inl ⟨rfl, rfl⟩, trivial⟩ trivial rfl rfl (fun h => by cases h) rfl (fun _ h => by cases h) (.inl rfl) rfl rfl) ?_
 refine oa rfl ?_
 refine on ?_
 refine a_ret ?_
 exact fin_p rfl ⟨boolEq (by unfold cOk; rw [hpre.2, List.drop_of_length_le (by omega)]; simp only [okFrom, Bool.true_and]), rfl, rfl⟩
theorem f_cvSpec (c : Con) : Fn Tryz.prog 118 [.agg [.sl (c.1.map dT), .p (.int .i64 c.2)]] [] (fun rr ii nn => rr = .p (.bool (cOk c)) ∧ ii = [] ∧ nn = []) := by
 refine fn_of Tryz.func118 rfl (Nat.le_of_ble_eq_true rfl) fun w X g => ?_
 show AWp _ _ _ ⟨[(0, .agg [.sl (c.1.map dT), .p (.int .i64 c.2)])], []⟩
 refine a_len_map2 0 rfl fun hlen => ?_
 refine rs ?_
 refine op_n' (fun ver => j_boxa rfl) fun v1x1 => ?_
 refine oa rfl ?_
 refine on ?_
 refine a_seq ?_
 refine rs ?_
 refine oa rfl ?_
 refine on ?_
 refine a_block ?_
 refine a_loopF' (ι := Nat) (fun k => k ≤ c.1.length ∧ okFrom 0 c.1 = okFrom (prevV c.1 k) (c.1.drop k) ∧ (0 < k → litOk (c.1.getD (k - 1) default).2 = true)) (fun k r => (3, .p (.int .i64 ((k : Nat)))) :: r) (fun k r => r) (fun k => c.1.length - k) (fun _ _ => rfl) (fun _ _ => rfl) 0 ⟨Nat.zero_le _, rfl, fun h => absurd h (by decide)⟩ ⟨⟨rfl, rfl⟩, ⟨rfl, trivial⟩, trivial, ⟨rfl, rfl⟩, ⟨rfl, rfl⟩⟩ ?_
 intro k hpre
 refine a_seq ?_
 refine rs ?_
 refine om rfl ?_
 refine op_v' (j_fldp fld69f0 rfl rfl) ?_
 refine op_v' (j_load_box leaf67 rfl rfl rfl) ?_
 refine op_v' (j_len_map Tryz.underlying67 rfl) ?_
 refine op_v' (j_lt rfl rfl) ?_
 refine on ?_
 refine ac rfl (fun h1 => ?_) fun h1 => ?_
 ·
  have h1r := h1
  try simp only [nq, nr] at h1
  refine a_skip ?_
  refine a_seq ?_
  refine a_block ?_
  refine rs ?_
  refine op_v' (j_fldp fld69f0 rfl rfl) ?_
  refine op_v' (j_load_box leaf67 rfl rfl rfl) ?_
  refine om rfl ?_
  refine op_v' (j_elemN slt67 rfl rfl rfl (at_map (by omega)) rfl) ?_
  refine op_v' (j_loada_el (ys := [.p _, .p _]) agg135 rfl (at_map (by omega)) rfl (Nat.le_refl _)) ?_
  refine op_n' (fun ver => j_alloc elt135 rfl) fun v4x2 => ?_
  refine op_s' (j_storea_box0 agg135 rfl rfl rfl rfl rfl rfl) ?_
  refine on ?_
  refine a_seq ?_
  refine a_draw mixed (by kernel_rfl) (by kernel_rfl) fun vf => ?_
  refine d_v' (j_fldp fld135f1 rfl rfl) ?_
  refine d_v' (j_load_box leaf3 rfl rfl rfl) ?_
  refine d_v0' (j_call0 (v := .p _) (hp1 := []) [] false [] ent170 (f_l1Lit _) ⟨.inl ⟨rfl, rfl⟩, trivial⟩ trivial rfl rfl (fun h => by cases h) rfl (fun _ h => by cases h) (.inl rfl) rfl rfl) ?_
  refine d_v' (j_not rfl) ?_
  refine d_v' (j_move (evo rfl)) ?_
  refine d_split' 21 rfl (fun h2 => ?_) (fun h2 => ?_)
  ·
   have h2r := h2
   try simp only [nq, nr] at h2
   refine d_v' (j_unwantV rfl rfl h2r) ?_
   refine d_v' (j_unwantV rfl rfl h2r) ?_
   refine d_v' (j_unwantV rfl rfl h2r) ?_
   refine d_v' (j_pick_t rfl h2r (evo rfl)) ?_
   refine d_v' (j_move (evo rfl)) ?_
   refine d_v' (j_unwantV rfl rfl rfl) ?_
   refine d_v' (j_unwantV rfl rfl rfl) ?_
   refine d_v' (j_unwantV rfl rfl rfl) ?_
   refine d_v' (j_pick_t rfl rfl (evo rfl)) ?_
   refine d_v' (j_move (evo rfl)) ?_
   refine d_v' (j_unwantV rfl rfl rfl) ?_
   refine d_v' (j_unwantV rfl rfl rfl) ?_
   refine d_v' (j_unwantV rfl rfl rfl) ?_
   refine d_v' (j_unwantU rfl rfl) ?_
   refine d_v' (j_unwantU rfl rfl) ?_
   refine d_v' (j_unwantU rfl rfl) ?_
   refine d_v' (j_unwantU rfl rfl) ?_
   refine d_v' (j_unwantU rfl rfl) ?_
   refine d_v' (j_unwantU rfl rfl) ?_
   refine d_v' (j_unwantU rfl rfl) ?_
   refine d_v' (j_unwantU rfl rfl) ?_
   refine d_v' (j_unwantU rfl rfl) ?_
   refine d_v' (j_unwantU rfl rfl) ?_
   refine d_v' (j_unwantU rfl rfl) ?_
   refine d_v' (j_unwantU rfl rfl) ?_
   refine d_v' (j_unwantV rfl rfl rfl) ?_
   refine d_v' (j_pick_t rfl rfl (evo rfl)) ?_
   refine d_nil (by kernel_rfl) (by kernel_rfl) ?_
   refine a_tt rfl ?_
   refine rs ?_
   refine oa rfl ?_
   refine on ?_
   refine a_ret ?_
   exact fin_p rfl ⟨boolEq (by symm; unfold cOk; rw [hpre.2.1, drop_getD (d := default) (by omega), (okFrom_bad (by rintro ⟨a1, a2, a3, a4⟩; first | omega | (rw [prevV_pos (by omega)] at a2; omega) | (simp_all; done))), Bool.false_and]), rfl, rfl⟩
  have h2r := h2
  try simp only [nq, nr] at h2
  refine d_v' (j_want rfl rfl h2r (j_fldp fld135f0 rfl rfl)) ?_
  refine d_v' (j_want rfl rfl h2r (j_load_box leaf3 rfl rfl rfl)) ?_
  refine d_v' (j_want rfl rfl h2r (j_lt rfl rfl)) ?_
  refine d_v' (j_pick_f rfl h2r (evo rfl)) ?_
  refine d_v' (j_move (evo rfl)) ?_
  refine d_split' 26 rfl (fun h3 => ?_) (fun h3 => ?_)
  ·
   have h3r := h3
   try simp only [nq, nr] at h3
   refine d_v' (j_unwantV rfl rfl h3r) ?_
   refine d_v' (j_unwantV rfl rfl h3r) ?_
   refine d_v' (j_unwantV rfl rfl h3r) ?_
   refine d_v' (j_pick_t rfl h3r (evo rfl)) ?_
   refine d_v' (j_move (evo rfl)) ?_
   refine d_v' (j_unwantV rfl rfl rfl) ?_
   refine d_v' (j_unwantV rfl rfl rfl) ?_
   refine d_v' (j_unwantV rfl rfl rfl) ?_
   refine d_v' (j_unwantU rfl rfl) ?_
   refine d_v' (j_unwantU rfl rfl) ?_
   refine d_v' (j_unwantU rfl rfl) ?_
   refine d_v' (j_unwantU rfl rfl) ?_
   refine d_v' (j_unwantU rfl rfl) ?_
   refine d_v' (j_unwantU rfl rfl) ?_
   refine d_v' (j_unwantU rfl rfl) ?_
   refine d_v' (j_unwantU rfl rfl) ?_
   refine d_v' (j_unwantU rfl rfl) ?_
   refine d_v' (j_unwantU rfl rfl) ?_
   refine d_v' (j_unwantU rfl rfl) ?_
   refine d_v' (j_unwantU rfl rfl) ?_
   refine d_v' (j_unwantV rfl rfl rfl) ?_
   refine d_v' (j_pick_t rfl rfl (evo rfl)) ?_
   refine d_nil (by kernel_rfl) (by kernel_rfl) ?_
   refine a_tt rfl ?_
   refine rs ?_
   refine oa rfl ?_
   refine on ?_
   refine a_ret ?_
   exact fin_p rfl ⟨boolEq (by symm; unfold cOk; rw [hpre.2.1, drop_getD (d := default) (by omega), (okFrom_bad (by rintro ⟨a1, a2, a3, a4⟩; first | omega | (rw [prevV_pos (by omega)] at a2; omega) | (simp_all; done))), Bool.false_and]), rfl, rfl⟩
  have h3r := h3
  try simp only [nq, nr] at h3
  refine d_v' (j_want rfl rfl h3r (j_fldp fld135f0 rfl rfl)) ?_
  refine d_v' (j_want rfl rfl h3r (j_load_box leaf3 rfl rfl rfl)) ?_
  refine d_v' (j_want rfl rfl h3r (j_gt rfl rfl)) ?_
  refine d_v' (j_pick_f rfl h3r (evo rfl)) ?_
  refine d_v' (j_move (evo rfl)) ?_
  refine d_split' 31 rfl (fun h4 => ?_) (fun h4 => ?_)
  ·
   have h4r := h4
   try simp only [nq, nr] at h4
   refine d_v' (j_unwantV rfl rfl h4r) ?_
   refine d_v' (j_unwantV rfl rfl h4r) ?_
   refine d_v' (j_unwantV rfl rfl h4r) ?_
   refine d_v' (j_unwantU rfl rfl) ?_
   refine d_v' (j_unwantU rfl rfl) ?_
   refine d_v' (j_unwantU rfl rfl) ?_
   refine d_v' (j_unwantU rfl rfl) ?_
   refine d_v' (j_unwantU rfl rfl) ?_
   refine d_v' (j_unwantU rfl rfl) ?_
   refine d_v' (j_unwantU rfl rfl) ?_
   refine d_v' (j_unwantU rfl rfl) ?_
   refine d_v' (j_unwantU rfl rfl) ?_
   refine d_v' (j_unwantU rfl rfl) ?_
   refine d_v' (j_unwantU rfl rfl) ?_
   refine d_v' (j_unwantU rfl rfl) ?_
   refine d_v' (j_unwantV rfl rfl h4r) ?_
   refine d_v' (j_pick_t rfl h4r (evo rfl)) ?_
   refine d_nil (by kernel_rfl) (by kernel_rfl) ?_
   refine a_tt rfl ?_
   refine rs ?_
   refine oa rfl ?_
   refine on ?_
   refine a_ret ?_
   exact fin_p rfl ⟨boolEq (by symm; unfold cOk; rw [hpre.2.1, drop_getD (d := default) (by omega), (okFrom_bad (by rintro ⟨a1, a2, a3, a4⟩; first | omega | (rw [prevV_pos (by omega)] at a2; omega) | (simp_all; done))), Bool.false_and]), rfl, rfl⟩
  have h4r := h4
  try simp only [nq, nr] at h4
  refine d_v' (j_want rfl rfl h4r (j_move (evo rfl))) ?_
  refine d_v' (j_want rfl rfl h4r (j_gt rfl rfl)) ?_
  refine d_v' (j_want rfl rfl h4r (j_move (evo rfl))) ?_
  refine d_split' 34 rfl (fun h5 => ?_) (fun h5 => ?_)
  ·
   have h5r := h5
   try simp only [nq, nr] at h5
   refine d_v' (j_want rfl rfl h5r (j_fldp fld69f0 rfl rfl)) ?_
   refine d_v' (j_want rfl rfl h5r (j_load_box leaf67 rfl rfl rfl)) ?_
   refine d_v' (j_want rfl rfl h5r (j_move (evo rfl))) ?_
   refine d_v' (j_want rfl rfl h5r (j_sub rfl rfl (by omega) (by omega))) ?_
   refine d_v' (j_want rfl rfl h5r (j_elemN (n := k - 1) slt67 rfl rfl (by omega) (at_map (by omega)) rfl)) ?_
   refine d_v' (j_want rfl rfl h5r (j_fldel fld135f1 rfl)) ?_
   refine d_v' (j_want rfl rfl h5r (j_load_el leaf3 rfl (at_map (by omega)) rfl)) ?_
   refine d_v0' (j_want rfl rfl h5r (j_call0 (v := .p _) (hp1 := []) [] false [] ent171 (f_l1Abs _ (by have := litOk_iff.1 (hpre.2.2 (by omega)); omega)) ⟨.inl ⟨rfl, rfl⟩, trivial⟩ trivial rfl rfl (fun h => by cases h) rfl (fun _ h => by cases h) (.inl rfl) rfl rfl)) ?_
   refine d_v' (j_want rfl rfl h5r (j_fldp fld135f1 rfl rfl)) ?_
   refine d_v' (j_want rfl rfl h5r (j_load_box leaf3 rfl rfl rfl)) ?_
   refine d_v0' (j_want rfl rfl h5r (j_call0 (v := .p _) (hp1 := []) [] false [] ent171 (f_l1Abs _ (by have := litOk_iff.1 h2; omega)) ⟨.inl ⟨rfl, rfl⟩, trivial⟩ trivial rfl rfl (fun h => by cases h) rfl (fun _ h => by cases h) (.inl rfl) rfl rfl)) ?_
   refine d_v' (j_want rfl rfl h5r (j_ge rfl rfl)) ?_
   refine d_v' (j_want rfl rfl h4r (j_pick_t rfl h5r (evo rfl))) ?_
   refine d_v' (j_pick_f rfl h4r (evo rfl)) ?_
   refine d_nil (by kernel_rfl) (by kernel_rfl) ?_
   refine ac rfl (fun h6 => ?_) fun h6 => ?_
   ·
    have h6r := h6
    try simp only [nq, nr] at h6
    refine rs ?_
    refine oa rfl ?_
    refine on ?_
    refine a_ret ?_
    exact fin_p rfl ⟨boolEq (by symm; unfold cOk; rw [hpre.2.1, drop_getD (d := default) (by omega), (okFrom_bad (by rintro ⟨a1, a2, a3, a4⟩; first | omega | (rw [prevV_pos (by omega)] at a2; omega) | (simp_all; done))), Bool.false_and]), rfl, rfl⟩
   have h6r := h6
   try simp only [nq, nr] at h6
   refine a_skip ?_
   refine ar ?_
   refine om rfl ?_
   refine op_v' (j_add rfl rfl (by omega) (by omega)) ?_
   refine oa rfl ?_
   refine on ?_
   exact ⟨k + 1, ⟨by omega, by rw [hpre.2.1, drop_getD (d := default) (by omega), okFrom_good h2 (by first | (simp only [prevV]; split <;> first | omega | (have := varOf_pos h2; omega))) (by omega) (by omega), prevV_succ], fun _ => h2⟩, ⟨⟨rfl, rfl⟩, ⟨rfl, trivial⟩, trivial, ⟨rfl, rfl⟩, ⟨rfl, rfl⟩⟩, (by omega)⟩
  have h5r := h5
  try simp only [nq, nr] at h5
  refine d_v' (j_unwantV rfl rfl h5r) ?_
  refine d_v' (j_unwantV rfl rfl h5r) ?_
  refine d_v' (j_unwantV rfl rfl h5r) ?_
  refine d_v' (j_unwantV rfl rfl h5r) ?_
  refine d_v' (j_unwantV rfl rfl h5r) ?_
  refine d_v' (j_unwantV rfl rfl h5r) ?_
  refine d_v' (j_unwantV rfl rfl h5r) ?_
  refine d_v' (j_unwantV rfl rfl h5r) ?_
  refine d_v' (j_unwantV rfl rfl h5r) ?_
  refine d_v' (j_unwantV rfl rfl h5r) ?_
  refine d_v' (j_unwantV rfl rfl h5r) ?_
  refine d_v' (j_unwantV rfl rfl h5r) ?_
  refine d_v' (j_want rfl rfl h4r (j_pick_f rfl h5r (evo rfl))) ?_
  refine d_v' (j_pick_f rfl h4r (evo rfl)) ?_
  refine d_nil (by kernel_rfl) (by kernel_rfl) ?_
  refine a_ff rfl ?_
  refine a_skip ?_
  refine ar ?_
  refine om rfl ?_
  refine op_v' (j_add rfl rfl (by omega) (by omega)) ?_
  refine oa rfl ?_
  refine on ?_
  exact ⟨k + 1, ⟨by omega, by rw [hpre.2.1, drop_getD (d := default) (by omega), okFrom_good h2 (by first | (simp only [prevV]; split <;> first | omega | (have := varOf_pos h2; omega))) (by omega) (by omega), prevV_succ], fun _ => h2⟩, ⟨⟨rfl, rfl⟩, ⟨rfl, trivial⟩, trivial, ⟨rfl, rfl⟩, ⟨rfl, rfl⟩⟩, (by omega)⟩
 have h1r := h1
 try simp only [nq, nr] at h1
 refine a_exit ?_
 refine rs ?_
 refine op_v' (j_fldp fld69f1 rfl rfl) ?_
 refine op_v' (j_load_box leaf3 rfl rfl rfl) ?_
 refine op_v' (j_ge rfl rfl) ?_
 refine om rfl ?_
 refine op_split' 52 rfl (fun h7 => ?_) (fun h7 => ?_)
 ·
  have h7r := h7
  try simp only [nq, nr] at h7
  refine op_v' (j_want rfl rfl h7r (j_fldp fld69f1 rfl rfl)) ?_
  refine op_v' (j_want rfl rfl h7r (j_load_box leaf3 rfl rfl rfl)) ?_
  refine op_v' (j_want rfl rfl h7r (j_le rfl rfl)) ?_
  refine op_v' (j_pick_t rfl h7r (evo rfl)) ?_
  refine oa rfl ?_
  refine on ?_
  refine a_ret ?_
  exact fin_p rfl ⟨boolEq (by unfold cOk; rw [hpre.2.1, List.drop_of_length_le (by omega)]; simp only [okFrom, Bool.true_and]; exact biff (by simp only [decide_eq_true_eq, Bool.false_eq_true, false_iff]; omega)), rfl, rfl⟩
 have h7r := h7
 try simp only [nq, nr] at h7
 refine op_v' (j_unwantV rfl rfl h7r) ?_
 refine op_v' (j_unwantV rfl rfl h7r) ?_
 refine op_v' (j_unwantV rfl rfl h7r) ?_
 refine op_v' (j_pick_f rfl h7r (evo rfl)) ?_
 refine oa rfl ?_
 refine on ?_
 refine a_ret ?_
 exact fin_p rfl ⟨boolEq (by unfold cOk; rw [hpre.2.1, List.drop_of_length_le (by omega)]; simp only [okFrom, Bool.true_and]; exact biff (by simp only [decide_eq_true_eq, Bool.false_eq_true, false_iff]; omega)), rfl, rfl⟩
end Go.Ab

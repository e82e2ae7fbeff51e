/- Walks. -/
import Derived.Test.YtoodaakcfelaaaaGreatBase
import Derived.Test.YtoodaakcfelaaaaGreatSimp
import Derived.Test.YtoodaakcfelaaaaGreatWscons
namespace Go.Ab
open Go.Proofs
set_option maxRecDepth 100000
set_option maxHeartbeats 8000000
set_option linter.unusedSimpArgs false
set_option linter.unusedVariables false
theorem f_toTerm (t : Term) : Fn Tryz.prog 177 [.agg [.p (.int .i64 t.1), .p (.int .i64 t.2)]] [] (fun rr ii nn => rr = .agg [.p (.int .i64 t.1), .p (.int .i64 t.2)] ∧ ii = [] ∧ nn = []) := by
 refine fn_of Tryz.func177 rfl (Nat.le_of_ble_eq_true rfl) fun w X g => ?_
 show AWp _ _ _ ⟨[(0, .agg [.p (.int .i64 t.1), .p (.int .i64 t.2)])], []⟩
 refine rs ?_
 refine op_n' (fun ver => j_boxa rfl) fun v1x1 => ?_
 refine op_n' (fun ver => j_alloc elt135 rfl) fun v2x2 => ?_
 refine on ?_
 refine rs ?_
 refine op_n' (fun ver => j_alloc elt135 rfl) fun v3x3 => ?_
 refine on ?_
 refine rs ?_
 refine op_v' (j_fldp fld194f0 rfl rfl) ?_
 refine op_v' (j_load_box leaf3 rfl rfl rfl) ?_
 refine op_v' (j_fldp fld135f0 rfl rfl) ?_
 refine op_s' (j_store_box leaf3 rfl rfl (Nat.le_of_ble_eq_true rfl) (evo rfl) rfl) ?_
 refine on ?_
 refine rs ?_
 refine op_v' (j_fldp fld194f1 rfl rfl) ?_
 refine op_v' (j_load_box leaf3 rfl rfl rfl) ?_
 refine op_v' (j_fldp fld135f1 rfl rfl) ?_
 refine op_s' (j_store_box leaf3 rfl rfl (Nat.le_of_ble_eq_true rfl) (evo rfl) rfl) ?_
 refine on ?_
 refine rs ?_
 refine op_v' (j_loada_box (ys := [.p _, .p _]) agg135 rfl rfl rfl (Nat.le_of_ble_eq_true rfl)) ?_
 refine op_s' (j_storea_box0 agg135 rfl rfl rfl rfl rfl rfl) ?_
 refine on ?_
 refine a_ret ?_
 exact ⟨[.agg [.p _, .p _]], .agg [.p _, .p _], [], [], [], ⟨⟨_, _, _, _, rfl, rfl, agg135, rfl⟩, trivial⟩, rfl, rfl, trivial, rfl, rfl, ⟨rfl, rfl, rfl⟩⟩
theorem f_eqTerm (t u : Term) : Fn Tryz.prog 180 [.agg [.p (.int .i64 t.1), .p (.int .i64 t.2)], .agg [.p (.int .i64 u.1), .p (.int .i64 u.2)]] [] (fun rr ii nn => rr = .p (.bool (decide (t = u))) ∧ ii = [] ∧ nn = []) := by
 refine fn_of Tryz.func180 rfl (Nat.le_of_ble_eq_true rfl) fun w X g => ?_
 show AWp _ _ _ ⟨[(0, .agg [.p (.int .i64 t.1), .p (.int .i64 t.2)]), (1, .agg [.p (.int .i64 u.1), .p (.int .i64 u.2)])], []⟩
 refine rs ?_
 refine op_n' (fun ver => j_boxa rfl) fun v2x1 => ?_
 refine op_n' (fun ver => j_boxa rfl) fun v3x2 => ?_
 refine oa rfl ?_
 refine on ?_
 refine a_seq ?_
 refine rs ?_
 refine op_v' (j_fldp fld135f0 rfl rfl) ?_
 refine op_v' (j_load_box leaf3 rfl rfl rfl) ?_
 refine op_v' (j_fldp fld135f0 rfl rfl) ?_
 refine op_v' (j_load_box leaf3 rfl rfl rfl) ?_
 refine op_v' (j_ne rfl rfl) ?_
 refine on ?_
 refine ac rfl (fun h1 => ?_) fun h1 => ?_
 ·
  have h1r := h1
  try simp only [nq, nr] at h1
  refine rs ?_
  refine oa rfl ?_
  refine on ?_
  refine a_ret ?_
  exact fin_p rfl ⟨boolEq (biff (by simp only [decide_eq_true_eq, Prod.ext_iff, Bool.false_eq_true, false_iff]; omega)), rfl, rfl⟩
 have h1r := h1
 try simp only [nq, nr] at h1
 refine a_skip ?_
 refine a_seq ?_
 refine rs ?_
 refine op_v' (j_fldp fld135f1 rfl rfl) ?_
 refine op_v' (j_load_box leaf3 rfl rfl rfl) ?_
 refine op_v' (j_fldp fld135f1 rfl rfl) ?_
 refine op_v' (j_load_box leaf3 rfl rfl rfl) ?_
 refine op_v' (j_ne rfl rfl) ?_
 refine on ?_
 refine ac rfl (fun h2 => ?_) fun h2 => ?_
 ·
  have h2r := h2
  try simp only [nq, nr] at h2
  refine rs ?_
  refine oa rfl ?_
  refine on ?_
  refine a_ret ?_
  exact fin_p rfl ⟨boolEq (biff (by simp only [decide_eq_true_eq, Prod.ext_iff, Bool.false_eq_true, false_iff]; omega)), rfl, rfl⟩
 have h2r := h2
 try simp only [nq, nr] at h2
 refine a_skip ?_
 refine rs ?_
 refine oa rfl ?_
 refine on ?_
 refine a_ret ?_
 exact fin_p rfl ⟨boolEq (by symm; rw [decide_eq_true_eq]; exact Prod.ext h1 h2), rfl, rfl⟩
theorem f_toTermS (ts : List Term) (hts : ts.length ≤ 1048576) : Fn Tryz.prog 123 [.sl (ts.map dT)] [] (fun rr ii nn => rr = .own 0 0 ∧ ii = [] ∧ nn = [.row 135 2 (ts.map dT)]) := by
 refine fn_of Tryz.func123 rfl (Nat.le_of_ble_eq_true rfl) fun w X g => ?_
 show AWp _ _ _ ⟨[(0, .sl (ts.map dT))], []⟩
 refine rs ?_
 refine oa rfl ?_
 refine on ?_
 refine rs ?_
 refine om rfl ?_
 refine op_v' (j_len_map Tryz.underlying76 rfl) ?_
 refine op_n' (fun ver => j_make slt67 elt135 rfl rfl (by decide) rfl rfl rfl rfl (by first | omega | (simp only [nr, wr_length]; omega)) (by rw [maxLen_eq]; first | omega | (simp only [nr, wr_length]; omega))) fun v7x1 => ?_
 refine oa rfl ?_
 refine on ?_
 refine a_seq ?_
 refine rs ?_
 refine oa rfl ?_
 refine on ?_
 refine a_block ?_
 refine a_loopF' (ι := Nat) (fun k => k ≤ ts.length) (fun k r => (4, .p (.int .i64 ((k : Nat)))) :: r) (fun k r => (7, some (v7x1, .row 135 2 (wr dT ts k (dT (0, 0))))) :: r) (fun k => ts.length - k) (fun _ _ => rfl) (fun _ _ => rfl) 0 (by first | omega | (simp only [nr, wr_length]; omega)) ⟨⟨rfl, rfl⟩, ⟨rfl, trivial⟩, ⟨rowEq (by rw [wr_zero]; rfl), trivial⟩, ⟨rfl, rfl⟩, ⟨rfl, rfl⟩⟩ ?_
 intro k hpre0
 refine a_seq ?_
 refine rs ?_
 refine om rfl ?_
 refine om rfl ?_
 refine op_v' (j_len_map Tryz.underlying76 rfl) ?_
 refine op_v' (j_lt rfl rfl) ?_
 refine on ?_
 refine ac rfl (fun h1 => ?_) fun h1 => ?_
 ·
  have h1r := h1
  try simp only [nq, nr, wr_length] at h1
  refine a_skip ?_
  refine a_seq ?_
  refine a_block ?_
  refine ar ?_
  refine om rfl ?_
  refine om rfl ?_
  refine om rfl ?_
  refine om rfl ?_
  refine op_v' (j_elemN slt76 rfl rfl rfl (at_map (by first | omega | (simp only [nr, wr_length]; omega))) rfl) ?_
  refine op_v' (j_loada_el (ys := [.p _, .p _]) agg194 rfl (at_map (by first | omega | (simp only [nr, wr_length]; omega))) rfl (Nat.le_refl _)) ?_
  refine op_v0' (j_call0 (v := .agg [.p _, .p _]) (hp1 := []) [] false [] ent177 (f_toTerm _) ⟨.inl ⟨rfl, rfl⟩, trivial⟩ trivial rfl rfl (fun h => by cases h) rfl (fun _ h => by cases h) (.inl rfl) rfl rfl) ?_
  refine op_v' (j_elem_ownN slt67 rfl rfl rfl rfl (by first | omega | (simp only [nr, wr_length]; omega))) ?_
  refine op_s' (j_storea_row agg135 rfl rfl (by first | omega | (simp only [nr, wr_length]; omega)) rfl rfl rfl rfl) ?_
  refine on ?_
  refine ar ?_
  refine om rfl ?_
  refine op_v' (j_add rfl rfl (by first | omega | (simp only [nr, wr_length]; omega)) (by first | omega | (simp only [nr, wr_length]; omega))) ?_
  refine oa rfl ?_
  refine on ?_
  exact ⟨k + 1, (by first | omega | (simp only [nr, wr_length]; omega)), ⟨⟨rfl, rfl⟩, ⟨rfl, trivial⟩, ⟨rowEq (wr_set (d := default) (by first | omega | (simp only [nr, wr_length]; omega))), trivial⟩, ⟨rfl, rfl⟩, ⟨rfl, rfl⟩⟩, (by first | omega | (simp only [nr, wr_length]; omega))⟩
 have h1r := h1
 try simp only [nq, nr, wr_length] at h1
 refine a_exit ?_
 refine rs ?_
 refine om rfl ?_
 refine oa rfl ?_
 refine on ?_
 refine a_ret ?_
 exact ⟨[.own 7 v7x1], .own 0 0, [], [.row 135 2 _], [(7, v7x1)], ⟨rfl, trivial⟩, rfl, rfl, ⟨⟨rfl, rfl⟩, trivial⟩, rfl, rfl, ⟨rfl, rfl, congrArg (fun x => [Obj.row _ _ x]) (wr_all (by first | omega | (simp only [nr, wr_length]; omega)))⟩⟩
theorem f_toCon (c : Con) (hc : c.1.length ≤ 1048576) : Fn Tryz.prog 53 [.agg [.sl (c.1.map dT), .p (.int .i64 c.2)]] [] (fun rr ii nn => rr = .agg [.own 0 0, .p (.int .i64 c.2)] ∧ ii = [] ∧ nn = [.row 135 2 (c.1.map dT)]) := by
 refine fn_of Tryz.func53 rfl (Nat.le_of_ble_eq_true rfl) fun w X g => ?_
 show AWp _ _ _ ⟨[(0, .agg [.sl (c.1.map dT), .p (.int .i64 c.2)])], []⟩
 refine rs ?_
 refine op_n' (fun ver => j_boxa rfl) fun v1x1 => ?_
 refine op_n' (fun ver => j_alloc elt69 rfl) fun v2x2 => ?_
 refine on ?_
 refine rs ?_
 refine op_n' (fun ver => j_alloc elt69 rfl) fun v3x3 => ?_
 refine on ?_
 refine rs ?_
 refine op_v' (j_fldp fld78f0 rfl rfl) ?_
 refine op_v' (j_load_box leaf76 rfl rfl rfl) ?_
 refine op_n1' (fun ver => j_call1 (v := .own 6 ver) (hp1 := [(6, some (ver, .row 135 2 _))]) [] false [] ent123 (f_toTermS _ (by omega)) ⟨.inl ⟨rfl, rfl⟩, trivial⟩ trivial rfl rfl rfl (fun h => by cases h) rfl (List.all_eq_true.1 rfl) (.inl rfl) rfl rfl) fun v6x4 => ?_
 refine op_v' (j_fldp fld69f0 rfl rfl) ?_
 refine op_s' (j_store_box leaf67 rfl rfl (Nat.le_of_ble_eq_true rfl) (evo rfl) rfl) ?_
 refine on ?_
 refine rs ?_
 refine op_v' (j_fldp fld78f1 rfl rfl) ?_
 refine op_v' (j_load_box leaf3 rfl rfl rfl) ?_
 refine op_v' (j_fldp fld69f1 rfl rfl) ?_
 refine op_s' (j_store_box leaf3 rfl rfl (Nat.le_of_ble_eq_true rfl) (evo rfl) rfl) ?_
 refine on ?_
 refine rs ?_
 refine op_v' (j_loada_box (ys := [.own 6 v6x4, .p _]) agg69 rfl rfl rfl (Nat.le_of_ble_eq_true rfl)) ?_
 refine op_s' (j_storea_box0 agg69 rfl rfl rfl rfl rfl rfl) ?_
 refine on ?_
 refine a_ret ?_
 exact ⟨[.agg [.own 6 v6x4, .p _]], .agg [.own 0 0, .p _], [], [.row 135 2 _], [(6, v6x4)], ⟨⟨_, _, _, _, rfl, rfl, agg69, rfl⟩, trivial⟩, rfl, rfl, ⟨⟨rfl, rfl⟩, trivial⟩, rfl, rfl, ⟨rfl, rfl, rfl⟩⟩
theorem f_eqTermS (a b : List Term) : Fn Tryz.prog 127 [.sl (a.map dT), .sl (b.map dT)] [] (fun rr ii nn => rr = .p (.bool (decide (a = b))) ∧ ii = [] ∧ nn = []) := by
 refine fn_of Tryz.func127 rfl (Nat.le_of_ble_eq_true rfl) fun w X g => ?_
 show AWp _ _ _ ⟨[(0, .sl (a.map dT)), (1, .sl (b.map dT))], []⟩
 refine a_len_map 0 rfl fun hla => ?_
 refine rs ?_
 refine oa rfl ?_
 refine on ?_
 refine a_seq ?_
 refine rs ?_
 refine om rfl ?_
 refine op_v' (j_len_map Tryz.underlying67 rfl) ?_
 refine om rfl ?_
 refine op_v' (j_len_map Tryz.underlying67 rfl) ?_
 refine op_v' (j_ne rfl rfl) ?_
 refine on ?_
 refine ac rfl (fun h1 => ?_) fun h1 => ?_
 ·
  have h1r := h1
  try simp only [nq, nr] at h1
  refine rs ?_
  refine oa rfl ?_
  refine on ?_
  refine a_ret ?_
  exact fin_p rfl ⟨boolEq (by symm; rw [decide_eq_false_iff_not]; rintro rfl; exact h1 rfl), rfl, rfl⟩
 have h1r := h1
 try simp only [nq, nr] at h1
 refine a_skip ?_
 refine a_seq ?_
 refine rs ?_
 refine oa rfl ?_
 refine on ?_
 refine a_block ?_
 refine a_loopF' (ι := Nat) (fun k => k ≤ a.length ∧ a.take k = b.take k) (fun k r => (5, .p (.int .i64 ((k : Nat)))) :: r) (fun k r => r) (fun k => a.length - k) (fun _ _ => rfl) (fun _ _ => rfl) 0 ⟨Nat.zero_le _, rfl⟩ ⟨⟨rfl, rfl⟩, ⟨rfl, trivial⟩, trivial, ⟨rfl, rfl⟩, ⟨rfl, rfl⟩⟩ ?_
 intro k hpre0
 refine a_seq ?_
 refine rs ?_
 refine om rfl ?_
 refine om rfl ?_
 refine op_v' (j_len_map Tryz.underlying67 rfl) ?_
 refine op_v' (j_lt rfl rfl) ?_
 refine on ?_
 refine ac rfl (fun h2 => ?_) fun h2 => ?_
 ·
  have h2r := h2
  try simp only [nq, nr] at h2
  refine a_skip ?_
  refine a_seq ?_
  refine a_block ?_
  refine a_seq ?_
  refine a_draw mixed (by kernel_rfl) (by kernel_rfl) fun vf => ?_
  refine d_v' (j_move (evo rfl)) ?_
  refine d_v' (j_move (evo rfl)) ?_
  refine d_v' (j_elemN slt67 rfl rfl rfl (at_map (by omega)) rfl) ?_
  refine d_v' (j_loada_el (ys := [.p _, .p _]) agg135 rfl (at_map (by omega)) rfl (Nat.le_refl _)) ?_
  refine d_v' (j_move (evo rfl)) ?_
  refine d_v' (j_move (evo rfl)) ?_
  refine d_v' (j_elemN slt67 rfl rfl rfl (at_map (by omega)) rfl) ?_
  refine d_v' (j_loada_el (ys := [.p _, .p _]) agg135 rfl (at_map (by omega)) rfl (Nat.le_refl _)) ?_
  refine d_v0' (j_call0 (v := .p _) (hp1 := []) [] false [] ent180 (f_eqTerm (a.getD k default) (b.getD k default)) ⟨.inl ⟨rfl, rfl⟩, .inl ⟨rfl, rfl⟩, trivial⟩ trivial rfl rfl (fun h => by cases h) rfl (fun _ h => by cases h) (.inl rfl) rfl rfl) ?_
  refine d_v' (j_not rfl) ?_
  refine d_nil (by kernel_rfl) (by kernel_rfl) ?_
  refine ac rfl (fun h3 => ?_) fun h3 => ?_
  ·
   have h3r := h3
   try simp only [nq, nr] at h3
   refine rs ?_
   refine oa rfl ?_
   refine on ?_
   refine a_ret ?_
   exact fin_p rfl ⟨boolEq (by symm; rw [decide_eq_false_iff_not]; rintro rfl; exact h3 rfl), rfl, rfl⟩
  have h3r := h3
  try simp only [nq, nr] at h3
  refine a_skip ?_
  refine ar ?_
  refine om rfl ?_
  refine op_v' (j_add rfl rfl (by omega) (by omega)) ?_
  refine oa rfl ?_
  refine on ?_
  exact ⟨k + 1, ⟨(by omega), take_next hpre0.2 (by omega) (by omega) h3⟩, ⟨⟨rfl, rfl⟩, ⟨rfl, trivial⟩, trivial, ⟨rfl, rfl⟩, ⟨rfl, rfl⟩⟩, (by omega)⟩
 have h2r := h2
 try simp only [nq, nr] at h2
 refine a_exit ?_
 refine rs ?_
 refine oa rfl ?_
 refine on ?_
 refine a_ret ?_
 exact fin_p rfl ⟨boolEq (by symm; rw [decide_eq_true_eq]; exact take_eq hpre0.2 (by omega) (by omega)), rfl, rfl⟩
theorem f_eqCon (c d : Con) : Fn Tryz.prog 60 [.agg [.sl (c.1.map dT), .p (.int .i64 c.2)], .agg [.sl (d.1.map dT), .p (.int .i64 d.2)]] [] (fun rr ii nn => rr = .p (.bool (decide (c = d))) ∧ ii = [] ∧ nn = []) := by
 refine fn_of Tryz.func60 rfl (Nat.le_of_ble_eq_true rfl) fun w X g => ?_
 show AWp _ _ _ ⟨[(0, .agg [.sl (c.1.map dT), .p (.int .i64 c.2)]), (1, .agg [.sl (d.1.map dT), .p (.int .i64 d.2)])], []⟩
 refine rs ?_
 refine op_n' (fun ver => j_boxa rfl) fun v2x1 => ?_
 refine op_n' (fun ver => j_boxa rfl) fun v3x2 => ?_
 refine oa rfl ?_
 refine on ?_
 refine a_seq ?_
 refine rs ?_
 refine op_v' (j_fldp fld69f0 rfl rfl) ?_
 refine op_v' (j_load_box leaf67 rfl rfl rfl) ?_
 refine op_v' (j_fldp fld69f0 rfl rfl) ?_
 refine op_v' (j_load_box leaf67 rfl rfl rfl) ?_
 refine op_v0' (j_call0 (v := .p _) (hp1 := []) [] false [] ent127 (f_eqTermS _ _) ⟨.inl ⟨rfl, rfl⟩, .inl ⟨rfl, rfl⟩, trivial⟩ trivial rfl rfl (fun h => by cases h) rfl (fun _ h => by cases h) (.inl rfl) rfl rfl) ?_
 refine op_v' (j_not rfl) ?_
 refine on ?_
 refine ac rfl (fun h1 => ?_) fun h1 => ?_
 ·
  have h1r := h1
  try simp only [nq, nr] at h1
  refine rs ?_
  refine oa rfl ?_
  refine on ?_
  refine a_ret ?_
  exact fin_p rfl ⟨boolEq (by symm; rw [decide_eq_false_iff_not]; rintro rfl; exact h1 rfl), rfl, rfl⟩
 have h1r := h1
 try simp only [nq, nr] at h1
 refine a_skip ?_
 refine a_seq ?_
 refine rs ?_
 refine op_v' (j_fldp fld69f1 rfl rfl) ?_
 refine op_v' (j_load_box leaf3 rfl rfl rfl) ?_
 refine op_v' (j_fldp fld69f1 rfl rfl) ?_
 refine op_v' (j_load_box leaf3 rfl rfl rfl) ?_
 refine op_v' (j_ne rfl rfl) ?_
 refine on ?_
 refine ac rfl (fun h2 => ?_) fun h2 => ?_
 ·
  have h2r := h2
  try simp only [nq, nr] at h2
  refine rs ?_
  refine oa rfl ?_
  refine on ?_
  refine a_ret ?_
  exact fin_p rfl ⟨boolEq (by symm; rw [decide_eq_false_iff_not]; rintro rfl; exact h2 rfl), rfl, rfl⟩
 have h2r := h2
 try simp only [nq, nr] at h2
 refine a_skip ?_
 refine rs ?_
 refine oa rfl ?_
 refine on ?_
 refine a_ret ?_
 exact fin_p rfl ⟨boolEq (by symm; rw [decide_eq_true_eq]; exact Prod.ext h1 h2), rfl, rfl⟩
theorem f_szTermS (ts : List Term) (n : Int) (hn : 0 ≤ n ∧ n ≤ 4611686018427387904) : Fn Tryz.prog 117 [.sl (ts.map dT), .p (.int .i64 (n))] [] (fun rr ii nn => rr = .p (.int .i64 (szv ts.length n)) ∧ ii = [] ∧ nn = []) := by
 refine fn_of Tryz.func117 rfl (Nat.le_of_ble_eq_true rfl) fun w X g => ?_
 show AWp _ _ _ ⟨[(0, .sl (ts.map dT)), (1, .p (.int .i64 (n)))], []⟩
 refine a_len_map 0 rfl fun hla => ?_
 refine rs ?_
 refine oa rfl ?_
 refine on ?_
 refine rs ?_
 refine om rfl ?_
 refine om rfl ?_
 refine op_v' (j_len_map Tryz.underlying76 rfl) ?_
 refine op_v' (j_sub rfl rfl (by omega) (by omega)) ?_
 refine oa rfl ?_
 refine on ?_
 refine a_seq ?_
 refine rs ?_
 refine om rfl ?_
 refine op_v' (j_lt rfl rfl) ?_
 refine on ?_
 refine ac rfl (fun h1 => ?_) fun h1 => ?_
 ·
  have h1r := h1
  try simp only [nq, nr] at h1
  refine rs ?_
  refine oa rfl ?_
  refine on ?_
  refine a_ret ?_
  exact fin_p rfl ⟨intEq (by unfold szv; split <;> omega), rfl, rfl⟩
 have h1r := h1
 try simp only [nq, nr] at h1
 refine a_skip ?_
 refine rs ?_
 refine om rfl ?_
 refine oa rfl ?_
 refine on ?_
 refine a_ret ?_
 exact fin_p rfl ⟨intEq (by unfold szv; split <;> omega), rfl, rfl⟩
theorem f_szCon (c : Con) (n : Int) (hn : 0 ≤ n ∧ n ≤ 4611686018427387904) : Fn Tryz.prog 45 [.agg [.sl (c.1.map dT), .p (.int .i64 c.2)], .p (.int .i64 (n))] [] (fun rr ii nn => rr = .p (.int .i64 (szv c.1.length n)) ∧ ii = [] ∧ nn = []) := by
 refine fn_of Tryz.func45 rfl (Nat.le_of_ble_eq_true rfl) fun w X g => ?_
 show AWp _ _ _ ⟨[(0, .agg [.sl (c.1.map dT), .p (.int .i64 c.2)]), (1, .p (.int .i64 (n)))], []⟩
 refine rs ?_
 refine op_n' (fun ver => j_boxa rfl) fun v2x1 => ?_
 refine oa rfl ?_
 refine on ?_
 refine rs ?_
 refine op_v' (j_fldp fld78f0 rfl rfl) ?_
 refine op_v' (j_load_box leaf76 rfl rfl rfl) ?_
 refine om rfl ?_
 refine op_v0' (j_call0 (v := .p _) (hp1 := []) [] false [] ent117 (f_szTermS _ _ (by omega)) ⟨.inl ⟨rfl, rfl⟩, .inl ⟨rfl, rfl⟩, trivial⟩ trivial rfl rfl (fun h => by cases h) rfl (fun _ h => by cases h) (.inl rfl) rfl rfl) ?_
 refine oa rfl ?_
 refine on ?_
 refine a_seq ?_
 refine rs ?_
 refine om rfl ?_
 refine op_v' (j_lt rfl rfl) ?_
 refine on ?_
 refine ac rfl (fun h1 => ?_) fun h1 => ?_
 ·
  have h1r := h1
  try simp only [nq, nr] at h1
  refine rs ?_
  refine oa rfl ?_
  refine on ?_
  refine a_ret ?_
  exact fin_p rfl ⟨intEq (by unfold szv at *; split <;> (try split at h1) <;> omega), rfl, rfl⟩
 have h1r := h1
 try simp only [nq, nr] at h1
 refine a_skip ?_
 refine rs ?_
 refine om rfl ?_
 refine oa rfl ?_
 refine on ?_
 refine a_ret ?_
 exact fin_p rfl ⟨intEq (by unfold szv at *; split <;> (try split at h1) <;> omega), rfl, rfl⟩
end Go.Ab

/- Walks. -/
import Derived.Test.YtoodaakcfelaaaaGreatBase
import Derived.Test.YtoodaakcfelaaaaGreatSimp
import Derived.Test.YtoodaakcfelaaaaGreatWsfix
import Derived.Test.YtoodaakcfelaaaaGreatWsprobd
import Derived.Test.YtoodaakcfelaaaaGreatWsdrawd
import Derived.Test.YtoodaakcfelaaaaGreatWstight
import Derived.Test.YtoodaakcfelaaaaGreatWsfun
import Derived.Test.YtoodaakcfelaaaaGreatWsmul
import Derived.Test.YtoodaakcfelaaaaGreatWsenum
import Derived.Test.YtoodaakcfelaaaaGreatMod3
import Derived.Test.YtoodaakcfelaaaaGreatWscons
import Derived.Test.YtoodaakcfelaaaaGreatVals
namespace Go.Ab
open Go.Proofs
set_option maxRecDepth 100000
set_option maxHeartbeats 8000000
set_option linter.unusedSimpArgs false
set_option linter.unusedVariables false
theorem f_slack (c : Con) (p : List Int) (hc : cOk c = true) (hp : paOk p = true) : Fn Tryz.prog 227 [.agg [.sl (c.1.map dT), .p (.int .i64 c.2)], .sl (p.map dI)] [] (fun rr ii nn => rr = .p (.int .i64 (slV c p)) ∧ ii = [] ∧ nn = []) := by
 refine fn_of Tryz.func227 rfl (Nat.le_of_ble_eq_true rfl) fun w X g => ?_
 show AWp _ _ _ ⟨[(0, .agg [.sl (c.1.map dT), .p (.int .i64 c.2)]), (1, .sl (p.map dI))], []⟩
 have hlc := cOk_len hc
 have hbc := cOk_bound hc
 have hpl := paOk_len hp
 refine rs ?_
 refine op_n' (fun ver => j_boxa rfl) fun v2x1 => ?_
 refine oa rfl ?_
 refine on ?_
 refine rs ?_
 refine op_v' (j_fldp fld69f1 rfl rfl) ?_
 refine op_v' (j_load_box leaf3 rfl rfl rfl) ?_
 refine op_v' (j_neg rfl (by first | omega | (simp only [nr, nl, asgL_len]; omega)) (by first | omega | (simp only [nr, nl, asgL_len]; omega))) ?_
 refine oa rfl ?_
 refine on ?_
 refine a_seq ?_
 refine rs ?_
 refine op_v' (j_fldp fld69f0 rfl rfl) ?_
 refine op_v' (j_load_box leaf67 rfl rfl rfl) ?_
 refine op_v' (j_len_map Tryz.underlying67 rfl) ?_
 refine om rfl ?_
 refine on ?_
 refine a_block ?_
 refine a_loopF' (ι := Nat) (fun k => k ≤ c.1.length) (fun k r => (14, .p (.int .i64 ((k : Nat)))) :: (5, .p (.int .i64 (slF p (c.1.take k) (-c.2)))) :: r) (fun k r => r) (fun k => c.1.length - k) (fun _ _ => rfl) (fun _ _ => rfl) 0 (by first | omega | (simp only [nr, nl, asgL_len]; omega)) ⟨⟨rfl, rfl⟩, ⟨rfl, rfl, trivial⟩, trivial, ⟨rfl, rfl⟩, ⟨rfl, rfl⟩⟩ ?_
 intro k hpre0
 refine rs ?_
 refine op_v' (j_lt rfl rfl) ?_
 refine on ?_
 refine a_seq ?_
 refine ac rfl (fun h1 => ?_) fun h1 => ?_
 ·
  have h1r := h1
  try simp only [nq, nr, nl, asgL_len] at h1
  refine a_skip ?_
  refine a_seq ?_
  refine a_block ?_
  refine a_seq ?_
  have htm := cOk_terms hc (k := k) (by omega)
  have hst := slF_take hc p k
  refine ar ?_
  refine op_v' (j_elemN slt67 rfl rfl rfl (at_map (by first | omega | (simp only [nr, nl, asgL_len]; omega))) rfl) ?_
  refine op_v' (j_loada_el (ys := [.p _, .p _]) agg135 rfl (at_map (by first | omega | (simp only [nr, nl, asgL_len]; omega))) rfl (Nat.le_refl _)) ?_
  refine op_n' (fun ver => j_alloc elt135 rfl) fun v7x2 => ?_
  refine op_s' (j_storea_box0 agg135 rfl rfl rfl rfl rfl rfl) ?_
  refine on ?_
  refine rs ?_
  refine op_v' (j_fldp fld135f1 rfl rfl) ?_
  refine op_v' (j_load_box leaf3 rfl rfl rfl) ?_
  refine om rfl ?_
  refine op_v0' (j_call0 (v := .p _) (hp1 := []) [] false [] ent265 (f_under (c.1.getD k default).2 p htm.1 hp) ⟨.inl ⟨rfl, rfl⟩, .inl ⟨rfl, rfl⟩, trivial⟩ trivial rfl rfl (fun h => by cases h) rfl (fun _ h => by cases h) (.inl rfl) rfl rfl) ?_
  refine op_v' (j_ge rfl rfl) ?_
  refine on ?_
  refine ac rfl (fun h2 => ?_) fun h2 => ?_
  ·
   have h2r := h2
   try simp only [nq, nr, nl, asgL_len] at h2
   refine ar ?_
   refine om rfl ?_
   refine op_v' (j_fldp fld135f0 rfl rfl) ?_
   refine op_v' (j_load_box leaf3 rfl rfl rfl) ?_
   refine op_v' (j_add rfl rfl (by first | omega | (simp only [nr, nl, asgL_len]; omega)) (by first | omega | (simp only [nr, nl, asgL_len]; omega))) ?_
   refine oa rfl ?_
   refine on ?_
   refine ar ?_
   refine op_v' (j_add rfl rfl (by first | omega | (simp only [nr, nl, asgL_len]; omega)) (by first | omega | (simp only [nr, nl, asgL_len]; omega))) ?_
   refine om rfl ?_
   refine on ?_
   exact ⟨k + 1, (by first | omega | (simp only [nr, nl, asgL_len]; omega)), ⟨⟨rfl, rfl⟩, ⟨rfl, intEq (by rw [slF_next (by omega), if_pos (by omega)]), trivial⟩, trivial, ⟨rfl, rfl⟩, ⟨rfl, rfl⟩⟩, (by first | omega | (simp only [nr, nl, asgL_len]; omega))⟩
  have h2r := h2
  try simp only [nq, nr, nl, asgL_len] at h2
  refine a_skip ?_
  refine ar ?_
  refine op_v' (j_add rfl rfl (by first | omega | (simp only [nr, nl, asgL_len]; omega)) (by first | omega | (simp only [nr, nl, asgL_len]; omega))) ?_
  refine om rfl ?_
  refine on ?_
  exact ⟨k + 1, (by first | omega | (simp only [nr, nl, asgL_len]; omega)), ⟨⟨rfl, rfl⟩, ⟨rfl, intEq (by rw [slF_next (by omega), if_neg (by omega)]), trivial⟩, trivial, ⟨rfl, rfl⟩, ⟨rfl, rfl⟩⟩, (by first | omega | (simp only [nr, nl, asgL_len]; omega))⟩
 have h1r := h1
 try simp only [nq, nr, nl, asgL_len] at h1
 refine a_exit ?_
 refine rs ?_
 refine om rfl ?_
 refine oa rfl ?_
 refine on ?_
 refine a_ret ?_
 exact fin_p rfl ⟨intEq (by unfold slV; rw [List.take_of_length_le (by omega)]), rfl, rfl⟩
theorem f_l3Slack (c : Con) (p : List Int) (hc : cOk c = true) (hp : paOk p = true) : Fn Tryz.prog 229 [.agg [.sl (c.1.map dT), .p (.int .i64 c.2)], .sl (p.map dI)] [] (fun rr ii nn => rr = .p (.int .i64 (slV c p)) ∧ ii = [] ∧ nn = []) := by
 refine fn_of Tryz.func229 rfl (Nat.le_of_ble_eq_true rfl) fun w X g => ?_
 show AWp _ _ _ ⟨[(0, .agg [.sl (c.1.map dT), .p (.int .i64 c.2)]), (1, .sl (p.map dI))], []⟩
 have hlc := cOk_len hc
 have hbc := cOk_bound hc
 have hpl := paOk_len hp
 refine rs ?_
 refine op_n' (fun ver => j_boxa rfl) fun v2x1 => ?_
 refine oa rfl ?_
 refine on ?_
 refine rs ?_
 refine op_v' (j_fldp fld69f1 rfl rfl) ?_
 refine op_v' (j_load_box leaf3 rfl rfl rfl) ?_
 refine op_v' (j_neg rfl (by first | omega | (simp only [nr, nl, asgL_len]; omega)) (by first | omega | (simp only [nr, nl, asgL_len]; omega))) ?_
 refine oa rfl ?_
 refine on ?_
 refine a_seq ?_
 refine rs ?_
 refine oa rfl ?_
 refine on ?_
 refine a_block ?_
 refine a_loopF' (ι := Nat) (fun k => k ≤ c.1.length) (fun k r => (6, .p (.int .i64 ((k : Nat)))) :: (5, .p (.int .i64 (slF p (c.1.take k) (-c.2)))) :: r) (fun k r => r) (fun k => c.1.length - k) (fun _ _ => rfl) (fun _ _ => rfl) 0 (by first | omega | (simp only [nr, nl, asgL_len]; omega)) ⟨⟨rfl, rfl⟩, ⟨rfl, rfl, trivial⟩, trivial, ⟨rfl, rfl⟩, ⟨rfl, rfl⟩⟩ ?_
 intro k hpre0
 refine a_seq ?_
 refine rs ?_
 refine om rfl ?_
 refine op_v' (j_fldp fld69f0 rfl rfl) ?_
 refine op_v' (j_load_box leaf67 rfl rfl rfl) ?_
 refine op_v' (j_len_map Tryz.underlying67 rfl) ?_
 refine op_v' (j_lt rfl rfl) ?_
 refine on ?_
 refine ac rfl (fun h1 => ?_) fun h1 => ?_
 ·
  have h1r := h1
  try simp only [nq, nr, nl, asgL_len] at h1
  refine a_skip ?_
  refine a_seq ?_
  refine a_block ?_
  refine a_seq ?_
  have htm := cOk_terms hc (k := k) (by omega)
  have hst := slF_take hc p k
  refine ar ?_
  refine om rfl ?_
  refine op_v' (j_fldp fld69f0 rfl rfl) ?_
  refine op_v' (j_load_box leaf67 rfl rfl rfl) ?_
  refine om rfl ?_
  refine op_v' (j_elemN slt67 rfl rfl rfl (at_map (by first | omega | (simp only [nr, nl, asgL_len]; omega))) rfl) ?_
  refine op_v' (j_fldel fld135f1 rfl) ?_
  refine op_v' (j_load_el leaf3 rfl (at_map (by first | omega | (simp only [nr, nl, asgL_len]; omega))) rfl) ?_
  refine op_v0' (j_call0 (v := .p _) (hp1 := []) [] false [] ent266 (f_l3State p (c.1.getD k default).2 htm.1 hp) ⟨.inl ⟨rfl, rfl⟩, .inl ⟨rfl, rfl⟩, trivial⟩ trivial rfl rfl (fun h => by cases h) rfl (fun _ h => by cases h) (.inl rfl) rfl rfl) ?_
  refine op_v' (j_ge rfl rfl) ?_
  refine on ?_
  refine ac rfl (fun h2 => ?_) fun h2 => ?_
  ·
   have h2r := h2
   try simp only [nq, nr, nl, asgL_len] at h2
   refine ar ?_
   refine om rfl ?_
   refine op_v' (j_fldp fld69f0 rfl rfl) ?_
   refine op_v' (j_load_box leaf67 rfl rfl rfl) ?_
   refine om rfl ?_
   refine op_v' (j_elemN slt67 rfl rfl rfl (at_map (by first | omega | (simp only [nr, nl, asgL_len]; omega))) rfl) ?_
   refine op_v' (j_fldel fld135f0 rfl) ?_
   refine op_v' (j_load_el leaf3 rfl (at_map (by first | omega | (simp only [nr, nl, asgL_len]; omega))) rfl) ?_
   refine op_v' (j_add rfl rfl (by first | omega | (simp only [nr, nl, asgL_len]; omega)) (by first | omega | (simp only [nr, nl, asgL_len]; omega))) ?_
   refine oa rfl ?_
   refine on ?_
   refine ar ?_
   refine om rfl ?_
   refine op_v' (j_add rfl rfl (by first | omega | (simp only [nr, nl, asgL_len]; omega)) (by first | omega | (simp only [nr, nl, asgL_len]; omega))) ?_
   refine oa rfl ?_
   refine on ?_
   exact ⟨k + 1, (by first | omega | (simp only [nr, nl, asgL_len]; omega)), ⟨⟨rfl, rfl⟩, ⟨rfl, intEq (by rw [slF_next (by omega), if_pos (by omega)]), trivial⟩, trivial, ⟨rfl, rfl⟩, ⟨rfl, rfl⟩⟩, (by first | omega | (simp only [nr, nl, asgL_len]; omega))⟩
  have h2r := h2
  try simp only [nq, nr, nl, asgL_len] at h2
  refine a_skip ?_
  refine ar ?_
  refine om rfl ?_
  refine op_v' (j_add rfl rfl (by first | omega | (simp only [nr, nl, asgL_len]; omega)) (by first | omega | (simp only [nr, nl, asgL_len]; omega))) ?_
  refine oa rfl ?_
  refine on ?_
  exact ⟨k + 1, (by first | omega | (simp only [nr, nl, asgL_len]; omega)), ⟨⟨rfl, rfl⟩, ⟨rfl, intEq (by rw [slF_next (by omega), if_neg (by omega)]), trivial⟩, trivial, ⟨rfl, rfl⟩, ⟨rfl, rfl⟩⟩, (by first | omega | (simp only [nr, nl, asgL_len]; omega))⟩
 have h1r := h1
 try simp only [nq, nr, nl, asgL_len] at h1
 refine a_exit ?_
 refine rs ?_
 refine om rfl ?_
 refine oa rfl ?_
 refine on ?_
 refine a_ret ?_
 exact fin_p rfl ⟨intEq (by unfold slV; rw [List.take_of_length_le (by omega)]), rfl, rfl⟩
theorem f_implied (c : Con) (p : List Int) (hc : cOk c = true) (hp : paOk p = true) : Fn Tryz.prog 228 [.agg [.sl (c.1.map dT), .p (.int .i64 c.2)], .sl (p.map dI)] [] (fun rr ii nn => rr = .own 0 0 ∧ ii = [] ∧ nn = [.row 3 1 ((impC c p).map dI)]) := by
 refine fn_of Tryz.func228 rfl (Nat.le_of_ble_eq_true rfl) fun w X g => ?_
 show AWp _ _ _ ⟨[(0, .agg [.sl (c.1.map dT), .p (.int .i64 c.2)]), (1, .sl (p.map dI))], []⟩
 have hlc := cOk_len hc
 have hbc := cOk_bound hc
 have hpl := paOk_len hp
 refine rs ?_
 refine op_n' (fun ver => j_boxa rfl) fun v2x1 => ?_
 refine oa rfl ?_
 refine on ?_
 refine rs ?_
 refine op_v' (j_loada_box (ys := [.sl _, .p _]) agg69 rfl rfl rfl (Nat.le_of_ble_eq_true rfl)) ?_
 refine om rfl ?_
 refine op_v0' (j_call0 (v := .p _) (hp1 := []) [] false [] ent227 (f_slack c p hc hp) ⟨.inl ⟨rfl, rfl⟩, .inl ⟨rfl, rfl⟩, trivial⟩ trivial rfl rfl (fun h => by cases h) rfl (fun _ h => by cases h) (.inl rfl) rfl rfl) ?_
 refine oa rfl ?_
 refine on ?_
 refine rs ?_
 refine oa rfl ?_
 refine on ?_
 refine a_adopt' 6 6 3 1 rfl fun v6 => ?_
 refine a_seq ?_
 refine rs ?_
 refine op_v' (j_fldp fld69f0 rfl rfl) ?_
 refine op_v' (j_load_box leaf67 rfl rfl rfl) ?_
 refine op_v' (j_len_map Tryz.underlying67 rfl) ?_
 refine om rfl ?_
 refine on ?_
 refine a_block ?_
 refine a_loopF' (ι := Nat × Nat) (fun x => x.1 ≤ c.1.length) (fun x r => (15, .p (.int .i64 ((x.1 : Nat)))) :: (6, .own 6 x.2) :: r) (fun x r => (6, some (x.2, .row 3 1 ((impF p (slV c p) (c.1.take x.1)).map dI))) :: r) (fun x => c.1.length - x.1) (fun _ _ => rfl) (fun _ _ => rfl) (0, v6) (by first | exact (Nat.zero_le _) | (dsimp only; exact (Nat.zero_le _))) ⟨⟨rfl, rfl⟩, ⟨rfl, rfl, trivial⟩, ⟨rfl, trivial⟩, ⟨rfl, rfl⟩, ⟨rfl, rfl⟩⟩ ?_
 rintro ⟨k, v⟩ hpre; dsimp only at hpre ⊢
 refine rs ?_
 refine op_v' (j_lt rfl rfl) ?_
 refine on ?_
 refine a_seq ?_
 refine ac rfl (fun h1 => ?_) fun h1 => ?_
 ·
  have h1r := h1
  try simp only [nq, nr, nl, asgL_len] at h1
  refine a_skip ?_
  refine a_seq ?_
  refine a_block ?_
  refine a_seq ?_
  have htm := cOk_terms hc (k := k) (by omega)
  have hit := impF_take (p := p) (s := slV c p) (ts := c.1) (k := k)
  refine ar ?_
  refine op_v' (j_elemN slt67 rfl rfl rfl (at_map (by first | omega | (simp only [nr, nl, asgL_len]; omega))) rfl) ?_
  refine op_v' (j_loada_el (ys := [.p _, .p _]) agg135 rfl (at_map (by first | omega | (simp only [nr, nl, asgL_len]; omega))) rfl (Nat.le_refl _)) ?_
  refine op_n' (fun ver => j_alloc elt135 rfl) fun v8x2 => ?_
  refine op_s' (j_storea_box0 agg135 rfl rfl rfl rfl rfl rfl) ?_
  refine on ?_
  refine rs ?_
  refine op_v' (j_fldp fld135f1 rfl rfl) ?_
  refine op_v' (j_load_box leaf3 rfl rfl rfl) ?_
  refine om rfl ?_
  refine op_v0' (j_call0 (v := .p _) (hp1 := []) [] false [] ent265 (f_under (c.1.getD k default).2 p htm.1 hp) ⟨.inl ⟨rfl, rfl⟩, .inl ⟨rfl, rfl⟩, trivial⟩ trivial rfl rfl (fun h => by cases h) rfl (fun _ h => by cases h) (.inl rfl) rfl rfl) ?_
  refine op_v' (j_eq rfl rfl) ?_
  refine om rfl ?_
  refine op_split' 24 rfl (fun h2 => ?_) (fun h2 => ?_)
  ·
   have h2r := h2
   try simp only [nq, nr, nl, asgL_len] at h2
   refine op_v' (j_want rfl rfl h2r (j_fldp fld135f0 rfl rfl)) ?_
   refine op_v' (j_want rfl rfl h2r (j_load_box leaf3 rfl rfl rfl)) ?_
   refine op_v' (j_want rfl rfl h2r (j_move (evo rfl))) ?_
   refine op_v' (j_want rfl rfl h2r (j_gt rfl rfl)) ?_
   refine op_v' (j_pick_t rfl h2r (evo rfl)) ?_
   refine on ?_
   refine ac rfl (fun h3 => ?_) fun h3 => ?_
   ·
    have h3r := h3
    try simp only [nq, nr, nl, asgL_len] at h3
    refine ar ?_
    refine om rfl ?_
    refine op_v' (j_fldp fld135f1 rfl rfl) ?_
    refine op_v' (j_load_box leaf3 rfl rfl rfl) ?_
    refine op_n' (fun ver => j_buildSlice (parts := [(0, .tmp 32)]) (es := [[_]]) slt23 elt3 rfl rfl (by decide) (by decide) rfl rfl (by simp) rfl) fun v33x3 => ?_
    refine op_n' (fun ver => j_append_own slt23 elt3 rfl rfl rfl rfl rfl rfl (by rw [maxLen_eq]; first | omega | (simp only [nr, nl, asgL_len]; omega)) (by first | omega | (simp only [nr, nl, asgL_len]; omega))) fun v6x4 => ?_
    refine oa rfl ?_
    refine on ?_
    refine ar ?_
    refine op_v' (j_add rfl rfl (by first | omega | (simp only [nr, nl, asgL_len]; omega)) (by first | omega | (simp only [nr, nl, asgL_len]; omega))) ?_
    refine om rfl ?_
    refine on ?_
    exact ⟨(k + 1, v6x4), (by first | exact (by first | omega | (simp only [nr, nl, asgL_len]; omega)) | (dsimp only; exact (by first | omega | (simp only [nr, nl, asgL_len]; omega)))), ⟨⟨rfl, rfl⟩, ⟨rfl, rfl, trivial⟩, ⟨rowEq (by first | (rw [impF_yes (by omega) ⟨by omega, by omega⟩, List.map_append]; rfl) | (rw [impF_no (by omega) (by omega)])), trivial⟩, ⟨rfl, rfl⟩, ⟨rfl, rfl⟩⟩, (by first | exact (by first | omega | (simp only [nr, nl, asgL_len]; omega)) | (dsimp only; exact (by first | omega | (simp only [nr, nl, asgL_len]; omega))))⟩
   have h3r := h3
   try simp only [nq, nr, nl, asgL_len] at h3
   refine a_skip ?_
   refine ar ?_
   refine op_v' (j_add rfl rfl (by first | omega | (simp only [nr, nl, asgL_len]; omega)) (by first | omega | (simp only [nr, nl, asgL_len]; omega))) ?_
   refine om rfl ?_
   refine on ?_
   exact ⟨(k + 1, v), (by first | exact (by first | omega | (simp only [nr, nl, asgL_len]; omega)) | (dsimp only; exact (by first | omega | (simp only [nr, nl, asgL_len]; omega)))), ⟨⟨rfl, rfl⟩, ⟨rfl, rfl, trivial⟩, ⟨rowEq (by first | (rw [impF_yes (by omega) ⟨by omega, by omega⟩, List.map_append]; rfl) | (rw [impF_no (by omega) (by omega)])), trivial⟩, ⟨rfl, rfl⟩, ⟨rfl, rfl⟩⟩, (by first | exact (by first | omega | (simp only [nr, nl, asgL_len]; omega)) | (dsimp only; exact (by first | omega | (simp only [nr, nl, asgL_len]; omega))))⟩
  have h2r := h2
  try simp only [nq, nr, nl, asgL_len] at h2
  refine op_v' (j_unwantV rfl rfl h2r) ?_
  refine op_v' (j_unwantV rfl rfl h2r) ?_
  refine op_v' (j_unwantV rfl rfl h2r) ?_
  refine op_v' (j_unwantV rfl rfl h2r) ?_
  refine op_v' (j_pick_f rfl h2r (evo rfl)) ?_
  refine on ?_
  refine a_ff rfl ?_
  refine a_skip ?_
  refine ar ?_
  refine op_v' (j_add rfl rfl (by first | omega | (simp only [nr, nl, asgL_len]; omega)) (by first | omega | (simp only [nr, nl, asgL_len]; omega))) ?_
  refine om rfl ?_
  refine on ?_
  exact ⟨(k + 1, v), (by first | exact (by first | omega | (simp only [nr, nl, asgL_len]; omega)) | (dsimp only; exact (by first | omega | (simp only [nr, nl, asgL_len]; omega)))), ⟨⟨rfl, rfl⟩, ⟨rfl, rfl, trivial⟩, ⟨rowEq (by first | (rw [impF_yes (by omega) ⟨by omega, by omega⟩, List.map_append]; rfl) | (rw [impF_no (by omega) (by omega)])), trivial⟩, ⟨rfl, rfl⟩, ⟨rfl, rfl⟩⟩, (by first | exact (by first | omega | (simp only [nr, nl, asgL_len]; omega)) | (dsimp only; exact (by first | omega | (simp only [nr, nl, asgL_len]; omega))))⟩
 have h1r := h1
 try simp only [nq, nr, nl, asgL_len] at h1
 refine a_exit ?_
 refine rs ?_
 refine om rfl ?_
 refine oa rfl ?_
 refine on ?_
 refine a_ret ?_
 exact ⟨[.own 6 v], .own 0 0, [], [.row 3 1 _], [(6, v)], ⟨rfl, trivial⟩, rfl, rfl, ⟨⟨rfl, rfl⟩, trivial⟩, rfl, rfl, ⟨rfl, rfl, by rw [List.take_of_length_le (by omega)]; rfl⟩⟩
theorem f_l3Implied (c : Con) (p : List Int) (hc : cOk c = true) (hp : paOk p = true) (hs : 0 ≤ slV c p) : Fn Tryz.prog 230 [.agg [.sl (c.1.map dT), .p (.int .i64 c.2)], .sl (p.map dI)] [] (fun rr ii nn => rr = .own 0 0 ∧ ii = [] ∧ nn = [.row 3 1 ((impC c p).map dI)]) := by
 refine fn_of Tryz.func230 rfl (Nat.le_of_ble_eq_true rfl) fun w X g => ?_
 show AWp _ _ _ ⟨[(0, .agg [.sl (c.1.map dT), .p (.int .i64 c.2)]), (1, .sl (p.map dI))], []⟩
 have hlc := cOk_len hc
 have hbc := cOk_bound hc
 have hpl := paOk_len hp
 refine rs ?_
 refine op_n' (fun ver => j_boxa rfl) fun v2x1 => ?_
 refine oa rfl ?_
 refine on ?_
 refine rs ?_
 refine op_n' (fun ver => j_buildSlice (parts := []) (es := []) slt23 elt3 rfl rfl (by decide) (by decide) rfl rfl (by simp) rfl) fun v8x2 => ?_
 refine oa rfl ?_
 refine on ?_
 refine rs ?_
 refine op_v' (j_loada_box (ys := [.sl _, .p _]) agg69 rfl rfl rfl (Nat.le_of_ble_eq_true rfl)) ?_
 refine om rfl ?_
 refine op_v0' (j_call0 (v := .p _) (hp1 := []) [] false [] ent229 (f_l3Slack c p hc hp) ⟨.inl ⟨rfl, rfl⟩, .inl ⟨rfl, rfl⟩, trivial⟩ trivial rfl rfl (fun h => by cases h) rfl (fun _ h => by cases h) (.inl rfl) rfl rfl) ?_
 refine oa rfl ?_
 refine on ?_
 refine a_seq ?_
 refine rs ?_
 refine oa rfl ?_
 refine on ?_
 refine a_block ?_
 refine a_loopF' (ι := Nat × Nat) (fun x => x.1 ≤ c.1.length) (fun x r => (7, .p (.int .i64 ((x.1 : Nat)))) :: (5, .own 8 x.2) :: r) (fun x r => (8, some (x.2, .row 3 1 ((impF p (slV c p) (c.1.take x.1)).map dI))) :: r) (fun x => c.1.length - x.1) (fun _ _ => rfl) (fun _ _ => rfl) (0, v8x2) (by first | exact (Nat.zero_le _) | (dsimp only; exact (Nat.zero_le _))) ⟨⟨rfl, rfl⟩, ⟨rfl, rfl, trivial⟩, ⟨rfl, trivial⟩, ⟨rfl, rfl⟩, ⟨rfl, rfl⟩⟩ ?_
 rintro ⟨k, v⟩ hpre; dsimp only at hpre ⊢
 refine a_seq ?_
 refine rs ?_
 refine om rfl ?_
 refine op_v' (j_fldp fld69f0 rfl rfl) ?_
 refine op_v' (j_load_box leaf67 rfl rfl rfl) ?_
 refine op_v' (j_len_map Tryz.underlying67 rfl) ?_
 refine op_v' (j_lt rfl rfl) ?_
 refine om rfl ?_
 refine op_split' 17 rfl (fun h1 => ?_) (fun h1 => ?_)
 ·
  have h1r := h1
  try simp only [nq, nr, nl, asgL_len] at h1
  refine op_v' (j_want rfl rfl h1r (j_move (evo rfl))) ?_
  refine op_v' (j_want rfl rfl h1r (j_ge rfl rfl)) ?_
  refine op_v' (j_pick_t rfl h1r (evo rfl)) ?_
  refine on ?_
  refine ac rfl (fun h2 => ?_) fun h2 => ?_
  ·
   have h2r := h2
   try simp only [nq, nr, nl, asgL_len] at h2
   refine a_skip ?_
   refine a_seq ?_
   refine a_block ?_
   refine a_seq ?_
   have htm := cOk_terms hc (k := k) (by omega)
   have hit := impF_take (p := p) (s := slV c p) (ts := c.1) (k := k)
   refine ar ?_
   refine om rfl ?_
   refine op_v' (j_fldp fld69f0 rfl rfl) ?_
   refine op_v' (j_load_box leaf67 rfl rfl rfl) ?_
   refine om rfl ?_
   refine op_v' (j_elemN slt67 rfl rfl rfl (at_map (by first | omega | (simp only [nr, nl, asgL_len]; omega))) rfl) ?_
   refine op_v' (j_fldel fld135f1 rfl) ?_
   refine op_v' (j_load_el leaf3 rfl (at_map (by first | omega | (simp only [nr, nl, asgL_len]; omega))) rfl) ?_
   refine op_v0' (j_call0 (v := .p _) (hp1 := []) [] false [] ent266 (f_l3State p (c.1.getD k default).2 htm.1 hp) ⟨.inl ⟨rfl, rfl⟩, .inl ⟨rfl, rfl⟩, trivial⟩ trivial rfl rfl (fun h => by cases h) rfl (fun _ h => by cases h) (.inl rfl) rfl rfl) ?_
   refine op_v' (j_eq rfl rfl) ?_
   refine om rfl ?_
   refine op_split' 32 rfl (fun h3 => ?_) (fun h3 => ?_)
   ·
    have h3r := h3
    try simp only [nq, nr, nl, asgL_len] at h3
    refine op_v' (j_want rfl rfl h3r (j_fldp fld69f0 rfl rfl)) ?_
    refine op_v' (j_want rfl rfl h3r (j_load_box leaf67 rfl rfl rfl)) ?_
    refine op_v' (j_want rfl rfl h3r (j_move (evo rfl))) ?_
    refine op_v' (j_want rfl rfl h3r (j_elemN slt67 rfl rfl rfl (at_map (by first | omega | (simp only [nr, nl, asgL_len]; omega))) rfl)) ?_
    refine op_v' (j_want rfl rfl h3r (j_fldel fld135f0 rfl)) ?_
    refine op_v' (j_want rfl rfl h3r (j_load_el leaf3 rfl (at_map (by first | omega | (simp only [nr, nl, asgL_len]; omega))) rfl)) ?_
    refine op_v' (j_want rfl rfl h3r (j_move (evo rfl))) ?_
    refine op_v' (j_want rfl rfl h3r (j_gt rfl rfl)) ?_
    refine op_v' (j_pick_t rfl h3r (evo rfl)) ?_
    refine on ?_
    refine ac rfl (fun h4 => ?_) fun h4 => ?_
    ·
     have h4r := h4
     try simp only [nq, nr, nl, asgL_len] at h4
     refine ar ?_
     refine om rfl ?_
     refine op_v' (j_fldp fld69f0 rfl rfl) ?_
     refine op_v' (j_load_box leaf67 rfl rfl rfl) ?_
     refine om rfl ?_
     refine op_v' (j_elemN slt67 rfl rfl rfl (at_map (by first | omega | (simp only [nr, nl, asgL_len]; omega))) rfl) ?_
     refine op_v' (j_fldel fld135f1 rfl) ?_
     refine op_v' (j_load_el leaf3 rfl (at_map (by first | omega | (simp only [nr, nl, asgL_len]; omega))) rfl) ?_
     refine op_n' (fun ver => j_buildSlice (parts := [(0, .tmp 48)]) (es := [[_]]) slt23 elt3 rfl rfl (by decide) (by decide) rfl rfl (by simp) rfl) fun v49x3 => ?_
     refine op_n' (fun ver => j_append_own slt23 elt3 rfl rfl rfl rfl rfl rfl (by rw [maxLen_eq]; first | omega | (simp only [nr, nl, asgL_len]; omega)) (by first | omega | (simp only [nr, nl, asgL_len]; omega))) fun v8x4 => ?_
     refine oa rfl ?_
     refine on ?_
     refine ar ?_
     refine om rfl ?_
     refine op_v' (j_add rfl rfl (by first | omega | (simp only [nr, nl, asgL_len]; omega)) (by first | omega | (simp only [nr, nl, asgL_len]; omega))) ?_
     refine oa rfl ?_
     refine on ?_
     exact ⟨(k + 1, v8x4), (by first | exact (by first | omega | (simp only [nr, nl, asgL_len]; omega)) | (dsimp only; exact (by first | omega | (simp only [nr, nl, asgL_len]; omega)))), ⟨⟨rfl, rfl⟩, ⟨rfl, rfl, trivial⟩, ⟨rowEq (by first | (rw [impF_yes (by omega) ⟨by omega, by omega⟩, List.map_append]; rfl) | (rw [impF_no (by omega) (by omega)])), trivial⟩, ⟨rfl, rfl⟩, ⟨rfl, rfl⟩⟩, (by first | exact (by first | omega | (simp only [nr, nl, asgL_len]; omega)) | (dsimp only; exact (by first | omega | (simp only [nr, nl, asgL_len]; omega))))⟩
    have h4r := h4
    try simp only [nq, nr, nl, asgL_len] at h4
    refine a_skip ?_
    refine ar ?_
    refine om rfl ?_
    refine op_v' (j_add rfl rfl (by first | omega | (simp only [nr, nl, asgL_len]; omega)) (by first | omega | (simp only [nr, nl, asgL_len]; omega))) ?_
    refine oa rfl ?_
    refine on ?_
    exact ⟨(k + 1, v), (by first | exact (by first | omega | (simp only [nr, nl, asgL_len]; omega)) | (dsimp only; exact (by first | omega | (simp only [nr, nl, asgL_len]; omega)))), ⟨⟨rfl, rfl⟩, ⟨rfl, rfl, trivial⟩, ⟨rowEq (by first | (rw [impF_yes (by omega) ⟨by omega, by omega⟩, List.map_append]; rfl) | (rw [impF_no (by omega) (by omega)])), trivial⟩, ⟨rfl, rfl⟩, ⟨rfl, rfl⟩⟩, (by first | exact (by first | omega | (simp only [nr, nl, asgL_len]; omega)) | (dsimp only; exact (by first | omega | (simp only [nr, nl, asgL_len]; omega))))⟩
   have h3r := h3
   try simp only [nq, nr, nl, asgL_len] at h3
   refine op_v' (j_unwantV rfl rfl h3r) ?_
   refine op_v' (j_unwantV rfl rfl h3r) ?_
   refine op_v' (j_unwantV rfl rfl h3r) ?_
   refine op_v' (j_unwantV rfl rfl h3r) ?_
   refine op_v' (j_unwantV rfl rfl h3r) ?_
   refine op_v' (j_unwantV rfl rfl h3r) ?_
   refine op_v' (j_unwantV rfl rfl h3r) ?_
   refine op_v' (j_unwantV rfl rfl h3r) ?_
   refine op_v' (j_pick_f rfl h3r (evo rfl)) ?_
   refine on ?_
   refine a_ff rfl ?_
   refine a_skip ?_
   refine ar ?_
   refine om rfl ?_
   refine op_v' (j_add rfl rfl (by first | omega | (simp only [nr, nl, asgL_len]; omega)) (by first | omega | (simp only [nr, nl, asgL_len]; omega))) ?_
   refine oa rfl ?_
   refine on ?_
   exact ⟨(k + 1, v), (by first | exact (by first | omega | (simp only [nr, nl, asgL_len]; omega)) | (dsimp only; exact (by first | omega | (simp only [nr, nl, asgL_len]; omega)))), ⟨⟨rfl, rfl⟩, ⟨rfl, rfl, trivial⟩, ⟨rowEq (by first | (rw [impF_yes (by omega) ⟨by omega, by omega⟩, List.map_append]; rfl) | (rw [impF_no (by omega) (by omega)])), trivial⟩, ⟨rfl, rfl⟩, ⟨rfl, rfl⟩⟩, (by first | exact (by first | omega | (simp only [nr, nl, asgL_len]; omega)) | (dsimp only; exact (by first | omega | (simp only [nr, nl, asgL_len]; omega))))⟩
  have h2r := h2
  try simp only [nq, nr, nl, asgL_len] at h2
  refine a_exit ?_
  refine rs ?_
  refine om rfl ?_
  refine oa rfl ?_
  refine on ?_
  refine a_ret ?_
  exact ⟨[.own 8 v], .own 0 0, [], [.row 3 1 _], [(8, v)], ⟨rfl, trivial⟩, rfl, rfl, ⟨⟨rfl, rfl⟩, trivial⟩, rfl, rfl, ⟨rfl, rfl, by rw [List.take_of_length_le (by omega)]; rfl⟩⟩
 have h1r := h1
 try simp only [nq, nr, nl, asgL_len] at h1
 refine op_v' (j_unwantV rfl rfl h1r) ?_
 refine op_v' (j_unwantV rfl rfl h1r) ?_
 refine op_v' (j_pick_f rfl h1r (evo rfl)) ?_
 refine on ?_
 refine a_ff rfl ?_
 refine a_exit ?_
 refine rs ?_
 refine om rfl ?_
 refine oa rfl ?_
 refine on ?_
 refine a_ret ?_
 exact ⟨[.own 8 v], .own 0 0, [], [.row 3 1 _], [(8, v)], ⟨rfl, trivial⟩, rfl, rfl, ⟨⟨rfl, rfl⟩, trivial⟩, rfl, rfl, ⟨rfl, rfl, by rw [List.take_of_length_le (by omega)]; rfl⟩⟩
theorem f_cloneI (ts : List Int) (hts : ts.length ≤ 1048576) : Fn Tryz.prog 108 [.sl (ts.map dI)] [] (fun rr ii nn => rr = .own 0 0 ∧ ii = [] ∧ nn = [.row 3 1 (ts.map dI)]) := by
 refine fn_of Tryz.func108 rfl (Nat.le_of_ble_eq_true rfl) fun w X g => ?_
 show AWp _ _ _ ⟨[(0, .sl (ts.map dI))], []⟩
 refine rs ?_
 refine oa rfl ?_
 refine on ?_
 refine a_seq ?_
 refine rs ?_
 refine om rfl ?_
 refine op_eqnil Tryz.underlying23 rfl fun b1 hb1 => ?_
 refine on ?_
 refine ac rfl (fun h2 => ?_) fun h2 => ?_
 ·
  have h2r := h2
  try simp only [nq, nr, nl] at h2
  refine rs ?_
  refine oa rfl ?_
  refine on ?_
  refine a_adopt' 2 2 3 1 rfl fun v2 => ?_
  refine a_ret ?_
  exact ⟨[.own 2 v2], .own 0 0, [], [.row 3 1 _], [(2, v2)], ⟨rfl, trivial⟩, rfl, rfl, ⟨⟨rfl, rfl⟩, trivial⟩, rfl, rfl, ⟨rfl, rfl, by rw [hb1 h2]⟩⟩
 have h2r := h2
 try simp only [nq, nr, nl] at h2
 refine a_skip ?_
 refine rs ?_
 refine op_n' (fun ver => j_buildSlice (parts := []) (es := []) slt23 elt3 rfl rfl (by decide) (by decide) rfl rfl (by simp) rfl) fun v5x1 => ?_
 refine om rfl ?_
 refine op_n' (fun ver => j_append_sl slt23 elt3 rfl rfl rfl rfl (by intro x hx; obtain ⟨t, _, rfl⟩ := List.mem_map.1 hx; rfl) (all_lf_dI ts) (by rw [maxLen_eq]; first | omega | (simp only [nr, nl]; omega)) (by first | omega | (simp only [nr, nl]; omega))) fun v5x2 => ?_
 refine oa rfl ?_
 refine on ?_
 refine a_ret ?_
 exact ⟨[.own 5 v5x2], .own 0 0, [], [.row 3 1 _], [(5, v5x2)], ⟨rfl, trivial⟩, rfl, rfl, ⟨⟨rfl, rfl⟩, trivial⟩, rfl, rfl, ⟨rfl, rfl, rfl⟩⟩
theorem f_cloneC (ts : List Con) (hts : ts.length ≤ 1048576) : Fn Tryz.prog 57 [.sl (ts.map dC)] [] (fun rr ii nn => rr = .own 0 0 ∧ ii = [] ∧ nn = [.row 69 2 (ts.map dC)]) := by
 refine fn_of Tryz.func57 rfl (Nat.le_of_ble_eq_true rfl) fun w X g => ?_
 show AWp _ _ _ ⟨[(0, .sl (ts.map dC))], []⟩
 refine rs ?_
 refine oa rfl ?_
 refine on ?_
 refine a_seq ?_
 refine rs ?_
 refine om rfl ?_
 refine op_eqnil Tryz.underlying30 rfl fun b1 hb1 => ?_
 refine on ?_
 refine ac rfl (fun h2 => ?_) fun h2 => ?_
 ·
  have h2r := h2
  try simp only [nq, nr, nl] at h2
  refine rs ?_
  refine oa rfl ?_
  refine on ?_
  refine a_adopt' 2 2 69 2 rfl fun v2 => ?_
  refine a_ret ?_
  exact ⟨[.own 2 v2], .own 0 0, [], [.row 69 2 _], [(2, v2)], ⟨rfl, trivial⟩, rfl, rfl, ⟨⟨rfl, rfl⟩, trivial⟩, rfl, rfl, ⟨rfl, rfl, by rw [hb1 h2]⟩⟩
 have h2r := h2
 try simp only [nq, nr, nl] at h2
 refine a_skip ?_
 refine rs ?_
 refine op_n' (fun ver => j_buildSlice (parts := []) (es := []) slt30 elt69 rfl rfl (by decide) (by decide) rfl rfl (by simp) rfl) fun v5x1 => ?_
 refine om rfl ?_
 refine op_n' (fun ver => j_append_sl slt30 elt69 rfl rfl rfl rfl (by intro x hx; obtain ⟨t, _, rfl⟩ := List.mem_map.1 hx; rfl) (all_lf_dC ts) (by rw [maxLen_eq]; first | omega | (simp only [nr, nl]; omega)) (by first | omega | (simp only [nr, nl]; omega))) fun v5x2 => ?_
 refine oa rfl ?_
 refine on ?_
 refine a_ret ?_
 exact ⟨[.own 5 v5x2], .own 0 0, [], [.row 69 2 _], [(5, v5x2)], ⟨rfl, trivial⟩, rfl, rfl, ⟨⟨rfl, rfl⟩, trivial⟩, rfl, rfl, ⟨rfl, rfl, rfl⟩⟩
theorem f_prop (l : List Con) (p : List Int) (hl : l.all cOk = true) (hll : l.length ≤ 3000) (hp : paOk p = true) : Fn Tryz.prog 182 [.sl (l.map dC), .sl (p.map dI)] [] (fun rr ii nn => rr = .tup [.own 0 0, .p (.int .i64 (prop l p).2)] ∧ ii = [] ∧ nn = [.row 3 1 ((prop l p).1.map dI)]) := by
 refine fn_of Tryz.func182 rfl (Nat.le_of_ble_eq_true rfl) fun w X g => ?_
 show AWp _ _ _ ⟨[(0, .sl (l.map dC)), (1, .sl (p.map dI))], []⟩
 have hpl := paOk_len hp
 refine rs ?_
 refine oa rfl ?_
 refine oa rfl ?_
 refine on ?_
 refine rs ?_
 refine om rfl ?_
 refine op_n1' (fun ver => j_call1 (v := .own 13 ver) (hp1 := [(13, some (ver, .row 3 1 _))]) [] false [] ent108 (f_cloneI p (by omega)) ⟨.inl ⟨rfl, rfl⟩, trivial⟩ trivial rfl rfl rfl (fun h => by cases h) rfl (List.all_eq_true.1 rfl) (.inl rfl) rfl rfl) fun v13x1 => ?_
 refine oa rfl ?_
 refine on ?_
 refine a_seq ?_
 refine rs ?_
 refine oa rfl ?_
 refine on ?_
 refine a_block ?_
 refine a_loopF' (ι := List Int × Bool) (fun x => paOk x.1 = true ∧ (x.2 = false → prop l p = (x.1, -1)) ∧ (x.2 = true → prop l p = prop l x.1)) (fun x r => (7, .p (.bool (x.2))) :: r) (fun x r => (13, some (v13x1, .row 3 1 (x.1.map dI))) :: r) (fun x => 2 * zer x.1 + (if x.2 = true then 1 else 0)) (fun _ _ => rfl) (fun _ _ => rfl) (p, true) (by first | exact (by dsimp only; exact ⟨hp, fun h => absurd h (by decide), fun _ => rfl⟩) | (dsimp only; exact (by dsimp only; exact ⟨hp, fun h => absurd h (by decide), fun _ => rfl⟩))) ⟨⟨rfl, rfl⟩, ⟨rfl, trivial⟩, ⟨rfl, trivial⟩, ⟨rfl, rfl⟩, ⟨rfl, rfl⟩⟩ ?_
 rintro ⟨q, m⟩ hq; dsimp only at hq ⊢
 refine a_seq ?_
 refine rs ?_
 refine om rfl ?_
 refine on ?_
 refine ac rfl (fun h1 => ?_) fun h1 => ?_
 ·
  have h1r := h1
  try simp only [nq, nr, nl, asgL_len] at h1
  refine a_skip ?_
  refine a_block ?_
  refine rs ?_
  refine oa rfl ?_
  refine on ?_
  refine rs ?_
  refine om rfl ?_
  refine op_v' (j_len_map Tryz.underlying30 rfl) ?_
  refine om rfl ?_
  refine on ?_
  refine a_block ?_
  refine a_loopF' (ι := Nat × List Int) (fun x => x.1 ≤ l.length ∧ paOk x.2 = true ∧ rnd l 0 q = rnd (l.drop x.1) (x.1 : Int) x.2 ∧ zer x.2 ≤ zer q) (fun x r => (17, .p (.int .i64 ((x.1 : Nat)))) :: (7, .p (.bool (decide (zer x.2 < zer q)))) :: r) (fun x r => (13, some (v13x1, .row 3 1 (x.2.map dI))) :: r) (fun x => l.length - x.1) (fun _ _ => rfl) (fun _ _ => rfl) (0, q) (by first | exact ⟨Nat.zero_le _, hq.1, rfl, Nat.le_refl _⟩ | (dsimp only; exact ⟨Nat.zero_le _, hq.1, rfl, Nat.le_refl _⟩)) ⟨⟨rfl, rfl⟩, ⟨rfl, boolEq (by dsimp only; symm; rw [decide_eq_false_iff_not]; omega), trivial⟩, ⟨rfl, trivial⟩, ⟨rfl, rfl⟩, ⟨rfl, rfl⟩⟩ ?_
  rintro ⟨k, q2⟩ hq2; dsimp only at hq2 ⊢
  refine rs ?_
  refine op_v' (j_lt rfl rfl) ?_
  refine on ?_
  refine a_seq ?_
  refine ac rfl (fun h2 => ?_) fun h2 => ?_
  ·
   have h2r := h2
   try simp only [nq, nr, nl, asgL_len] at h2
   refine a_skip ?_
   refine a_seq ?_
   refine a_block ?_
   refine a_seq ?_
   have hck := all_at (d := default) hl (k := k) (by first | omega | (simp only [nr, nl, asgL_len]; omega))
   have hpl2 := paOk_len hq2.2.1
   refine ar ?_
   refine om rfl ?_
   refine op_v' (j_elemN slt30 rfl rfl rfl (at_map (by first | omega | (simp only [nr, nl, asgL_len]; omega))) rfl) ?_
   refine op_v' (j_loada_el (ys := [.sl _, .p _]) agg69 rfl (at_map (by first | omega | (simp only [nr, nl, asgL_len]; omega))) rfl (Nat.le_refl _)) ?_
   refine op_n' (fun ver => j_alloc elt69 rfl) fun v9x2 => ?_
   refine oa rfl ?_
   refine op_s' (j_storea_box0 agg69 rfl rfl rfl rfl rfl rfl) ?_
   refine on ?_
   refine a_seq ?_
   refine rs ?_
   refine op_v' (j_loada_box (ys := [.sl _, .p _]) agg69 rfl rfl rfl (Nat.le_of_ble_eq_true rfl)) ?_
   refine om rfl ?_
   refine op_v0' (j_call0 (v := .p _) (hp1 := []) [] true [13] ent227 (f_slack (l.getD k default) q2 hck hq2.2.1) ⟨.inl ⟨rfl, rfl⟩, .inr ⟨rfl, view_own rfl rfl, rfl⟩, trivial⟩ trivial rfl rfl (fun _ => rfl) rfl (fun _ h => by cases h) (.inr ⟨rfl, by first | exact pl_new1 (fun _ => rfl) | exact pl_newC | (simp [plO, plV, plV.plL]; done)⟩) rfl rfl) ?_
   refine op_v' (j_lt rfl rfl) ?_
   refine on ?_
   refine ac rfl (fun h3 => ?_) fun h3 => ?_
   ·
    have h3r := h3
    try simp only [nq, nr, nl, asgL_len] at h3
    refine a_seq ?_
    have hhit := (hq.2.2 (by assumption)).trans (prop_bad (hq2.2.2.1.trans (rnd_hit (by first | omega | (simp only [nr, nl, asgL_len]; omega)) (by omega))))
    refine ar ?_
    refine om rfl ?_
    refine om rfl ?_
    refine oa rfl ?_
    refine oa rfl ?_
    refine on ?_
    refine a_ret ?_
    exact ⟨[.own 13 v13x1, .p _], .tup [.own 0 0, .p _], [], [.row 3 1 _], [(13, v13x1)], ⟨rfl, rfl, trivial⟩, rfl, rfl, ⟨⟨rfl, rfl⟩, trivial⟩, rfl, rfl, ⟨by rw [hhit], rfl, by rw [hhit]⟩⟩
   have h3r := h3
   try simp only [nq, nr, nl, asgL_len] at h3
   refine a_skip ?_
   refine rs ?_
   refine op_v' (j_loada_box (ys := [.sl _, .p _]) agg69 rfl rfl rfl (Nat.le_of_ble_eq_true rfl)) ?_
   refine om rfl ?_
   refine op_n1' (fun ver => j_call1 (v := .own 30 ver) (hp1 := [(30, some (ver, .row 3 1 _))]) [] true [13] ent228 (f_implied (l.getD k default) q2 hck hq2.2.1) ⟨.inl ⟨rfl, rfl⟩, .inr ⟨rfl, view_own rfl rfl, rfl⟩, trivial⟩ trivial rfl rfl rfl (fun _ => rfl) rfl (List.all_eq_true.1 rfl) (.inr ⟨rfl, by first | exact pl_new1 (fun _ => rfl) | exact pl_newC | (simp [plO, plV, plV.plL]; done)⟩) rfl rfl) fun v30x3 => ?_
   refine op_v' (j_len_own_map Tryz.underlying23 rfl rfl) ?_
   refine om rfl ?_
   refine on ?_
   refine a_block ?_
   refine a_loopF' (ι := Nat) (fun j => j ≤ (impC (l.getD k default) q2).length) (fun j r => (32, .p (.int .i64 ((j : Nat)))) :: (7, .p (.bool (decide (zer (asgL q2 ((impC (l.getD k default) q2).take j)) < zer q)))) :: r) (fun j r => (13, some (v13x1, .row 3 1 ((asgL q2 ((impC (l.getD k default) q2).take j)).map dI))) :: r) (fun j => (impC (l.getD k default) q2).length - j) (fun _ _ => rfl) (fun _ _ => rfl) 0 (Nat.zero_le _) ⟨⟨rfl, rfl⟩, ⟨rfl, boolEq rfl, trivial⟩, ⟨rowEq rfl, trivial⟩, ⟨rfl, rfl⟩, ⟨rfl, rfl⟩⟩ ?_
   intro j hj
   refine rs ?_
   refine op_v' (j_lt rfl rfl) ?_
   refine on ?_
   refine a_seq ?_
   refine ac rfl (fun h4 => ?_) fun h4 => ?_
   ·
    have h4r := h4
    try simp only [nq, nr, nl, asgL_len] at h4
    refine a_skip ?_
    refine a_seq ?_
    refine a_block ?_
    refine a_seq ?_
    have hlo := litOk_iff.1 (impC_at hck (p := q2) (k := j) (by first | omega | (simp only [nr, nl, asgL_len]; omega)))
    have hil := impC_len hck (p := q2)
    have hal := asgL_len (p := q2) (ms := (impC (l.getD k default) q2).take j)
    refine ar ?_
    refine op_v' (j_elem_ownN slt23 rfl rfl rfl rfl (by first | omega | (simp only [nr, nl, asgL_len]; omega))) ?_
    refine op_v' (j_load_pel leaf3 rfl rfl (at_map (by first | omega | (simp only [nr, nl, asgL_len]; omega))) rfl) ?_
    refine oa rfl ?_
    refine on ?_
    refine rs ?_
    refine oa rfl ?_
    refine on ?_
    refine rs ?_
    refine om rfl ?_
    refine op_v' (j_gt rfl rfl) ?_
    refine on ?_
    refine ac rfl (fun h5 => ?_) fun h5 => ?_
    ·
     have h5r := h5
     try simp only [nq, nr, nl, asgL_len] at h5
     refine ar ?_
     refine om rfl ?_
     refine om rfl ?_
     refine op_v' (j_sub rfl rfl (by first | omega | (simp only [nr, nl, asgL_len]; omega)) (by first | omega | (simp only [nr, nl, asgL_len]; omega))) ?_
     refine op_v' (j_elem_ownN (n := ((impC (l.getD k default) q2).getD j default - 1).toNat) slt23 rfl rfl rfl (by omega) (by first | omega | (simp only [nr, nl, asgL_len]; omega))) ?_
     refine op_s' (j_store_row leaf3 rfl rfl (by first | omega | (simp only [nr, nl, asgL_len]; omega)) (evo rfl) rfl rfl) ?_
     refine on ?_
     refine ar ?_
     refine op_v' (j_add rfl rfl (by first | omega | (simp only [nr, nl, asgL_len]; omega)) (by first | omega | (simp only [nr, nl, asgL_len]; omega))) ?_
     refine om rfl ?_
     refine on ?_
     exact ⟨j + 1, (by first | omega | (simp only [nr, nl, asgL_len]; omega)), ⟨⟨rfl, rfl⟩, ⟨rfl, boolEq (by symm; rw [decide_eq_true_eq]; have hz1 := zer_imp hck (paOk_len hq2.2.1) (k := j + 1) (by first | omega | (simp only [nr, nl, asgL_len]; omega)); omega), trivial⟩, ⟨rowEq (by rw [asgL_next (by first | omega | (simp only [nr, nl, asgL_len]; omega))]; first | done | exact asg_rowp (by omega) | exact asg_rown (by omega) (by omega) | (unfold asg; rw [List.map_set]; try rfl)), trivial⟩, ⟨rfl, rfl⟩, ⟨rfl, rfl⟩⟩, (by first | omega | (simp only [nr, nl, asgL_len]; omega))⟩
    have h5r := h5
    try simp only [nq, nr, nl, asgL_len] at h5
    refine ar ?_
    refine om rfl ?_
    refine om rfl ?_
    refine op_v' (j_neg rfl (by first | omega | (simp only [nr, nl, asgL_len]; omega)) (by first | omega | (simp only [nr, nl, asgL_len]; omega))) ?_
    refine op_v' (j_sub rfl rfl (by first | omega | (simp only [nr, nl, asgL_len]; omega)) (by first | omega | (simp only [nr, nl, asgL_len]; omega))) ?_
    refine op_v' (j_elem_ownN (n := (-(impC (l.getD k default) q2).getD j default - 1).toNat) slt23 rfl rfl rfl (by omega) (by first | omega | (simp only [nr, nl, asgL_len]; omega))) ?_
    refine op_s' (j_store_row leaf3 rfl rfl (by first | omega | (simp only [nr, nl, asgL_len]; omega)) (evo rfl) rfl rfl) ?_
    refine on ?_
    refine ar ?_
    refine op_v' (j_add rfl rfl (by first | omega | (simp only [nr, nl, asgL_len]; omega)) (by first | omega | (simp only [nr, nl, asgL_len]; omega))) ?_
    refine om rfl ?_
    refine on ?_
    exact ⟨j + 1, (by first | omega | (simp only [nr, nl, asgL_len]; omega)), ⟨⟨rfl, rfl⟩, ⟨rfl, boolEq (by symm; rw [decide_eq_true_eq]; have hz1 := zer_imp hck (paOk_len hq2.2.1) (k := j + 1) (by first | omega | (simp only [nr, nl, asgL_len]; omega)); omega), trivial⟩, ⟨rowEq (by rw [asgL_next (by first | omega | (simp only [nr, nl, asgL_len]; omega))]; first | done | exact asg_rowp (by omega) | exact asg_rown (by omega) (by omega) | (unfold asg; rw [List.map_set]; try rfl)), trivial⟩, ⟨rfl, rfl⟩, ⟨rfl, rfl⟩⟩, (by first | omega | (simp only [nr, nl, asgL_len]; omega))⟩
   have h4r := h4
   try simp only [nq, nr, nl, asgL_len] at h4
   refine a_exit ?_
   refine ar ?_
   refine op_v' (j_add rfl rfl (by first | omega | (simp only [nr, nl, asgL_len]; omega)) (by first | omega | (simp only [nr, nl, asgL_len]; omega))) ?_
   refine om rfl ?_
   refine on ?_
   obtain rfl : j = (impC (l.getD k default) q2).length := by first | omega | (simp only [nr, nl, asgL_len]; omega)
   rw [List.take_length]
   have hza := zer_impA hck (paOk_len hq2.2.1)
   exact ⟨(k + 1, asgL q2 (impC (l.getD k default) q2)), (by first | exact ⟨by first | omega | (simp only [nr, nl, asgL_len]; omega), asgL_ok hq2.2.1, hq2.2.2.1.trans (rnd_step (by first | omega | (simp only [nr, nl, asgL_len]; omega)) (by omega)), by omega⟩ | (dsimp only; exact ⟨by first | omega | (simp only [nr, nl, asgL_len]; omega), asgL_ok hq2.2.1, hq2.2.2.1.trans (rnd_step (by first | omega | (simp only [nr, nl, asgL_len]; omega)) (by omega)), by omega⟩)), ⟨⟨rfl, rfl⟩, ⟨rfl, rfl, trivial⟩, ⟨rfl, trivial⟩, ⟨rfl, rfl⟩, ⟨rfl, rfl⟩⟩, (by first | exact (by first | omega | (simp only [nr, nl, asgL_len]; omega)) | (dsimp only; exact (by first | omega | (simp only [nr, nl, asgL_len]; omega))))⟩
  have h2r := h2
  try simp only [nq, nr, nl, asgL_len] at h2
  refine a_exit ?_
  obtain rfl : m = true := (by assumption)
  have hrd : rnd l 0 q = (q2, -1) := hq2.2.2.1.trans (rnd_end (by first | omega | (simp only [nr, nl, asgL_len]; omega)))
  exact ⟨(q2, decide (zer q2 < zer q)), (by first | exact ⟨hq2.2.1, fun h => (hq.2.2 rfl).trans (prop_done hrd (of_decide_eq_false h)), fun h => (hq.2.2 rfl).trans (prop_again hrd (of_decide_eq_true h))⟩ | (dsimp only; exact ⟨hq2.2.1, fun h => (hq.2.2 rfl).trans (prop_done hrd (of_decide_eq_false h)), fun h => (hq.2.2 rfl).trans (prop_again hrd (of_decide_eq_true h))⟩)), ⟨⟨rfl, rfl⟩, ⟨rfl, trivial⟩, ⟨rfl, trivial⟩, ⟨rfl, rfl⟩, ⟨rfl, rfl⟩⟩, (by first | exact (by have hz := hq2.2.2.2; dsimp only; by_cases hzz : zer q2 < zer q; (· rw [if_pos (decide_eq_true hzz), if_pos rfl]; omega); (· rw [if_neg (by rw [decide_eq_false hzz]; decide), if_pos rfl]; omega)) | (dsimp only; exact (by have hz := hq2.2.2.2; dsimp only; by_cases hzz : zer q2 < zer q; (· rw [if_pos (decide_eq_true hzz), if_pos rfl]; omega); (· rw [if_neg (by rw [decide_eq_false hzz]; decide), if_pos rfl]; omega))))⟩
 have h1r := h1
 try simp only [nq, nr, nl, asgL_len] at h1
 refine a_exit ?_
 refine a_seq ?_
 have hend := hq.2.1 (by assumption)
 refine ar ?_
 refine om rfl ?_
 refine oa rfl ?_
 refine oa rfl ?_
 refine on ?_
 refine a_ret ?_
 exact ⟨[.own 13 v13x1, .p _], .tup [.own 0 0, .p _], [], [.row 3 1 _], [(13, v13x1)], ⟨rfl, rfl, trivial⟩, rfl, rfl, ⟨⟨rfl, rfl⟩, trivial⟩, rfl, rfl, ⟨by rw [hend], rfl, by rw [hend]⟩⟩
theorem f_l3Prop (l : List Con) (p : List Int) (hl : l.all cOk = true) (hll : l.length ≤ 3000) (hp : paOk p = true) : Fn Tryz.prog 186 [.sl (l.map dC), .own 0 0] [.row 3 1 (p.map dI)] (fun rr ii nn => rr = .p (.int .i64 ((prop l p).2)) ∧ ii = [.row 3 1 ((prop l p).1.map dI)] ∧ nn = []) := by
 refine fn_of Tryz.func186 rfl (Nat.le_of_ble_eq_true rfl) fun w X g => ?_
 show AWp _ _ _ ⟨[(0, .sl (l.map dC)), (1, .own 0 0)], [(0, some (0, .row 3 1 (p.map dI)))]⟩
 have hpl := paOk_len hp
 refine rs ?_
 refine oa rfl ?_
 refine on ?_
 refine a_seq ?_
 refine rs ?_
 refine oa rfl ?_
 refine on ?_
 refine a_block ?_
 refine a_loopF' (ι := List Int × Bool) (fun x => paOk x.1 = true ∧ (x.2 = false → prop l p = (x.1, -1)) ∧ (x.2 = true → prop l p = prop l x.1)) (fun x r => (5, .p (.bool (x.2))) :: r) (fun x r => (0, some (0, .row 3 1 (x.1.map dI))) :: r) (fun x => 2 * zer x.1 + (if x.2 = true then 1 else 0)) (fun _ _ => rfl) (fun _ _ => rfl) (p, true) (by first | exact (by dsimp only; exact ⟨hp, fun h => absurd h (by decide), fun _ => rfl⟩) | (dsimp only; exact (by dsimp only; exact ⟨hp, fun h => absurd h (by decide), fun _ => rfl⟩))) ⟨⟨rfl, rfl⟩, ⟨rfl, trivial⟩, ⟨rfl, trivial⟩, ⟨rfl, rfl⟩, ⟨rfl, rfl⟩⟩ ?_
 rintro ⟨q, m⟩ hq; dsimp only at hq ⊢
 refine a_seq ?_
 refine rs ?_
 refine om rfl ?_
 refine on ?_
 refine ac rfl (fun h1 => ?_) fun h1 => ?_
 ·
  have h1r := h1
  try simp only [nq, nr, nl, asgL_len] at h1
  refine a_skip ?_
  refine a_block ?_
  refine rs ?_
  refine oa rfl ?_
  refine on ?_
  refine rs ?_
  refine oa rfl ?_
  refine on ?_
  refine a_block ?_
  refine a_loopF' (ι := Nat × List Int) (fun x => x.1 ≤ l.length ∧ paOk x.2 = true ∧ rnd l 0 q = rnd (l.drop x.1) (x.1 : Int) x.2 ∧ zer x.2 ≤ zer q) (fun x r => (6, .p (.int .i64 ((x.1 : Nat)))) :: (5, .p (.bool (decide (zer x.2 < zer q)))) :: r) (fun x r => (0, some (0, .row 3 1 (x.2.map dI))) :: r) (fun x => l.length - x.1) (fun _ _ => rfl) (fun _ _ => rfl) (0, q) (by first | exact ⟨Nat.zero_le _, hq.1, rfl, Nat.le_refl _⟩ | (dsimp only; exact ⟨Nat.zero_le _, hq.1, rfl, Nat.le_refl _⟩)) ⟨⟨rfl, rfl⟩, ⟨rfl, boolEq (by dsimp only; symm; rw [decide_eq_false_iff_not]; omega), trivial⟩, ⟨rfl, trivial⟩, ⟨rfl, rfl⟩, ⟨rfl, rfl⟩⟩ ?_
  rintro ⟨k, q2⟩ hq2; dsimp only at hq2 ⊢
  refine a_seq ?_
  refine rs ?_
  refine om rfl ?_
  refine om rfl ?_
  refine op_v' (j_len_map Tryz.underlying30 rfl) ?_
  refine op_v' (j_lt rfl rfl) ?_
  refine on ?_
  refine ac rfl (fun h2 => ?_) fun h2 => ?_
  ·
   have h2r := h2
   try simp only [nq, nr, nl, asgL_len] at h2
   refine a_skip ?_
   refine a_seq ?_
   refine a_block ?_
   refine a_seq ?_
   refine a_seq ?_
   have hck := all_at (d := default) hl (k := k) (by first | omega | (simp only [nr, nl, asgL_len]; omega))
   have hpl2 := paOk_len hq2.2.1
   refine ar ?_
   refine om rfl ?_
   refine om rfl ?_
   refine op_v' (j_elemN slt30 rfl rfl rfl (at_map (by first | omega | (simp only [nr, nl, asgL_len]; omega))) rfl) ?_
   refine op_v' (j_loada_el (ys := [.sl _, .p _]) agg69 rfl (at_map (by first | omega | (simp only [nr, nl, asgL_len]; omega))) rfl (Nat.le_refl _)) ?_
   refine om rfl ?_
   refine op_v0' (j_call0 (v := .p _) (hp1 := []) [] true [0] ent229 (f_l3Slack (l.getD k default) q2 hck hq2.2.1) ⟨.inl ⟨rfl, rfl⟩, .inr ⟨rfl, view_own rfl rfl, rfl⟩, trivial⟩ trivial rfl rfl (fun _ => rfl) rfl (fun _ h => by cases h) (.inr ⟨rfl, by first | exact pl_new1 (fun _ => rfl) | exact pl_newC | (simp [plO, plV, plV.plL]; done)⟩) rfl rfl) ?_
   refine op_v' (j_lt rfl rfl) ?_
   refine on ?_
   refine ac rfl (fun h3 => ?_) fun h3 => ?_
   ·
    have h3r := h3
    try simp only [nq, nr, nl, asgL_len] at h3
    refine a_seq ?_
    have hhit := (hq.2.2 (by assumption)).trans (prop_bad (hq2.2.2.1.trans (rnd_hit (by first | omega | (simp only [nr, nl, asgL_len]; omega)) (by omega))))
    refine ar ?_
    refine om rfl ?_
    refine oa rfl ?_
    refine on ?_
    refine a_ret ?_
    exact ⟨[.p _], .p _, [.row 3 1 _], [], [], ⟨rfl, trivial⟩, rfl, rfl, ⟨⟨rfl, rfl⟩, trivial⟩, rfl, rfl, ⟨by rw [hhit], by rw [hhit], rfl⟩⟩
   have h3r := h3
   try simp only [nq, nr, nl, asgL_len] at h3
   refine a_skip ?_
   refine rs ?_
   refine om rfl ?_
   refine om rfl ?_
   refine op_v' (j_elemN slt30 rfl rfl rfl (at_map (by first | omega | (simp only [nr, nl, asgL_len]; omega))) rfl) ?_
   refine op_v' (j_loada_el (ys := [.sl _, .p _]) agg69 rfl (at_map (by first | omega | (simp only [nr, nl, asgL_len]; omega))) rfl (Nat.le_refl _)) ?_
   refine om rfl ?_
   refine op_n1' (fun ver => j_call1 (v := .own 29 ver) (hp1 := [(29, some (ver, .row 3 1 _))]) [] true [0] ent230 (f_l3Implied (l.getD k default) q2 hck hq2.2.1 (by omega)) ⟨.inl ⟨rfl, rfl⟩, .inr ⟨rfl, view_own rfl rfl, rfl⟩, trivial⟩ trivial rfl rfl rfl (fun _ => rfl) rfl (List.all_eq_true.1 rfl) (.inr ⟨rfl, by first | exact pl_new1 (fun _ => rfl) | exact pl_newC | (simp [plO, plV, plV.plL]; done)⟩) rfl rfl) fun v29x1 => ?_
   refine oa rfl ?_
   refine on ?_
   refine rs ?_
   refine oa rfl ?_
   refine on ?_
   refine a_block ?_
   refine a_loopF' (ι := Nat) (fun j => j ≤ (impC (l.getD k default) q2).length) (fun j r => (8, .p (.int .i64 ((j : Nat)))) :: (5, .p (.bool (decide (zer (asgL q2 ((impC (l.getD k default) q2).take j)) < zer q)))) :: r) (fun j r => (0, some (0, .row 3 1 ((asgL q2 ((impC (l.getD k default) q2).take j)).map dI))) :: r) (fun j => (impC (l.getD k default) q2).length - j) (fun _ _ => rfl) (fun _ _ => rfl) 0 (Nat.zero_le _) ⟨⟨rfl, rfl⟩, ⟨rfl, boolEq rfl, trivial⟩, ⟨rowEq rfl, trivial⟩, ⟨rfl, rfl⟩, ⟨rfl, rfl⟩⟩ ?_
   intro j hj
   refine a_seq ?_
   refine rs ?_
   refine om rfl ?_
   refine om rfl ?_
   refine op_v' (j_len_own_map Tryz.underlying23 rfl rfl) ?_
   refine op_v' (j_lt rfl rfl) ?_
   refine on ?_
   refine ac rfl (fun h4 => ?_) fun h4 => ?_
   ·
    have h4r := h4
    try simp only [nq, nr, nl, asgL_len] at h4
    refine a_skip ?_
    refine a_seq ?_
    refine a_block ?_
    refine a_seq ?_
    have hlo := litOk_iff.1 (impC_at hck (p := q2) (k := j) (by first | omega | (simp only [nr, nl, asgL_len]; omega)))
    have hil := impC_len hck (p := q2)
    have hal := asgL_len (p := q2) (ms := (impC (l.getD k default) q2).take j)
    refine ar ?_
    refine om rfl ?_
    refine om rfl ?_
    refine om rfl ?_
    refine op_v' (j_elem_ownN slt23 rfl rfl rfl rfl (by first | omega | (simp only [nr, nl, asgL_len]; omega))) ?_
    refine op_v' (j_load_pel leaf3 rfl rfl (at_map (by first | omega | (simp only [nr, nl, asgL_len]; omega))) rfl) ?_
    refine op_v0' (j_call0 (v := .tup []) (hp1 := [(0, some (0, .row 3 1 _))]) [(0, 0)] false [0] ent185 (f_l3Assign (asgL q2 ((impC (l.getD k default) q2).take j)) ((impC (l.getD k default) q2).getD j default) (impC_at hck (p := q2) (by first | omega | (simp only [nr, nl, asgL_len]; omega))) (by first | omega | (simp only [nr, nl, asgL_len]; omega))) ⟨.inl ⟨rfl, rfl⟩, .inl ⟨rfl, rfl⟩, trivial⟩ ⟨⟨rfl, rfl⟩, trivial⟩ rfl rfl (fun h => by cases h) rfl (List.all_eq_true.1 rfl) (.inl rfl) rfl rfl) ?_
    refine on ?_
    refine ar ?_
    refine oa rfl ?_
    refine on ?_
    refine ar ?_
    refine om rfl ?_
    refine op_v' (j_add rfl rfl (by first | omega | (simp only [nr, nl, asgL_len]; omega)) (by first | omega | (simp only [nr, nl, asgL_len]; omega))) ?_
    refine oa rfl ?_
    refine on ?_
    exact ⟨j + 1, (by first | omega | (simp only [nr, nl, asgL_len]; omega)), ⟨⟨rfl, rfl⟩, ⟨rfl, boolEq (by symm; rw [decide_eq_true_eq]; have hz1 := zer_imp hck (paOk_len hq2.2.1) (k := j + 1) (by first | omega | (simp only [nr, nl, asgL_len]; omega)); omega), trivial⟩, ⟨rowEq (by rw [asgL_next (by first | omega | (simp only [nr, nl, asgL_len]; omega))]; first | done | exact asg_rowp (by omega) | exact asg_rown (by omega) (by omega) | (unfold asg; rw [List.map_set]; try rfl)), trivial⟩, ⟨rfl, rfl⟩, ⟨rfl, rfl⟩⟩, (by first | omega | (simp only [nr, nl, asgL_len]; omega))⟩
   have h4r := h4
   try simp only [nq, nr, nl, asgL_len] at h4
   refine a_exit ?_
   refine ar ?_
   refine om rfl ?_
   refine op_v' (j_add rfl rfl (by first | omega | (simp only [nr, nl, asgL_len]; omega)) (by first | omega | (simp only [nr, nl, asgL_len]; omega))) ?_
   refine oa rfl ?_
   refine on ?_
   obtain rfl : j = (impC (l.getD k default) q2).length := by first | omega | (simp only [nr, nl, asgL_len]; omega)
   rw [List.take_length]
   have hza := zer_impA hck (paOk_len hq2.2.1)
   exact ⟨(k + 1, asgL q2 (impC (l.getD k default) q2)), (by first | exact ⟨by first | omega | (simp only [nr, nl, asgL_len]; omega), asgL_ok hq2.2.1, hq2.2.2.1.trans (rnd_step (by first | omega | (simp only [nr, nl, asgL_len]; omega)) (by omega)), by omega⟩ | (dsimp only; exact ⟨by first | omega | (simp only [nr, nl, asgL_len]; omega), asgL_ok hq2.2.1, hq2.2.2.1.trans (rnd_step (by first | omega | (simp only [nr, nl, asgL_len]; omega)) (by omega)), by omega⟩)), ⟨⟨rfl, rfl⟩, ⟨rfl, rfl, trivial⟩, ⟨rfl, trivial⟩, ⟨rfl, rfl⟩, ⟨rfl, rfl⟩⟩, (by first | exact (by first | omega | (simp only [nr, nl, asgL_len]; omega)) | (dsimp only; exact (by first | omega | (simp only [nr, nl, asgL_len]; omega))))⟩
  have h2r := h2
  try simp only [nq, nr, nl, asgL_len] at h2
  refine a_exit ?_
  obtain rfl : m = true := (by assumption)
  have hrd : rnd l 0 q = (q2, -1) := hq2.2.2.1.trans (rnd_end (by first | omega | (simp only [nr, nl, asgL_len]; omega)))
  exact ⟨(q2, decide (zer q2 < zer q)), (by first | exact ⟨hq2.2.1, fun h => (hq.2.2 rfl).trans (prop_done hrd (of_decide_eq_false h)), fun h => (hq.2.2 rfl).trans (prop_again hrd (of_decide_eq_true h))⟩ | (dsimp only; exact ⟨hq2.2.1, fun h => (hq.2.2 rfl).trans (prop_done hrd (of_decide_eq_false h)), fun h => (hq.2.2 rfl).trans (prop_again hrd (of_decide_eq_true h))⟩)), ⟨⟨rfl, rfl⟩, ⟨rfl, trivial⟩, ⟨rfl, trivial⟩, ⟨rfl, rfl⟩, ⟨rfl, rfl⟩⟩, (by first | exact (by have hz := hq2.2.2.2; dsimp only; by_cases hzz : zer q2 < zer q; (· rw [if_pos (decide_eq_true hzz), if_pos rfl]; omega); (· rw [if_neg (by rw [decide_eq_false hzz]; decide), if_pos rfl]; omega)) | (dsimp only; exact (by have hz := hq2.2.2.2; dsimp only; by_cases hzz : zer q2 < zer q; (· rw [if_pos (decide_eq_true hzz), if_pos rfl]; omega); (· rw [if_neg (by rw [decide_eq_false hzz]; decide), if_pos rfl]; omega))))⟩
 have h1r := h1
 try simp only [nq, nr, nl, asgL_len] at h1
 refine a_exit ?_
 refine a_seq ?_
 have hend := hq.2.1 (by assumption)
 refine ar ?_
 refine oa rfl ?_
 refine on ?_
 refine a_ret ?_
 exact ⟨[.p _], .p _, [.row 3 1 _], [], [], ⟨rfl, trivial⟩, rfl, rfl, ⟨⟨rfl, rfl⟩, trivial⟩, rfl, rfl, ⟨by rw [hend], by rw [hend], rfl⟩⟩
end Go.Ab

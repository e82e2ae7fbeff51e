/- Walks. -/
import Derived.Test.YtoodaakcfelaaaaGreatBase
import Derived.Test.YtoodaakcfelaaaaGreatSimp
import Derived.Test.YtoodaakcfelaaaaGreatWscons
namespace Go.Ab
open Go.Proofs
set_option maxRecDepth 100000
set_option maxHeartbeats 8000000
set_option linter.unusedSimpArgs false
set_option linter.unusedVariables false
theorem f_numbered (n : Nat) (hn : n < 4096) : Fn Tryz.prog 71 [.p (.int .i64 ((n : Nat)))] [] (fun rr ii nn => rr = .own 0 0 ∧ ii = [] ∧ nn = [.row 4 1 ((assn n).map dB)]) := by
 refine fn_of Tryz.func71 rfl (Nat.le_of_ble_eq_true rfl) fun w X g => ?_
 show AWp _ _ _ ⟨[(0, .p (.int .i64 ((n : Nat))))], []⟩
 refine rs ?_
 refine oa rfl ?_
 refine on ?_
 refine rs ?_
 refine op_n' (fun ver => j_make (n := 12) slt44 elt4 rfl rfl (by decide) rfl rfl rfl rfl (by first | omega | (simp only [nr, pa_length, List.length_replicate]; omega)) (by rw [maxLen_eq]; first | omega | (simp only [nr, pa_length, List.length_replicate]; omega))) fun v5x1 => ?_
 refine oa rfl ?_
 refine on ?_
 refine a_seq ?_
 refine rs ?_
 refine om rfl ?_
 refine op_v' (j_len_own Tryz.underlying44 rfl rfl) ?_
 refine om rfl ?_
 refine on ?_
 refine a_block ?_
 refine a_loopF' (ι := Nat) (fun k => k ≤ 12) (fun k r => (8, .p (.int .i64 ((k : Nat)))) :: r) (fun k r => (5, some (v5x1, .row 4 1 ((pa n k).map dB))) :: r) (fun k => 12 - k) (fun _ _ => rfl) (fun _ _ => rfl) 0 (by first | omega | (simp only [nr, pa_length, List.length_replicate]; omega)) ⟨⟨rfl, rfl⟩, ⟨rfl, trivial⟩, ⟨rowEq pa_zero.symm, trivial⟩, ⟨rfl, rfl⟩, ⟨rfl, rfl⟩⟩ ?_
 intro k hpre0
 refine rs ?_
 refine op_v' (j_lt rfl rfl) ?_
 refine on ?_
 refine a_seq ?_
 refine ac rfl (fun h1 => ?_) fun h1 => ?_
 ·
  have h1r := h1
  try simp only [nq, nr, pa_length, List.length_replicate] at h1
  refine a_skip ?_
  refine a_seq ?_
  refine a_block ?_
  refine rs ?_
  refine om rfl ?_
  refine oa rfl ?_
  refine on ?_
  refine ar ?_
  refine om rfl ?_
  refine om rfl ?_
  refine om rfl ?_
  refine om rfl ?_
  refine op_v' (j_sub rfl rfl (by first | omega | (simp only [nr, pa_length, List.length_replicate]; omega)) (by first | omega | (simp only [nr, pa_length, List.length_replicate]; omega))) ?_
  refine op_v' (j_bits rfl rfl (fun w => run_shr (b := 11 - k) (by omega) (by omega) w)) ?_
  refine op_v' (j_bits rfl rfl (fun w => run_and1 (Nat.lt_of_le_of_lt (Nat.div_le_self _ _) (by omega)) w)) ?_
  refine op_v' (j_eq rfl rfl) ?_
  refine op_v' (j_elem_ownN slt44 rfl rfl rfl rfl (by first | omega | (simp only [nr, pa_length, List.length_replicate]; omega))) ?_
  refine op_s' (j_store_row leaf4 rfl rfl (by first | omega | (simp only [nr, pa_length, List.length_replicate]; omega)) (evo rfl) rfl rfl) ?_
  refine on ?_
  refine ar ?_
  refine op_v' (j_add rfl rfl (by first | omega | (simp only [nr, pa_length, List.length_replicate]; omega)) (by first | omega | (simp only [nr, pa_length, List.length_replicate]; omega))) ?_
  refine om rfl ?_
  refine on ?_
  exact ⟨k + 1, (by first | omega | (simp only [nr, pa_length, List.length_replicate]; omega)), ⟨⟨rfl, rfl⟩, ⟨rfl, trivial⟩, ⟨rowEq (pa_next (by first | omega | (simp only [nr, pa_length, List.length_replicate]; omega)) bit_and), trivial⟩, ⟨rfl, rfl⟩, ⟨rfl, rfl⟩⟩, (by first | omega | (simp only [nr, pa_length, List.length_replicate]; omega))⟩
 have h1r := h1
 try simp only [nq, nr, pa_length, List.length_replicate] at h1
 refine a_exit ?_
 refine rs ?_
 refine om rfl ?_
 refine oa rfl ?_
 refine on ?_
 refine a_ret ?_
 exact ⟨[.own 5 v5x1], .own 0 0, [], [.row 4 1 _], [(5, v5x1)], ⟨rfl, trivial⟩, rfl, rfl, ⟨⟨rfl, rfl⟩, trivial⟩, rfl, rfl, ⟨rfl, rfl, congrArg (fun x => [Obj.row _ _ (x.map dB)]) (pa_all (by first | omega | (simp only [nr, pa_length, List.length_replicate]; omega)))⟩⟩
theorem f_holds1 (l : Int) (bs : List Bool) (hl : litOk l = true) (hb : bs.length = 12) : Fn Tryz.prog 179 [.p (.int .i64 (l)), .sl (bs.map dB)] [] (fun rr ii nn => rr = .p (.bool (litV bs l)) ∧ ii = [] ∧ nn = []) := by
 refine fn_of Tryz.func179 rfl (Nat.le_of_ble_eq_true rfl) fun w X g => ?_
 show AWp _ _ _ ⟨[(0, .p (.int .i64 (l))), (1, .sl (bs.map dB))], []⟩
 have hl2 := litOk_iff.1 hl
 have hv2 : 1 ≤ varOf l ∧ varOf l ≤ 12 := by unfold varOf; omega
 refine rs ?_
 refine oa rfl ?_
 refine on ?_
 refine rs ?_
 refine om rfl ?_
 refine om rfl ?_
 refine op_v0' (j_call0 (v := .p _) (hp1 := []) [] false [] ent111 (f_varOf _ (by omega)) ⟨.inl ⟨rfl, rfl⟩, trivial⟩ trivial rfl rfl (fun h => by cases h) rfl (fun _ h => by cases h) (.inl rfl) rfl rfl) ?_
 refine op_v' (j_sub rfl rfl (by omega) (by omega)) ?_
 refine op_v' (j_elemN (n := (varOf l - 1).toNat) slt44 rfl rfl (by omega) (at_map (by omega)) rfl) ?_
 refine op_v' (j_load_el leaf4 rfl (at_map (by omega)) rfl) ?_
 refine om rfl ?_
 refine op_v' (j_gt rfl rfl) ?_
 refine op_v' (j_eqb Tryz.underlying4 rfl rfl) ?_
 refine oa rfl ?_
 refine on ?_
 refine a_ret ?_
 exact fin_p rfl ⟨rfl, rfl, rfl⟩
theorem f_l1True (bs : List Bool) (l : Int) (hl : litOk l = true) (hb : bs.length = 12) : Fn Tryz.prog 172 [.sl (bs.map dB), .p (.int .i64 (l))] [] (fun rr ii nn => rr = .p (.bool (litV bs l)) ∧ ii = [] ∧ nn = []) := by
 refine fn_of Tryz.func172 rfl (Nat.le_of_ble_eq_true rfl) fun w X g => ?_
 show AWp _ _ _ ⟨[(0, .sl (bs.map dB)), (1, .p (.int .i64 (l)))], []⟩
 have hl2 := litOk_iff.1 hl
 refine rs ?_
 refine oa rfl ?_
 refine on ?_
 refine a_seq ?_
 refine rs ?_
 refine om rfl ?_
 refine op_v' (j_gt rfl rfl) ?_
 refine on ?_
 refine ac rfl (fun h1 => ?_) fun h1 => ?_
 ·
  have h1r := h1
  try simp only [nq, nr] at h1
  refine rs ?_
  refine om rfl ?_
  refine om rfl ?_
  refine op_v' (j_sub rfl rfl (by omega) (by omega)) ?_
  refine op_v' (j_elemN (n := (l - 1).toNat) slt44 rfl rfl (by omega) (at_map (by omega)) rfl) ?_
  refine op_v' (j_load_el leaf4 rfl (at_map (by omega)) rfl) ?_
  refine oa rfl ?_
  refine on ?_
  refine a_ret ?_
  exact fin_p rfl ⟨boolEq (litV_pos h1), rfl, rfl⟩
 have h1r := h1
 try simp only [nq, nr] at h1
 refine a_skip ?_
 refine rs ?_
 refine om rfl ?_
 refine om rfl ?_
 refine op_v' (j_neg rfl (by omega) (by omega)) ?_
 refine op_v' (j_sub rfl rfl (by omega) (by omega)) ?_
 refine op_v' (j_elemN (n := (-l - 1).toNat) slt44 rfl rfl (by omega) (at_map (by omega)) rfl) ?_
 refine op_v' (j_load_el leaf4 rfl (at_map (by omega)) rfl) ?_
 refine op_v' (j_not rfl) ?_
 refine oa rfl ?_
 refine on ?_
 refine a_ret ?_
 exact fin_p rfl ⟨boolEq (litV_neg (by omega)), rfl, rfl⟩
theorem f_holdsC (c : Con) (bs : List Bool) (hc : cOk c = true) (hb : bs.length = 12) : Fn Tryz.prog 126 [.agg [.sl (c.1.map dT), .p (.int .i64 c.2)], .sl (bs.map dB)] [] (fun rr ii nn => rr = .p (.bool (holdsV c bs)) ∧ ii = [] ∧ nn = []) := by
 refine fn_of Tryz.func126 rfl (Nat.le_of_ble_eq_true rfl) fun w X g => ?_
 show AWp _ _ _ ⟨[(0, .agg [.sl (c.1.map dT), .p (.int .i64 c.2)]), (1, .sl (bs.map dB))], []⟩
 refine a_len_map2 0 rfl fun hlen => ?_
 have hln := cOk_len hc
 refine rs ?_
 refine op_n' (fun ver => j_boxa rfl) fun v2x1 => ?_
 refine oa rfl ?_
 refine on ?_
 refine rs ?_
 refine oa rfl ?_
 refine on ?_
 refine a_seq ?_
 refine rs ?_
 refine op_v' (j_fldp fld69f0 rfl rfl) ?_
 refine op_v' (j_load_box leaf67 rfl rfl rfl) ?_
 refine op_v' (j_len_map Tryz.underlying67 rfl) ?_
 refine om rfl ?_
 refine on ?_
 refine a_block ?_
 refine a_loopF' (ι := Nat) (fun k => k ≤ c.1.length) (fun k r => (11, .p (.int .i64 ((k : Nat)))) :: (5, .p (.int .i64 (sumV (c.1.take k) bs))) :: r) (fun k r => r) (fun k => c.1.length - k) (fun _ _ => rfl) (fun _ _ => rfl) 0 (by omega) ⟨⟨rfl, rfl⟩, ⟨rfl, rfl, trivial⟩, trivial, ⟨rfl, rfl⟩, ⟨rfl, rfl⟩⟩ ?_
 intro k hpre0
 refine rs ?_
 refine op_v' (j_lt rfl rfl) ?_
 refine on ?_
 refine a_seq ?_
 refine ac rfl (fun h1 => ?_) fun h1 => ?_
 ·
  have h1r := h1
  try simp only [nq, nr] at h1
  have hsm := sum_take hc (k := k) (bs := bs) (by omega); have htm := cOk_terms hc (k := k) (by omega); have hln := cOk_len hc
  refine a_skip ?_
  refine a_seq ?_
  refine a_block ?_
  refine rs ?_
  refine op_v' (j_elemN slt67 rfl rfl rfl (at_map (by omega)) rfl) ?_
  refine op_v' (j_loada_el (ys := [.p _, .p _]) agg135 rfl (at_map (by omega)) rfl (Nat.le_refl _)) ?_
  refine op_n' (fun ver => j_alloc elt135 rfl) fun v7x2 => ?_
  refine op_s' (j_storea_box0 agg135 rfl rfl rfl rfl rfl rfl) ?_
  refine on ?_
  refine rs ?_
  refine op_v' (j_fldp fld135f1 rfl rfl) ?_
  refine op_v' (j_load_box leaf3 rfl rfl rfl) ?_
  refine om rfl ?_
  refine op_v0' (j_call0 (v := .p _) (hp1 := []) [] false [] ent179 (f_holds1 _ _ htm.1 hb) ⟨.inl ⟨rfl, rfl⟩, .inl ⟨rfl, rfl⟩, trivial⟩ trivial rfl rfl (fun h => by cases h) rfl (fun _ h => by cases h) (.inl rfl) rfl rfl) ?_
  refine on ?_
  refine ac rfl (fun h2 => ?_) fun h2 => ?_
  ·
   have h2r := h2
   try simp only [nq, nr] at h2
   refine ar ?_
   refine om rfl ?_
   refine op_v' (j_fldp fld135f0 rfl rfl) ?_
   refine op_v' (j_load_box leaf3 rfl rfl rfl) ?_
   refine op_v' (j_add rfl rfl (by omega) (by omega)) ?_
   refine oa rfl ?_
   refine on ?_
   refine ar ?_
   refine op_v' (j_add rfl rfl (by omega) (by omega)) ?_
   refine om rfl ?_
   refine on ?_
   exact ⟨k + 1, (by omega), ⟨⟨rfl, rfl⟩, ⟨rfl, intEq (by rw [sumV_next (by omega)]; unfold term; rw [if_pos h2r]), trivial⟩, trivial, ⟨rfl, rfl⟩, ⟨rfl, rfl⟩⟩, (by omega)⟩
  have h2r := h2
  try simp only [nq, nr] at h2
  refine a_skip ?_
  refine ar ?_
  refine op_v' (j_add rfl rfl (by omega) (by omega)) ?_
  refine om rfl ?_
  refine on ?_
  exact ⟨k + 1, (by omega), ⟨⟨rfl, rfl⟩, ⟨rfl, intEq (by rw [sumV_next (by omega)]; unfold term; rw [if_neg (by rw [h2r]; decide), Int.add_zero]), trivial⟩, trivial, ⟨rfl, rfl⟩, ⟨rfl, rfl⟩⟩, (by omega)⟩
 have h1r := h1
 try simp only [nq, nr] at h1
 refine a_exit ?_
 refine rs ?_
 refine om rfl ?_
 refine op_v' (j_fldp fld69f1 rfl rfl) ?_
 refine op_v' (j_load_box leaf3 rfl rfl rfl) ?_
 refine op_v' (j_ge rfl rfl) ?_
 refine oa rfl ?_
 refine on ?_
 refine a_ret ?_
 exact fin_p rfl ⟨boolEq (by unfold holdsV; rw [List.take_of_length_le (by omega)]), rfl, rfl⟩
theorem f_l1Eval (c : Con) (bs : List Bool) (hc : cOk c = true) (hb : bs.length = 12) : Fn Tryz.prog 119 [.agg [.sl (c.1.map dT), .p (.int .i64 c.2)], .sl (bs.map dB)] [] (fun rr ii nn => rr = .p (.bool (holdsV c bs)) ∧ ii = [] ∧ nn = []) := by
 refine fn_of Tryz.func119 rfl (Nat.le_of_ble_eq_true rfl) fun w X g => ?_
 show AWp _ _ _ ⟨[(0, .agg [.sl (c.1.map dT), .p (.int .i64 c.2)]), (1, .sl (bs.map dB))], []⟩
 refine a_len_map2 0 rfl fun hlen => ?_
 have hln := cOk_len hc
 refine rs ?_
 refine op_n' (fun ver => j_boxa rfl) fun v2x1 => ?_
 refine oa rfl ?_
 refine on ?_
 refine rs ?_
 refine oa rfl ?_
 refine on ?_
 refine a_seq ?_
 refine rs ?_
 refine oa rfl ?_
 refine on ?_
 refine a_block ?_
 refine a_loopF' (ι := Nat) (fun k => k ≤ c.1.length) (fun k r => (6, .p (.int .i64 ((k : Nat)))) :: (5, .p (.int .i64 (sumV (c.1.take k) bs))) :: r) (fun k r => r) (fun k => c.1.length - k) (fun _ _ => rfl) (fun _ _ => rfl) 0 (by omega) ⟨⟨rfl, rfl⟩, ⟨rfl, rfl, trivial⟩, trivial, ⟨rfl, rfl⟩, ⟨rfl, rfl⟩⟩ ?_
 intro k hpre0
 refine a_seq ?_
 refine rs ?_
 refine om rfl ?_
 refine op_v' (j_fldp fld69f0 rfl rfl) ?_
 refine op_v' (j_load_box leaf67 rfl rfl rfl) ?_
 refine op_v' (j_len_map Tryz.underlying67 rfl) ?_
 refine op_v' (j_lt rfl rfl) ?_
 refine on ?_
 refine ac rfl (fun h1 => ?_) fun h1 => ?_
 ·
  have h1r := h1
  try simp only [nq, nr] at h1
  have hsm := sum_take hc (k := k) (bs := bs) (by omega); have htm := cOk_terms hc (k := k) (by omega); have hln := cOk_len hc
  refine a_skip ?_
  refine a_seq ?_
  refine a_block ?_
  refine rs ?_
  refine om rfl ?_
  refine op_v' (j_fldp fld69f0 rfl rfl) ?_
  refine op_v' (j_load_box leaf67 rfl rfl rfl) ?_
  refine om rfl ?_
  refine op_v' (j_elemN slt67 rfl rfl rfl (at_map (by omega)) rfl) ?_
  refine op_v' (j_fldel fld135f1 rfl) ?_
  refine op_v' (j_load_el leaf3 rfl (at_map (by omega)) rfl) ?_
  refine op_v0' (j_call0 (v := .p _) (hp1 := []) [] false [] ent172 (f_l1True _ _ htm.1 hb) ⟨.inl ⟨rfl, rfl⟩, .inl ⟨rfl, rfl⟩, trivial⟩ trivial rfl rfl (fun h => by cases h) rfl (fun _ h => by cases h) (.inl rfl) rfl rfl) ?_
  refine on ?_
  refine ac rfl (fun h2 => ?_) fun h2 => ?_
  ·
   have h2r := h2
   try simp only [nq, nr] at h2
   refine ar ?_
   refine om rfl ?_
   refine op_v' (j_fldp fld69f0 rfl rfl) ?_
   refine op_v' (j_load_box leaf67 rfl rfl rfl) ?_
   refine om rfl ?_
   refine op_v' (j_elemN slt67 rfl rfl rfl (at_map (by omega)) rfl) ?_
   refine op_v' (j_fldel fld135f0 rfl) ?_
   refine op_v' (j_load_el leaf3 rfl (at_map (by omega)) rfl) ?_
   refine op_v' (j_add rfl rfl (by omega) (by omega)) ?_
   refine oa rfl ?_
   refine on ?_
   refine ar ?_
   refine om rfl ?_
   refine op_v' (j_add rfl rfl (by omega) (by omega)) ?_
   refine oa rfl ?_
   refine on ?_
   exact ⟨k + 1, (by omega), ⟨⟨rfl, rfl⟩, ⟨rfl, intEq (by rw [sumV_next (by omega)]; unfold term; rw [if_pos h2r]), trivial⟩, trivial, ⟨rfl, rfl⟩, ⟨rfl, rfl⟩⟩, (by omega)⟩
  have h2r := h2
  try simp only [nq, nr] at h2
  refine a_skip ?_
  refine ar ?_
  refine om rfl ?_
  refine op_v' (j_add rfl rfl (by omega) (by omega)) ?_
  refine oa rfl ?_
  refine on ?_
  exact ⟨k + 1, (by omega), ⟨⟨rfl, rfl⟩, ⟨rfl, intEq (by rw [sumV_next (by omega)]; unfold term; rw [if_neg (by rw [h2r]; decide), Int.add_zero]), trivial⟩, trivial, ⟨rfl, rfl⟩, ⟨rfl, rfl⟩⟩, (by omega)⟩
 have h1r := h1
 try simp only [nq, nr] at h1
 refine a_exit ?_
 refine rs ?_
 refine om rfl ?_
 refine op_v' (j_fldp fld69f1 rfl rfl) ?_
 refine op_v' (j_load_box leaf3 rfl rfl rfl) ?_
 refine op_v' (j_ge rfl rfl) ?_
 refine oa rfl ?_
 refine on ?_
 refine a_ret ?_
 exact fin_p rfl ⟨boolEq (by unfold holdsV; rw [List.take_of_length_le (by omega)]), rfl, rfl⟩
theorem f_l1TotalG (c : Con) (hc : ∀ t ∈ c.1, -1000000 ≤ t.1 ∧ t.1 ≤ 1000000) (hln : c.1.length ≤ 1048576) : Fn Tryz.prog 132 [.agg [.sl (c.1.map dT), .p (.int .i64 c.2)]] [] (fun rr ii nn => rr = .p (.int .i64 (totV c.1)) ∧ ii = [] ∧ nn = []) := by
 refine fn_of Tryz.func132 rfl (Nat.le_of_ble_eq_true rfl) fun w X g => ?_
 show AWp _ _ _ ⟨[(0, .agg [.sl (c.1.map dT), .p (.int .i64 c.2)])], []⟩
 refine a_len_map2 0 rfl fun hlen => ?_
 refine rs ?_
 refine op_n' (fun ver => j_boxa rfl) fun v1x1 => ?_
 refine oa rfl ?_
 refine on ?_
 refine rs ?_
 refine oa rfl ?_
 refine on ?_
 refine a_seq ?_
 refine rs ?_
 refine oa rfl ?_
 refine on ?_
 refine a_block ?_
 refine a_loopF' (ι := Nat) (fun k => k ≤ c.1.length) (fun k r => (4, .p (.int .i64 ((k : Nat)))) :: (3, .p (.int .i64 (totV (c.1.take k)))) :: r) (fun k r => r) (fun k => c.1.length - k) (fun _ _ => rfl) (fun _ _ => rfl) 0 (by omega) ⟨⟨rfl, rfl⟩, ⟨rfl, rfl, trivial⟩, trivial, ⟨rfl, rfl⟩, ⟨rfl, rfl⟩⟩ ?_
 intro k hpre0
 refine a_seq ?_
 refine rs ?_
 refine om rfl ?_
 refine op_v' (j_fldp fld69f0 rfl rfl) ?_
 refine op_v' (j_load_box leaf67 rfl rfl rfl) ?_
 refine op_v' (j_len_map Tryz.underlying67 rfl) ?_
 refine op_v' (j_lt rfl rfl) ?_
 refine on ?_
 refine ac rfl (fun h1 => ?_) fun h1 => ?_
 ·
  have h1r := h1
  try simp only [nq, nr] at h1
  have hsm := tot_takeG (ts := c.1) (k := k) hc (by omega); have htm := hc _ (getD_mem (d := default) (l := c.1) (k := k) (by omega))
  refine a_skip ?_
  refine a_seq ?_
  refine a_block ?_
  refine ar ?_
  refine om rfl ?_
  refine op_v' (j_fldp fld69f0 rfl rfl) ?_
  refine op_v' (j_load_box leaf67 rfl rfl rfl) ?_
  refine om rfl ?_
  refine op_v' (j_elemN slt67 rfl rfl rfl (at_map (by omega)) rfl) ?_
  refine op_v' (j_fldel fld135f0 rfl) ?_
  refine op_v' (j_load_el leaf3 rfl (at_map (by omega)) rfl) ?_
  refine op_v' (j_add rfl rfl (by omega) (by omega)) ?_
  refine oa rfl ?_
  refine on ?_
  refine ar ?_
  refine om rfl ?_
  refine op_v' (j_add rfl rfl (by omega) (by omega)) ?_
  refine oa rfl ?_
  refine on ?_
  exact ⟨k + 1, (by omega), ⟨⟨rfl, rfl⟩, ⟨rfl, intEq (by rw [totV_next (by omega)]), trivial⟩, trivial, ⟨rfl, rfl⟩, ⟨rfl, rfl⟩⟩, (by omega)⟩
 have h1r := h1
 try simp only [nq, nr] at h1
 refine a_exit ?_
 refine rs ?_
 refine om rfl ?_
 refine oa rfl ?_
 refine on ?_
 refine a_ret ?_
 exact fin_p rfl ⟨intEq (by rw [List.take_of_length_le (by omega)]), rfl, rfl⟩
theorem f_l1Total (c : Con) (hc : cOk c = true) : Fn Tryz.prog 132 [.agg [.sl (c.1.map dT), .p (.int .i64 c.2)]] [] (fun rr ii nn => rr = .p (.int .i64 (totV c.1)) ∧ ii = [] ∧ nn = []) :=
  f_l1TotalG c (fun t ht => by have := cOk_coefs hc t ht; omega) (by have := cOk_len hc; omega)
end Go.Ab

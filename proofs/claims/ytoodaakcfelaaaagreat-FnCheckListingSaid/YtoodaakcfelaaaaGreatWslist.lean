/- Walks. -/
import Derived.Test.YtoodaakcfelaaaaGreatBase
import Derived.Test.YtoodaakcfelaaaaGreatCub
import Derived.Test.YtoodaakcfelaaaaGreatWssolveo
import Derived.Test.YtoodaakcfelaaaaGreatWsexcl2
namespace Go.Ab
open Go.Proofs
set_option maxRecDepth 100000
set_option maxHeartbeats 8000000
set_option linter.unusedSimpArgs false
set_option linter.unusedVariables false
theorem f_exclImplF (vs : List Int) (bs : List Bool) (hok : varsFrom 0 vs = true) (hb : bs.length = 12) : Fn Tryz.prog 59 [.sl (vs.map dI), .sl (bs.map dB)] [] (fun rr ii nn => rr = .agg [.sl ((exTs vs bs).map dT), .p (.int .i64 1)] ∧ ii = [] ∧ nn = []) := by
 refine fn_of Tryz.func59 rfl (Nat.le_of_ble_eq_true rfl) fun w X g => ?_
 show AWp _ _ _ ⟨[(0, .sl (vs.map dI)), (1, .sl (bs.map dB))], []⟩
 have hvl := vars_len hok
 refine rs ?_
 refine op_n' (fun ver => j_alloc elt69 rfl) fun v4x1 => ?_
 refine on ?_
 refine rs ?_
 refine op_v' (j_build (parts := [(1, .const (.int .i64 1))]) str69 elt69 rfl rfl) ?_
 refine op_n' (fun ver => j_alloc elt69 rfl) fun v5x2 => ?_
 refine op_s' (j_storea_box0 agg69 rfl rfl rfl rfl rfl rfl) ?_
 refine on ?_
 refine a_adopt_box' 0 1005 135 2 (by decide) (id := 5) rfl rfl fun v1005x3 => ?_
 refine a_seq ?_
 refine rs ?_
 refine om rfl ?_
 refine op_v' (j_len_map Tryz.underlying23 rfl) ?_
 refine om rfl ?_
 refine on ?_
 refine a_block ?_
 refine a_loopF' (ι := Nat × Nat) (fun x => x.1 ≤ vs.length) (fun x r => (12, .p (.int .i64 ((x.1 : Nat)))) :: r) (fun x r => (5, some (v5x2, .box 69 [.own 1005 x.2, .p (.int .i64 1)])) :: (1005, some (x.2, .row 135 2 ((exTs (vs.take x.1) bs).map dT))) :: r) (fun x => vs.length - x.1) (fun _ _ => rfl) (fun _ _ => rfl) (0, v1005x3) (by first | exact (Nat.zero_le _) | (dsimp only; exact (Nat.zero_le _))) ⟨⟨rfl, rfl⟩, ⟨rfl, trivial⟩, ⟨rfl, rfl, trivial⟩, ⟨rfl, rfl⟩, ⟨rfl, rfl⟩⟩ ?_
 rintro ⟨k, v⟩ hpre; dsimp only at hpre ⊢
 refine rs ?_
 refine op_v' (j_lt rfl rfl) ?_
 refine on ?_
 refine a_seq ?_
 refine ac rfl (fun h1 => ?_) fun h1 => ?_
 ·
  have h1r := h1
  try simp only [nq, nr, nl, exTs_length] at h1
  have hv := vars_at hok (k := k) (by omega)
  refine a_skip ?_
  refine a_seq ?_
  refine a_block ?_
  refine rs ?_
  refine op_v' (j_elemN slt23 rfl rfl rfl (at_map (by first | omega | (simp only [nr, nl, exTs_length]; omega))) rfl) ?_
  refine op_v' (j_load_el leaf3 rfl (at_map (by first | omega | (simp only [nr, nl, exTs_length]; omega))) rfl) ?_
  refine oa rfl ?_
  refine on ?_
  refine rs ?_
  refine om rfl ?_
  refine oa rfl ?_
  refine on ?_
  refine a_seq ?_
  refine rs ?_
  refine om rfl ?_
  refine om rfl ?_
  refine op_v' (j_sub rfl rfl (by first | omega | (simp only [nr, nl, exTs_length]; omega)) (by first | omega | (simp only [nr, nl, exTs_length]; omega))) ?_
  refine op_v' (j_elemN (n := (vs.getD k default - 1).toNat) slt44 rfl rfl (by first | omega | (simp only [nr, nl, exTs_length]; omega)) (at_map (by first | omega | (simp only [nr, nl, exTs_length]; omega))) rfl) ?_
  refine op_v' (j_load_el leaf4 rfl (at_map (by first | omega | (simp only [nr, nl, exTs_length]; omega))) rfl) ?_
  refine on ?_
  refine ac rfl (fun h2 => ?_) fun h2 => ?_
  ·
   have h2r := h2
   try simp only [nq, nr, nl, exTs_length] at h2
   refine ar ?_
   refine om rfl ?_
   refine op_v' (j_neg rfl (by first | omega | (simp only [nr, nl, exTs_length]; omega)) (by first | omega | (simp only [nr, nl, exTs_length]; omega))) ?_
   refine oa rfl ?_
   refine on ?_
   refine ar ?_
   refine op_v' (j_fldp fld69f0 rfl rfl) ?_
   refine op_v' (j_load_box leaf67 rfl rfl rfl) ?_
   refine om rfl ?_
   refine op_v' (j_build (parts := [(0, .const (.int .i64 1)), (1, .tmp 26)]) str135 elt135 rfl rfl) ?_
   refine op_n' (fun ver => j_buildSlice (parts := [(0, .tmp 27)]) (es := [[_, _]]) slt67 elt135 rfl rfl (by decide) (by decide) rfl rfl (by simp) rfl) fun v28x4 => ?_
   refine op_n' (fun ver => j_append_own slt67 elt135 rfl rfl rfl rfl rfl rfl (by rw [maxLen_eq]; first | omega | (simp only [nr, nl, exTs_length]; omega)) (by first | omega | (simp only [nr, nl, exTs_length]; omega))) fun v1005x5 => ?_
   refine op_v' (j_fldp fld69f0 rfl rfl) ?_
   refine op_s' (j_store_box leaf67 rfl rfl (Nat.le_of_ble_eq_true rfl) (evo rfl) rfl) ?_
   refine on ?_
   refine ar ?_
   refine op_v' (j_add rfl rfl (by first | omega | (simp only [nr, nl, exTs_length]; omega)) (by first | omega | (simp only [nr, nl, exTs_length]; omega))) ?_
   refine om rfl ?_
   refine on ?_
   exact ⟨(k + 1, v1005x5), (by first | exact (by first | omega | (simp only [nr, nl, exTs_length]; omega)) | (dsimp only; exact (by first | omega | (simp only [nr, nl, exTs_length]; omega)))), ⟨⟨rfl, rfl⟩, ⟨rfl, trivial⟩, ⟨rfl, rowEq (exTs_next (by omega) (exT_t h2r)), trivial⟩, ⟨rfl, rfl⟩, ⟨rfl, rfl⟩⟩, (by first | exact (by first | omega | (simp only [nr, nl, exTs_length]; omega)) | (dsimp only; exact (by first | omega | (simp only [nr, nl, exTs_length]; omega))))⟩
  have h2r := h2
  try simp only [nq, nr, nl, exTs_length] at h2
  refine a_skip ?_
  refine ar ?_
  refine op_v' (j_fldp fld69f0 rfl rfl) ?_
  refine op_v' (j_load_box leaf67 rfl rfl rfl) ?_
  refine om rfl ?_
  refine op_v' (j_build (parts := [(0, .const (.int .i64 1)), (1, .tmp 26)]) str135 elt135 rfl rfl) ?_
  refine op_n' (fun ver => j_buildSlice (parts := [(0, .tmp 27)]) (es := [[_, _]]) slt67 elt135 rfl rfl (by decide) (by decide) rfl rfl (by simp) rfl) fun v28x6 => ?_
  refine op_n' (fun ver => j_append_own slt67 elt135 rfl rfl rfl rfl rfl rfl (by rw [maxLen_eq]; first | omega | (simp only [nr, nl, exTs_length]; omega)) (by first | omega | (simp only [nr, nl, exTs_length]; omega))) fun v1005x7 => ?_
  refine op_v' (j_fldp fld69f0 rfl rfl) ?_
  refine op_s' (j_store_box leaf67 rfl rfl (Nat.le_of_ble_eq_true rfl) (evo rfl) rfl) ?_
  refine on ?_
  refine ar ?_
  refine op_v' (j_add rfl rfl (by first | omega | (simp only [nr, nl, exTs_length]; omega)) (by first | omega | (simp only [nr, nl, exTs_length]; omega))) ?_
  refine om rfl ?_
  refine on ?_
  exact ⟨(k + 1, v1005x7), (by first | exact (by first | omega | (simp only [nr, nl, exTs_length]; omega)) | (dsimp only; exact (by first | omega | (simp only [nr, nl, exTs_length]; omega)))), ⟨⟨rfl, rfl⟩, ⟨rfl, trivial⟩, ⟨rfl, rowEq (exTs_next (by omega) (exT_f h2r)), trivial⟩, ⟨rfl, rfl⟩, ⟨rfl, rfl⟩⟩, (by first | exact (by first | omega | (simp only [nr, nl, exTs_length]; omega)) | (dsimp only; exact (by first | omega | (simp only [nr, nl, exTs_length]; omega))))⟩
 have h1r := h1
 try simp only [nq, nr, nl, exTs_length] at h1
 refine a_exit ?_
 refine a_seq ?_
 refine a_freezeboxK 0 5 (by decide) trivial rfl rfl rfl rfl ?_
 try dsimp only [List.set]
 refine ar ?_
 refine op_v' (j_loada_box (ys := [.sl _, .p _]) agg69 rfl rfl rfl (Nat.le_of_ble_eq_true rfl)) ?_
 refine op_s' (j_storea_box0 agg69 rfl rfl rfl rfl rfl rfl) ?_
 refine on ?_
 refine a_ret ?_
 exact ⟨[.agg [.sl _, .p _]], .agg [.sl _, .p _], [], [], [], ⟨⟨_, _, _, _, rfl, rfl, agg69, rfl⟩, trivial⟩, rfl, rfl, trivial, rfl, rfl, ⟨by rw [List.take_of_length_le (by omega)], rfl, rfl⟩⟩
theorem f_exclSpecF (vs : List Int) (bs : List Bool) (hok : varsFrom 0 vs = true) (hb : bs.length = 12) : Fn Tryz.prog 51 [.sl (vs.map dI), .sl (bs.map dB)] [] (fun rr ii nn => rr = .agg [.sl ((exTs vs bs).map dT), .p (.int .i64 1)] ∧ ii = [] ∧ nn = []) := by
 refine fn_of Tryz.func51 rfl (Nat.le_of_ble_eq_true rfl) fun w X g => ?_
 show AWp _ _ _ ⟨[(0, .sl (vs.map dI)), (1, .sl (bs.map dB))], []⟩
 have hvl := vars_len hok
 refine rs ?_
 refine op_n' (fun ver => j_alloc elt69 rfl) fun v4x1 => ?_
 refine on ?_
 refine rs ?_
 refine op_v' (j_build (parts := [(1, .const (.int .i64 1))]) str69 elt69 rfl rfl) ?_
 refine op_n' (fun ver => j_alloc elt69 rfl) fun v5x2 => ?_
 refine op_s' (j_storea_box0 agg69 rfl rfl rfl rfl rfl rfl) ?_
 refine on ?_
 refine a_adopt_box' 0 1005 135 2 (by decide) (id := 5) rfl rfl fun v1005x3 => ?_
 refine a_seq ?_
 refine rs ?_
 refine oa rfl ?_
 refine on ?_
 refine a_block ?_
 refine a_loopF' (ι := Nat × Nat) (fun x => x.1 ≤ vs.length) (fun x r => (6, .p (.int .i64 ((x.1 : Nat)))) :: r) (fun x r => (5, some (v5x2, .box 69 [.own 1005 x.2, .p (.int .i64 1)])) :: (1005, some (x.2, .row 135 2 ((exTs (vs.take x.1) bs).map dT))) :: r) (fun x => vs.length - x.1) (fun _ _ => rfl) (fun _ _ => rfl) (0, v1005x3) (by first | exact (Nat.zero_le _) | (dsimp only; exact (Nat.zero_le _))) ⟨⟨rfl, rfl⟩, ⟨rfl, trivial⟩, ⟨rfl, rfl, trivial⟩, ⟨rfl, rfl⟩, ⟨rfl, rfl⟩⟩ ?_
 rintro ⟨k, v⟩ hpre; dsimp only at hpre ⊢
 refine a_seq ?_
 refine rs ?_
 refine om rfl ?_
 refine om rfl ?_
 refine op_v' (j_len_map Tryz.underlying23 rfl) ?_
 refine op_v' (j_lt rfl rfl) ?_
 refine on ?_
 refine ac rfl (fun h1 => ?_) fun h1 => ?_
 ·
  have h1r := h1
  try simp only [nq, nr, nl, exTs_length] at h1
  have hv := vars_at hok (k := k) (by omega)
  refine a_skip ?_
  refine a_seq ?_
  refine a_block ?_
  refine rs ?_
  refine om rfl ?_
  refine om rfl ?_
  refine op_v' (j_elemN slt23 rfl rfl rfl (at_map (by first | omega | (simp only [nr, nl, exTs_length]; omega))) rfl) ?_
  refine op_v' (j_load_el leaf3 rfl (at_map (by first | omega | (simp only [nr, nl, exTs_length]; omega))) rfl) ?_
  refine op_v' (j_build (parts := [(0, .const (.int .i64 1)), (1, .tmp 18)]) str135 elt135 rfl rfl) ?_
  refine op_n' (fun ver => j_alloc elt135 rfl) fun v7x4 => ?_
  refine op_s' (j_storea_box0 agg135 rfl rfl rfl rfl rfl rfl) ?_
  refine on ?_
  refine a_seq ?_
  refine rs ?_
  refine om rfl ?_
  refine om rfl ?_
  refine om rfl ?_
  refine op_v' (j_elemN slt23 rfl rfl rfl (at_map (by first | omega | (simp only [nr, nl, exTs_length]; omega))) rfl) ?_
  refine op_v' (j_load_el leaf3 rfl (at_map (by first | omega | (simp only [nr, nl, exTs_length]; omega))) rfl) ?_
  refine op_v' (j_sub rfl rfl (by first | omega | (simp only [nr, nl, exTs_length]; omega)) (by first | omega | (simp only [nr, nl, exTs_length]; omega))) ?_
  refine op_v' (j_elemN (n := (vs.getD k default - 1).toNat) slt44 rfl rfl (by first | omega | (simp only [nr, nl, exTs_length]; omega)) (at_map (by first | omega | (simp only [nr, nl, exTs_length]; omega))) rfl) ?_
  refine op_v' (j_load_el leaf4 rfl (at_map (by first | omega | (simp only [nr, nl, exTs_length]; omega))) rfl) ?_
  refine on ?_
  refine ac rfl (fun h2 => ?_) fun h2 => ?_
  ·
   have h2r := h2
   try simp only [nq, nr, nl, exTs_length] at h2
   refine ar ?_
   refine op_v' (j_fldp fld135f1 rfl rfl) ?_
   refine op_v' (j_load_box leaf3 rfl rfl rfl) ?_
   refine op_v' (j_neg rfl (by first | omega | (simp only [nr, nl, exTs_length]; omega)) (by first | omega | (simp only [nr, nl, exTs_length]; omega))) ?_
   refine op_v' (j_fldp fld135f1 rfl rfl) ?_
   refine op_s' (j_store_box leaf3 rfl rfl (Nat.le_of_ble_eq_true rfl) (evo rfl) rfl) ?_
   refine on ?_
   refine ar ?_
   refine op_v' (j_fldp fld69f0 rfl rfl) ?_
   refine op_v' (j_load_box leaf67 rfl rfl rfl) ?_
   refine op_v' (j_loada_box (ys := [.p _, .p _]) agg135 rfl rfl rfl (Nat.le_of_ble_eq_true rfl)) ?_
   refine op_n' (fun ver => j_buildSlice (parts := [(0, .tmp 34)]) (es := [[_, _]]) slt67 elt135 rfl rfl (by decide) (by decide) rfl rfl (by simp) rfl) fun v35x5 => ?_
   refine op_n' (fun ver => j_append_own slt67 elt135 rfl rfl rfl rfl rfl rfl (by rw [maxLen_eq]; first | omega | (simp only [nr, nl, exTs_length]; omega)) (by first | omega | (simp only [nr, nl, exTs_length]; omega))) fun v1005x6 => ?_
   refine op_v' (j_fldp fld69f0 rfl rfl) ?_
   refine op_s' (j_store_box leaf67 rfl rfl (Nat.le_of_ble_eq_true rfl) (evo rfl) rfl) ?_
   refine on ?_
   refine ar ?_
   refine om rfl ?_
   refine op_v' (j_add rfl rfl (by first | omega | (simp only [nr, nl, exTs_length]; omega)) (by first | omega | (simp only [nr, nl, exTs_length]; omega))) ?_
   refine oa rfl ?_
   refine on ?_
   exact ⟨(k + 1, v1005x6), (by first | exact (by first | omega | (simp only [nr, nl, exTs_length]; omega)) | (dsimp only; exact (by first | omega | (simp only [nr, nl, exTs_length]; omega)))), ⟨⟨rfl, rfl⟩, ⟨rfl, trivial⟩, ⟨rfl, rowEq (exTs_next (by omega) (exT_t h2r)), trivial⟩, ⟨rfl, rfl⟩, ⟨rfl, rfl⟩⟩, (by first | exact (by first | omega | (simp only [nr, nl, exTs_length]; omega)) | (dsimp only; exact (by first | omega | (simp only [nr, nl, exTs_length]; omega))))⟩
  have h2r := h2
  try simp only [nq, nr, nl, exTs_length] at h2
  refine a_skip ?_
  refine ar ?_
  refine op_v' (j_fldp fld69f0 rfl rfl) ?_
  refine op_v' (j_load_box leaf67 rfl rfl rfl) ?_
  refine op_v' (j_loada_box (ys := [.p _, .p _]) agg135 rfl rfl rfl (Nat.le_of_ble_eq_true rfl)) ?_
  refine op_n' (fun ver => j_buildSlice (parts := [(0, .tmp 34)]) (es := [[_, _]]) slt67 elt135 rfl rfl (by decide) (by decide) rfl rfl (by simp) rfl) fun v35x7 => ?_
  refine op_n' (fun ver => j_append_own slt67 elt135 rfl rfl rfl rfl rfl rfl (by rw [maxLen_eq]; first | omega | (simp only [nr, nl, exTs_length]; omega)) (by first | omega | (simp only [nr, nl, exTs_length]; omega))) fun v1005x8 => ?_
  refine op_v' (j_fldp fld69f0 rfl rfl) ?_
  refine op_s' (j_store_box leaf67 rfl rfl (Nat.le_of_ble_eq_true rfl) (evo rfl) rfl) ?_
  refine on ?_
  refine ar ?_
  refine om rfl ?_
  refine op_v' (j_add rfl rfl (by first | omega | (simp only [nr, nl, exTs_length]; omega)) (by first | omega | (simp only [nr, nl, exTs_length]; omega))) ?_
  refine oa rfl ?_
  refine on ?_
  exact ⟨(k + 1, v1005x8), (by first | exact (by first | omega | (simp only [nr, nl, exTs_length]; omega)) | (dsimp only; exact (by first | omega | (simp only [nr, nl, exTs_length]; omega)))), ⟨⟨rfl, rfl⟩, ⟨rfl, trivial⟩, ⟨rfl, rowEq (exTs_next (by omega) (exT_f h2r)), trivial⟩, ⟨rfl, rfl⟩, ⟨rfl, rfl⟩⟩, (by first | exact (by first | omega | (simp only [nr, nl, exTs_length]; omega)) | (dsimp only; exact (by first | omega | (simp only [nr, nl, exTs_length]; omega))))⟩
 have h1r := h1
 try simp only [nq, nr, nl, exTs_length] at h1
 refine a_exit ?_
 refine a_seq ?_
 refine a_freezeboxK 0 5 (by decide) trivial rfl rfl rfl rfl ?_
 try dsimp only [List.set]
 refine ar ?_
 refine op_v' (j_loada_box (ys := [.sl _, .p _]) agg69 rfl rfl rfl (Nat.le_of_ble_eq_true rfl)) ?_
 refine op_s' (j_storea_box0 agg69 rfl rfl rfl rfl rfl rfl) ?_
 refine on ?_
 refine a_ret ?_
 exact ⟨[.agg [.sl _, .p _]], .agg [.sl _, .p _], [], [], [], ⟨⟨_, _, _, _, rfl, rfl, agg69, rfl⟩, trivial⟩, rfl, rfl, trivial, rfl, rfl, ⟨by rw [List.take_of_length_le (by omega)], rfl, rfl⟩⟩
theorem f_listable (l : List Con) (vs : List Int) : Fn Tryz.prog 56 [.sl (l.map dC), .sl (vs.map dI)] [] (fun rr ii nn => rr = .p (.bool ((pOk l && decide (l.length ≤ 336) && varsFrom 0 vs))) ∧ ii = [] ∧ nn = []) := by
 refine fn_of Tryz.func56 rfl (Nat.le_of_ble_eq_true rfl) fun w X g => ?_
 show AWp _ _ _ ⟨[(0, .sl (l.map dC)), (1, .sl (vs.map dI))], []⟩
 refine a_len_map 0 rfl fun hlen => ?_
 refine rs ?_
 refine oa rfl ?_
 refine on ?_
 refine rs ?_
 refine om rfl ?_
 refine op_v0' (j_call0 (v := .p _) (hp1 := []) [] false [] ent69 (f_pvImpl l) ⟨.inl ⟨rfl, rfl⟩, trivial⟩ trivial rfl rfl (fun h => by cases h) rfl (fun _ h => by cases h) (.inl rfl) rfl rfl) ?_
 refine om rfl ?_
 refine op_split' 7 rfl (fun h1 => ?_) (fun h1 => ?_)
 ·
  have h1r := h1
  try simp only [nq, nr] at h1
  refine op_v' (j_want rfl rfl h1r (j_move (evo rfl))) ?_
  refine op_v' (j_want rfl rfl h1r (j_len_map Tryz.underlying30 rfl)) ?_
  refine op_v' (j_want rfl rfl h1r (j_le rfl rfl)) ?_
  refine op_v' (j_pick_t rfl h1r (evo rfl)) ?_
  refine om rfl ?_
  refine op_split' 12 rfl (fun h2 => ?_) (fun h2 => ?_)
  ·
   have h2r := h2
   try simp only [nq, nr] at h2
   refine op_v' (j_want rfl rfl h2r (j_move (evo rfl))) ?_
   refine op_v0' (j_want rfl rfl h2r (j_call0 (v := .p _) (hp1 := []) [] false [] ent70 (f_areVars vs) ⟨.inl ⟨rfl, rfl⟩, trivial⟩ trivial rfl rfl (fun h => by cases h) rfl (fun _ h => by cases h) (.inl rfl) rfl rfl)) ?_
   refine op_v' (j_pick_t rfl h2r (evo rfl)) ?_
   refine oa rfl ?_
   refine on ?_
   refine a_ret ?_
   exact fin_p rfl ⟨boolEq (by first | (simp_all; done) | (simp_all; omega)), rfl, rfl⟩
  have h2r := h2
  try simp only [nq, nr] at h2
  refine op_v' (j_unwantV rfl rfl h2r) ?_
  refine op_v' (j_unwantV rfl rfl h2r) ?_
  refine op_v' (j_pick_f rfl h2r (evo rfl)) ?_
  refine oa rfl ?_
  refine on ?_
  refine a_ret ?_
  exact fin_p rfl ⟨boolEq (by first | (simp_all; done) | (simp_all; omega)), rfl, rfl⟩
 have h1r := h1
 try simp only [nq, nr] at h1
 refine op_v' (j_unwantV rfl rfl h1r) ?_
 refine op_v' (j_unwantV rfl rfl h1r) ?_
 refine op_v' (j_unwantV rfl rfl h1r) ?_
 refine op_v' (j_pick_f rfl h1r (evo rfl)) ?_
 refine om rfl ?_
 refine op_v' (j_unwantV rfl rfl rfl) ?_
 refine op_v' (j_unwantV rfl rfl rfl) ?_
 refine op_v' (j_pick_f rfl rfl (evo rfl)) ?_
 refine oa rfl ?_
 refine on ?_
 refine a_ret ?_
 exact fin_p rfl ⟨boolEq (by first | (simp_all; done) | (simp_all; omega)), rfl, rfl⟩
end Go.Ab

/- Walks. -/
import Derived.Test.YtoodaakcfelaaaaGreatBase
import Derived.Test.YtoodaakcfelaaaaGreatCub
import Derived.Test.YtoodaakcfelaaaaGreatWssolveo
import Derived.Test.YtoodaakcfelaaaaGreatWsexcl2
namespace Go.Ab
open Go.Proofs
set_option maxRecDepth 100000
set_option maxHeartbeats 8000000
set_option linter.unusedSimpArgs false
set_option linter.unusedVariables false
theorem f_exclImplF (vs : List Int) (bs : List Bool) (hok : varsFrom 0 vs = true) (hb : bs.length = 12) : Fn Tryz.prog 59 [.sl (vs.map dI), .sl (bs.map dB)] [] (fun rr ii nn => rr = .agg [.sl ((exTs vs bs).map dT), .p (.int .i64 1)] ∧ ii = [] ∧ nn = []) := by
 refine fn_of Tryz.func59 rfl (Nat.le_of_ble_eq_true rfl) fun w X g => ?_
 show AWp _ _ _ ⟨[(0, .sl (vs.map dI)), (1, .sl (bs.map dB))], []⟩
 have hvl := vars_len hok
 refine rs ?_
 refine op_n' (fun ver => j_alloc elt69 rfl) fun v4x1 => ?_
 refine on ?_
 refine rs ?_
 refine op_v' (j_build (parts := [(1, .const (.int .i64 1))]) str69 elt69 rfl rfl) ?_
 refine op_n' (fun ver => j_alloc elt69 rfl) fun v5x2 => ?_
 refine op_s' (j_storea_box0 agg69 rfl rfl rfl rfl rfl rfl) ?_
 refine on ?_
 refine a_adopt_box' 0 1005 135 2 (by decide) (id := 5) rfl rfl fun v1005x3 => ?_
 refine a_seq ?_
 refine rs ?_
 refine om rfl ?_
 refine op_v' (j_len_map Tryz.underlying23 rfl) ?_
 refine om rfl ?_
 refine on ?_
 refine a_block ?_
 refine a_loopF' (ι := Nat × Nat) (fun x => x.1 ≤ vs.length) (fun x r => (12, .p (.int .i64 ((x.1 : Nat)))) :: r) (fun x r => (5, some (v5x2, .box 69 [.own 1005 x.2, .p (.int .i64 1)])) :: (1005, some (x.2, .row 135 2 ((exTs (vs.take x.1) bs).map dT))) :: r) (fun x => vs.length - x.1) (fun _ _ => rfl) (fun _ _ => rfl) (0, v1005x3) (by first | exact (Nat.zero_le _) | (dsimp only; exact (Nat.zero_le _))) ⟨⟨rfl, rfl⟩, ⟨rfl, trivial⟩, ⟨rfl, rfl, trivial⟩, ⟨rfl, rfl⟩, ⟨rfl, rfl⟩⟩ ?_
 rintro ⟨k, v⟩ hpre; dsimp only at hpre ⊢
 refine rs ?_
 refine op_v' (j_lt rfl rfl) ?_
 refine on ?_
 refine a_seq ?_
 refine ac rfl (fun h1 => ?_) fun h1 => ?_
 ·
  have h1r := h1
  try simp only [nq, nr, nl, exTs_length] at h1
  have hv := vars_at hok (k := k) (by omega)
  refine a_skip ?_
  refine a_seq ?_
  refine a_block ?_
  refine rs ?_
  refine op_v' (j_elemN slt23 rfl rfl rfl (at_map (by first | omega | (simp only [nr, nl, exTs_length]; omega))) rfl) ?_
  refine op_v' (j_load_el leaf3 rfl (at_map (by first | omega | (simp only [nr, nl, exTs_length]; omega))) rfl) ?_
  refine oa rfl ?_
  refine on ?_
  refine rs ?_
  refine om rfl ?_
  refine oa rfl ?_
  refine on ?_
  refine a_seq ?_
  refine rs ?_
  refine om rfl ?_
  refine om rfl ?_
  refine op_v' (j_sub rfl rfl (by first | omega | (simp only [nr, nl, exTs_length]; omega)) (by first | omega | (simp only [nr, nl, exTs_length]; omega))) ?_
  refine op_v' (j_elemN (n := (vs.getD k default - 1).toNat) slt44 rfl rfl (by first | omega | (simp only [nr, nl, exTs_length]; omega)) (at_map (by first | omega | (simp only [nr, nl, exTs_length]; omega))) rfl) ?_
  refine op_v' (j_load_el leaf4 rfl (at_map (by first | omega | (simp only [nr, nl, exTs_length]; omega))) rfl) ?_
  refine on ?_
  refine ac rfl (fun h2 => ?_) fun h2 => ?_
  ·
   have h2r := h2
   try simp only [nq, nr, nl, exTs_length] at h2
   refine ar ?_
   refine om rfl ?_
   refine op_v' (j_neg rfl (by first | omega | (simp only [nr, nl, exTs_length]; omega)) (by first | omega | (simp only [nr, nl, exTs_length]; omega))) ?_
   refine oa rfl ?_
   refine on ?_
   refine ar ?_
   refine op_v' (j_fldp fld69f0 rfl rfl) ?_
   refine op_v' (j_load_box leaf67 rfl rfl rfl) ?_
   refine om rfl ?_
   refine op_v' (j_build (parts := [(0, .const (.int .i64 1)), (1, .tmp 26)]) str135 elt135 rfl rfl) ?_
   refine op_n' (fun ver => j_buildSlice (parts := [(0, .tmp 27)]) (es := [[_, _]]) slt67 elt135 rfl rfl (by decide) (by decide) rfl rfl (by simp) rfl) fun v28x4 => ?_
   refine op_n' (fun ver => j_append_own slt67 elt135 rfl rfl rfl rfl rfl rfl (by rw [maxLen_eq]; first | omega | (simp only [nr, nl, exTs_length]; omega)) (by first | omega | (simp only [nr, nl, exTs_length]; omega))) fun v1005x5 => ?_
   refine op_v' (j_fldp fld69f0 rfl rfl) ?_
   refine op_s' (j_store_box leaf67 rfl rfl (Nat.le_of_ble_eq_true rfl) (evo rfl) rfl) ?_
   refine on ?_
   refine ar ?_
   refine op_v' (j_add rfl rfl (by first | omega | (simp only [nr, nl, exTs_length]; omega)) (by first | omega | (simp only [nr, nl, exTs_length]; omega))) ?_
   refine om rfl ?_
   refine on ?_
   exact ⟨(k + 1, v1005x5), (by first | exact (by first | omega | (simp only [nr, nl, exTs_length]; omega)) | (dsimp only; exact (by first | omega | (simp only [nr, nl, exTs_length]; omega)))), ⟨⟨rfl, rfl⟩, ⟨rfl, trivial⟩, ⟨rfl, rowEq (exTs_next (by omega) (exT_t h2r)), trivial⟩, ⟨rfl, rfl⟩, ⟨rfl, rfl⟩⟩, (by first | exact (by first | omega | (simp only [nr, nl, exTs_length]; omega)) | (dsimp only; exact (by first | omega | (simp only [nr, nl, exTs_length]; omega))))⟩
  have h2r := h2
  try simp only [nq, nr, nl, exTs_length] at h2
  refine a_skip ?_
  refine ar ?_
  refine op_v' (j_fldp fld69f0 rfl rfl) ?_
  refine op_v' (j_load_box leaf67 rfl rfl rfl) ?_
  refine om rfl ?_
  refine op_v' (j_build (parts := [(0, .const (.int .i64 1)), (1, .tmp 26)]) str135 elt135 rfl rfl) ?_
  refine op_n' (fun ver => j_buildSlice (parts := [(0, .tmp 27)]) (es := [[_, _]]) slt67 elt135 rfl rfl (by decide) (by decide) rfl rfl (by simp) rfl) fun v28x6 => ?_
  refine op_n' (fun ver => j_append_own slt67 elt135 rfl rfl rfl rfl rfl rfl (by rw [maxLen_eq]; first | omega | (simp only [nr, nl, exTs_length]; omega)) (by first | omega | (simp only [nr, nl, exTs_length]; omega))) fun v1005x7 => ?_
  refine op_v' (j_fldp fld69f0 rfl rfl) ?_
  refine op_s' (j_store_box leaf67 rfl rfl (Nat.le_of_ble_eq_true rfl) (evo rfl) rfl) ?_
  refine on ?_
  refine ar ?_
  refine op_v' (j_add rfl rfl (by first | omega | (simp only [nr, nl, exTs_length]; omega)) (by first | omega | (simp only [nr, nl, exTs_length]; omega))) ?_
  refine om rfl ?_
  refine on ?_
  exact ⟨(k + 1, v1005x7), (by first | exact (by first | omega | (simp only [nr, nl, exTs_length]; omega)) | (dsimp only; exact (by first | omega | (simp only [nr, nl, exTs_length]; omega)))), ⟨⟨rfl, rfl⟩, ⟨rfl, trivial⟩, ⟨rfl, rowEq (exTs_next (by omega) (exT_f h2r)), trivial⟩, ⟨rfl, rfl⟩, ⟨rfl, rfl⟩⟩, (by first | exact (by first | omega | (simp only [nr, nl, exTs_length]; omega)) | (dsimp only; exact (by first | omega | (simp only [nr, nl, exTs_length]; omega))))⟩
 have h1r := h1
 try simp only [nq, nr, nl, exTs_length] at h1
 refine a_exit ?_
 refine a_seq ?_
 refine a_freezeboxK 0 5 (by decide) trivial rfl rfl rfl rfl ?_
 try dsimp only [List.set]
 refine ar ?_
 refine op_v' (j_loada_box (ys := [.sl _, .p _]) agg69 rfl rfl rfl (Nat.le_of_ble_eq_true rfl)) ?_
 refine op_s' (j_storea_box0 agg69 rfl rfl rfl rfl rfl rfl) ?_
 refine on ?_
 refine a_ret ?_
 exact ⟨[.agg [.sl _, .p _]], .agg [.sl _, .p _], [], [], [], ⟨⟨_, _, _, _, rfl, rfl, agg69, rfl⟩, trivial⟩, rfl, rfl, trivial, rfl, rfl, ⟨by rw [List.take_of_length_le (by omega)], rfl, rfl⟩⟩
theorem f_exclSpecF (vs : List Int) (bs : List Bool) (hok : varsFrom 0 vs = true) (hb : bs.length = 12) : Fn Tryz.prog 51 [.sl (vs.map dI), .sl (bs.map dB)] [] (fun rr ii nn => rr = .agg [.sl ((exTs vs bs).map dT), .p (.int .i64 1)] ∧ ii = [] ∧ nn = []) := by
 refine fn_of Tryz.func51 rfl (Nat.le_of_ble_eq_true rfl) fun w X g => ?_
 show AWp _ _ _ ⟨[(0, .sl (vs.map dI)), (1, .sl (bs.map dB))], []⟩
 have hvl := vars_len hok
 refine rs ?_
 refine op_n' (fun ver => j_alloc elt69 rfl) fun v4x1 => ?_
 refine on ?_
 refine rs ?_
 refine op_v' (j_build (parts := [(1, .const (.int .i64 1))]) str69 elt69 rfl rfl) ?_
 refine op_n' (fun ver => j_alloc elt69 rfl) fun v5x2 => ?_
 refine op_s' (j_storea_box0 agg69 rfl rfl rfl rfl rfl rfl) ?_
 refine on ?_
 refine a_adopt_box' 0 1005 135 2 (by decide) (id := 5) rfl rfl fun v1005x3 => ?_
 refine a_seq ?_
 refine rs ?_
 refine oa rfl ?_
 refine on ?_
 refine a_block ?_
 refine a_loopF' (ι := Nat × Nat) (fun x => x.1 ≤ vs.length) (fun x r => (6, .p (.int .i64 ((x.1 : Nat)))) :: r) (fun x r => (5, some (v5x2, .box 69 [.own 1005 x.2, .p (.int .i64 1)])) :: (1005, some (x.2, .row 135 2 ((exTs (vs.take x.1) bs).map dT))) :: r) (fun x => vs.length - x.1) (fun _ _ => rfl) (fun _ _ => rfl) (0, v1005x3) (by first | exact (Nat.zero_le _) | (dsimp only; exact (Nat.zero_le _))) ⟨⟨rfl, rfl⟩, ⟨rfl, trivial⟩, ⟨rfl, rfl, trivial⟩, ⟨rfl, rfl⟩, ⟨rfl, rfl⟩⟩ ?_
 rintro ⟨k, v⟩ hpre; dsimp only at hpre ⊢
 refine a_seq ?_
 refine rs ?_
 refine om rfl ?_
 refine om rfl ?_
 refine op_v' (j_len_map Tryz.underlying23 rfl) ?_
 refine op_v' (j_lt rfl rfl) ?_
 refine on ?_
 refine ac rfl (fun h1 => ?_) fun h1 => ?_
 ·
  have h1r := h1
  try simp only [nq, nr, nl, exTs_length] at h1
  have hv := vars_at hok (k := k) (by omega)
  refine a_skip ?_
  refine a_seq ?_
  refine a_block ?_
  refine rs ?_
  refine om rfl ?_
  refine om rfl ?_
  refine op_v' (j_elemN slt23 rfl rfl rfl (at_map (by first | omega | (simp only [nr, nl, exTs_length]; omega))) rfl) ?_
  refine op_v' (j_load_el leaf3 rfl (at_map (by first | omega | (simp only [nr, nl, exTs_length]; omega))) rfl) ?_
  refine op_v' (j_build (parts := [(0, .const (.int .i64 1)), (1, .tmp 18)]) str135 elt135 rfl rfl) ?_
  refine op_n' (fun ver => j_alloc elt135 rfl) fun v7x4 => ?_
  refine op_s' (j_storea_box0 agg135 rfl rfl rfl rfl rfl rfl) ?_
  refine on ?_
  refine a_seq ?_
  refine rs ?_
  refine om rfl ?_
  refine om rfl ?_
  refine om rfl ?_
  refine op_v' (j_elemN slt23 rfl rfl rfl (at_map (by first | omega | (simp only [nr, nl, exTs_length]; omega))) rfl) ?_
  refine op_v' (j_load_el leaf3 rfl (at_map (by first | omega | (simp only [nr, nl, exTs_length]; omega))) rfl) ?_
  refine op_v' (j_sub rfl rfl (by first | omega | (simp only [nr, nl, exTs_length]; omega)) (by first | omega | (simp only [nr, nl, exTs_length]; omega))) ?_
  refine op_v' (j_elemN (n := (vs.getD k default - 1).toNat) slt44 rfl rfl (by first | omega | (simp only [nr, nl, exTs_length]; omega)) (at_map (by first | omega | (simp only [nr, nl, exTs_length]; omega))) rfl) ?_
  refine op_v' (j_load_el leaf4 rfl (at_map (by first | omega | (simp only [nr, nl, exTs_length]; omega))) rfl) ?_
  refine on ?_
  refine ac rfl (fun h2 => ?_) fun h2 => ?_
  ·
   have h2r := h2
   try simp only [nq, nr, nl, exTs_length] at h2
   refine ar ?_
   refine op_v' (j_fldp fld135f1 rfl rfl) ?_
   refine op_v' (j_load_box leaf3 rfl rfl rfl) ?_
   refine op_v' (j_neg rfl (by first | omega | (simp only [nr, nl, exTs_length]; omega)) (by first | omega | (simp only [nr, nl, exTs_length]; omega))) ?_
   refine op_v' (j_fldp fld135f1 rfl rfl) ?_
   refine op_s' (j_store_box leaf3 rfl rfl (Nat.le_of_ble_eq_true rfl) (evo rfl) rfl) ?_
   refine on ?_
   refine ar ?_
   refine op_v' (j_fldp fld69f0 rfl rfl) ?_
   refine op_v' (j_load_box leaf67 rfl rfl rfl) ?_
   refine op_v' (j_loada_box (ys := [.p _, .p _]) agg135 rfl rfl rfl (Nat.le_of_ble_eq_true rfl)) ?_
   refine op_n' (fun ver => j_buildSlice (parts := [(0, .tmp 34)]) (es := [[_, _]]) slt67 elt135 rfl rfl (by decide) (by decide) rfl rfl (by simp) rfl) fun v35x5 => ?_
   refine op_n' (fun ver => j_append_own slt67 elt135 rfl rfl rfl rfl rfl rfl (by rw [maxLen_eq]; first | omega | (simp only [nr, nl, exTs_length]; omega)) (by first | omega | (simp only [nr, nl, exTs_length]; omega))) fun v1005x6 => ?_
   refine op_v' (j_fldp fld69f0 rfl rfl) ?_
   refine op_s' (j_store_box leaf67 rfl rfl (Nat.le_of_ble_eq_true rfl) (evo rfl) rfl) ?_
   refine on ?_
   refine ar ?_
   refine om rfl ?_
   refine op_v' (j_add rfl rfl (by first | omega | (simp only [nr, nl, exTs_length]; omega)) (by first | omega | (simp only [nr, nl, exTs_length]; omega))) ?_
   refine oa rfl ?_
   refine on ?_
   exact ⟨(k + 1, v1005x6), (by first | exact (by first | omega | (simp only [nr, nl, exTs_length]; omega)) | (dsimp only; exact (by first | omega | (simp only [nr, nl, exTs_length]; omega)))), ⟨⟨rfl, rfl⟩, ⟨rfl, trivial⟩, ⟨rfl, rowEq (exTs_next (by omega) (exT_t h2r)), trivial⟩, ⟨rfl, rfl⟩, ⟨rfl, rfl⟩⟩, (by first | exact (by first | omega | (simp only [nr, nl, exTs_length]; omega)) | (dsimp only; exact (by first | omega | (simp only [nr, nl, exTs_length]; omega))))⟩
  have h2r := h2
  try simp only [nq, nr, nl, exTs_length] at h2
  refine a_skip ?_
  refine ar ?_
  refine op_v' (j_fldp fld69f0 rfl rfl) ?_
  refine op_v' (j_load_box leaf67 rfl rfl rfl) ?_
  refine op_v' (j_loada_box (ys := [.p _, .p _]) agg135 rfl rfl rfl (Nat.le_of_ble_eq_true rfl)) ?_
  refine op_n' (fun ver => j_buildSlice (parts := [(0, .tmp 34)]) (es := [[_, _]]) slt67 elt135 rfl rfl (by decide) (by decide) rfl rfl (by simp) rfl) fun v35x7 => ?_
  refine op_n' (fun ver => j_append_own slt67 elt135 rfl rfl rfl rfl rfl rfl (by rw [maxLen_eq]; first | omega | (simp only [nr, nl, exTs_length]; omega)) (by first | omega | (simp only [nr, nl, exTs_length]; omega))) fun v1005x8 => ?_
  refine op_v' (j_fldp fld69f0 rfl rfl) ?_
  refine op_s' (j_store_box leaf67 rfl rfl (Nat.le_of_ble_eq_true rfl) (evo rfl) rfl) ?_
  refine on ?_
  refine ar ?_
  refine om rfl ?_
  refine op_v' (j_add rfl rfl (by first | omega | (simp only [nr, nl, exTs_length]; omega)) (by first | omega | (simp only [nr, nl, exTs_length]; omega))) ?_
  refine oa rfl ?_
  refine on ?_
  exact ⟨(k + 1, v1005x8), (by first | exact (by first | omega | (simp only [nr, nl, exTs_length]; omega)) | (dsimp only; exact (by first | omega | (simp only [nr, nl, exTs_length]; omega)))), ⟨⟨rfl, rfl⟩, ⟨rfl, trivial⟩, ⟨rfl, rowEq (exTs_next (by omega) (exT_f h2r)), trivial⟩, ⟨rfl, rfl⟩, ⟨rfl, rfl⟩⟩, (by first | exact (by first | omega | (simp only [nr, nl, exTs_length]; omega)) | (dsimp only; exact (by first | omega | (simp only [nr, nl, exTs_length]; omega))))⟩
 have h1r := h1
 try simp only [nq, nr, nl, exTs_length] at h1
 refine a_exit ?_
 refine a_seq ?_
 refine a_freezeboxK 0 5 (by decide) trivial rfl rfl rfl rfl ?_
 try dsimp only [List.set]
 refine ar ?_
 refine op_v' (j_loada_box (ys := [.sl _, .p _]) agg69 rfl rfl rfl (Nat.le_of_ble_eq_true rfl)) ?_
 refine op_s' (j_storea_box0 agg69 rfl rfl rfl rfl rfl rfl) ?_
 refine on ?_
 refine a_ret ?_
 exact ⟨[.agg [.sl _, .p _]], .agg [.sl _, .p _], [], [], [], ⟨⟨_, _, _, _, rfl, rfl, agg69, rfl⟩, trivial⟩, rfl, rfl, trivial, rfl, rfl, ⟨by rw [List.take_of_length_le (by omega)], rfl, rfl⟩⟩
theorem f_listable (l : List Con) (vs : List Int) : Fn Tryz.prog 56 [.sl (l.map dC), .sl (vs.map dI)] [] (fun rr ii nn => rr = .p (.bool ((pOk l && decide (l.length ≤ 336) && varsFrom 0 vs))) ∧ ii = [] ∧ nn = []) := by
 refine fn_of Tryz.func56 rfl (Nat.le_of_ble_eq_true rfl) fun w X g => ?_
 show AWp _ _ _ ⟨[(0, .sl (l.map dC)), (1, .sl (vs.map dI))], []⟩
 refine a_len_map 0 rfl fun hlen => ?_
 refine rs ?_
 refine oa rfl ?_
 refine on ?_
 refine rs ?_
 refine om rfl ?_
 refine op_v0' (j_call0 (v := .p _) (hp1 := []) [] false [] ent69 (f_pvImpl l) ⟨.inl ⟨rfl, rfl⟩, trivial⟩ trivial rfl rfl (fun h => by cases h) rfl (fun _ h => by cases h) (.inl rfl) rfl rfl) ?_
 refine om rfl ?_
 refine op_split' 7 rfl (fun h1 => ?_) (fun h1 => ?_)
 ·
  have h1r := h1
  try simp only [nq, nr] at h1
  refine op_v' (j_want rfl rfl h1r (j_move (evo rfl))) ?_
  refine op_v' (j_want rfl rfl h1r (j_len_map Tryz.underlying30 rfl)) ?_
  refine op_v' (j_want rfl rfl h1r (j_le rfl rfl)) ?_
  refine op_v' (j_pick_t rfl h1r (evo rfl)) ?_
  refine om rfl ?_
  refine op_split' 12 rfl (fun h2 => ?_) (fun h2 => ?_)
  ·
   have h2r := h2
   try simp only [nq, nr] at h2
   refine op_v' (j_want rfl rfl h2r (j_move (evo rfl))) ?_
   refine op_v0' (j_want rfl rfl h2r (j_call0 (v := .p _) (hp1 := []) [] false [] ent70 (f_areVars vs) ⟨.inl ⟨rfl, rfl⟩, trivial⟩ trivial rfl rfl (fun h => by cases h) rfl (fun _ h => by cases h) (.inl rfl) rfl rfl)) ?_
   refine op_v' (j_pick_t rfl h2r (evo rfl)) ?_
   refine oa rfl ?_
   refine on ?_
   refine a_ret ?_
   exact fin_p rfl ⟨boolEq (by first | (simp_all; done) | (simp_all; omega)), rfl, rfl⟩
  have h2r := h2
  try simp only [nq, nr] at h2
  refine op_v' (j_unwantV rfl rfl h2r) ?_
  refine op_v' (j_unwantV rfl rfl h2r) ?_
  refine op_v' (j_pick_f rfl h2r (evo rfl)) ?_
  refine oa rfl ?_
  refine on ?_
  refine a_ret ?_
  exact fin_p rfl ⟨boolEq (by first | (simp_all; done) | (simp_all; omega)), rfl, rfl⟩
 have h1r := h1
 try simp only [nq, nr] at h1
 refine op_v' (j_unwantV rfl rfl h1r) ?_
 refine op_v' (j_unwantV rfl rfl h1r) ?_
 refine op_v' (j_unwantV rfl rfl h1r) ?_
 refine op_v' (j_pick_f rfl h1r (evo rfl)) ?_
 refine om rfl ?_
 refine op_v' (j_unwantV rfl rfl rfl) ?_
 refine op_v' (j_unwantV rfl rfl rfl) ?_
 refine op_v' (j_pick_f rfl rfl (evo rfl)) ?_
 refine oa rfl ?_
 refine on ?_
 refine a_ret ?_
 exact fin_p rfl ⟨boolEq (by first | (simp_all; done) | (simp_all; omega)), rfl, rfl⟩
theorem f_listImpl (l : List Con) (vs : List Int) (fu : Int) : Fn Tryz.prog 26 [.sl (l.map dC), .sl (vs.map dI), .p (.int .i64 (fu))] [] (fun rr ii nn => rr = .tup [.p (.int .i64 (lsV l vs fu).1), .sl ((lsV l vs fu).2.1.map dD), .sl ((lsV l vs fu).2.2.map dSt)] ∧ ii = [] ∧ nn = []) := by
 refine fn_of Tryz.func26 rfl (Nat.le_of_ble_eq_true rfl) fun w X g => ?_
 show AWp _ _ _ ⟨[(0, .sl (l.map dC)), (1, .sl (vs.map dI)), (2, .p (.int .i64 (fu)))], []⟩
 refine rs ?_
 refine oa rfl ?_
 refine oa rfl ?_
 refine oa rfl ?_
 refine on ?_
 refine a_seq ?_
 refine rs ?_
 refine om rfl ?_
 refine om rfl ?_
 refine op_v0' (j_call0 (v := .p _) (hp1 := []) [] false [] ent56 (f_listable l vs) ⟨.inl ⟨rfl, rfl⟩, .inl ⟨rfl, rfl⟩, trivial⟩ trivial rfl rfl (fun h => by cases h) rfl (fun _ h => by cases h) (.inl rfl) rfl rfl) ?_
 refine op_v' (j_not rfl) ?_
 refine om rfl ?_
 refine op_split' 18 rfl (fun h1 => ?_) (fun h1 => ?_)
 ·
  have h1r := h1
  try simp only [nq, nr, nl] at h1
  refine op_v' (j_unwantV rfl rfl h1r) ?_
  refine op_v' (j_unwantV rfl rfl h1r) ?_
  refine op_v' (j_unwantV rfl rfl h1r) ?_
  refine op_v' (j_pick_t rfl h1r (evo rfl)) ?_
  refine on ?_
  refine a_tt rfl ?_
  refine rs ?_
  refine oa rfl ?_
  refine oa rfl ?_
  refine oa rfl ?_
  refine on ?_
  refine a_nil 7 rfl ?_
  refine a_nil 8 rfl ?_
  refine a_ret ?_
  have hb : lsOk l vs fu = false := (by unfold lsOk; first | (simp_all; done) | (simp_all; omega))
  exact ⟨[.p _, .sl _, .sl _], .tup [.p _, .sl _, .sl _], [], [], [], ⟨rfl, rfl, rfl, trivial⟩, rfl, rfl, trivial, rfl, rfl, ⟨by rw [ls_bad hb]; try rfl, rfl, rfl⟩⟩
 have h1r := h1
 try simp only [nq, nr, nl] at h1
 refine op_v' (j_want rfl rfl h1r (j_move (evo rfl))) ?_
 refine op_v0' (j_want rfl rfl h1r (j_call0 (v := .p _) (hp1 := []) [] false [] ent73 (f_isFuel fu) ⟨.inl ⟨rfl, rfl⟩, trivial⟩ trivial rfl rfl (fun h => by cases h) rfl (fun _ h => by cases h) (.inl rfl) rfl rfl)) ?_
 refine op_v' (j_want rfl rfl h1r (j_not rfl)) ?_
 refine op_v' (j_pick_f rfl h1r (evo rfl)) ?_
 refine on ?_
 refine ac rfl (fun h2 => ?_) fun h2 => ?_
 ·
  have h2r := h2
  try simp only [nq, nr, nl] at h2
  refine rs ?_
  refine oa rfl ?_
  refine oa rfl ?_
  refine oa rfl ?_
  refine on ?_
  refine a_nil 7 rfl ?_
  refine a_nil 8 rfl ?_
  refine a_ret ?_
  have hb : lsOk l vs fu = false := (by unfold lsOk; first | (simp_all; done) | (simp_all; omega))
  exact ⟨[.p _, .sl _, .sl _], .tup [.p _, .sl _, .sl _], [], [], [], ⟨rfl, rfl, rfl, trivial⟩, rfl, rfl, trivial, rfl, rfl, ⟨by rw [ls_bad hb]; try rfl, rfl, rfl⟩⟩
 have h2r := h2
 try simp only [nq, nr, nl] at h2
 refine a_skip ?_
 refine a_seq ?_
 have hok : lsOk l vs fu = true := (by unfold lsOk; first | (simp_all; done) | (simp_all; omega))
 have hpt := lsOk_parts hok
 have hls := ls_start hok
 have hln := pOk_len hpt.1
 refine ar ?_
 refine om rfl ?_
 refine op_n1' (fun ver => j_call1 (v := .own 24 ver) (hp1 := [(24, some (ver, .row 69 2 _))]) [] false [] ent57 (f_cloneC l (by omega)) ⟨.inl ⟨rfl, rfl⟩, trivial⟩ trivial rfl rfl rfl (fun h => by cases h) rfl (List.all_eq_true.1 rfl) (.inl rfl) rfl rfl) fun v24x1 => ?_
 refine oa rfl ?_
 refine on ?_
 refine rs ?_
 refine oa rfl ?_
 refine on ?_
 refine a_adopt' 10 10 44 1 rfl fun v10 => ?_
 refine a_block ?_
 refine a_loopF' (ι := Nat × List Con × List (List Bool) × Nat × Nat) (fun x => lsI l vs fu x.1 x.2.1 x.2.2.1) (fun x r => (9, .own 24 x.2.2.2.1) :: (10, .own 10 x.2.2.2.2) :: r) (fun x r => (24, some (x.2.2.2.1, .row 69 2 ((x.2.1).map dC))) :: (10, some (x.2.2.2.2, .row 44 1 ((x.2.2.1).map dD))) :: r) (fun x => x.1) (fun _ _ => rfl) (fun _ _ => rfl) (64, l, [], v24x1, v10) (by first | exact hls | (dsimp only; exact hls)) ⟨⟨rfl, rfl⟩, ⟨rfl, rfl, trivial⟩, ⟨rfl, rfl, trivial⟩, ⟨rfl, rfl⟩, ⟨rfl, rfl⟩⟩ ?_
 rintro ⟨n, L, f, v1, v2⟩ hi; dsimp only at hi ⊢
 refine a_block ?_
 refine a_seq ?_
 have hsv := ls_sv hok hi
 have hcs := svC_cases hsv
 have hLl := hi.2.2.1
 have hfl := hi.2.1
 refine ar ?_
 refine om rfl ?_
 refine om rfl ?_
 refine op_v0' (j_call0 (v := .tup [.p _, .sl _, .sl _]) (hp1 := [(24, some (v1, .row 69 2 _))]) [(24, v1)] false [24] ent74 (f_solveImplO L fu) ⟨.inl ⟨rfl, rfl⟩, .inl ⟨rfl, rfl⟩, trivial⟩ ⟨⟨rfl, rfl⟩, trivial⟩ rfl rfl (fun h => by cases h) rfl (List.all_eq_true.1 rfl) (.inl rfl) rfl rfl) ?_
 refine om rfl ?_
 refine op_v' (j_extract rfl rfl) ?_
 refine op_v' (j_extract rfl rfl) ?_
 refine op_v' (j_extract rfl rfl) ?_
 refine oa rfl ?_
 refine oa rfl ?_
 refine oa rfl ?_
 refine on ?_
 refine a_seq ?_
 refine a_block ?_
 refine rs ?_
 refine om rfl ?_
 refine op_v' (j_eq rfl rfl) ?_
 refine oa rfl ?_
 refine on ?_
 refine ac rfl (fun h3 => ?_) fun h3 => ?_
 ·
  have h3r := h3
  try simp only [nq, nr, nl] at h3
  refine rs ?_
  refine om rfl ?_
  refine om rfl ?_
  refine oa rfl ?_
  refine oa rfl ?_
  refine oa rfl ?_
  refine on ?_
  refine a_freeze' 7 (noA _ _ _ _ _) rfl rfl ?_
  refine a_ret ?_
  have hu := ls_uns hi (by assumption)
  exact ⟨[.p _, .sl _, .sl _], .tup [.p _, .sl _, .sl _], [], [], [], ⟨rfl, rfl, rfl, trivial⟩, rfl, rfl, trivial, rfl, rfl, ⟨by rw [hu]; try rfl, rfl, rfl⟩⟩
 have h3r := h3
 try simp only [nq, nr, nl] at h3
 refine rs ?_
 refine om rfl ?_
 refine op_v' (j_ne rfl rfl) ?_
 refine om rfl ?_
 refine op_split' 40 rfl (fun h4 => ?_) (fun h4 => ?_)
 ·
  have h4r := h4
  try simp only [nq, nr, nl] at h4
  refine op_v' (j_unwantV rfl rfl h4r) ?_
  refine op_v' (j_unwantV rfl rfl h4r) ?_
  refine op_v' (j_unwantV rfl rfl h4r) ?_
  refine op_v' (j_pick_t rfl h4r (evo rfl)) ?_
  refine oa rfl ?_
  refine on ?_
  refine a_tt rfl ?_
  refine rs ?_
  refine oa rfl ?_
  refine oa rfl ?_
  refine oa rfl ?_
  refine on ?_
  refine a_nil 7 rfl ?_
  refine a_nil 8 rfl ?_
  refine a_ret ?_
  have hst := ls_stop hi (by omega) (by omega)
  exact ⟨[.p _, .sl _, .sl _], .tup [.p _, .sl _, .sl _], [], [], [], ⟨rfl, rfl, rfl, trivial⟩, rfl, rfl, trivial, rfl, rfl, ⟨by rw [hst]; try rfl, rfl, rfl⟩⟩
 have h4r := h4
 try simp only [nq, nr, nl] at h4
 refine op_v' (j_want rfl rfl h4r (j_move (evo rfl))) ?_
 refine op_v' (j_want rfl rfl h4r (j_len_own_map Tryz.underlying24 rfl rfl)) ?_
 refine op_v' (j_want rfl rfl h4r (j_eq rfl rfl)) ?_
 refine op_v' (j_pick_f rfl h4r (evo rfl)) ?_
 refine oa rfl ?_
 refine on ?_
 refine ac rfl (fun h5 => ?_) fun h5 => ?_
 ·
  have h5r := h5
  try simp only [nq, nr, nl] at h5
  refine rs ?_
  refine oa rfl ?_
  refine oa rfl ?_
  refine oa rfl ?_
  refine on ?_
  refine a_nil 7 rfl ?_
  refine a_nil 8 rfl ?_
  refine a_ret ?_
  have hst := ls_stop hi (by omega) (by omega)
  exact ⟨[.p _, .sl _, .sl _], .tup [.p _, .sl _, .sl _], [], [], [], ⟨rfl, rfl, rfl, trivial⟩, rfl, rfl, trivial, rfl, rfl, ⟨by rw [hst]; try rfl, rfl, rfl⟩⟩
 have h5r := h5
 try simp only [nq, nr, nl] at h5
 refine a_skip ?_
 refine a_seq ?_
 have hc1 : svC L fu = 1 := by omega
 have hva := ls_val hsv hc1
 have hnx := ls_next hok hi (by omega) (by omega)
 refine ar ?_
 refine om rfl ?_
 refine om rfl ?_
 refine op_n' (fun ver => j_buildSlice (parts := [(0, .tmp 46)]) (es := [[_]]) slt24 elt44 rfl rfl (by decide) (by decide) rfl rfl (by simp) rfl) fun v47x2 => ?_
 refine op_n' (fun ver => j_append_own slt24 elt44 rfl rfl rfl rfl rfl rfl (by rw [maxLen_eq]; first | omega | (simp only [nr, nl]; omega)) (by first | omega | (simp only [nr, nl]; omega))) fun v10x3 => ?_
 refine oa rfl ?_
 refine on ?_
 refine ar ?_
 refine om rfl ?_
 refine om rfl ?_
 refine om rfl ?_
 refine op_v0' (j_call0 (v := .agg [.sl _, .p _]) (hp1 := []) [] false [] ent59 (f_exclImplF vs (svV L fu) hpt.2.2.1 hva.1) ⟨.inl ⟨rfl, rfl⟩, .inl ⟨rfl, rfl⟩, trivial⟩ trivial rfl rfl (fun h => by cases h) rfl (fun _ h => by cases h) (.inl rfl) rfl rfl) ?_
 refine op_n' (fun ver => j_buildSlice (parts := [(0, .tmp 52)]) (es := [[_, _]]) slt30 elt69 rfl rfl (by decide) (by decide) rfl rfl (by simp) rfl) fun v53x4 => ?_
 refine op_n' (fun ver => j_append_own slt30 elt69 rfl rfl rfl rfl rfl rfl (by rw [maxLen_eq]; first | omega | (simp only [nr, nl]; omega)) (by first | omega | (simp only [nr, nl]; omega))) fun v24x5 => ?_
 refine oa rfl ?_
 refine on ?_
 exact ⟨(n - 1, L ++ [lsX vs (svV L fu)], f ++ [svV L fu], v24x5, v10x3), (by first | exact hnx.2 | (dsimp only; exact hnx.2)), ⟨⟨rfl, rfl⟩, ⟨rfl, rfl, trivial⟩, ⟨rowEq (by dsimp only; rw [List.map_append]; rfl), rowEq (by dsimp only; rw [List.map_append]; rfl), trivial⟩, ⟨rfl, rfl⟩, ⟨rfl, rfl⟩⟩, (by first | exact (by have := hnx.1; dsimp only; omega) | (dsimp only; exact (by have := hnx.1; dsimp only; omega)))⟩
theorem f_listSpec (l : List Con) (vs : List Int) (fu : Int) : Fn Tryz.prog 27 [.sl (l.map dC), .sl (vs.map dI), .p (.int .i64 (fu))] [] (fun rr ii nn => rr = .tup [.p (.int .i64 (lsV l vs fu).1), .sl ((lsV l vs fu).2.1.map dD), .sl ((lsV l vs fu).2.2.map dSt)] ∧ ii = [] ∧ nn = []) := by
 refine fn_of Tryz.func27 rfl (Nat.le_of_ble_eq_true rfl) fun w X g => ?_
 show AWp _ _ _ ⟨[(0, .sl (l.map dC)), (1, .sl (vs.map dI)), (2, .p (.int .i64 (fu)))], []⟩
 refine rs ?_
 refine oa rfl ?_
 refine oa rfl ?_
 refine oa rfl ?_
 refine on ?_
 refine a_seq ?_
 refine rs ?_
 refine om rfl ?_
 refine op_v0' (j_call0 (v := .p _) (hp1 := []) [] false [] ent48 (f_pvSpec l) ⟨.inl ⟨rfl, rfl⟩, trivial⟩ trivial rfl rfl (fun h => by cases h) rfl (fun _ h => by cases h) (.inl rfl) rfl rfl) ?_
 refine op_v' (j_not rfl) ?_
 refine om rfl ?_
 refine op_split' 17 rfl (fun h1 => ?_) (fun h1 => ?_)
 ·
  have h1r := h1
  try simp only [nq, nr, nl] at h1
  refine op_v' (j_unwantV rfl rfl h1r) ?_
  refine op_v' (j_unwantV rfl rfl h1r) ?_
  refine op_v' (j_unwantV rfl rfl h1r) ?_
  refine op_v' (j_pick_t rfl h1r (evo rfl)) ?_
  refine om rfl ?_
  refine op_v' (j_unwantV rfl rfl rfl) ?_
  refine op_v' (j_unwantV rfl rfl rfl) ?_
  refine op_v' (j_pick_t rfl rfl (evo rfl)) ?_
  refine om rfl ?_
  refine op_v' (j_unwantV rfl rfl rfl) ?_
  refine op_v' (j_unwantV rfl rfl rfl) ?_
  refine op_v' (j_pick_t rfl rfl (evo rfl)) ?_
  refine om rfl ?_
  refine op_v' (j_unwantV rfl rfl rfl) ?_
  refine op_v' (j_unwantV rfl rfl rfl) ?_
  try have hln0 := pOk_len (show pOk l = true by assumption)
  refine op_v' (j_unwantV rfl rfl rfl) ?_
  refine op_v' (j_unwantV rfl rfl rfl) ?_
  refine op_v' (j_pick_t rfl rfl (evo rfl)) ?_
  refine on ?_
  refine a_tt rfl ?_
  refine rs ?_
  refine op_n' (fun ver => j_buildSlice (parts := []) (es := []) slt24 elt44 rfl rfl (by decide) (by decide) rfl rfl (by simp) rfl) fun v36x1 => ?_
  refine op_n' (fun ver => j_buildSlice (parts := []) (es := []) slt34 elt89 rfl rfl (by decide) (by decide) rfl rfl (by simp) rfl) fun v37x2 => ?_
  refine oa rfl ?_
  refine oa rfl ?_
  refine oa rfl ?_
  refine on ?_
  refine a_freeze' 7 (noA _ _ _ _ _) rfl rfl ?_
  refine a_freeze' 8 (noA _ _ _ _ _) rfl rfl ?_
  refine a_ret ?_
  have hb : lsOk l vs fu = false := (by unfold lsOk; first | (simp_all; done) | (simp_all; omega))
  exact ⟨[.p _, .sl _, .sl _], .tup [.p _, .sl _, .sl _], [], [], [], ⟨rfl, rfl, rfl, trivial⟩, rfl, rfl, trivial, rfl, rfl, ⟨by rw [ls_bad hb]; try rfl, rfl, rfl⟩⟩
 have h1r := h1
 try simp only [nq, nr, nl] at h1
 refine op_v' (j_want rfl rfl h1r (j_move (evo rfl))) ?_
 refine op_v0' (j_want rfl rfl h1r (j_call0 (v := .p _) (hp1 := []) [] false [] ent49 (f_l14Vars vs) ⟨.inl ⟨rfl, rfl⟩, trivial⟩ trivial rfl rfl (fun h => by cases h) rfl (fun _ h => by cases h) (.inl rfl) rfl rfl)) ?_
 refine op_v' (j_want rfl rfl h1r (j_not rfl)) ?_
 refine op_v' (j_pick_f rfl h1r (evo rfl)) ?_
 refine om rfl ?_
 refine op_split' 22 rfl (fun h2 => ?_) (fun h2 => ?_)
 ·
  have h2r := h2
  try simp only [nq, nr, nl] at h2
  refine op_v' (j_unwantV rfl rfl h2r) ?_
  refine op_v' (j_unwantV rfl rfl h2r) ?_
  refine op_v' (j_pick_t rfl h2r (evo rfl)) ?_
  refine om rfl ?_
  refine op_v' (j_unwantV rfl rfl rfl) ?_
  refine op_v' (j_unwantV rfl rfl rfl) ?_
  refine op_v' (j_pick_t rfl rfl (evo rfl)) ?_
  refine om rfl ?_
  refine op_v' (j_unwantV rfl rfl rfl) ?_
  refine op_v' (j_unwantV rfl rfl rfl) ?_
  try have hln0 := pOk_len (show pOk l = true by assumption)
  refine op_v' (j_unwantV rfl rfl rfl) ?_
  refine op_v' (j_unwantV rfl rfl rfl) ?_
  refine op_v' (j_pick_t rfl rfl (evo rfl)) ?_
  refine on ?_
  refine a_tt rfl ?_
  refine rs ?_
  refine op_n' (fun ver => j_buildSlice (parts := []) (es := []) slt24 elt44 rfl rfl (by decide) (by decide) rfl rfl (by simp) rfl) fun v36x3 => ?_
  refine op_n' (fun ver => j_buildSlice (parts := []) (es := []) slt34 elt89 rfl rfl (by decide) (by decide) rfl rfl (by simp) rfl) fun v37x4 => ?_
  refine oa rfl ?_
  refine oa rfl ?_
  refine oa rfl ?_
  refine on ?_
  refine a_freeze' 7 (noA _ _ _ _ _) rfl rfl ?_
  refine a_freeze' 8 (noA _ _ _ _ _) rfl rfl ?_
  refine a_ret ?_
  have hb : lsOk l vs fu = false := (by unfold lsOk; first | (simp_all; done) | (simp_all; omega))
  exact ⟨[.p _, .sl _, .sl _], .tup [.p _, .sl _, .sl _], [], [], [], ⟨rfl, rfl, rfl, trivial⟩, rfl, rfl, trivial, rfl, rfl, ⟨by rw [ls_bad hb]; try rfl, rfl, rfl⟩⟩
 have h2r := h2
 try simp only [nq, nr, nl] at h2
 refine op_v' (j_want rfl rfl h2r (j_move (evo rfl))) ?_
 refine op_v' (j_want rfl rfl h2r (j_lt rfl rfl)) ?_
 refine op_v' (j_pick_f rfl h2r (evo rfl)) ?_
 refine om rfl ?_
 refine op_split' 26 rfl (fun h3 => ?_) (fun h3 => ?_)
 ·
  have h3r := h3
  try simp only [nq, nr, nl] at h3
  refine op_v' (j_unwantV rfl rfl h3r) ?_
  refine op_v' (j_unwantV rfl rfl h3r) ?_
  refine op_v' (j_pick_t rfl h3r (evo rfl)) ?_
  refine om rfl ?_
  refine op_v' (j_unwantV rfl rfl rfl) ?_
  refine op_v' (j_unwantV rfl rfl rfl) ?_
  try have hln0 := pOk_len (show pOk l = true by assumption)
  refine op_v' (j_unwantV rfl rfl rfl) ?_
  refine op_v' (j_unwantV rfl rfl rfl) ?_
  refine op_v' (j_pick_t rfl rfl (evo rfl)) ?_
  refine on ?_
  refine a_tt rfl ?_
  refine rs ?_
  refine op_n' (fun ver => j_buildSlice (parts := []) (es := []) slt24 elt44 rfl rfl (by decide) (by decide) rfl rfl (by simp) rfl) fun v36x5 => ?_
  refine op_n' (fun ver => j_buildSlice (parts := []) (es := []) slt34 elt89 rfl rfl (by decide) (by decide) rfl rfl (by simp) rfl) fun v37x6 => ?_
  refine oa rfl ?_
  refine oa rfl ?_
  refine oa rfl ?_
  refine on ?_
  refine a_freeze' 7 (noA _ _ _ _ _) rfl rfl ?_
  refine a_freeze' 8 (noA _ _ _ _ _) rfl rfl ?_
  refine a_ret ?_
  have hb : lsOk l vs fu = false := (by unfold lsOk; first | (simp_all; done) | (simp_all; omega))
  exact ⟨[.p _, .sl _, .sl _], .tup [.p _, .sl _, .sl _], [], [], [], ⟨rfl, rfl, rfl, trivial⟩, rfl, rfl, trivial, rfl, rfl, ⟨by rw [ls_bad hb]; try rfl, rfl, rfl⟩⟩
 have h3r := h3
 try simp only [nq, nr, nl] at h3
 refine op_v' (j_want rfl rfl h3r (j_move (evo rfl))) ?_
 refine op_v' (j_want rfl rfl h3r (j_gt rfl rfl)) ?_
 refine op_v' (j_pick_f rfl h3r (evo rfl)) ?_
 refine om rfl ?_
 refine op_split' 30 rfl (fun h4 => ?_) (fun h4 => ?_)
 ·
  have h4r := h4
  try simp only [nq, nr, nl] at h4
  refine op_v' (j_unwantV rfl rfl h4r) ?_
  refine op_v' (j_unwantV rfl rfl h4r) ?_
  try have hln0 := pOk_len (show pOk l = true by assumption)
  refine op_v' (j_unwantV rfl rfl h4r) ?_
  refine op_v' (j_unwantV rfl rfl h4r) ?_
  refine op_v' (j_pick_t rfl h4r (evo rfl)) ?_
  refine on ?_
  refine a_tt rfl ?_
  refine rs ?_
  refine op_n' (fun ver => j_buildSlice (parts := []) (es := []) slt24 elt44 rfl rfl (by decide) (by decide) rfl rfl (by simp) rfl) fun v36x7 => ?_
  refine op_n' (fun ver => j_buildSlice (parts := []) (es := []) slt34 elt89 rfl rfl (by decide) (by decide) rfl rfl (by simp) rfl) fun v37x8 => ?_
  refine oa rfl ?_
  refine oa rfl ?_
  refine oa rfl ?_
  refine on ?_
  refine a_freeze' 7 (noA _ _ _ _ _) rfl rfl ?_
  refine a_freeze' 8 (noA _ _ _ _ _) rfl rfl ?_
  refine a_ret ?_
  have hb : lsOk l vs fu = false := (by unfold lsOk; first | (simp_all; done) | (simp_all; omega))
  exact ⟨[.p _, .sl _, .sl _], .tup [.p _, .sl _, .sl _], [], [], [], ⟨rfl, rfl, rfl, trivial⟩, rfl, rfl, trivial, rfl, rfl, ⟨by rw [ls_bad hb]; try rfl, rfl, rfl⟩⟩
 have h4r := h4
 try simp only [nq, nr, nl] at h4
 refine op_v' (j_want rfl rfl h4r (j_move (evo rfl))) ?_
 refine op_v' (j_want rfl rfl h4r (j_len_map Tryz.underlying30 rfl)) ?_
 try have hln0 := pOk_len (show pOk l = true by assumption)
 refine op_v' (j_want rfl rfl h4r (j_add rfl rfl (by first | omega | (simp only [nr, nl]; omega)) (by first | omega | (simp only [nr, nl]; omega)))) ?_
 refine op_v' (j_want rfl rfl h4r (j_gt rfl rfl)) ?_
 refine op_v' (j_pick_f rfl h4r (evo rfl)) ?_
 refine on ?_
 refine ac rfl (fun h5 => ?_) fun h5 => ?_
 ·
  have h5r := h5
  try simp only [nq, nr, nl] at h5
  refine rs ?_
  refine op_n' (fun ver => j_buildSlice (parts := []) (es := []) slt24 elt44 rfl rfl (by decide) (by decide) rfl rfl (by simp) rfl) fun v36x9 => ?_
  refine op_n' (fun ver => j_buildSlice (parts := []) (es := []) slt34 elt89 rfl rfl (by decide) (by decide) rfl rfl (by simp) rfl) fun v37x10 => ?_
  refine oa rfl ?_
  refine oa rfl ?_
  refine oa rfl ?_
  refine on ?_
  refine a_freeze' 7 (noA _ _ _ _ _) rfl rfl ?_
  refine a_freeze' 8 (noA _ _ _ _ _) rfl rfl ?_
  refine a_ret ?_
  have hb : lsOk l vs fu = false := (by unfold lsOk; first | (simp_all; done) | (simp_all; omega))
  exact ⟨[.p _, .sl _, .sl _], .tup [.p _, .sl _, .sl _], [], [], [], ⟨rfl, rfl, rfl, trivial⟩, rfl, rfl, trivial, rfl, rfl, ⟨by rw [ls_bad hb]; try rfl, rfl, rfl⟩⟩
 have h5r := h5
 try simp only [nq, nr, nl] at h5
 refine a_skip ?_
 refine a_seq ?_
 have hok : lsOk l vs fu = true := (by unfold lsOk; first | (simp_all; done) | (simp_all; omega))
 have hpt := lsOk_parts hok
 have hls := ls_start hok
 have hln := pOk_len hpt.1
 refine ar ?_
 refine op_n' (fun ver => j_buildSlice (parts := []) (es := []) slt24 elt44 rfl rfl (by decide) (by decide) rfl rfl (by simp) rfl) fun v38x11 => ?_
 refine oa rfl ?_
 refine on ?_
 refine rs ?_
 refine op_n' (fun ver => j_buildSlice (parts := []) (es := []) slt30 elt69 rfl rfl (by decide) (by decide) rfl rfl (by simp) rfl) fun v39x12 => ?_
 refine om rfl ?_
 refine op_n' (fun ver => j_append_sl slt30 elt69 rfl rfl rfl rfl (by intro x hx; obtain ⟨t, _, rfl⟩ := List.mem_map.1 hx; rfl) (all_lf_dC l) (by rw [maxLen_eq]; first | omega | (simp only [nr, nl]; omega)) (by first | omega | (simp only [nr, nl]; omega))) fun v39x13 => ?_
 refine oa rfl ?_
 refine on ?_
 refine a_block ?_
 refine a_loopF' (ι := Nat × List Con × List (List Bool) × Nat × Nat) (fun x => lsI l vs fu x.1 x.2.1 x.2.2.1) (fun x r => (10, .own 39 x.2.2.2.1) :: (9, .own 38 x.2.2.2.2) :: r) (fun x r => (39, some (x.2.2.2.1, .row 69 2 ((x.2.1).map dC))) :: (38, some (x.2.2.2.2, .row 44 1 ((x.2.2.1).map dD))) :: r) (fun x => x.1) (fun _ _ => rfl) (fun _ _ => rfl) (64, l, [], v39x13, v38x11) (by first | exact hls | (dsimp only; exact hls)) ⟨⟨rfl, rfl⟩, ⟨rfl, rfl, trivial⟩, ⟨rfl, rfl, trivial⟩, ⟨rfl, rfl⟩, ⟨rfl, rfl⟩⟩ ?_
 rintro ⟨n, L, f, v1, v2⟩ hi; dsimp only at hi ⊢
 refine a_block ?_
 refine a_seq ?_
 have hsv := ls_sv hok hi
 have hcs := svC_cases hsv
 have hLl := hi.2.2.1
 have hfl := hi.2.1
 refine ar ?_
 refine om rfl ?_
 refine om rfl ?_
 refine op_v0' (j_call0 (v := .tup [.p _, .sl _, .sl _]) (hp1 := [(39, some (v1, .row 69 2 _))]) [(39, v1)] false [39] ent75 (f_solveSpecO L fu) ⟨.inl ⟨rfl, rfl⟩, .inl ⟨rfl, rfl⟩, trivial⟩ ⟨⟨rfl, rfl⟩, trivial⟩ rfl rfl (fun h => by cases h) rfl (List.all_eq_true.1 rfl) (.inl rfl) rfl rfl) ?_
 refine om rfl ?_
 refine op_v' (j_extract rfl rfl) ?_
 refine op_v' (j_extract rfl rfl) ?_
 refine op_v' (j_extract rfl rfl) ?_
 refine oa rfl ?_
 refine oa rfl ?_
 refine oa rfl ?_
 refine on ?_
 refine a_seq ?_
 refine rs ?_
 refine om rfl ?_
 refine op_v' (j_eq rfl rfl) ?_
 refine on ?_
 refine ac rfl (fun h6 => ?_) fun h6 => ?_
 ·
  have h6r := h6
  try simp only [nq, nr, nl] at h6
  refine rs ?_
  refine om rfl ?_
  refine om rfl ?_
  refine oa rfl ?_
  refine oa rfl ?_
  refine oa rfl ?_
  refine on ?_
  refine a_freeze' 7 (noA _ _ _ _ _) rfl rfl ?_
  refine a_ret ?_
  have hu := ls_uns hi (by assumption)
  exact ⟨[.p _, .sl _, .sl _], .tup [.p _, .sl _, .sl _], [], [], [], ⟨rfl, rfl, rfl, trivial⟩, rfl, rfl, trivial, rfl, rfl, ⟨by rw [hu]; try rfl, rfl, rfl⟩⟩
 have h6r := h6
 try simp only [nq, nr, nl] at h6
 refine a_skip ?_
 refine a_seq ?_
 refine rs ?_
 refine om rfl ?_
 refine op_v' (j_eq rfl rfl) ?_
 refine om rfl ?_
 refine op_split' 55 rfl (fun h7 => ?_) (fun h7 => ?_)
 ·
  have h7r := h7
  try simp only [nq, nr, nl] at h7
  refine op_v' (j_unwantV rfl rfl h7r) ?_
  refine op_v' (j_unwantV rfl rfl h7r) ?_
  refine op_v' (j_unwantV rfl rfl h7r) ?_
  refine op_v' (j_pick_t rfl h7r (evo rfl)) ?_
  refine on ?_
  refine a_tt rfl ?_
  refine rs ?_
  refine op_n' (fun ver => j_buildSlice (parts := []) (es := []) slt24 elt44 rfl rfl (by decide) (by decide) rfl rfl (by simp) rfl) fun v60x14 => ?_
  refine op_n' (fun ver => j_buildSlice (parts := []) (es := []) slt34 elt89 rfl rfl (by decide) (by decide) rfl rfl (by simp) rfl) fun v61x15 => ?_
  refine oa rfl ?_
  refine oa rfl ?_
  refine oa rfl ?_
  refine on ?_
  refine a_freeze' 7 (noA _ _ _ _ _) rfl rfl ?_
  refine a_freeze' 8 (noA _ _ _ _ _) rfl rfl ?_
  refine a_ret ?_
  have hst := ls_stop hi (by omega) (by omega)
  exact ⟨[.p _, .sl _, .sl _], .tup [.p _, .sl _, .sl _], [], [], [], ⟨rfl, rfl, rfl, trivial⟩, rfl, rfl, trivial, rfl, rfl, ⟨by rw [hst]; try rfl, rfl, rfl⟩⟩
 have h7r := h7
 try simp only [nq, nr, nl] at h7
 refine op_v' (j_want rfl rfl h7r (j_move (evo rfl))) ?_
 refine op_v' (j_want rfl rfl h7r (j_len_own_map Tryz.underlying24 rfl rfl)) ?_
 refine op_v' (j_want rfl rfl h7r (j_eq rfl rfl)) ?_
 refine op_v' (j_pick_f rfl h7r (evo rfl)) ?_
 refine on ?_
 refine ac rfl (fun h8 => ?_) fun h8 => ?_
 ·
  have h8r := h8
  try simp only [nq, nr, nl] at h8
  refine rs ?_
  refine op_n' (fun ver => j_buildSlice (parts := []) (es := []) slt24 elt44 rfl rfl (by decide) (by decide) rfl rfl (by simp) rfl) fun v60x16 => ?_
  refine op_n' (fun ver => j_buildSlice (parts := []) (es := []) slt34 elt89 rfl rfl (by decide) (by decide) rfl rfl (by simp) rfl) fun v61x17 => ?_
  refine oa rfl ?_
  refine oa rfl ?_
  refine oa rfl ?_
  refine on ?_
  refine a_freeze' 7 (noA _ _ _ _ _) rfl rfl ?_
  refine a_freeze' 8 (noA _ _ _ _ _) rfl rfl ?_
  refine a_ret ?_
  have hst := ls_stop hi (by omega) (by omega)
  exact ⟨[.p _, .sl _, .sl _], .tup [.p _, .sl _, .sl _], [], [], [], ⟨rfl, rfl, rfl, trivial⟩, rfl, rfl, trivial, rfl, rfl, ⟨by rw [hst]; try rfl, rfl, rfl⟩⟩
 have h8r := h8
 try simp only [nq, nr, nl] at h8
 refine a_skip ?_
 refine a_seq ?_
 have hc1 : svC L fu = 1 := by omega
 have hva := ls_val hsv hc1
 have hnx := ls_next hok hi (by omega) (by omega)
 refine ar ?_
 refine om rfl ?_
 refine om rfl ?_
 refine op_n' (fun ver => j_buildSlice (parts := [(0, .tmp 63)]) (es := [[_]]) slt24 elt44 rfl rfl (by decide) (by decide) rfl rfl (by simp) rfl) fun v64x18 => ?_
 refine op_n' (fun ver => j_append_own slt24 elt44 rfl rfl rfl rfl rfl rfl (by rw [maxLen_eq]; first | omega | (simp only [nr, nl]; omega)) (by first | omega | (simp only [nr, nl]; omega))) fun v38x19 => ?_
 refine oa rfl ?_
 refine on ?_
 refine ar ?_
 refine om rfl ?_
 refine om rfl ?_
 refine om rfl ?_
 refine op_v0' (j_call0 (v := .agg [.sl _, .p _]) (hp1 := []) [] false [] ent51 (f_exclSpecF vs (svV L fu) hpt.2.2.1 hva.1) ⟨.inl ⟨rfl, rfl⟩, .inl ⟨rfl, rfl⟩, trivial⟩ trivial rfl rfl (fun h => by cases h) rfl (fun _ h => by cases h) (.inl rfl) rfl rfl) ?_
 refine op_n' (fun ver => j_buildSlice (parts := [(0, .tmp 69)]) (es := [[_, _]]) slt30 elt69 rfl rfl (by decide) (by decide) rfl rfl (by simp) rfl) fun v70x20 => ?_
 refine op_n' (fun ver => j_append_own slt30 elt69 rfl rfl rfl rfl rfl rfl (by rw [maxLen_eq]; first | omega | (simp only [nr, nl]; omega)) (by first | omega | (simp only [nr, nl]; omega))) fun v39x21 => ?_
 refine oa rfl ?_
 refine on ?_
 exact ⟨(n - 1, L ++ [lsX vs (svV L fu)], f ++ [svV L fu], v39x21, v38x19), (by first | exact hnx.2 | (dsimp only; exact hnx.2)), ⟨⟨rfl, rfl⟩, ⟨rfl, rfl, trivial⟩, ⟨rowEq (by dsimp only; rw [List.map_append]; rfl), rowEq (by dsimp only; rw [List.map_append]; rfl), trivial⟩, ⟨rfl, rfl⟩, ⟨rfl, rfl⟩⟩, (by first | exact (by have := hnx.1; dsimp only; omega) | (dsimp only; exact (by have := hnx.1; dsimp only; omega)))⟩
end Go.Ab

/- Walks. -/
import Derived.Test.YtoodaakcfelaaaaGreatBase
import Derived.Test.YtoodaakcfelaaaaGreatSimp
import Derived.Test.YtoodaakcfelaaaaGreatWstight
import Derived.Test.YtoodaakcfelaaaaGreatVals
namespace Go.Ab
open Go.Proofs
set_option maxRecDepth 100000
set_option maxHeartbeats 8000000
set_option linter.unusedSimpArgs false
set_option linter.unusedVariables false
theorem f_pick (b : List Int) (p : Nat) (n : Int) (hb : okB b) (hp : p ≤ 1099511627776) : Fn Tryz.prog 67 [.ptr 0 0 0, .p (.int .i64 (n))] [.box 151 [.sl (b.map dU), .p (.int .i64 ((p : Nat) : Int))]] (fun rr ii nn => rr = .p (.int .i64 (pickV b p n)) ∧ ii = [.box 151 [.sl (b.map dU), .p (.int .i64 ((p + 1 : Nat) : Int))]] ∧ nn = []) := by
 refine fn_of Tryz.func67 rfl (Nat.le_of_ble_eq_true rfl) fun w X g => ?_
 show AWp _ _ _ ⟨[(0, .ptr 0 0 0), (1, .p (.int .i64 (n)))], [(0, some (0, .box 151 [.sl (b.map dU), .p (.int .i64 ((p : Nat) : Int))]))]⟩
 have hbl := hb.1
 refine rs ?_
 refine oa rfl ?_
 refine on ?_
 refine rs ?_
 refine om rfl ?_
 refine om rfl ?_
 refine op_v' (j_nil_ptr rfl rfl) ?_
 refine op_v' (j_fldp fld151f1 rfl rfl) ?_
 refine op_v' (j_load_box leaf3 rfl rfl rfl) ?_
 refine op_v' (j_add rfl rfl (by first | omega | (simp only [nr]; omega)) (by first | omega | (simp only [nr]; omega))) ?_
 refine op_v' (j_nil_ptr rfl rfl) ?_
 refine op_v' (j_fldp fld151f1 rfl rfl) ?_
 refine op_s' (j_store_box leaf3 rfl rfl (Nat.le_of_ble_eq_true rfl) (evo rfl) rfl) ?_
 refine on ?_
 refine a_seq ?_
 refine rs ?_
 refine om rfl ?_
 refine op_v' (j_lt rfl rfl) ?_
 refine om rfl ?_
 refine op_split' 17 rfl (fun h1 => ?_) (fun h1 => ?_)
 ·
  have h1r := h1
  try simp only [nq, nr] at h1
  refine op_v' (j_unwantV rfl rfl h1r) ?_
  refine op_v' (j_unwantV rfl rfl h1r) ?_
  refine op_v' (j_unwantV rfl rfl h1r) ?_
  refine op_v' (j_unwantV rfl rfl h1r) ?_
  refine op_v' (j_unwantV rfl rfl h1r) ?_
  refine op_v' (j_unwantV rfl rfl h1r) ?_
  refine op_v' (j_pick_t rfl h1r (evo rfl)) ?_
  refine on ?_
  refine a_tt rfl ?_
  refine rs ?_
  refine oa rfl ?_
  refine on ?_
  refine a_ret ?_
  exact ⟨[.p _], .p _, [.box 151 [.sl _, .p _]], [], [], ⟨rfl, trivial⟩, rfl, rfl, ⟨⟨rfl, rfl⟩, trivial⟩, rfl, rfl, ⟨intEq (by unfold pickV; rw [if_pos (by omega)]), rfl, rfl⟩⟩
 have h1r := h1
 try simp only [nq, nr] at h1
 refine op_v' (j_want rfl rfl h1r (j_move (evo rfl))) ?_
 refine op_v' (j_want rfl rfl h1r (j_nil_ptr rfl rfl)) ?_
 refine op_v' (j_want rfl rfl h1r (j_fldp fld151f0 rfl rfl)) ?_
 refine op_v' (j_want rfl rfl h1r (j_load_box leaf41 rfl rfl rfl)) ?_
 refine op_v' (j_want rfl rfl h1r (j_len_map Tryz.underlying41 rfl)) ?_
 refine op_v' (j_want rfl rfl h1r (j_eq rfl rfl)) ?_
 refine op_v' (j_pick_f rfl h1r (evo rfl)) ?_
 refine on ?_
 refine ac rfl (fun h2 => ?_) fun h2 => ?_
 ·
  have h2r := h2
  try simp only [nq, nr] at h2
  refine rs ?_
  refine oa rfl ?_
  refine on ?_
  refine a_ret ?_
  exact ⟨[.p _], .p _, [.box 151 [.sl _, .p _]], [], [], ⟨rfl, trivial⟩, rfl, rfl, ⟨⟨rfl, rfl⟩, trivial⟩, rfl, rfl, ⟨intEq (by unfold pickV; rw [if_pos (by omega)]), rfl, rfl⟩⟩
 have h2r := h2
 try simp only [nq, nr] at h2
 refine a_skip ?_
 refine a_seq ?_
 have hl0 : b.length ≠ 0 := by omega
 have hba := okB_at hb p
 refine ar ?_
 refine om rfl ?_
 refine op_v' (j_nil_ptr rfl rfl) ?_
 refine op_v' (j_fldp fld151f1 rfl rfl) ?_
 refine op_v' (j_load_box leaf3 rfl rfl rfl) ?_
 refine op_v' (j_sub rfl rfl (by first | omega | (simp only [nr]; omega)) (by first | omega | (simp only [nr]; omega))) ?_
 refine oa rfl ?_
 refine on ?_
 rw [Int.add_sub_cancel]
 refine a_seq ?_
 refine rs ?_
 refine om rfl ?_
 refine om rfl ?_
 refine op_v' (j_nil_ptr rfl rfl) ?_
 refine op_v' (j_fldp fld151f0 rfl rfl) ?_
 refine op_v' (j_load_box leaf41 rfl rfl rfl) ?_
 refine op_v' (j_len_map Tryz.underlying41 rfl) ?_
 refine op_v' (j_lt rfl rfl) ?_
 refine on ?_
 refine ac rfl (fun h3 => ?_) fun h3 => ?_
 ·
  have h3r := h3
  try simp only [nq, nr] at h3
  refine rs ?_
  refine om rfl ?_
  refine op_v' (j_nil_ptr rfl rfl) ?_
  refine op_v' (j_fldp fld151f0 rfl rfl) ?_
  refine op_v' (j_load_box leaf41 rfl rfl rfl) ?_
  refine om rfl ?_
  refine op_v' (j_elemN (n := p) slt41 rfl rfl (by first | omega | (simp only [nr]; omega)) (at_map (by first | omega | (simp only [nr]; omega))) rfl) ?_
  refine op_v' (j_load_el leaf5 rfl (at_map (by first | omega | (simp only [nr]; omega))) rfl) ?_
  refine op_v' (j_conv64 Tryz.underlying5 Tryz.underlying3 rfl (by first | omega | (simp only [nr]; omega))) ?_
  refine om rfl ?_
  refine op_v' (j_rem rfl rfl (by first | omega | (simp only [nr]; omega)) (by first | omega | (simp only [nr]; omega))) ?_
  refine oa rfl ?_
  refine on ?_
  refine a_ret ?_
  exact ⟨[.p _], .p _, [.box 151 [.sl _, .p _]], [], [], ⟨rfl, trivial⟩, rfl, rfl, ⟨⟨rfl, rfl⟩, trivial⟩, rfl, rfl, ⟨intEq (by unfold pickV; rw [if_neg (by omega), if_pos (by omega)]), rfl, rfl⟩⟩
 have h3r := h3
 try simp only [nq, nr] at h3
 refine a_skip ?_
 refine a_seq ?_
 refine a_draw mixed (by kernel_rfl) (by kernel_rfl) fun vf => ?_
 refine d_v' (j_move (evo rfl)) ?_
 refine d_v' (j_nil_ptr rfl rfl) ?_
 refine d_v' (j_fldp fld151f0 rfl rfl) ?_
 refine d_v' (j_load_box leaf41 rfl rfl rfl) ?_
 refine d_v' (j_move (evo rfl)) ?_
 refine d_v' (j_move (evo rfl)) ?_
 refine d_v' (j_nil_ptr rfl rfl) ?_
 refine d_v' (j_fldp fld151f0 rfl rfl) ?_
 refine d_v' (j_load_box leaf41 rfl rfl rfl) ?_
 refine d_v' (j_len_map Tryz.underlying41 rfl) ?_
 have hx1 := okB_at hb (p % b.length)
 have hx2 := okB_at hb ((p * 7 + 3) % b.length)
 have hx3 : 0 ≤ (p : Int) / (b.length : Int) := Int.ediv_nonneg (by omega) (by omega)
 have hx4 : (p : Int) / (b.length : Int) ≤ p := Int.ediv_le_self _ (by omega)
 have hx5 : p % b.length < b.length := Nat.mod_lt _ (by omega)
 have hx6 : (p * 7 + 3) % b.length < b.length := Nat.mod_lt _ (by omega)
 have hx7 := mix_bounds hb hp hl0
 refine d_v' (j_rem rfl rfl (by first | omega | (simp only [nr]; omega)) (by first | omega | (simp only [nr]; omega))) ?_
 refine d_v' (j_elemN (n := p % b.length) slt41 rfl rfl (by simp) (at_map (by first | omega | (simp only [nr]; omega))) rfl) ?_
 refine d_v' (j_load_el leaf5 rfl (at_map (by first | omega | (simp only [nr]; omega))) rfl) ?_
 refine d_v' (j_conv64 Tryz.underlying5 Tryz.underlying3 rfl (by first | omega | (simp only [nr]; omega))) ?_
 refine d_v' (j_mul rfl rfl (by first | omega | (simp only [nr]; omega)) (by first | omega | (simp only [nr]; omega))) ?_
 refine d_v' (j_move (evo rfl)) ?_
 refine d_v' (j_nil_ptr rfl rfl) ?_
 refine d_v' (j_fldp fld151f0 rfl rfl) ?_
 refine d_v' (j_load_box leaf41 rfl rfl rfl) ?_
 refine d_v' (j_move (evo rfl)) ?_
 refine d_v' (j_mul rfl rfl (by first | omega | (simp only [nr]; omega)) (by first | omega | (simp only [nr]; omega))) ?_
 refine d_v' (j_add rfl rfl (by first | omega | (simp only [nr]; omega)) (by first | omega | (simp only [nr]; omega))) ?_
 refine d_v' (j_move (evo rfl)) ?_
 refine d_v' (j_nil_ptr rfl rfl) ?_
 refine d_v' (j_fldp fld151f0 rfl rfl) ?_
 refine d_v' (j_load_box leaf41 rfl rfl rfl) ?_
 refine d_v' (j_len_map Tryz.underlying41 rfl) ?_
 refine d_v' (j_rem rfl rfl (by first | omega | (simp only [nr]; omega)) (by first | omega | (simp only [nr]; omega))) ?_
 refine d_v' (j_elemN (n := (p * 7 + 3) % b.length) slt41 rfl rfl (by simp) (at_map (by first | omega | (simp only [nr]; omega))) rfl) ?_
 refine d_v' (j_load_el leaf5 rfl (at_map (by first | omega | (simp only [nr]; omega))) rfl) ?_
 refine d_v' (j_conv64 Tryz.underlying5 Tryz.underlying3 rfl (by first | omega | (simp only [nr]; omega))) ?_
 refine d_v' (j_mul rfl rfl (by first | omega | (simp only [nr]; omega)) (by first | omega | (simp only [nr]; omega))) ?_
 refine d_v' (j_add rfl rfl (by first | omega | (simp only [nr]; omega)) (by first | omega | (simp only [nr]; omega))) ?_
 refine d_v' (j_move (evo rfl)) ?_
 refine d_v' (j_mul rfl rfl (by first | omega | (simp only [nr]; omega)) (by first | omega | (simp only [nr]; omega))) ?_
 refine d_v' (j_add rfl rfl (by first | omega | (simp only [nr]; omega)) (by first | omega | (simp only [nr]; omega))) ?_
 refine d_v' (j_move (evo rfl)) ?_
 refine d_v' (j_move (evo rfl)) ?_
 refine d_v' (j_nil_ptr rfl rfl) ?_
 refine d_v' (j_fldp fld151f0 rfl rfl) ?_
 refine d_v' (j_load_box leaf41 rfl rfl rfl) ?_
 refine d_v' (j_len_map Tryz.underlying41 rfl) ?_
 refine d_v' (j_quo rfl rfl (by first | omega | (simp only [nr]; omega)) (by first | omega | (simp only [nr]; omega)) (by first | omega | (simp only [nr]; omega))) ?_
 refine d_v' (j_mul rfl rfl (by first | omega | (simp only [nr]; omega)) (by first | omega | (simp only [nr]; omega))) ?_
 refine d_v' (j_add rfl rfl (by first | omega | (simp only [nr]; omega)) (by first | omega | (simp only [nr]; omega))) ?_
 refine d_v' (j_assign (evo rfl)) ?_
 refine d_nil (by kernel_rfl) (by kernel_rfl) ?_
 refine rs ?_
 refine om rfl ?_
 refine om rfl ?_
 refine op_v' (j_quo rfl rfl (by first | omega | (simp only [nr]; omega)) (by first | omega | (simp only [nr]; omega)) (by first | omega | (simp only [nr]; omega))) ?_
 refine op_v' (j_bits rfl rfl (fun w => run_xor (a := (mixI b p).toNat) (b := (mixI b p / 64).toNat) (by show mixI b p = _; omega) (by show mixI b p / 64 = _; omega) (by omega) (by omega) w)) ?_
 refine oa rfl ?_
 refine on ?_
 refine rs ?_
 refine om rfl ?_
 refine om rfl ?_
 refine op_v' (j_rem rfl rfl (by first | omega | (simp only [nr]; omega)) (by first | omega | (simp only [nr]; omega))) ?_
 refine oa rfl ?_
 refine on ?_
 refine a_ret ?_
 exact ⟨[.p _], .p _, [.box 151 [.sl _, .p _]], [], [], ⟨rfl, trivial⟩, rfl, rfl, ⟨⟨rfl, rfl⟩, trivial⟩, rfl, rfl, ⟨intEq (by unfold pickV; rw [if_neg (by omega), if_neg (by omega)]), rfl, rfl⟩⟩
theorem f_num (b : List Int) (p : Nat) (l : List Int) (hb : okB b) (hp : p ≤ 1099511627776) (hl : 0 < l.length) (hl2 : l.length ≤ 1048576) : Fn Tryz.prog 130 [.ptr 0 0 0, .own 1 0] [.box 151 [.sl (b.map dU), .p (.int .i64 ((p : Nat) : Int))], .row 3 1 (l.map dI)] (fun rr ii nn => rr = .p (.int .i64 (ofV b p l)) ∧ ii = [.box 151 [.sl (b.map dU), .p (.int .i64 ((p + 1 : Nat) : Int))], .row 3 1 (l.map dI)] ∧ nn = []) := by
 refine fn_of Tryz.func130 rfl (Nat.le_of_ble_eq_true rfl) fun w X g => ?_
 show AWp _ _ _ ⟨[(0, .ptr 0 0 0), (1, .own 1 0)], [(0, some (0, .box 151 [.sl (b.map dU), .p (.int .i64 ((p : Nat) : Int))])), (1, some (0, .row 3 1 (l.map dI)))]⟩
 have hlt := ofV_lt (b := b) (p := p) hl
 refine rs ?_
 refine oa rfl ?_
 refine on ?_
 refine rs ?_
 refine om rfl ?_
 refine om rfl ?_
 refine om rfl ?_
 refine op_v' (j_len_own_map Tryz.underlying23 rfl rfl) ?_
 refine op_v0' (j_call0 (v := .p _) (hp1 := [(0, some (0, .box 151 [.sl _, .p _]))]) [(0, 0)] false [0] ent67 (f_pick _ _ _ (by assumption) (by omega)) ⟨.inl ⟨rfl, rfl⟩, .inl ⟨rfl, rfl⟩, trivial⟩ ⟨⟨rfl, rfl⟩, trivial⟩ rfl rfl (fun h => by cases h) rfl (List.all_eq_true.1 rfl) (.inl rfl) rfl rfl) ?_
 refine op_v' (j_elem_ownN (n := (pickV b p (l.length : Nat)).toNat) slt23 rfl rfl rfl (by first | omega | (simp only [nr]; omega)) (by first | omega | (simp only [nr]; omega))) ?_
 refine op_v' (j_load_pel leaf3 rfl rfl (at_map (by first | omega | (simp only [nr]; omega))) rfl) ?_
 refine oa rfl ?_
 refine on ?_
 refine a_ret ?_
 exact ⟨[.p _], .p _, [.box 151 [.sl _, .p _], .row 3 1 _], [], [], ⟨rfl, trivial⟩, rfl, rfl, ⟨⟨rfl, rfl⟩, ⟨rfl, rfl⟩, trivial⟩, rfl, rfl, ⟨rfl, rfl, rfl⟩⟩
theorem f_open (b : List Int) : Fn Tryz.prog 63 [.sl (b.map dU)] [] (fun rr ii nn => rr = .ptr 0 0 0 ∧ ii = [] ∧ nn = [.box 151 [.sl ((b.take 2000).map dU), .p (.int .i64 ((0 : Nat) : Int))]]) := by
 refine fn_of Tryz.func63 rfl (Nat.le_of_ble_eq_true rfl) fun w X g => ?_
 show AWp _ _ _ ⟨[(0, .sl (b.map dU))], []⟩
 refine a_len_map 0 rfl fun hlen => ?_
 refine rs ?_
 refine oa rfl ?_
 refine on ?_
 refine a_seq ?_
 refine rs ?_
 refine om rfl ?_
 refine op_v' (j_len_map Tryz.underlying41 rfl) ?_
 refine op_v' (j_gt rfl rfl) ?_
 refine on ?_
 refine ac rfl (fun h1 => ?_) fun h1 => ?_
 ·
  have h1r := h1
  try simp only [nq, nr] at h1
  refine ar ?_
  refine om rfl ?_
  refine op_v' (j_cut slt41 rfl (fun y hy => by obtain ⟨t, _, rfl⟩ := List.mem_map.1 hy; rfl) Bd.none (Bd.some rfl rfl) (by first | omega | (simp only [nr]; omega)) (by first | omega | (simp only [nr]; omega))) ?_
  refine oa rfl ?_
  refine on ?_
  refine rs ?_
  refine om rfl ?_
  refine op_v' (j_build (parts := [(0, .tmp 8)]) str151 elt151 rfl rfl) ?_
  refine op_n' (fun ver => j_boxa rfl) fun v10x1 => ?_
  refine oa rfl ?_
  refine on ?_
  refine a_ret ?_
  exact ⟨[.ptr 10 v10x1 0], .ptr 0 0 0, [], [.box 151 [.sl _, .p _]], [(10, v10x1)], ⟨rfl, trivial⟩, rfl, rfl, ⟨⟨rfl, rfl⟩, trivial⟩, rfl, rfl, ⟨rfl, rfl, by first | (simp only [List.drop_zero, ← List.map_take]; rfl) | (rw [List.take_of_length_le (by omega)]; rfl)⟩⟩
 have h1r := h1
 try simp only [nq, nr] at h1
 refine a_skip ?_
 refine rs ?_
 refine om rfl ?_
 refine op_v' (j_build (parts := [(0, .tmp 8)]) str151 elt151 rfl rfl) ?_
 refine op_n' (fun ver => j_boxa rfl) fun v10x2 => ?_
 refine oa rfl ?_
 refine on ?_
 refine a_ret ?_
 exact ⟨[.ptr 10 v10x2 0], .ptr 0 0 0, [], [.box 151 [.sl _, .p _]], [(10, v10x2)], ⟨rfl, trivial⟩, rfl, rfl, ⟨⟨rfl, rfl⟩, trivial⟩, rfl, rfl, ⟨rfl, rfl, by first | (simp only [List.drop_zero, ← List.map_take]; rfl) | (rw [List.take_of_length_le (by omega)]; rfl)⟩⟩
theorem f_values (b : List Int) (p : Nat) (hb : okB b) (hp : p ≤ 1099511627000) : Fn Tryz.prog 68 [.ptr 0 0 0] [.box 151 [.sl (b.map dU), .p (.int .i64 ((p : Nat) : Int))]] (fun rr ii nn => rr = .own 1 0 ∧ ii = [.box 151 [.sl (b.map dU), .p (.int .i64 ((p + 13 : Nat) : Int))]] ∧ nn = [.row 4 1 ((valV b p).map dB)]) := by
 refine fn_of Tryz.func68 rfl (Nat.le_of_ble_eq_true rfl) fun w X g => ?_
 show AWp _ _ _ ⟨[(0, .ptr 0 0 0)], [(0, some (0, .box 151 [.sl (b.map dU), .p (.int .i64 ((p : Nat) : Int))]))]⟩
 refine rs ?_
 refine oa rfl ?_
 refine on ?_
 refine rs ?_
 refine op_n' (fun ver => j_buildSlice (parts := []) (es := []) slt44 elt4 rfl rfl (by decide) (by decide) rfl rfl (by simp) rfl) fun v5x1 => ?_
 refine oa rfl ?_
 refine on ?_
 refine a_seq ?_
 refine rs ?_
 refine oa rfl ?_
 refine on ?_
 refine a_block ?_
 refine a_loopF' (ι := Nat × Nat) (fun x => x.1 ≤ 12) (fun x r => (4, .p (.int .i64 ((x.1 : Nat)))) :: (3, .own 5 x.2) :: r) (fun x r => (0, some (0, .box 151 [.sl (b.map dU), .p (.int .i64 ((p + x.1 : Nat) : Int))])) :: (5, some (x.2, .row 4 1 ((valB b p x.1).map dB))) :: r) (fun x => 12 - x.1) (fun _ _ => rfl) (fun _ _ => rfl) (0, v5x1) (by first | exact (Nat.zero_le _) | (dsimp only; exact (Nat.zero_le _))) ⟨⟨rfl, rfl⟩, ⟨rfl, rfl, trivial⟩, ⟨rfl, rfl, trivial⟩, ⟨rfl, rfl⟩, ⟨rfl, rfl⟩⟩ ?_
 rintro ⟨k, v⟩ hpre; dsimp only at hpre ⊢
 refine a_seq ?_
 refine rs ?_
 refine om rfl ?_
 refine op_v' (j_lt rfl rfl) ?_
 refine on ?_
 refine ac rfl (fun h1 => ?_) fun h1 => ?_
 ·
  have h1r := h1
  try simp only [nq, nr, nl, valB_len] at h1
  refine a_skip ?_
  refine a_seq ?_
  refine a_block ?_
  refine ar ?_
  refine om rfl ?_
  refine om rfl ?_
  refine op_v0' (j_call0 (v := .p _) (hp1 := [(0, some (0, .box 151 [.sl _, .p _]))]) [(0, 0)] false [0] ent67 (f_pick _ _ _ (by assumption) (by omega)) ⟨.inl ⟨rfl, rfl⟩, .inl ⟨rfl, rfl⟩, trivial⟩ ⟨⟨rfl, rfl⟩, trivial⟩ rfl rfl (fun h => by cases h) rfl (List.all_eq_true.1 rfl) (.inl rfl) rfl rfl) ?_
  refine op_v' (j_eq rfl rfl) ?_
  refine op_n' (fun ver => j_buildSlice (parts := [(0, .tmp 13)]) (es := [[_]]) slt44 elt4 rfl rfl (by decide) (by decide) rfl rfl (by simp) rfl) fun v14x2 => ?_
  refine op_n' (fun ver => j_append_own slt44 elt4 rfl rfl rfl rfl rfl rfl (by rw [maxLen_eq]; first | omega | (simp only [nr, nl, valB_len]; omega)) (by first | omega | (simp only [nr, nl, valB_len]; omega))) fun v5x3 => ?_
  refine oa rfl ?_
  refine on ?_
  refine ar ?_
  refine om rfl ?_
  refine op_v' (j_add rfl rfl (by first | omega | (simp only [nr, nl, valB_len]; omega)) (by first | omega | (simp only [nr, nl, valB_len]; omega))) ?_
  refine oa rfl ?_
  refine on ?_
  exact ⟨(k + 1, v5x3), (by first | exact (by first | omega | (simp only [nr, nl, valB_len]; omega)) | (dsimp only; exact (by first | omega | (simp only [nr, nl, valB_len]; omega)))), ⟨⟨rfl, rfl⟩, ⟨rfl, rfl, trivial⟩, ⟨rfl, rowEq (by rw [valB_next, List.map_append]; rfl), trivial⟩, ⟨rfl, rfl⟩, ⟨rfl, rfl⟩⟩, (by first | exact (by first | omega | (simp only [nr, nl, valB_len]; omega)) | (dsimp only; exact (by first | omega | (simp only [nr, nl, valB_len]; omega))))⟩
 have h1r := h1
 try simp only [nq, nr, nl, valB_len] at h1
 refine a_exit ?_
 refine a_seq ?_
 refine a_seq ?_
 obtain rfl : k = 12 := by first | omega | (simp only [nr, nl, valB_len]; omega)
 refine ar ?_
 refine om rfl ?_
 refine op_v0' (j_call0 (v := .p _) (hp1 := [(0, some (0, .box 151 [.sl _, .p _]))]) [(0, 0)] false [0] ent67 (f_pick _ _ _ (by assumption) (by omega)) ⟨.inl ⟨rfl, rfl⟩, .inl ⟨rfl, rfl⟩, trivial⟩ ⟨⟨rfl, rfl⟩, trivial⟩ rfl rfl (fun h => by cases h) rfl (List.all_eq_true.1 rfl) (.inl rfl) rfl rfl) ?_
 refine op_v' (j_eq rfl rfl) ?_
 refine on ?_
 refine ac rfl (fun h2 => ?_) fun h2 => ?_
 ·
  have h2r := h2
  try simp only [nq, nr, nl, valB_len] at h2
  refine rs ?_
  refine om rfl ?_
  refine op_n1' (fun ver => j_cut_ownE (n := 11) (by decide) slt44 rfl rfl rfl rfl (by first | omega | (simp only [nr, nl, valB_len]; omega)) (by first | omega | (simp only [nr, nl, valB_len]; omega))) fun v20x4 => ?_
  refine oa rfl ?_
  refine on ?_
  refine a_ret ?_
  exact ⟨[.own 20 v20x4], .own 1 0, [.box 151 [.sl _, .p _]], [.row 4 1 _], [(20, v20x4)], ⟨rfl, trivial⟩, rfl, rfl, ⟨⟨rfl, rfl⟩, ⟨rfl, rfl⟩, trivial⟩, rfl, rfl, ⟨rfl, rfl, by unfold valV; rw [if_pos (by assumption), List.map_take]⟩⟩
 have h2r := h2
 try simp only [nq, nr, nl, valB_len] at h2
 refine a_skip ?_
 refine rs ?_
 refine om rfl ?_
 refine oa rfl ?_
 refine on ?_
 refine a_ret ?_
 exact ⟨[.own 5 v], .own 1 0, [.box 151 [.sl _, .p _]], [.row 4 1 _], [(5, v)], ⟨rfl, trivial⟩, rfl, rfl, ⟨⟨rfl, rfl⟩, ⟨rfl, rfl⟩, trivial⟩, rfl, rfl, ⟨rfl, rfl, by unfold valV; rw [if_neg (by assumption)]⟩⟩
end Go.Ab

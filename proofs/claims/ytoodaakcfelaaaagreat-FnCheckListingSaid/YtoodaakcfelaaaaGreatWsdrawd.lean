/- Walks. -/
import Derived.Test.YtoodaakcfelaaaaGreatBase
import Derived.Test.YtoodaakcfelaaaaGreatSimp
import Derived.Test.YtoodaakcfelaaaaGreatWsdrawc
namespace Go.Ab
open Go.Proofs
set_option maxRecDepth 100000
set_option maxHeartbeats 8000000
set_option linter.unusedSimpArgs false
set_option linter.unusedVariables false
theorem f_l1Draw (b : List Int) (p : Nat) (most : Int) (hb : okB b) (hp : p ≤ 1099511000000) (hm : 0 ≤ most ∧ most ≤ 12) : Fn Tryz.prog 131 [.ptr 0 0 0, .p (.int .i64 (most))] [.box 151 [.sl (b.map dU), .p (.int .i64 ((p : Nat) : Int))]] (fun rr ii nn => rr = .agg [.own 1 0, .p (.int .i64 (l1C b p most).1.2)] ∧ ii = [.box 151 [.sl (b.map dU), .p (.int .i64 (((l1C b p most).2 : Nat) : Int))]] ∧ nn = [.row 135 2 ((l1C b p most).1.1.map dT)]) := by
 refine fn_of Tryz.func131 rfl (Nat.le_of_ble_eq_true rfl) fun w X g => ?_
 show AWp _ _ _ ⟨[(0, .ptr 0 0 0), (1, .p (.int .i64 (most)))], [(0, some (0, .box 151 [.sl (b.map dU), .p (.int .i64 ((p : Nat) : Int))]))]⟩
 refine rs ?_
 refine op_n' (fun ver => j_alloc elt69 rfl) fun v4x1 => ?_
 refine on ?_
 refine rs ?_
 refine op_v' (j_build (parts := []) str69 elt69 rfl rfl) ?_
 refine op_n' (fun ver => j_alloc elt69 rfl) fun v5x2 => ?_
 refine op_s' (j_storea_box0 agg69 rfl rfl rfl rfl rfl rfl) ?_
 refine on ?_
 refine a_adopt_box' 0 1005 135 2 (by decide) (id := 5) rfl rfl fun v1005x3 => ?_
 refine a_seq ?_
 refine rs ?_
 refine oa rfl ?_
 refine on ?_
 refine a_block ?_
 refine a_loopF' (ι := Nat × Nat) (fun x => x.1 ≤ most.toNat) (fun x r => (6, .p (.int .i64 ((x.1 : Nat) + 1))) :: r) (fun x r => (0, some (0, .box 151 [.sl (b.map dU), .p (.int .i64 (((l1D b p x.1).2 : Nat) : Int))])) :: (5, some (v5x2, .box 69 [.own 1005 x.2, .p (.int .i64 0)])) :: (1005, some (x.2, .row 135 2 ((l1D b p x.1).1.map dT))) :: r) (fun x => most.toNat - x.1) (fun _ _ => rfl) (fun _ _ => rfl) (0, v1005x3) (by first | exact (Nat.zero_le _) | (dsimp only; exact (Nat.zero_le _))) ⟨⟨rfl, rfl⟩, ⟨rfl, trivial⟩, ⟨rfl, rfl, rfl, trivial⟩, ⟨rfl, rfl⟩, ⟨rfl, rfl⟩⟩ ?_
 rintro ⟨k, v⟩ hpre; dsimp only at hpre ⊢; have hdo := l1D_ok b p k
 refine a_seq ?_
 refine rs ?_
 refine om rfl ?_
 refine om rfl ?_
 refine op_v' (j_le rfl rfl) ?_
 refine on ?_
 refine ac rfl (fun h1 => ?_) fun h1 => ?_
 ·
  have h1r := h1
  try simp only [nq, nr, nl] at h1
  refine a_skip ?_
  refine a_seq ?_
  refine a_block ?_
  refine rs ?_
  refine om rfl ?_
  refine op_v0' (j_call0 (v := .p _) (hp1 := [(0, some (0, .box 151 [.sl _, .p _]))]) [(0, 0)] false [0] ent67 (f_pick _ _ _ (by assumption) (by omega)) ⟨.inl ⟨rfl, rfl⟩, .inl ⟨rfl, rfl⟩, trivial⟩ ⟨⟨rfl, rfl⟩, trivial⟩ rfl rfl (fun h => by cases h) rfl (List.all_eq_true.1 rfl) (.inl rfl) rfl rfl) ?_
  refine op_v' (j_eq rfl rfl) ?_
  refine on ?_
  refine ac rfl (fun h2 => ?_) fun h2 => ?_
  ·
   have h2r := h2
   try simp only [nq, nr, nl] at h2
   refine rs ?_
   refine om rfl ?_
   refine op_n' (fun ver => j_buildSlice (parts := [(0, .const (.int .i64 1)), (1, .const (.int .i64 1)), (2, .const (.int .i64 2)), (3, .const (.int .i64 3)), (4, .const (.int .i64 1)), (5, .const (.int .i64 5)), (6, .const (.int .i64 4))]) (es := [[_], [_], [_], [_], [_], [_], [_]]) slt23 elt3 rfl rfl (by decide) (by decide) rfl rfl (by simp) rfl) fun v19x4 => ?_
   refine op_v0' (j_call0 (v := .p _) (hp1 := [(0, some (0, .box 151 [.sl _, .p _])), (19, some (v19x4, .row 3 1 _))]) [(0, 0), (19, v19x4)] false [0, 19] ent130 (f_num b ((l1D b p k).2 + 1) [1, 1, 2, 3, 1, 5, 4] hb (by omega) (by decide) (by decide)) ⟨.inl ⟨rfl, rfl⟩, .inl ⟨rfl, rfl⟩, trivial⟩ ⟨⟨rfl, rfl⟩, ⟨rfl, rfl⟩, trivial⟩ rfl rfl (fun h => by cases h) rfl (List.all_eq_true.1 rfl) (.inl rfl) rfl rfl) ?_
   refine om rfl ?_
   refine op_v' (j_build (parts := [(0, .tmp 20), (1, .tmp 21)]) str135 elt135 rfl rfl) ?_
   refine op_n' (fun ver => j_alloc elt135 rfl) fun v7x5 => ?_
   refine op_s' (j_storea_box0 agg135 rfl rfl rfl rfl rfl rfl) ?_
   refine on ?_
   refine a_seq ?_
   refine rs ?_
   refine om rfl ?_
   refine op_v0' (j_call0 (v := .p _) (hp1 := [(0, some (0, .box 151 [.sl _, .p _]))]) [(0, 0)] false [0] ent67 (f_pick _ _ _ (by assumption) (by omega)) ⟨.inl ⟨rfl, rfl⟩, .inl ⟨rfl, rfl⟩, trivial⟩ ⟨⟨rfl, rfl⟩, trivial⟩ rfl rfl (fun h => by cases h) rfl (List.all_eq_true.1 rfl) (.inl rfl) rfl rfl) ?_
   refine op_v' (j_eq rfl rfl) ?_
   refine on ?_
   refine ac rfl (fun h3 => ?_) fun h3 => ?_
   ·
    have h3r := h3
    try simp only [nq, nr, nl] at h3
    refine ar ?_
    refine om rfl ?_
    refine op_v' (j_neg rfl (by first | omega | (simp only [nr, nl]; omega)) (by first | omega | (simp only [nr, nl]; omega))) ?_
    refine op_v' (j_fldp fld135f1 rfl rfl) ?_
    refine op_s' (j_store_box leaf3 rfl rfl (Nat.le_of_ble_eq_true rfl) (evo rfl) rfl) ?_
    refine on ?_
    refine ar ?_
    refine op_v' (j_fldp fld69f0 rfl rfl) ?_
    refine op_v' (j_load_box leaf67 rfl rfl rfl) ?_
    refine op_v' (j_loada_box (ys := [.p _, .p _]) agg135 rfl rfl rfl (Nat.le_of_ble_eq_true rfl)) ?_
    refine op_n' (fun ver => j_buildSlice (parts := [(0, .tmp 31)]) (es := [[_, _]]) slt67 elt135 rfl rfl (by decide) (by decide) rfl rfl (by simp) rfl) fun v32x6 => ?_
    refine op_n' (fun ver => j_append_own slt67 elt135 rfl rfl rfl rfl rfl rfl (by rw [maxLen_eq]; first | omega | (simp only [nr, nl]; omega)) (by first | omega | (simp only [nr, nl]; omega))) fun v1005x7 => ?_
    refine op_v' (j_fldp fld69f0 rfl rfl) ?_
    refine op_s' (j_store_box leaf67 rfl rfl (Nat.le_of_ble_eq_true rfl) (evo rfl) rfl) ?_
    refine on ?_
    refine ar ?_
    refine om rfl ?_
    refine op_v' (j_add rfl rfl (by first | omega | (simp only [nr, nl]; omega)) (by first | omega | (simp only [nr, nl]; omega))) ?_
    refine oa rfl ?_
    refine on ?_
    exact ⟨(k + 1, v1005x7), (by first | exact (by first | omega | (simp only [nr, nl]; omega)) | (dsimp only; exact (by first | omega | (simp only [nr, nl]; omega)))), ⟨⟨rfl, rfl⟩, ⟨rfl, trivial⟩, ⟨box2Eq (by rw [l1D_neg (by assumption) (by assumption)]), rfl, rowEq (by rw [l1D_neg (by assumption) (by assumption), List.map_append]; rfl), trivial⟩, ⟨rfl, rfl⟩, ⟨rfl, rfl⟩⟩, (by first | exact (by first | omega | (simp only [nr, nl]; omega)) | (dsimp only; exact (by first | omega | (simp only [nr, nl]; omega))))⟩
   have h3r := h3
   try simp only [nq, nr, nl] at h3
   refine a_skip ?_
   refine ar ?_
   refine op_v' (j_fldp fld69f0 rfl rfl) ?_
   refine op_v' (j_load_box leaf67 rfl rfl rfl) ?_
   refine op_v' (j_loada_box (ys := [.p _, .p _]) agg135 rfl rfl rfl (Nat.le_of_ble_eq_true rfl)) ?_
   refine op_n' (fun ver => j_buildSlice (parts := [(0, .tmp 31)]) (es := [[_, _]]) slt67 elt135 rfl rfl (by decide) (by decide) rfl rfl (by simp) rfl) fun v32x8 => ?_
   refine op_n' (fun ver => j_append_own slt67 elt135 rfl rfl rfl rfl rfl rfl (by rw [maxLen_eq]; first | omega | (simp only [nr, nl]; omega)) (by first | omega | (simp only [nr, nl]; omega))) fun v1005x9 => ?_
   refine op_v' (j_fldp fld69f0 rfl rfl) ?_
   refine op_s' (j_store_box leaf67 rfl rfl (Nat.le_of_ble_eq_true rfl) (evo rfl) rfl) ?_
   refine on ?_
   refine ar ?_
   refine om rfl ?_
   refine op_v' (j_add rfl rfl (by first | omega | (simp only [nr, nl]; omega)) (by first | omega | (simp only [nr, nl]; omega))) ?_
   refine oa rfl ?_
   refine on ?_
   exact ⟨(k + 1, v1005x9), (by first | exact (by first | omega | (simp only [nr, nl]; omega)) | (dsimp only; exact (by first | omega | (simp only [nr, nl]; omega)))), ⟨⟨rfl, rfl⟩, ⟨rfl, trivial⟩, ⟨box2Eq (by rw [l1D_pos (by assumption) (by assumption)]), rfl, rowEq (by rw [l1D_pos (by assumption) (by assumption), List.map_append]; rfl), trivial⟩, ⟨rfl, rfl⟩, ⟨rfl, rfl⟩⟩, (by first | exact (by first | omega | (simp only [nr, nl]; omega)) | (dsimp only; exact (by first | omega | (simp only [nr, nl]; omega))))⟩
  have h2r := h2
  try simp only [nq, nr, nl] at h2
  refine a_skip ?_
  refine ar ?_
  refine om rfl ?_
  refine op_v' (j_add rfl rfl (by first | omega | (simp only [nr, nl]; omega)) (by first | omega | (simp only [nr, nl]; omega))) ?_
  refine oa rfl ?_
  refine on ?_
  exact ⟨(k + 1, v), (by first | exact (by first | omega | (simp only [nr, nl]; omega)) | (dsimp only; exact (by first | omega | (simp only [nr, nl]; omega)))), ⟨⟨rfl, rfl⟩, ⟨rfl, trivial⟩, ⟨box2Eq (by rw [l1D_no (by assumption)]), rfl, rowEq (by rw [l1D_no (by assumption)]), trivial⟩, ⟨rfl, rfl⟩, ⟨rfl, rfl⟩⟩, (by first | exact (by first | omega | (simp only [nr, nl]; omega)) | (dsimp only; exact (by first | omega | (simp only [nr, nl]; omega))))⟩
 have h1r := h1
 try simp only [nq, nr, nl] at h1
 obtain rfl : k = most.toNat := by omega
 have hcw := coef_wide hdo.1 (by decide) (by decide)
 have htt := tot_all hcw
 refine a_exit ?_
 refine rs ?_
 refine op_v' (j_loada_box (ys := [.own 1005 v, .p _]) agg69 rfl rfl rfl (Nat.le_of_ble_eq_true rfl)) ?_
 refine op_v0' (j_call0 (v := .p _) (hp1 := []) [] true [1005] ent132 (f_l1TotalG ((l1D b p most.toNat).1, 0) hcw (by dsimp only; omega)) ⟨.inr ⟨rfl, view_agg rfl (view_cons (view_own rfl rfl) (view_cons rfl rfl)), rfl⟩, trivial⟩ trivial rfl rfl (fun _ => rfl) rfl (fun _ h => by cases h) (.inr ⟨rfl, by first | exact pl_new1 (fun _ => rfl) | exact pl_newC | (simp [plO, plV, plV.plL]; done)⟩) rfl rfl) ?_
 refine oa rfl ?_
 refine on ?_
 refine rs ?_
 refine om rfl ?_
 refine op_n' (fun ver => j_buildSlice (parts := [(0, .const (.int .i64 1)), (1, .const (.int .i64 2)), (2, .const (.int .i64 1)), (3, .const (.int .i64 3)), (4, .const (.int .i64 0))]) (es := [[_], [_], [_], [_], [_]]) slt23 elt3 rfl rfl (by decide) (by decide) rfl rfl (by simp) rfl) fun v38x10 => ?_
 refine op_v0' (j_call0 (v := .p _) (hp1 := [(0, some (0, .box 151 [.sl _, .p _])), (38, some (v38x10, .row 3 1 _))]) [(0, 0), (38, v38x10)] false [0, 38] ent130 (f_num b (l1D b p most.toNat).2 [1, 2, 1, 3, 0] hb (by omega) (by decide) (by decide)) ⟨.inl ⟨rfl, rfl⟩, .inl ⟨rfl, rfl⟩, trivial⟩ ⟨⟨rfl, rfl⟩, ⟨rfl, rfl⟩, trivial⟩ rfl rfl (fun h => by cases h) rfl (List.all_eq_true.1 rfl) (.inl rfl) rfl rfl) ?_
 refine op_v' (j_fldp fld69f1 rfl rfl) ?_
 refine op_s' (j_store_box leaf3 rfl rfl (Nat.le_of_ble_eq_true rfl) (evo rfl) rfl) ?_
 refine on ?_
 refine a_seq ?_
 refine rs ?_
 refine om rfl ?_
 refine op_v0' (j_call0 (v := .p _) (hp1 := [(0, some (0, .box 151 [.sl _, .p _]))]) [(0, 0)] false [0] ent67 (f_pick _ _ _ (by assumption) (by omega)) ⟨.inl ⟨rfl, rfl⟩, .inl ⟨rfl, rfl⟩, trivial⟩ ⟨⟨rfl, rfl⟩, trivial⟩ rfl rfl (fun h => by cases h) rfl (List.all_eq_true.1 rfl) (.inl rfl) rfl rfl) ?_
 refine op_v' (j_eq rfl rfl) ?_
 refine on ?_
 refine ac rfl (fun h4 => ?_) fun h4 => ?_
 ·
  have h4r := h4
  try simp only [nq, nr, nl] at h4
  refine ar ?_
  refine om rfl ?_
  refine om rfl ?_
  refine op_v' (j_add rfl rfl (by first | omega | (simp only [nr, nl]; omega)) (by first | omega | (simp only [nr, nl]; omega))) ?_
  refine op_v0' (j_call0 (v := .p _) (hp1 := [(0, some (0, .box 151 [.sl _, .p _]))]) [(0, 0)] false [0] ent67 (f_pick _ _ _ (by assumption) (by omega)) ⟨.inl ⟨rfl, rfl⟩, .inl ⟨rfl, rfl⟩, trivial⟩ ⟨⟨rfl, rfl⟩, trivial⟩ rfl rfl (fun h => by cases h) rfl (List.all_eq_true.1 rfl) (.inl rfl) rfl rfl) ?_
  refine op_v' (j_fldp fld69f1 rfl rfl) ?_
  refine op_s' (j_store_box leaf3 rfl rfl (Nat.le_of_ble_eq_true rfl) (evo rfl) rfl) ?_
  refine on ?_
  refine rs ?_
  refine op_v' (j_loada_box (ys := [.own 1005 v, .p _]) agg69 rfl rfl rfl (Nat.le_of_ble_eq_true rfl)) ?_
  refine op_s' (j_storea_box0 agg69 rfl rfl rfl rfl rfl rfl) ?_
  refine on ?_
  refine a_ret ?_
  exact ⟨[.agg [.own 1005 v, .p _]], .agg [.own 1 0, .p _], [.box 151 [.sl _, .p _]], [.row 135 2 _], [(1005, v)], ⟨⟨_, _, _, _, rfl, rfl, agg69, rfl⟩, trivial⟩, rfl, rfl, ⟨⟨rfl, rfl⟩, ⟨rfl, rfl⟩, trivial⟩, rfl, rfl, ⟨by rw [l1C_y (by assumption)], by rw [l1C_y (by assumption)], by rw [l1C_y (by assumption)]⟩⟩
 have h4r := h4
 try simp only [nq, nr, nl] at h4
 refine a_skip ?_
 refine rs ?_
 refine op_v' (j_loada_box (ys := [.own 1005 v, .p _]) agg69 rfl rfl rfl (Nat.le_of_ble_eq_true rfl)) ?_
 refine op_s' (j_storea_box0 agg69 rfl rfl rfl rfl rfl rfl) ?_
 refine on ?_
 refine a_ret ?_
 exact ⟨[.agg [.own 1005 v, .p _]], .agg [.own 1 0, .p _], [.box 151 [.sl _, .p _]], [.row 135 2 _], [(1005, v)], ⟨⟨_, _, _, _, rfl, rfl, agg69, rfl⟩, trivial⟩, rfl, rfl, ⟨⟨rfl, rfl⟩, ⟨rfl, rfl⟩, trivial⟩, rfl, rfl, ⟨by rw [l1C_n (by assumption)], by rw [l1C_n (by assumption)], by rw [l1C_n (by assumption)]⟩⟩
theorem f_l1Mutate (b : List Int) (p : Nat) (c : Con) (hb : okB b) (hp : p ≤ 1099511000000) (hcl : c.1.length ≤ 100000) : Fn Tryz.prog 128 [.ptr 0 0 0, .agg [.sl (c.1.map dT), .p (.int .i64 c.2)]] [.box 151 [.sl (b.map dU), .p (.int .i64 ((p : Nat) : Int))]] (fun rr ii nn => rr = .agg [.sl ((mutC b p c).1.1.map dT), .p (.int .i64 (mutC b p c).1.2)] ∧ ii = [.box 151 [.sl (b.map dU), .p (.int .i64 (((mutC b p c).2 : Nat) : Int))]] ∧ nn = []) := by
 refine fn_of Tryz.func128 rfl (Nat.le_of_ble_eq_true rfl) fun w X g => ?_
 show AWp _ _ _ ⟨[(0, .ptr 0 0 0), (1, .agg [.sl (c.1.map dT), .p (.int .i64 c.2)])], [(0, some (0, .box 151 [.sl (b.map dU), .p (.int .i64 ((p : Nat) : Int))]))]⟩
 refine rs ?_
 refine op_n' (fun ver => j_boxa rfl) fun v3x1 => ?_
 refine op_n' (fun ver => j_alloc elt69 rfl) fun v4x2 => ?_
 refine on ?_
 refine rs ?_
 refine op_v' (j_loada_box (ys := [.sl _, .p _]) agg69 rfl rfl rfl (Nat.le_of_ble_eq_true rfl)) ?_
 refine op_n1' (fun ver => j_call1 (v := .agg [.own 8 ver, .p _]) (hp1 := [(8, some (ver, .row 135 2 _))]) [] false [] ent136 (f_copy c (by omega)) ⟨.inl ⟨rfl, rfl⟩, trivial⟩ trivial rfl rfl rfl (fun h => by cases h) rfl (List.all_eq_true.1 rfl) (.inl rfl) rfl rfl) fun v8x3 => ?_
 refine op_n' (fun ver => j_alloc elt69 rfl) fun v5x4 => ?_
 refine op_s' (j_storea_box0 agg69 rfl rfl rfl rfl rfl rfl) ?_
 refine on ?_
 refine rs ?_
 refine op_v' (j_fldp fld69f0 rfl rfl) ?_
 refine op_v' (j_load_box leaf67 rfl rfl rfl) ?_
 refine op_v' (j_len_own_map Tryz.underlying67 rfl rfl) ?_
 refine oa rfl ?_
 refine on ?_
 refine a_seq ?_
 refine rs ?_
 refine om rfl ?_
 refine op_v0' (j_call0 (v := .p _) (hp1 := [(0, some (0, .box 151 [.sl _, .p _]))]) [(0, 0)] false [0] ent67 (f_pick _ _ _ (by assumption) (by omega)) ⟨.inl ⟨rfl, rfl⟩, .inl ⟨rfl, rfl⟩, trivial⟩ ⟨⟨rfl, rfl⟩, trivial⟩ rfl rfl (fun h => by cases h) rfl (List.all_eq_true.1 rfl) (.inl rfl) rfl rfl) ?_
 refine on ?_
 refine a_block ?_
 refine rs ?_
 refine op_v' (j_eq rfl rfl) ?_
 refine oa rfl ?_
 refine on ?_
 refine ac rfl (fun h1 => ?_) fun h1 => ?_
 ·
  have h1r := h1
  try simp only [nq, nr, nl] at h1
  refine ar ?_
  refine om rfl ?_
  refine op_n' (fun ver => j_buildSlice (parts := [(0, .const (.int .i64 (-1))), (1, .const (.int .i64 20001)), (2, .const (.int .i64 9223372036854775807))]) (es := [[_], [_], [_]]) slt23 elt3 rfl rfl (by decide) (by decide) rfl rfl (by simp) rfl) fun v17x5 => ?_
  refine op_v0' (j_call0 (v := .p _) (hp1 := [(0, some (0, .box 151 [.sl _, .p _])), (17, some (v17x5, .row 3 1 _))]) [(0, 0), (17, v17x5)] false [0, 17] ent130 (f_num b (p + 1) [-1, 20001, 9223372036854775807] hb (by omega) (by decide) (by decide)) ⟨.inl ⟨rfl, rfl⟩, .inl ⟨rfl, rfl⟩, trivial⟩ ⟨⟨rfl, rfl⟩, ⟨rfl, rfl⟩, trivial⟩ rfl rfl (fun h => by cases h) rfl (List.all_eq_true.1 rfl) (.inl rfl) rfl rfl) ?_
  refine op_v' (j_fldp fld69f1 rfl rfl) ?_
  refine op_s' (j_store_box leaf3 rfl rfl (Nat.le_of_ble_eq_true rfl) (evo rfl) rfl) ?_
  refine on ?_
  refine rs ?_
  refine op_v' (j_loada_box (ys := [.own 8 v8x3, .p _]) agg69 rfl rfl rfl (Nat.le_of_ble_eq_true rfl)) ?_
  refine op_s' (j_storea_box0 agg69 rfl rfl rfl rfl rfl rfl) ?_
  refine on ?_
  refine a_freezeboxK 0 4 (by decide) ⟨⟨_, _, rfl⟩, trivial⟩ rfl rfl rfl rfl ?_
  try dsimp only [List.set]
  refine a_ret ?_
  exact ⟨[.agg [.sl _, .p _]], .agg [.sl _, .p _], [.box 151 [.sl _, .p _]], [], [], ⟨⟨_, _, _, _, rfl, rfl, agg69, rfl⟩, trivial⟩, rfl, rfl, ⟨⟨rfl, rfl⟩, trivial⟩, rfl, rfl, ⟨by unfold mutC; rw [if_pos (by assumption)], by unfold mutC; rw [if_pos (by assumption)], rfl⟩⟩
 have h1r := h1
 try simp only [nq, nr, nl] at h1
 refine rs ?_
 refine op_v' (j_eq rfl rfl) ?_
 refine oa rfl ?_
 refine on ?_
 refine ac rfl (fun h2 => ?_) fun h2 => ?_
 ·
  have h2r := h2
  try simp only [nq, nr, nl] at h2
  refine rs ?_
  refine om rfl ?_
  refine op_v' (j_gt rfl rfl) ?_
  refine on ?_
  refine ac rfl (fun h3 => ?_) fun h3 => ?_
  ·
   have h3r := h3
   try simp only [nq, nr, nl] at h3
   refine a_draw mixed (by kernel_rfl) (by kernel_rfl) fun vf => ?_
   refine d_v' (j_fldp fld69f0 rfl rfl) ?_
   refine d_v' (j_load_box leaf67 rfl rfl rfl) ?_
   refine d_v' (j_move (evo rfl)) ?_
   refine d_n' (fun ver => j_buildSlice (parts := [(0, .const (.int .i64 0)), (1, .const (.int .i64 (-1))), (2, .const (.int .i64 1001))]) (es := [[_], [_], [_]]) slt23 elt3 rfl rfl (by decide) (by decide) rfl rfl (by simp) rfl) ?_
   refine d_v0' (j_call0 (v := .p _) (hp1 := [(0, some (0, .box 151 [.sl _, .p _])), (27, some ((vf 27), .row 3 1 _))]) [(0, 0), (27, (vf 27))] false [0, 27] ent130 (f_num b (p + 1) [0, -1, 1001] hb (by omega) (by decide) (by decide)) ⟨.inl ⟨rfl, rfl⟩, .inl ⟨rfl, rfl⟩, trivial⟩ ⟨⟨rfl, rfl⟩, ⟨rfl, rfl⟩, trivial⟩ rfl rfl (fun h => by cases h) rfl (List.all_eq_true.1 rfl) (.inl rfl) rfl rfl) ?_
   refine d_v' (j_elem_ownN slt67 rfl rfl rfl rfl (by first | omega | (simp only [nr, nl]; omega))) ?_
   refine d_v' (j_fldpel fld135f0 rfl rfl) ?_
   refine d_s' (j_storef_row leaf3 rfl rfl (at_map (by first | omega | (simp only [nr, nl]; omega))) (Nat.le_of_ble_eq_true rfl) (evo rfl) rfl rfl) ?_
   refine d_nil (by kernel_rfl) (by kernel_rfl) ?_
   refine a_row 8 (es' := (c.1.set 0 (ofV b (p + 1) [0, -1, 1001], (c.1.getD 0 default).2)).map dT) rfl (set_coef (i := 0) (by omega)) ?_
   refine rs ?_
   refine op_v' (j_loada_box (ys := [.own 8 v8x3, .p _]) agg69 rfl rfl rfl (Nat.le_of_ble_eq_true rfl)) ?_
   refine op_s' (j_storea_box0 agg69 rfl rfl rfl rfl rfl rfl) ?_
   refine on ?_
   refine a_freezeboxK 0 4 (by decide) ⟨⟨_, _, rfl⟩, trivial⟩ rfl rfl rfl rfl ?_
   try dsimp only [List.set]
   refine a_ret ?_
   exact ⟨[.agg [.sl _, .p _]], .agg [.sl _, .p _], [.box 151 [.sl _, .p _]], [], [], ⟨⟨_, _, _, _, rfl, rfl, agg69, rfl⟩, trivial⟩, rfl, rfl, ⟨⟨rfl, rfl⟩, trivial⟩, rfl, rfl, ⟨by unfold mutC; rw [if_neg (by assumption), if_pos (by assumption), if_pos (by omega)], by unfold mutC; rw [if_neg (by assumption), if_pos (by assumption), if_pos (by omega)], rfl⟩⟩
  have h3r := h3
  try simp only [nq, nr, nl] at h3
  refine a_skip ?_
  refine rs ?_
  refine op_v' (j_loada_box (ys := [.own 8 v8x3, .p _]) agg69 rfl rfl rfl (Nat.le_of_ble_eq_true rfl)) ?_
  refine op_s' (j_storea_box0 agg69 rfl rfl rfl rfl rfl rfl) ?_
  refine on ?_
  refine a_freezeboxK 0 4 (by decide) ⟨⟨_, _, rfl⟩, trivial⟩ rfl rfl rfl rfl ?_
  try dsimp only [List.set]
  refine a_ret ?_
  exact ⟨[.agg [.sl _, .p _]], .agg [.sl _, .p _], [.box 151 [.sl _, .p _]], [], [], ⟨⟨_, _, _, _, rfl, rfl, agg69, rfl⟩, trivial⟩, rfl, rfl, ⟨⟨rfl, rfl⟩, trivial⟩, rfl, rfl, ⟨by unfold mutC; rw [if_neg (by assumption), if_pos (by assumption), if_neg (by omega)], by unfold mutC; rw [if_neg (by assumption), if_pos (by assumption), if_neg (by omega)], rfl⟩⟩
 have h2r := h2
 try simp only [nq, nr, nl] at h2
 refine rs ?_
 refine op_v' (j_eq rfl rfl) ?_
 refine oa rfl ?_
 refine on ?_
 refine ac rfl (fun h4 => ?_) fun h4 => ?_
 ·
  have h4r := h4
  try simp only [nq, nr, nl] at h4
  refine rs ?_
  refine om rfl ?_
  refine op_v' (j_gt rfl rfl) ?_
  refine on ?_
  refine ac rfl (fun h5 => ?_) fun h5 => ?_
  ·
   have h5r := h5
   try simp only [nq, nr, nl] at h5
   refine a_draw mixed (by kernel_rfl) (by kernel_rfl) fun vf => ?_
   refine d_v' (j_fldp fld69f0 rfl rfl) ?_
   refine d_v' (j_load_box leaf67 rfl rfl rfl) ?_
   refine d_v' (j_move (evo rfl)) ?_
   refine d_v' (j_sub rfl rfl (by first | omega | (simp only [nr, nl]; omega)) (by first | omega | (simp only [nr, nl]; omega))) ?_
   refine d_v' (j_move (evo rfl)) ?_
   refine d_n' (fun ver => j_buildSlice (parts := [(0, .const (.int .i64 0)), (1, .const (.int .i64 13)), (2, .const (.int .i64 (-13))), (3, .const (.int .i64 1)), (4, .const (.int .i64 (-9223372036854775808)))]) (es := [[_], [_], [_], [_], [_]]) slt23 elt3 rfl rfl (by decide) (by decide) rfl rfl (by simp) rfl) ?_
   refine d_v0' (j_call0 (v := .p _) (hp1 := [(0, some (0, .box 151 [.sl _, .p _])), (40, some ((vf 40), .row 3 1 _))]) [(0, 0), (40, (vf 40))] false [0, 40] ent130 (f_num b (p + 1) [0, 13, -13, 1, -9223372036854775808] hb (by omega) (by decide) (by decide)) ⟨.inl ⟨rfl, rfl⟩, .inl ⟨rfl, rfl⟩, trivial⟩ ⟨⟨rfl, rfl⟩, ⟨rfl, rfl⟩, trivial⟩ rfl rfl (fun h => by cases h) rfl (List.all_eq_true.1 rfl) (.inl rfl) rfl rfl) ?_
   refine d_v' (j_elem_ownN (n := c.1.length - 1) slt67 rfl rfl rfl (by first | omega | (simp only [nr, nl]; omega)) (by first | omega | (simp only [nr, nl]; omega))) ?_
   refine d_v' (j_fldpel fld135f1 rfl rfl) ?_
   refine d_s' (j_storef_row leaf3 rfl rfl (at_map (by first | omega | (simp only [nr, nl]; omega))) (Nat.le_of_ble_eq_true rfl) (evo rfl) rfl rfl) ?_
   refine d_nil (by kernel_rfl) (by kernel_rfl) ?_
   refine a_row 8 (es' := (c.1.set (c.1.length - 1) ((c.1.getD (c.1.length - 1) default).1, ofV b (p + 1) [0, 13, -13, 1, -9223372036854775808])).map dT) rfl (set_lit (by omega)) ?_
   refine rs ?_
   refine op_v' (j_loada_box (ys := [.own 8 v8x3, .p _]) agg69 rfl rfl rfl (Nat.le_of_ble_eq_true rfl)) ?_
   refine op_s' (j_storea_box0 agg69 rfl rfl rfl rfl rfl rfl) ?_
   refine on ?_
   refine a_freezeboxK 0 4 (by decide) ⟨⟨_, _, rfl⟩, trivial⟩ rfl rfl rfl rfl ?_
   try dsimp only [List.set]
   refine a_ret ?_
   exact ⟨[.agg [.sl _, .p _]], .agg [.sl _, .p _], [.box 151 [.sl _, .p _]], [], [], ⟨⟨_, _, _, _, rfl, rfl, agg69, rfl⟩, trivial⟩, rfl, rfl, ⟨⟨rfl, rfl⟩, trivial⟩, rfl, rfl, ⟨by unfold mutC; rw [if_neg (by assumption), if_neg (by assumption), if_pos (by assumption), if_pos (by omega)], by unfold mutC; rw [if_neg (by assumption), if_neg (by assumption), if_pos (by assumption), if_pos (by omega)], rfl⟩⟩
  have h5r := h5
  try simp only [nq, nr, nl] at h5
  refine a_skip ?_
  refine rs ?_
  refine op_v' (j_loada_box (ys := [.own 8 v8x3, .p _]) agg69 rfl rfl rfl (Nat.le_of_ble_eq_true rfl)) ?_
  refine op_s' (j_storea_box0 agg69 rfl rfl rfl rfl rfl rfl) ?_
  refine on ?_
  refine a_freezeboxK 0 4 (by decide) ⟨⟨_, _, rfl⟩, trivial⟩ rfl rfl rfl rfl ?_
  try dsimp only [List.set]
  refine a_ret ?_
  exact ⟨[.agg [.sl _, .p _]], .agg [.sl _, .p _], [.box 151 [.sl _, .p _]], [], [], ⟨⟨_, _, _, _, rfl, rfl, agg69, rfl⟩, trivial⟩, rfl, rfl, ⟨⟨rfl, rfl⟩, trivial⟩, rfl, rfl, ⟨by unfold mutC; rw [if_neg (by assumption), if_neg (by assumption), if_pos (by assumption), if_neg (by omega)], by unfold mutC; rw [if_neg (by assumption), if_neg (by assumption), if_pos (by assumption), if_neg (by omega)], rfl⟩⟩
 have h4r := h4
 try simp only [nq, nr, nl] at h4
 refine rs ?_
 refine op_v' (j_eq rfl rfl) ?_
 refine oa rfl ?_
 refine on ?_
 refine ac rfl (fun h6 => ?_) fun h6 => ?_
 ·
  have h6r := h6
  try simp only [nq, nr, nl] at h6
  refine ar ?_
  refine op_v' (j_fldp fld69f0 rfl rfl) ?_
  refine op_v' (j_load_box leaf67 rfl rfl rfl) ?_
  refine op_v' (j_build (parts := [(0, .const (.int .i64 1)), (1, .const (.int .i64 1))]) str135 elt135 rfl rfl) ?_
  refine op_n' (fun ver => j_buildSlice (parts := [(0, .tmp 48)]) (es := [[_, _]]) slt67 elt135 rfl rfl (by decide) (by decide) rfl rfl (by simp) rfl) fun v49x6 => ?_
  refine op_n' (fun ver => j_append_own slt67 elt135 rfl rfl rfl rfl rfl rfl (by rw [maxLen_eq]; first | omega | (simp only [nr, nl]; omega)) (by first | omega | (simp only [nr, nl]; omega))) fun v8x7 => ?_
  refine op_v' (j_fldp fld69f0 rfl rfl) ?_
  refine op_s' (j_store_box leaf67 rfl rfl (Nat.le_of_ble_eq_true rfl) (evo rfl) rfl) ?_
  refine on ?_
  refine rs ?_
  refine op_v' (j_loada_box (ys := [.own 8 v8x7, .p _]) agg69 rfl rfl rfl (Nat.le_of_ble_eq_true rfl)) ?_
  refine op_s' (j_storea_box0 agg69 rfl rfl rfl rfl rfl rfl) ?_
  refine on ?_
  refine a_freezeboxK 0 4 (by decide) ⟨⟨_, _, rfl⟩, trivial⟩ rfl rfl rfl rfl ?_
  try dsimp only [List.set]
  refine a_ret ?_
  exact ⟨[.agg [.sl _, .p _]], .agg [.sl _, .p _], [.box 151 [.sl _, .p _]], [], [], ⟨⟨_, _, _, _, rfl, rfl, agg69, rfl⟩, trivial⟩, rfl, rfl, ⟨⟨rfl, rfl⟩, trivial⟩, rfl, rfl, ⟨by unfold mutC; rw [if_neg (by assumption), if_neg (by assumption), if_neg (by assumption), if_pos (by assumption), List.map_append]; rfl, by unfold mutC; rw [if_neg (by assumption), if_neg (by assumption), if_neg (by assumption), if_pos (by assumption)], rfl⟩⟩
 have h6r := h6
 try simp only [nq, nr, nl] at h6
 refine a_skip ?_
 refine rs ?_
 refine op_v' (j_loada_box (ys := [.own 8 v8x3, .p _]) agg69 rfl rfl rfl (Nat.le_of_ble_eq_true rfl)) ?_
 refine op_s' (j_storea_box0 agg69 rfl rfl rfl rfl rfl rfl) ?_
 refine on ?_
 refine a_freezeboxK 0 4 (by decide) ⟨⟨_, _, rfl⟩, trivial⟩ rfl rfl rfl rfl ?_
 try dsimp only [List.set]
 refine a_ret ?_
 exact ⟨[.agg [.sl _, .p _]], .agg [.sl _, .p _], [.box 151 [.sl _, .p _]], [], [], ⟨⟨_, _, _, _, rfl, rfl, agg69, rfl⟩, trivial⟩, rfl, rfl, ⟨⟨rfl, rfl⟩, trivial⟩, rfl, rfl, ⟨by unfold mutC; rw [if_neg (by assumption), if_neg (by assumption), if_neg (by assumption), if_neg (by assumption)], by unfold mutC; rw [if_neg (by assumption), if_neg (by assumption), if_neg (by assumption), if_neg (by assumption)], rfl⟩⟩
end Go.Ab

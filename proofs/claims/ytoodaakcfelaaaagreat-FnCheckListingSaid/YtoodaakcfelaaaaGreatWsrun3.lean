/- Walks. -/
import Derived.Test.YtoodaakcfelaaaaGreatBase
import Derived.Test.YtoodaakcfelaaaaGreatCub
import Derived.Test.YtoodaakcfelaaaaGreatWsrun1
namespace Go.Ab
open Go.Proofs
set_option maxRecDepth 100000
set_option maxHeartbeats 8000000
set_option linter.unusedSimpArgs false
set_option linter.unusedVariables false
theorem f_growT (n : Nat) (hn : n ≤ 1000) : Fn Tryz.prog 276 [.p (.slice none 0 0), .p (.int .i64 ((n : Nat)))] [] (fun rr ii nn => rr = .own 0 0 ∧ ii = [] ∧ nn = [.row 135 2 (([] : List Term).map dT)]) := by
 refine fn_of Tryz.func276 rfl (Nat.le_of_ble_eq_true rfl) fun w X g => ?_
 show AWp _ _ _ ⟨[(0, .p (.slice none 0 0)), (1, .p (.int .i64 ((n : Nat))))], []⟩
 refine rs ?_
 refine oa rfl ?_
 refine on ?_
 refine a_seq ?_
 refine rs ?_
 refine om rfl ?_
 refine op_v' (j_lt rfl rfl) ?_
 refine on ?_
 refine ac rfl (fun h1 => ?_) fun h1 => ?_
 ·
  have h1r := h1
  try simp only [nq, nr] at h1
  exact absurd (of_decide_eq_true h1r) (by omega)
 have h1r := h1
 try simp only [nq, nr] at h1
 refine a_skip ?_
 refine a_seq ?_
 refine rs ?_
 refine om rfl ?_
 refine om rfl ?_
 refine op_v' (j_cap_nil Tryz.underlying67 rfl) ?_
 refine om rfl ?_
 refine op_v' (j_len_nil Tryz.underlying67 rfl) ?_
 refine op_v' (j_sub rfl rfl (by omega) (by omega)) ?_
 refine op_v' (j_sub rfl rfl (by omega) (by omega)) ?_
 refine oa rfl ?_
 refine on ?_
 refine rs ?_
 refine om rfl ?_
 refine op_v' (j_gt rfl rfl) ?_
 refine on ?_
 refine ac rfl (fun h2 => ?_) fun h2 => ?_
 ·
  have h2r := h2
  try simp only [nq, nr] at h2
  refine ar ?_
  refine om rfl ?_
  refine om rfl ?_
  refine op_v' (j_cap_nil Tryz.underlying67 rfl) ?_
  refine op_v' (j_cut_nilv slt67 rfl rfl rfl) ?_
  refine om rfl ?_
  refine op_n' (fun ver => j_append_mk (n := n) slt67 Tryz.underlying3 elt135 rfl rfl (by decide) rfl rfl (by omega) (by omega) (by omega) (by rw [maxLen_eq]; omega)) fun v22x1 => ?_
  refine om rfl ?_
  refine op_v' (j_len_nil Tryz.underlying67 rfl) ?_
  refine op_n1' (fun ver => j_cut_ownE (n := 0) (by decide) slt67 rfl rfl rfl rfl (by rw [List.length_replicate]; omega) (by rw [List.length_replicate]; omega)) fun v25x2 => ?_
  refine oa rfl ?_
  refine on ?_
  refine rs ?_
  refine om rfl ?_
  refine oa rfl ?_
  refine on ?_
  refine a_ret ?_
  exact ⟨[.own 25 v25x2], .own 0 0, [], [.row 135 2 _], [(25, v25x2)], ⟨rfl, trivial⟩, rfl, rfl, ⟨⟨rfl, rfl⟩, trivial⟩, rfl, rfl, ⟨rfl, rfl, rfl⟩⟩
 have h2r := h2
 try simp only [nq, nr] at h2
 refine a_skip ?_
 refine rs ?_
 refine om rfl ?_
 refine oa rfl ?_
 refine on ?_
 refine a_adopt' 4 4 135 2 rfl fun v4 => ?_
 refine a_ret ?_
 exact ⟨[.own 4 v4], .own 0 0, [], [.row 135 2 _], [(4, v4)], ⟨rfl, trivial⟩, rfl, rfl, ⟨⟨rfl, rfl⟩, trivial⟩, rfl, rfl, ⟨rfl, rfl, rfl⟩⟩
theorem f_concatT (a b : List Term) (ha : a.length ≤ 100) (hb : b.length ≤ 100) : Fn Tryz.prog 267 [.own 0 0] [.row 67 1 [[.sl (a.map dT)], [.sl (b.map dT)]]] (fun rr ii nn => rr = .sl ((a ++ b).map dT) ∧ ii = [.row 67 1 [[.sl (a.map dT)], [.sl (b.map dT)]]] ∧ nn = []) := by
 refine fn_of Tryz.func267 rfl (Nat.le_of_ble_eq_true rfl) fun w X g => ?_
 show AWp _ _ _ ⟨[(0, .own 0 0)], [(0, some (0, .row 67 1 [[.sl (a.map dT)], [.sl (b.map dT)]]))]⟩
 refine rs ?_
 refine oa rfl ?_
 refine on ?_
 refine rs ?_
 refine oa rfl ?_
 refine on ?_
 refine a_seq ?_
 refine rs ?_
 refine om rfl ?_
 refine op_v' (j_len_own Tryz.underlying263 rfl rfl) ?_
 refine om rfl ?_
 refine on ?_
 refine a_block ?_
 refine a_loopF' (ι := Nat) (fun k => k ≤ 2) (fun k r => (11, .p (.int .i64 ((k : Nat)))) :: (3, .p (.int .i64 (((catN a b k).length : Nat)))) :: r) (fun k r => (0, some (0, .row 67 1 [[.sl (a.map dT)], [.sl (b.map dT)]])) :: r) (fun k => 2 - k) (fun _ _ => rfl) (fun _ _ => rfl) 0 (by omega) ⟨⟨rfl, rfl⟩, ⟨rfl, rfl, trivial⟩, ⟨rfl, trivial⟩, ⟨rfl, rfl⟩, ⟨rfl, rfl⟩⟩ ?_
 intro k hk
 refine rs ?_
 refine op_v' (j_lt rfl rfl) ?_
 refine on ?_
 refine a_seq ?_
 refine ac rfl (fun h1 => ?_) fun h1 => ?_
 ·
  have h1r := h1
  try simp only [nq, nr, nl] at h1
  refine a_skip ?_
  refine a_seq ?_
  refine a_block ?_
  refine rs ?_
  refine op_v' (j_elem_ownN (n := k) slt263 rfl rfl rfl (by first | omega | (simp only [nr, nl]; omega)) (by first | omega | (simp only [nr, nl]; omega))) ?_
  refine op_v' (j_load_pel leaf67 rfl rfl (cat_hk (by first | omega | (simp only [nr, nl]; omega))) rfl) ?_
  refine oa rfl ?_
  refine on ?_
  refine a_seq ?_
  have hcn := cat_len (a := a) (b := b) (k := k) (by first | omega | (simp only [nr, nl]; omega))
  have hcl := catN_le (a := a) (b := b) (k := k + 1)
  refine ar ?_
  refine om rfl ?_
  refine om rfl ?_
  refine op_v' (j_len_map Tryz.underlying67 rfl) ?_
  refine op_v' (j_add rfl rfl (by first | omega | (simp only [nr, nl]; omega)) (by first | omega | (simp only [nr, nl]; omega))) ?_
  refine oa rfl ?_
  refine on ?_
  refine rs ?_
  refine om rfl ?_
  refine op_v' (j_lt rfl rfl) ?_
  refine on ?_
  refine ac rfl (fun h2 => ?_) fun h2 => ?_
  ·
   have h2r := h2
   try simp only [nq, nr, nl] at h2
   exact absurd (of_decide_eq_true h2r) (by first | omega | (simp only [nr, nl]; omega))
  have h2r := h2
  try simp only [nq, nr, nl] at h2
  refine a_skip ?_
  refine ar ?_
  refine op_v' (j_add rfl rfl (by first | omega | (simp only [nr, nl]; omega)) (by first | omega | (simp only [nr, nl]; omega))) ?_
  refine om rfl ?_
  refine on ?_
  exact ⟨k + 1, (by first | omega | (simp only [nr, nl]; omega)), ⟨⟨rfl, rfl⟩, ⟨rfl, intEq (by rw [hcn]; omega), trivial⟩, ⟨rfl, trivial⟩, ⟨rfl, rfl⟩, ⟨rfl, rfl⟩⟩, (by first | omega | (simp only [nr, nl]; omega))⟩
 have h1r := h1
 try simp only [nq, nr, nl] at h1
 refine a_exit ?_
 refine a_seq ?_
 have hcl := catN_le (a := a) (b := b) (k := k)
 refine ar ?_
 refine om rfl ?_
 refine op_n1' (fun ver => j_call1 (v := .own 24 ver) (hp1 := [(24, some (ver, .row 135 2 _))]) [] false [] ent276 (f_growT (catN a b k).length (by first | omega | (simp only [nr, nl]; omega))) ⟨.inl ⟨rfl, rfl⟩, .inl ⟨rfl, rfl⟩, trivial⟩ trivial rfl rfl rfl (fun h => by cases h) rfl (List.all_eq_true.1 rfl) (.inl rfl) rfl rfl) fun v24x1 => ?_
 refine oa rfl ?_
 refine on ?_
 refine a_seq ?_
 refine rs ?_
 refine om rfl ?_
 refine op_v' (j_len_own Tryz.underlying263 rfl rfl) ?_
 refine om rfl ?_
 refine on ?_
 refine a_block ?_
 refine a_loopF' (ι := Nat × Nat) (fun x => x.1 ≤ 2) (fun x r => (27, .p (.int .i64 ((x.1 : Nat)))) :: (6, .own 24 x.2) :: r) (fun x r => (0, some (0, .row 67 1 [[.sl (a.map dT)], [.sl (b.map dT)]])) :: (24, some (x.2, .row 135 2 ((catN a b x.1).map dT))) :: r) (fun x => 2 - x.1) (fun _ _ => rfl) (fun _ _ => rfl) (0, v24x1) (by first | exact (by omega) | (dsimp only; exact (by omega))) ⟨⟨rfl, rfl⟩, ⟨rfl, rfl, trivial⟩, ⟨rfl, rfl, trivial⟩, ⟨rfl, rfl⟩, ⟨rfl, rfl⟩⟩ ?_
 rintro ⟨k, v⟩ hk; dsimp only at hk ⊢
 refine rs ?_
 refine op_v' (j_lt rfl rfl) ?_
 refine on ?_
 refine a_seq ?_
 refine ac rfl (fun h3 => ?_) fun h3 => ?_
 ·
  have h3r := h3
  try simp only [nq, nr, nl] at h3
  refine a_skip ?_
  refine a_seq ?_
  refine a_block ?_
  refine rs ?_
  refine op_v' (j_elem_ownN (n := k) slt263 rfl rfl rfl (by first | omega | (simp only [nr, nl]; omega)) (by first | omega | (simp only [nr, nl]; omega))) ?_
  refine op_v' (j_load_pel leaf67 rfl rfl (cat_hk (by first | omega | (simp only [nr, nl]; omega))) rfl) ?_
  refine oa rfl ?_
  refine on ?_
  have hcn := cat_len (a := a) (b := b) (k := k) (by first | omega | (simp only [nr, nl]; omega))
  have hcl := catN_le (a := a) (b := b) (k := k + 1)
  refine ar ?_
  refine om rfl ?_
  refine om rfl ?_
  refine op_n' (fun ver => j_append_sl slt67 elt135 rfl rfl rfl rfl len_dT (all_lf_dT _) (by rw [maxLen_eq]; first | omega | (simp only [nr, nl]; omega)) (by first | omega | (simp only [nr, nl]; omega))) fun v24x2 => ?_
  refine oa rfl ?_
  refine on ?_
  refine ar ?_
  refine op_v' (j_add rfl rfl (by first | omega | (simp only [nr, nl]; omega)) (by first | omega | (simp only [nr, nl]; omega))) ?_
  refine om rfl ?_
  refine on ?_
  exact ⟨(k + 1, v24x2), (by first | exact (by first | omega | (simp only [nr, nl]; omega)) | (dsimp only; exact (by first | omega | (simp only [nr, nl]; omega)))), ⟨⟨rfl, rfl⟩, ⟨rfl, rfl, trivial⟩, ⟨rfl, rowEq (by dsimp only; rw [cat_next (by omega), List.map_append]), trivial⟩, ⟨rfl, rfl⟩, ⟨rfl, rfl⟩⟩, (by first | exact (by first | omega | (simp only [nr, nl]; omega)) | (dsimp only; exact (by first | omega | (simp only [nr, nl]; omega))))⟩
 have h3r := h3
 try simp only [nq, nr, nl] at h3
 refine a_exit ?_
 refine rs ?_
 refine om rfl ?_
 refine oa rfl ?_
 refine on ?_
 refine a_freezeK 2 ⟨⟨_, _, _, rfl⟩, trivial⟩ rfl rfl rfl ?_
 refine a_ret ?_
 exact ⟨[.sl _], .sl _, [.row 67 1 _], [], [], ⟨rfl, trivial⟩, rfl, rfl, ⟨⟨rfl, rfl⟩, trivial⟩, rfl, rfl, ⟨by rw [show k = 2 by omega]; rfl, rfl, rfl⟩⟩
theorem f_normal (ts : List Term) (b : Int) (hf : fitT ts) (hb : -1000000 ≤ b ∧ b ≤ 1000000) : Fn Tryz.prog 152 [.sl (ts.map dT), .p (.int .i64 (b))] [] (fun rr ii nn => rr = .tup [.agg [.sl ((vC (nrmC ts b)).1.map dT), .p (.int .i64 (vC (nrmC ts b)).2)], .p (.bool (cOk (nrmC ts b)))] ∧ ii = [] ∧ nn = []) := by
 refine fn_of Tryz.func152 rfl (Nat.le_of_ble_eq_true rfl) fun w X g => ?_
 show AWp _ _ _ ⟨[(0, .sl (ts.map dT)), (1, .p (.int .i64 (b)))], []⟩
 have hf1 := hf.1
 refine rs ?_
 refine op_n' (fun ver => j_alloc elt69 rfl) fun v4x1 => ?_
 refine oa rfl ?_
 refine on ?_
 refine rs ?_
 refine op_n' (fun ver => j_alloc elt210 rfl) fun v6x2 => ?_
 refine on ?_
 refine a_seq ?_
 refine rs ?_
 refine om rfl ?_
 refine op_v' (j_len_map Tryz.underlying67 rfl) ?_
 refine om rfl ?_
 refine on ?_
 refine a_block ?_
 refine a_loopF' (ι := Nat) (fun k => k ≤ ts.length) (fun k r => (14, .p (.int .i64 ((k : Nat)))) :: (1, .p (.int .i64 (netB (ts.take k) b))) :: r) (fun k r => (6, some (v6x2, .box 210 (netR (ts.take k)))) :: r) (fun k => ts.length - k) (fun _ _ => rfl) (fun _ _ => rfl) 0 (Nat.zero_le _) ⟨⟨rfl, rfl⟩, ⟨rfl, rfl, trivial⟩, ⟨boxEq1 netR_nil.symm, trivial⟩, ⟨rfl, rfl⟩, ⟨rfl, rfl⟩⟩ ?_
 intro k hk
 refine rs ?_
 refine op_v' (j_lt rfl rfl) ?_
 refine on ?_
 refine a_seq ?_
 refine ac rfl (fun h1 => ?_) fun h1 => ?_
 ·
  have h1r := h1
  try simp only [nq, nr, nl] at h1
  refine a_skip ?_
  refine a_seq ?_
  refine a_block ?_
  refine rs ?_
  refine op_v' (j_elemN slt67 rfl rfl rfl (at_map (by first | omega | (simp only [nr, nl]; omega))) rfl) ?_
  refine op_v' (j_loada_el (ys := [.p _, .p _]) agg135 rfl (at_map (by first | omega | (simp only [nr, nl]; omega))) rfl (Nat.le_refl _)) ?_
  refine op_n' (fun ver => j_alloc elt135 rfl) fun v8x3 => ?_
  refine op_s' (j_storea_box0 agg135 rfl rfl rfl rfl rfl rfl) ?_
  refine on ?_
  refine a_seq ?_
  have hfa := fit_at hf (k := k) (by first | omega | (simp only [nr, nl]; omega))
  have hli := litOk_iff.1 hfa.1
  have hnv := netV_rng hf (-(ts.getD k default).2) (k := k) (by first | omega | (simp only [nr, nl]; omega))
  have hnw := netV_rng hf (ts.getD k default).2 (k := k) (by first | omega | (simp only [nr, nl]; omega))
  have hnb := netB_rng hf (b := b) (k := k) (by first | omega | (simp only [nr, nl]; omega))
  refine ar ?_
  refine op_v' (j_fldp fld135f1 rfl rfl) ?_
  refine op_v' (j_load_box leaf3 rfl rfl rfl) ?_
  refine op_v' (j_lt rfl rfl) ?_
  refine on ?_
  refine ac rfl (fun h2 => ?_) fun h2 => ?_
  ·
   have h2r := h2
   try simp only [nq, nr, nl] at h2
   refine rs ?_
   refine om rfl ?_
   refine op_v' (j_fldp fld135f0 rfl rfl) ?_
   refine op_v' (j_load_box leaf3 rfl rfl rfl) ?_
   refine op_v' (j_sub rfl rfl (by first | omega | (simp only [nr, nl]; omega)) (by first | omega | (simp only [nr, nl]; omega))) ?_
   refine oa rfl ?_
   refine on ?_
   refine a_draw mixed (by kernel_rfl) (by kernel_rfl) fun vf => ?_
   refine d_v' (j_fldp fld135f1 rfl rfl) ?_
   refine d_v' (j_load_box leaf3 rfl rfl rfl) ?_
   refine d_v' (j_neg rfl (by first | omega | (simp only [nr, nl]; omega)) (by first | omega | (simp only [nr, nl]; omega))) ?_
   refine d_v' (j_elem_arr Tryz.underlying210 (sz := 1) (by kernel_rfl) rfl rfl rfl (by omega) (by omega)) ?_
   refine d_v' (j_load_box leaf3 rfl rfl (netR_at (by omega) rfl)) ?_
   refine d_v' (j_fldp fld135f0 rfl rfl) ?_
   refine d_v' (j_load_box leaf3 rfl rfl rfl) ?_
   refine d_v' (j_sub rfl rfl (by first | omega | (simp only [nr, nl]; omega)) (by first | omega | (simp only [nr, nl]; omega))) ?_
   refine d_v' (j_elem_arr Tryz.underlying210 (sz := 1) (by kernel_rfl) rfl rfl rfl (by omega) (by omega)) ?_
   refine d_s' (j_store_box leaf3 rfl rfl (by rw [netR_len]; omega) (evo rfl) rfl) ?_
   refine d_nil (by kernel_rfl) (by kernel_rfl) ?_
   refine ar ?_
   refine op_v' (j_add rfl rfl (by first | omega | (simp only [nr, nl]; omega)) (by first | omega | (simp only [nr, nl]; omega))) ?_
   refine om rfl ?_
   refine on ?_
   exact ⟨k + 1, (by first | omega | (simp only [nr, nl]; omega)), ⟨⟨rfl, rfl⟩, ⟨rfl, intEq (by rw [netB_next (by first | omega | (simp only [nr, nl]; omega)), if_pos (by assumption)]), trivial⟩, ⟨boxEq1 (netR_neg hf (by first | omega | (simp only [nr, nl]; omega)) (by assumption)), trivial⟩, ⟨rfl, rfl⟩, ⟨rfl, rfl⟩⟩, (by first | omega | (simp only [nr, nl]; omega))⟩
  have h2r := h2
  try simp only [nq, nr, nl] at h2
  refine a_draw mixed (by kernel_rfl) (by kernel_rfl) fun vf => ?_
  refine d_v' (j_fldp fld135f1 rfl rfl) ?_
  refine d_v' (j_load_box leaf3 rfl rfl rfl) ?_
  refine d_v' (j_elem_arr Tryz.underlying210 (sz := 1) (by kernel_rfl) rfl rfl rfl (by omega) (by omega)) ?_
  refine d_v' (j_load_box leaf3 rfl rfl (netR_at (by omega) rfl)) ?_
  refine d_v' (j_fldp fld135f0 rfl rfl) ?_
  refine d_v' (j_load_box leaf3 rfl rfl rfl) ?_
  refine d_v' (j_add rfl rfl (by first | omega | (simp only [nr, nl]; omega)) (by first | omega | (simp only [nr, nl]; omega))) ?_
  refine d_v' (j_elem_arr Tryz.underlying210 (sz := 1) (by kernel_rfl) rfl rfl rfl (by omega) (by omega)) ?_
  refine d_s' (j_store_box leaf3 rfl rfl (by rw [netR_len]; omega) (evo rfl) rfl) ?_
  refine d_nil (by kernel_rfl) (by kernel_rfl) ?_
  refine ar ?_
  refine op_v' (j_add rfl rfl (by first | omega | (simp only [nr, nl]; omega)) (by first | omega | (simp only [nr, nl]; omega))) ?_
  refine om rfl ?_
  refine on ?_
  exact ⟨k + 1, (by first | omega | (simp only [nr, nl]; omega)), ⟨⟨rfl, rfl⟩, ⟨rfl, intEq (by rw [netB_next (by first | omega | (simp only [nr, nl]; omega)), if_neg (by assumption)]), trivial⟩, ⟨boxEq1 (netR_pos hf (by first | omega | (simp only [nr, nl]; omega)) (by assumption)), trivial⟩, ⟨rfl, rfl⟩, ⟨rfl, rfl⟩⟩, (by first | omega | (simp only [nr, nl]; omega))⟩
 have h1r := h1
 try simp only [nq, nr, nl] at h1
 refine a_exit ?_
 refine rs ?_
 refine op_v' (j_build (parts := []) str69 elt69 rfl rfl) ?_
 refine op_n' (fun ver => j_alloc elt69 rfl) fun v9x4 => ?_
 refine op_s' (j_storea_box0 agg69 rfl rfl rfl rfl rfl rfl) ?_
 refine on ?_
 refine a_adopt_box' 0 1009 135 2 (by decide) (id := 9) rfl rfl fun v1009x5 => ?_
 refine a_seq ?_
 refine a_seq ?_
 obtain rfl : k = ts.length := by first | omega | (simp only [nr, nl]; omega)
 rw [List.take_length]
 have hnb := netB_all hf b
 refine ar ?_
 refine op_v' (j_loada_box (ys := netR ts) agg210 rfl rfl (by rw [List.drop_zero]; exact List.take_of_length_le (by rw [netR_len]; decide)) (by rw [netR_len]; decide)) ?_
 refine om rfl ?_
 refine on ?_
 refine a_block ?_
 refine a_loopF' (ι := Nat × Nat) (fun x => x.1 ≤ 13) (fun x r => (45, .p (.int .i64 ((x.1 : Nat)))) :: (1, .p (.int .i64 (nrmB (netV ts) (netB ts b) x.1))) :: r) (fun x r => (9, some (v9x4, .box 69 [.own 1009 x.2, .p (.int .i64 0)])) :: (1009, some (x.2, .row 135 2 ((nrmT (netV ts) x.1).map dT))) :: r) (fun x => 13 - x.1) (fun _ _ => rfl) (fun _ _ => rfl) (0, v1009x5) (by first | exact (by omega) | (dsimp only; exact (by omega))) ⟨⟨rfl, rfl⟩, ⟨rfl, rfl, trivial⟩, ⟨rfl, rfl, trivial⟩, ⟨rfl, rfl⟩, ⟨rfl, rfl⟩⟩ ?_
 rintro ⟨j, v⟩ hj; dsimp only at hj ⊢
 refine rs ?_
 refine op_v' (j_lt rfl rfl) ?_
 refine on ?_
 refine a_seq ?_
 refine ac rfl (fun h3 => ?_) fun h3 => ?_
 ·
  have h3r := h3
  try simp only [nq, nr, nl] at h3
  refine a_skip ?_
  refine a_seq ?_
  refine a_block ?_
  refine a_seq ?_
  have hnl := nrmT_len (f := netV ts) (n := j)
  have hva := netV_all hf (j : Nat)
  have hba := nrmB_all hf (b := netB ts b) (n := j) (by omega)
  refine ar ?_
  refine om rfl ?_
  refine op_v' (j_index_agg Tryz.underlying210 leaf3 rfl rfl (by omega) (by omega) (netR_gi (by omega))) ?_
  refine oa rfl ?_
  refine oa rfl ?_
  refine on ?_
  refine a_block ?_
  refine rs ?_
  refine om rfl ?_
  refine op_v' (j_gt rfl rfl) ?_
  refine oa rfl ?_
  refine on ?_
  refine ac rfl (fun h4 => ?_) fun h4 => ?_
  ·
   have h4r := h4
   try simp only [nq, nr, nl] at h4
   refine ar ?_
   refine op_v' (j_fldp fld69f0 rfl rfl) ?_
   refine op_v' (j_load_box leaf67 rfl rfl rfl) ?_
   refine om rfl ?_
   refine om rfl ?_
   refine op_v' (j_build (parts := [(0, .tmp 54), (1, .tmp 55)]) str135 elt135 rfl rfl) ?_
   refine op_n' (fun ver => j_buildSlice (parts := [(0, .tmp 56)]) (es := [[_, _]]) slt67 elt135 rfl rfl (by decide) (by decide) rfl rfl (by simp) rfl) fun v57x6 => ?_
   refine op_n' (fun ver => j_append_own slt67 elt135 rfl rfl rfl rfl rfl rfl (by rw [maxLen_eq]; first | omega | (simp only [nr, nl]; omega)) (by first | omega | (simp only [nr, nl]; omega))) fun v1009x7 => ?_
   refine op_v' (j_fldp fld69f0 rfl rfl) ?_
   refine op_s' (j_store_box leaf67 rfl rfl (Nat.le_of_ble_eq_true rfl) (evo rfl) rfl) ?_
   refine on ?_
   refine ar ?_
   refine op_v' (j_add rfl rfl (by first | omega | (simp only [nr, nl]; omega)) (by first | omega | (simp only [nr, nl]; omega))) ?_
   refine om rfl ?_
   refine on ?_
   exact ⟨(j + 1, v1009x7), (by first | exact (by first | omega | (simp only [nr, nl]; omega)) | (dsimp only; exact (by first | omega | (simp only [nr, nl]; omega)))), ⟨⟨rfl, rfl⟩, ⟨rfl, intEq (by dsimp only; rw [nrmB_z (by omega)]), trivial⟩, ⟨rfl, rowEq (by dsimp only; rw [nrmT_p (by omega), List.map_append]; rfl), trivial⟩, ⟨rfl, rfl⟩, ⟨rfl, rfl⟩⟩, (by first | exact (by first | omega | (simp only [nr, nl]; omega)) | (dsimp only; exact (by first | omega | (simp only [nr, nl]; omega))))⟩
  have h4r := h4
  try simp only [nq, nr, nl] at h4
  refine rs ?_
  refine om rfl ?_
  refine op_v' (j_lt rfl rfl) ?_
  refine oa rfl ?_
  refine on ?_
  refine ac rfl (fun h5 => ?_) fun h5 => ?_
  ·
   have h5r := h5
   try simp only [nq, nr, nl] at h5
   refine rs ?_
   refine op_v' (j_fldp fld69f0 rfl rfl) ?_
   refine op_v' (j_load_box leaf67 rfl rfl rfl) ?_
   refine om rfl ?_
   refine op_v' (j_neg rfl (by first | omega | (simp only [nr, nl]; omega)) (by first | omega | (simp only [nr, nl]; omega))) ?_
   refine om rfl ?_
   refine op_v' (j_neg rfl (by first | omega | (simp only [nr, nl]; omega)) (by first | omega | (simp only [nr, nl]; omega))) ?_
   refine op_v' (j_build (parts := [(0, .tmp 66), (1, .tmp 68)]) str135 elt135 rfl rfl) ?_
   refine op_n' (fun ver => j_buildSlice (parts := [(0, .tmp 69)]) (es := [[_, _]]) slt67 elt135 rfl rfl (by decide) (by decide) rfl rfl (by simp) rfl) fun v70x8 => ?_
   refine op_n' (fun ver => j_append_own slt67 elt135 rfl rfl rfl rfl rfl rfl (by rw [maxLen_eq]; first | omega | (simp only [nr, nl]; omega)) (by first | omega | (simp only [nr, nl]; omega))) fun v1009x9 => ?_
   refine op_v' (j_fldp fld69f0 rfl rfl) ?_
   refine op_s' (j_store_box leaf67 rfl rfl (Nat.le_of_ble_eq_true rfl) (evo rfl) rfl) ?_
   refine on ?_
   refine ar ?_
   refine om rfl ?_
   refine om rfl ?_
   refine op_v' (j_sub rfl rfl (by first | omega | (simp only [nr, nl]; omega)) (by first | omega | (simp only [nr, nl]; omega))) ?_
   refine oa rfl ?_
   refine on ?_
   refine ar ?_
   refine op_v' (j_add rfl rfl (by first | omega | (simp only [nr, nl]; omega)) (by first | omega | (simp only [nr, nl]; omega))) ?_
   refine om rfl ?_
   refine on ?_
   exact ⟨(j + 1, v1009x9), (by first | exact (by first | omega | (simp only [nr, nl]; omega)) | (dsimp only; exact (by first | omega | (simp only [nr, nl]; omega)))), ⟨⟨rfl, rfl⟩, ⟨rfl, intEq (by dsimp only; rw [nrmB_m (by omega)]), trivial⟩, ⟨rfl, rowEq (by dsimp only; rw [nrmT_m (by omega), List.map_append]; rfl), trivial⟩, ⟨rfl, rfl⟩, ⟨rfl, rfl⟩⟩, (by first | exact (by first | omega | (simp only [nr, nl]; omega)) | (dsimp only; exact (by first | omega | (simp only [nr, nl]; omega))))⟩
  have h5r := h5
  try simp only [nq, nr, nl] at h5
  refine a_skip ?_
  refine ar ?_
  refine op_v' (j_add rfl rfl (by first | omega | (simp only [nr, nl]; omega)) (by first | omega | (simp only [nr, nl]; omega))) ?_
  refine om rfl ?_
  refine on ?_
  exact ⟨(j + 1, v), (by first | exact (by first | omega | (simp only [nr, nl]; omega)) | (dsimp only; exact (by first | omega | (simp only [nr, nl]; omega)))), ⟨⟨rfl, rfl⟩, ⟨rfl, intEq (by dsimp only; rw [nrmB_z (by omega)]), trivial⟩, ⟨rfl, rowEq (by dsimp only; rw [nrmT_z (by omega) (by omega)]), trivial⟩, ⟨rfl, rfl⟩, ⟨rfl, rfl⟩⟩, (by first | exact (by first | omega | (simp only [nr, nl]; omega)) | (dsimp only; exact (by first | omega | (simp only [nr, nl]; omega))))⟩
 have h3r := h3
 try simp only [nq, nr, nl] at h3
 refine a_exit ?_
 refine a_seq ?_
 obtain rfl : j = 13 := by omega
 have hba := nrmB_all hf (b := netB ts b) (n := 13) (by omega)
 refine ar ?_
 refine om rfl ?_
 refine op_v' (j_max rfl rfl) ?_
 refine op_v' (j_fldp fld69f1 rfl rfl) ?_
 refine op_s' (j_store_box leaf3 rfl rfl (Nat.le_of_ble_eq_true rfl) (evo rfl) rfl) ?_
 refine on ?_
 refine a_seq ?_
 refine a_freezeboxK 0 9 (by decide) trivial rfl rfl rfl rfl ?_
 try dsimp only [List.set]
 refine ar ?_
 refine op_v' (j_loada_box (ys := [.sl _, .p _]) agg69 rfl rfl rfl (Nat.le_of_ble_eq_true rfl)) ?_
 refine op_v0' (j_call0 (v := .tup [.agg [.sl _, .p _], .p _]) (hp1 := []) [] false [] ent201 (f_valid (nrmC ts b)) ⟨.inl ⟨rfl, rfl⟩, trivial⟩ trivial rfl rfl (fun h => by cases h) rfl (fun _ h => by cases h) (.inl rfl) rfl rfl) ?_
 refine op_v' (j_extract rfl rfl) ?_
 refine op_v' (j_extract rfl rfl) ?_
 refine op_s' (j_storea_box0 agg69 rfl rfl rfl rfl rfl rfl) ?_
 refine oa rfl ?_
 refine on ?_
 refine a_ret ?_
 exact ⟨[.agg [.sl _, .p _], .p _], .tup [.agg [.sl _, .p _], .p _], [], [], [], ⟨⟨_, _, _, _, rfl, rfl, agg69, rfl⟩, rfl, trivial⟩, rfl, rfl, trivial, rfl, rfl, ⟨rfl, rfl, rfl⟩⟩
theorem f_addImpl (a b : Con) (ha : cOk a = true) (hb : cOk b = true) : Fn Tryz.prog 235 [.agg [.sl (a.1.map dT), .p (.int .i64 a.2)], .agg [.sl (b.1.map dT), .p (.int .i64 b.2)]] [] (fun rr ii nn => rr = .tup [.agg [.sl ((addC a b).1.map dT), .p (.int .i64 (addC a b).2)], .p (.bool (addO a b))] ∧ ii = [] ∧ nn = []) := by
 refine fn_of Tryz.func235 rfl (Nat.le_of_ble_eq_true rfl) fun w X g => ?_
 show AWp _ _ _ ⟨[(0, .agg [.sl (a.1.map dT), .p (.int .i64 a.2)]), (1, .agg [.sl (b.1.map dT), .p (.int .i64 b.2)])], []⟩
 have hfc := fit_cons ha hb
 have hba := cOk_bound ha
 have hbb := cOk_bound hb
 have hla := cOk_len ha
 have hlb := cOk_len hb
 refine rs ?_
 refine op_n' (fun ver => j_boxa rfl) fun v2x1 => ?_
 refine op_n' (fun ver => j_boxa rfl) fun v3x2 => ?_
 refine op_n' (fun ver => j_alloc elt69 rfl) fun v4x3 => ?_
 refine oa rfl ?_
 refine on ?_
 refine a_seq ?_
 refine rs ?_
 refine op_v' (j_loada_box (ys := [.sl _, .p _]) agg69 rfl rfl rfl (Nat.le_of_ble_eq_true rfl)) ?_
 refine op_v0' (j_call0 (v := .p _) (hp1 := []) [] false [] ent115 (f_cvImpl a) ⟨.inl ⟨rfl, rfl⟩, trivial⟩ trivial rfl rfl (fun h => by cases h) rfl (fun _ h => by cases h) (.inl rfl) rfl rfl) ?_
 refine op_v' (j_not rfl) ?_
 refine om rfl ?_
 refine op_split' 9 rfl (fun h1 => ?_) (fun h1 => ?_)
 ·
  have h1r := h1
  try simp only [nq, nr] at h1
  exact absurd h1r (by simp [ha, hb])
 have h1r := h1
 try simp only [nq, nr] at h1
 refine op_v' (j_want rfl rfl h1r (j_loada_box (ys := [.sl _, .p _]) agg69 rfl rfl rfl (Nat.le_of_ble_eq_true rfl))) ?_
 refine op_v0' (j_want rfl rfl h1r (j_call0 (v := .p _) (hp1 := []) [] false [] ent115 (f_cvImpl b) ⟨.inl ⟨rfl, rfl⟩, trivial⟩ trivial rfl rfl (fun h => by cases h) rfl (fun _ h => by cases h) (.inl rfl) rfl rfl)) ?_
 refine op_v' (j_want rfl rfl h1r (j_not rfl)) ?_
 refine op_v' (j_pick_f rfl h1r (evo rfl)) ?_
 refine on ?_
 refine ac rfl (fun h2 => ?_) fun h2 => ?_
 ·
  have h2r := h2
  try simp only [nq, nr] at h2
  exact absurd h2r (by simp [ha, hb])
 have h2r := h2
 try simp only [nq, nr] at h2
 refine a_skip ?_
 refine a_seq ?_
 refine a_draw mixed (by kernel_rfl) (by kernel_rfl) fun vf => ?_
 refine d_v' (j_fldp fld69f0 rfl rfl) ?_
 refine d_v' (j_load_box leaf67 rfl rfl rfl) ?_
 refine d_v' (j_fldp fld69f0 rfl rfl) ?_
 refine d_v' (j_load_box leaf67 rfl rfl rfl) ?_
 refine d_n' (fun ver => j_buildSlice (parts := [(0, .tmp 16), (1, .tmp 18)]) (es := [[_], [_]]) slt263 elt67 rfl rfl (by decide) (by decide) rfl rfl (by simp) rfl) ?_
 refine d_v0' (j_call0 (v := .sl _) (hp1 := [(19, some ((vf 19), .row 67 1 _))]) [(19, (vf 19))] false [19] ent267 (f_concatT a.1 b.1 (by omega) (by omega)) ⟨.inl ⟨rfl, rfl⟩, trivial⟩ ⟨⟨rfl, rfl⟩, trivial⟩ rfl rfl (fun h => by cases h) rfl (List.all_eq_true.1 rfl) (.inl rfl) rfl rfl) ?_
 refine d_v' (j_fldp fld69f1 rfl rfl) ?_
 refine d_v' (j_load_box leaf3 rfl rfl rfl) ?_
 refine d_v' (j_fldp fld69f1 rfl rfl) ?_
 refine d_v' (j_load_box leaf3 rfl rfl rfl) ?_
 refine d_v' (j_add rfl rfl (by omega) (by omega)) ?_
 refine d_v0' (j_call0 (v := .tup [.agg [.sl _, .p _], .p _]) (hp1 := []) [] false [] ent152 (f_normal (a.1 ++ b.1) (a.2 + b.2) hfc (by omega)) ⟨.inl ⟨rfl, rfl⟩, .inl ⟨rfl, rfl⟩, trivial⟩ trivial rfl rfl (fun h => by cases h) rfl (fun _ h => by cases h) (.inl rfl) rfl rfl) ?_
 refine d_v' (j_extract rfl rfl) ?_
 refine d_v' (j_extract rfl rfl) ?_
 refine d_s' (j_storea_box0 agg69 rfl rfl rfl rfl rfl rfl) ?_
 refine d_v' (j_assign (evo rfl)) ?_
 refine d_nil (by kernel_rfl) (by kernel_rfl) ?_
 refine a_ret ?_
 exact ⟨[.agg [.sl _, .p _], .p _], .tup [.agg [.sl _, .p _], .p _], [], [], [], ⟨⟨_, _, _, _, rfl, rfl, agg69, rfl⟩, rfl, trivial⟩, rfl, rfl, trivial, rfl, rfl, ⟨rfl, rfl, rfl⟩⟩
theorem f_l1Net (ts : List Term) (b : Int) (hf : fitT ts) (hb : -1000000 ≤ b ∧ b ≤ 1000000) : Fn Tryz.prog 261 [.sl (ts.map dT), .p (.int .i64 (b))] [] (fun rr ii nn => rr = .tup [.own 0 0, .p (.int .i64 (netB ts b))] ∧ ii = [] ∧ nn = [.row 3 1 ((netL ts).map dI)]) := by
 refine fn_of Tryz.func261 rfl (Nat.le_of_ble_eq_true rfl) fun w X g => ?_
 show AWp _ _ _ ⟨[(0, .sl (ts.map dT)), (1, .p (.int .i64 (b)))], []⟩
 have hf1 := hf.1
 refine rs ?_
 refine oa rfl ?_
 refine oa rfl ?_
 refine on ?_
 refine rs ?_
 refine op_n' (fun ver => j_make (n := 13) slt23 elt3 rfl rfl (by decide) rfl rfl rfl rfl (by first | omega | (simp only [nr, nl, netL_len]; omega)) (by rw [maxLen_eq]; first | omega | (simp only [nr, nl, netL_len]; omega))) fun v9x1 => ?_
 refine oa rfl ?_
 refine on ?_
 refine a_seq ?_
 refine rs ?_
 refine oa rfl ?_
 refine on ?_
 refine a_block ?_
 refine a_loopF' (ι := Nat × Nat) (fun x => x.1 ≤ ts.length) (fun x r => (7, .p (.int .i64 ((x.1 : Nat)))) :: (1, .p (.int .i64 (netB (ts.take x.1) b))) :: r) (fun x r => (9, some (v9x1, .row 3 1 ((netL (ts.take x.1)).map dI))) :: r) (fun x => ts.length - x.1) (fun _ _ => rfl) (fun _ _ => rfl) (0, 0) (by first | exact (Nat.zero_le _) | (dsimp only; exact (Nat.zero_le _))) ⟨⟨rfl, rfl⟩, ⟨rfl, rfl, trivial⟩, ⟨rowEq netL_nil9, trivial⟩, ⟨rfl, rfl⟩, ⟨rfl, rfl⟩⟩ ?_
 rintro ⟨k, v⟩ hk; dsimp only at hk ⊢
 refine a_seq ?_
 refine rs ?_
 refine om rfl ?_
 refine om rfl ?_
 refine op_v' (j_len_map Tryz.underlying67 rfl) ?_
 refine op_v' (j_lt rfl rfl) ?_
 refine on ?_
 refine ac rfl (fun h1 => ?_) fun h1 => ?_
 ·
  have h1r := h1
  try simp only [nq, nr, nl, netL_len] at h1
  refine a_skip ?_
  refine a_seq ?_
  refine a_block ?_
  refine a_seq ?_
  have hfa := fit_at hf (k := k) (by first | omega | (simp only [nr, nl, netL_len]; omega))
  have hli := litOk_iff.1 hfa.1
  have hnv := netV_rng hf (((-(ts.getD k default).2).toNat : Nat) : Int) (k := k) (by first | omega | (simp only [nr, nl, netL_len]; omega))
  have hnw := netV_rng hf ((((ts.getD k default).2).toNat : Nat) : Int) (k := k) (by first | omega | (simp only [nr, nl, netL_len]; omega))
  have hnb := netB_rng hf (b := b) (k := k) (by first | omega | (simp only [nr, nl, netL_len]; omega))
  have hla1 := netL_at (ts := ts.take k) (v := ((ts.getD k default).2).toNat)
  have hla2 := netL_at (ts := ts.take k) (v := (-(ts.getD k default).2).toNat)
  refine ar ?_
  refine om rfl ?_
  refine om rfl ?_
  refine op_v' (j_elemN slt67 rfl rfl rfl (at_map (by first | omega | (simp only [nr, nl, netL_len]; omega))) rfl) ?_
  refine op_v' (j_loada_el (ys := [.p _, .p _]) agg135 rfl (at_map (by first | omega | (simp only [nr, nl, netL_len]; omega))) rfl (Nat.le_refl _)) ?_
  refine op_n' (fun ver => j_alloc elt135 rfl) fun v8x2 => ?_
  refine op_s' (j_storea_box0 agg135 rfl rfl rfl rfl rfl rfl) ?_
  refine on ?_
  refine rs ?_
  refine op_v' (j_fldp fld135f1 rfl rfl) ?_
  refine op_v' (j_load_box leaf3 rfl rfl rfl) ?_
  refine op_v' (j_gt rfl rfl) ?_
  refine on ?_
  refine ac rfl (fun h2 => ?_) fun h2 => ?_
  ·
   have h2r := h2
   try simp only [nq, nr, nl, netL_len] at h2
   refine a_draw mixed (by kernel_rfl) (by kernel_rfl) fun vf => ?_
   refine d_v' (j_move (evo rfl)) ?_
   refine d_v' (j_fldp fld135f1 rfl rfl) ?_
   refine d_v' (j_load_box leaf3 rfl rfl rfl) ?_
   refine d_v' (j_move (evo rfl)) ?_
   refine d_v' (j_fldp fld135f1 rfl rfl) ?_
   refine d_v' (j_load_box leaf3 rfl rfl rfl) ?_
   refine d_v' (j_elem_ownN (n := ((ts.getD k default).2).toNat) slt23 rfl rfl rfl (by omega) (by first | omega | (simp only [nr, nl, netL_len]; omega))) ?_
   refine d_v' (j_load_pel leaf3 rfl rfl (at_map (by first | omega | (simp only [nr, nl, netL_len]; omega))) rfl) ?_
   refine d_v' (j_fldp fld135f0 rfl rfl) ?_
   refine d_v' (j_load_box leaf3 rfl rfl rfl) ?_
   refine d_v' (j_add rfl rfl (by first | omega | (simp only [nr, nl, netL_len]; omega)) (by first | omega | (simp only [nr, nl, netL_len]; omega))) ?_
   refine d_v' (j_elem_ownN (n := ((ts.getD k default).2).toNat) slt23 rfl rfl rfl (by omega) (by first | omega | (simp only [nr, nl, netL_len]; omega))) ?_
   refine d_s' (j_store_row leaf3 rfl rfl (by first | omega | (simp only [nr, nl, netL_len]; omega)) (evo rfl) rfl rfl) ?_
   refine d_nil (by kernel_rfl) (by kernel_rfl) ?_
   refine ar ?_
   refine om rfl ?_
   refine op_v' (j_add rfl rfl (by first | omega | (simp only [nr, nl, netL_len]; omega)) (by first | omega | (simp only [nr, nl, netL_len]; omega))) ?_
   refine oa rfl ?_
   refine on ?_
   exact ⟨(k + 1, 0), (by first | exact (by first | omega | (simp only [nr, nl, netL_len]; omega)) | (dsimp only; exact (by first | omega | (simp only [nr, nl, netL_len]; omega)))), ⟨⟨rfl, rfl⟩, ⟨rfl, intEq (by dsimp only; rw [netB_next (by first | omega | (simp only [nr, nl, netL_len]; omega)), if_neg (by omega)]), trivial⟩, ⟨rowEq (by dsimp only; rw [hla1 (by omega)]; exact net_pos hf (by first | omega | (simp only [nr, nl, netL_len]; omega)) (by omega) (by omega)), trivial⟩, ⟨rfl, rfl⟩, ⟨rfl, rfl⟩⟩, (by first | exact (by first | omega | (simp only [nr, nl, netL_len]; omega)) | (dsimp only; exact (by first | omega | (simp only [nr, nl, netL_len]; omega))))⟩
  have h2r := h2
  try simp only [nq, nr, nl, netL_len] at h2
  refine a_seq ?_
  refine a_draw mixed (by kernel_rfl) (by kernel_rfl) fun vf => ?_
  refine d_v' (j_move (evo rfl)) ?_
  refine d_v' (j_fldp fld135f1 rfl rfl) ?_
  refine d_v' (j_load_box leaf3 rfl rfl rfl) ?_
  refine d_v' (j_neg rfl (by first | omega | (simp only [nr, nl, netL_len]; omega)) (by first | omega | (simp only [nr, nl, netL_len]; omega))) ?_
  refine d_v' (j_move (evo rfl)) ?_
  refine d_v' (j_fldp fld135f1 rfl rfl) ?_
  refine d_v' (j_load_box leaf3 rfl rfl rfl) ?_
  refine d_v' (j_neg rfl (by first | omega | (simp only [nr, nl, netL_len]; omega)) (by first | omega | (simp only [nr, nl, netL_len]; omega))) ?_
  refine d_v' (j_elem_ownN (n := (-(ts.getD k default).2).toNat) slt23 rfl rfl rfl (by omega) (by first | omega | (simp only [nr, nl, netL_len]; omega))) ?_
  refine d_v' (j_load_pel leaf3 rfl rfl (at_map (by first | omega | (simp only [nr, nl, netL_len]; omega))) rfl) ?_
  refine d_v' (j_fldp fld135f0 rfl rfl) ?_
  refine d_v' (j_load_box leaf3 rfl rfl rfl) ?_
  refine d_v' (j_sub rfl rfl (by first | omega | (simp only [nr, nl, netL_len]; omega)) (by first | omega | (simp only [nr, nl, netL_len]; omega))) ?_
  refine d_v' (j_elem_ownN (n := (-(ts.getD k default).2).toNat) slt23 rfl rfl rfl (by omega) (by first | omega | (simp only [nr, nl, netL_len]; omega))) ?_
  refine d_s' (j_store_row leaf3 rfl rfl (by first | omega | (simp only [nr, nl, netL_len]; omega)) (evo rfl) rfl rfl) ?_
  refine d_nil (by kernel_rfl) (by kernel_rfl) ?_
  refine ar ?_
  refine om rfl ?_
  refine op_v' (j_fldp fld135f0 rfl rfl) ?_
  refine op_v' (j_load_box leaf3 rfl rfl rfl) ?_
  refine op_v' (j_sub rfl rfl (by first | omega | (simp only [nr, nl, netL_len]; omega)) (by first | omega | (simp only [nr, nl, netL_len]; omega))) ?_
  refine oa rfl ?_
  refine on ?_
  refine ar ?_
  refine om rfl ?_
  refine op_v' (j_add rfl rfl (by first | omega | (simp only [nr, nl, netL_len]; omega)) (by first | omega | (simp only [nr, nl, netL_len]; omega))) ?_
  refine oa rfl ?_
  refine on ?_
  exact ⟨(k + 1, 0), (by first | exact (by first | omega | (simp only [nr, nl, netL_len]; omega)) | (dsimp only; exact (by first | omega | (simp only [nr, nl, netL_len]; omega)))), ⟨⟨rfl, rfl⟩, ⟨rfl, intEq (by dsimp only; rw [netB_next (by first | omega | (simp only [nr, nl, netL_len]; omega)), if_pos (by omega)]), trivial⟩, ⟨rowEq (by dsimp only; rw [hla2 (by omega)]; exact net_neg hf (by first | omega | (simp only [nr, nl, netL_len]; omega)) (by omega) (by omega)), trivial⟩, ⟨rfl, rfl⟩, ⟨rfl, rfl⟩⟩, (by first | exact (by first | omega | (simp only [nr, nl, netL_len]; omega)) | (dsimp only; exact (by first | omega | (simp only [nr, nl, netL_len]; omega))))⟩
 have h1r := h1
 try simp only [nq, nr, nl, netL_len] at h1
 refine a_exit ?_
 refine rs ?_
 refine om rfl ?_
 refine om rfl ?_
 refine oa rfl ?_
 refine oa rfl ?_
 refine on ?_
 refine a_ret ?_
 exact ⟨[.own 9 v9x1, .p _], .tup [.own 0 0, .p _], [], [.row 3 1 _], [(9, v9x1)], ⟨rfl, rfl, trivial⟩, rfl, rfl, ⟨⟨rfl, rfl⟩, trivial⟩, rfl, rfl, ⟨by rw [List.take_of_length_le (by first | omega | (simp only [nr, nl, netL_len]; omega))], rfl, by rw [List.take_of_length_le (by first | omega | (simp only [nr, nl, netL_len]; omega))]⟩⟩
theorem f_l1NetV (a c : List Term) (b : Int) (hf : fitT (a ++ c)) (hb : -1000000 ≤ b ∧ b ≤ 1000000) : Fn Tryz.prog 261 [.sl ([] ++ a.map dT ++ c.map dT), .p (.int .i64 b)] [] (fun rr ii nn => rr = .tup [.own 0 0, .p (.int .i64 (netB (a ++ c) b))] ∧ ii = [] ∧ nn = [.row 3 1 ((netL (a ++ c)).map dI)]) := by
 have h9 := f_l1Net (a ++ c) b hf hb
 rw [List.map_append] at h9
 exact h9
theorem f_l1Normal (ts : List Term) (c : Int) (hf : fitT ts) (hb : -10000000 ≤ c ∧ c ≤ 10000000) : Fn Tryz.prog 262 [.sl ((netL ts).map dI), .p (.int .i64 (c))] [] (fun rr ii nn => rr = .tup [.agg [.sl ((vC (nrmT (netV ts) 13, max 0 (nrmB (netV ts) c 13))).1.map dT), .p (.int .i64 (vC (nrmT (netV ts) 13, max 0 (nrmB (netV ts) c 13))).2)], .p (.bool (cOk (nrmT (netV ts) 13, max 0 (nrmB (netV ts) c 13))))] ∧ ii = [] ∧ nn = []) := by
 refine fn_of Tryz.func262 rfl (Nat.le_of_ble_eq_true rfl) fun w X g => ?_
 show AWp _ _ _ ⟨[(0, .sl ((netL ts).map dI)), (1, .p (.int .i64 (c)))], []⟩
 have hz0 : netV ts 0 = 0 := by have h9 := netV_0 hf (Nat.le_refl _); rw [List.take_length] at h9; exact h9
 refine rs ?_
 refine op_n' (fun ver => j_alloc elt69 rfl) fun v4x1 => ?_
 refine oa rfl ?_
 refine on ?_
 refine rs ?_
 refine op_v' (j_build (parts := []) str69 elt69 rfl rfl) ?_
 refine op_n' (fun ver => j_alloc elt69 rfl) fun v6x2 => ?_
 refine op_s' (j_storea_box0 agg69 rfl rfl rfl rfl rfl rfl) ?_
 refine on ?_
 refine a_adopt_box' 0 1006 135 2 (by decide) (id := 6) rfl rfl fun v1006x3 => ?_
 refine a_seq ?_
 refine rs ?_
 refine oa rfl ?_
 refine on ?_
 refine a_block ?_
 refine a_loopF' (ι := Nat × Nat) (fun x => 1 ≤ x.1 ∧ x.1 ≤ 13) (fun x r => (7, .p (.int .i64 ((x.1 : Nat)))) :: (1, .p (.int .i64 (nrmB (netV ts) c x.1))) :: r) (fun x r => (6, some (v6x2, .box 69 [.own 1006 x.2, .p (.int .i64 0)])) :: (1006, some (x.2, .row 135 2 ((nrmT (netV ts) x.1).map dT))) :: r) (fun x => 13 - x.1) (fun _ _ => rfl) (fun _ _ => rfl) (1, v1006x3) (by first | exact (by omega) | (dsimp only; exact (by omega))) ⟨⟨rfl, rfl⟩, ⟨rfl, (intEq (nrmB_1 hz0).symm), trivial⟩, ⟨rfl, rowEq (by rw [nrmT_1 hz0]; rfl), trivial⟩, ⟨rfl, rfl⟩, ⟨rfl, rfl⟩⟩ ?_
 rintro ⟨j, v⟩ hj; dsimp only at hj ⊢
 refine a_seq ?_
 refine rs ?_
 refine om rfl ?_
 refine op_v' (j_le rfl rfl) ?_
 refine on ?_
 refine ac rfl (fun h1 => ?_) fun h1 => ?_
 ·
  have h1r := h1
  try simp only [nq, nr, nl, netL_len] at h1
  refine a_skip ?_
  refine a_seq ?_
  refine a_block ?_
  refine a_seq ?_
  refine a_seq ?_
  have hnl := nrmT_len (f := netV ts) (n := j)
  have hna := netL_at (ts := ts) (v := j) (by omega)
  have hva := netV_all hf (j : Nat)
  have hba := nrmB_all hf (b := c) (n := j) (by omega)
  refine ar ?_
  refine om rfl ?_
  refine om rfl ?_
  refine op_v' (j_elemN (n := j) slt23 rfl rfl (by first | omega | (simp only [nr, nl, netL_len]; omega)) (at_map (by first | omega | (simp only [nr, nl, netL_len]; omega))) rfl) ?_
  refine op_v' (j_load_el leaf3 rfl (at_map (by first | omega | (simp only [nr, nl, netL_len]; omega))) rfl) ?_
  refine op_v' (j_gt rfl rfl) ?_
  refine on ?_
  refine ac rfl (fun h2 => ?_) fun h2 => ?_
  ·
   have h2r := h2
   try simp only [nq, nr, nl, netL_len] at h2
   refine a_draw mixed (by kernel_rfl) (by kernel_rfl) fun vf => ?_
   refine d_v' (j_fldp fld69f0 rfl rfl) ?_
   refine d_v' (j_load_box leaf67 rfl rfl rfl) ?_
   refine d_v' (j_move (evo rfl)) ?_
   refine d_v' (j_move (evo rfl)) ?_
   refine d_v' (j_elemN (n := j) slt23 rfl rfl (by first | omega | (simp only [nr, nl, netL_len]; omega)) (at_map (by first | omega | (simp only [nr, nl, netL_len]; omega))) rfl) ?_
   refine d_v' (j_load_el leaf3 rfl (at_map (by first | omega | (simp only [nr, nl, netL_len]; omega))) rfl) ?_
   refine d_v' (j_move (evo rfl)) ?_
   refine d_v' (j_build (parts := [(0, .tmp 23), (1, .tmp 24)]) str135 elt135 rfl rfl) ?_
   refine d_n' (fun ver => j_buildSlice (parts := [(0, .tmp 25)]) (es := [[_, _]]) slt67 elt135 rfl rfl (by decide) (by decide) rfl rfl (by simp) rfl) ?_
   refine d_n' (fun ver => j_append_own slt67 elt135 rfl rfl rfl rfl rfl rfl (by rw [maxLen_eq]; first | omega | (simp only [nr, nl, netL_len]; omega)) (by first | omega | (simp only [nr, nl, netL_len]; omega))) ?_
   refine d_v' (j_fldp fld69f0 rfl rfl) ?_
   refine d_s' (j_store_box leaf67 rfl rfl (Nat.le_of_ble_eq_true rfl) (evo rfl) rfl) ?_
   refine d_nil (by kernel_rfl) (by kernel_rfl) ?_
   refine rs ?_
   refine om rfl ?_
   refine om rfl ?_
   refine op_v' (j_elemN (n := j) slt23 rfl rfl (by first | omega | (simp only [nr, nl, netL_len]; omega)) (at_map (by first | omega | (simp only [nr, nl, netL_len]; omega))) rfl) ?_
   refine op_v' (j_load_el leaf3 rfl (at_map (by first | omega | (simp only [nr, nl, netL_len]; omega))) rfl) ?_
   refine op_v' (j_lt rfl rfl) ?_
   refine on ?_
   refine ac rfl (fun h3 => ?_) fun h3 => ?_
   ·
    have h3r := h3
    try simp only [nq, nr, nl, netL_len] at h3
    refine a_seq ?_
    refine a_draw mixed (by kernel_rfl) (by kernel_rfl) fun vf8 => ?_
    refine d_v' (j_fldp fld69f0 rfl rfl) ?_
    refine d_v' (j_load_box leaf67 rfl rfl rfl) ?_
    refine d_v' (j_move (evo rfl)) ?_
    refine d_v' (j_move (evo rfl)) ?_
    refine d_v' (j_elemN (n := j) slt23 rfl rfl (by first | omega | (simp only [nr, nl, netL_len]; omega)) (at_map (by first | omega | (simp only [nr, nl, netL_len]; omega))) rfl) ?_
    refine d_v' (j_load_el leaf3 rfl (at_map (by first | omega | (simp only [nr, nl, netL_len]; omega))) rfl) ?_
    refine d_v' (j_neg rfl (by first | omega | (simp only [nr, nl, netL_len]; omega)) (by first | omega | (simp only [nr, nl, netL_len]; omega))) ?_
    refine d_v' (j_move (evo rfl)) ?_
    refine d_v' (j_neg rfl (by first | omega | (simp only [nr, nl, netL_len]; omega)) (by first | omega | (simp only [nr, nl, netL_len]; omega))) ?_
    refine d_v' (j_build (parts := [(0, .tmp 40), (1, .tmp 42)]) str135 elt135 rfl rfl) ?_
    refine d_n' (fun ver => j_buildSlice (parts := [(0, .tmp 43)]) (es := [[_, _]]) slt67 elt135 rfl rfl (by decide) (by decide) rfl rfl (by simp) rfl) ?_
    refine d_n' (fun ver => j_append_own slt67 elt135 rfl rfl rfl rfl rfl rfl (by rw [maxLen_eq]; first | omega | (simp only [nr, nl, netL_len]; omega)) (by first | omega | (simp only [nr, nl, netL_len]; omega))) ?_
    refine d_v' (j_fldp fld69f0 rfl rfl) ?_
    refine d_s' (j_store_box leaf67 rfl rfl (Nat.le_of_ble_eq_true rfl) (evo rfl) rfl) ?_
    refine d_nil (by kernel_rfl) (by kernel_rfl) ?_
    refine ar ?_
    refine om rfl ?_
    refine om rfl ?_
    refine om rfl ?_
    refine op_v' (j_elemN (n := j) slt23 rfl rfl (by first | omega | (simp only [nr, nl, netL_len]; omega)) (at_map (by first | omega | (simp only [nr, nl, netL_len]; omega))) rfl) ?_
    refine op_v' (j_load_el leaf3 rfl (at_map (by first | omega | (simp only [nr, nl, netL_len]; omega))) rfl) ?_
    refine op_v' (j_sub rfl rfl (by first | omega | (simp only [nr, nl, netL_len]; omega)) (by first | omega | (simp only [nr, nl, netL_len]; omega))) ?_
    refine oa rfl ?_
    refine on ?_
    refine ar ?_
    refine om rfl ?_
    refine op_v' (j_add rfl rfl (by first | omega | (simp only [nr, nl, netL_len]; omega)) (by first | omega | (simp only [nr, nl, netL_len]; omega))) ?_
    refine oa rfl ?_
    refine on ?_
    exact ⟨(j + 1, (vf8 1006)), (by first | exact (by first | omega | (simp only [nr, nl, netL_len]; omega)) | (dsimp only; exact (by first | omega | (simp only [nr, nl, netL_len]; omega)))), ⟨⟨rfl, rfl⟩, ⟨rfl, intEq (by exfalso; omega), trivial⟩, ⟨rfl, rowEq (by exfalso; omega), trivial⟩, ⟨rfl, rfl⟩, ⟨rfl, rfl⟩⟩, (by first | exact (by first | omega | (simp only [nr, nl, netL_len]; omega)) | (dsimp only; exact (by first | omega | (simp only [nr, nl, netL_len]; omega))))⟩
   have h3r := h3
   try simp only [nq, nr, nl, netL_len] at h3
   refine a_skip ?_
   refine ar ?_
   refine om rfl ?_
   refine op_v' (j_add rfl rfl (by first | omega | (simp only [nr, nl, netL_len]; omega)) (by first | omega | (simp only [nr, nl, netL_len]; omega))) ?_
   refine oa rfl ?_
   refine on ?_
   exact ⟨(j + 1, (vf 1006)), (by first | exact (by first | omega | (simp only [nr, nl, netL_len]; omega)) | (dsimp only; exact (by first | omega | (simp only [nr, nl, netL_len]; omega)))), ⟨⟨rfl, rfl⟩, ⟨rfl, intEq (by dsimp only; rw [nrmB_z (by omega)]), trivial⟩, ⟨rfl, rowEq (by dsimp only; rw [hna, nrmT_p (by omega), List.map_append]; rfl), trivial⟩, ⟨rfl, rfl⟩, ⟨rfl, rfl⟩⟩, (by first | exact (by first | omega | (simp only [nr, nl, netL_len]; omega)) | (dsimp only; exact (by first | omega | (simp only [nr, nl, netL_len]; omega))))⟩
  have h2r := h2
  try simp only [nq, nr, nl, netL_len] at h2
  refine a_skip ?_
  refine rs ?_
  refine om rfl ?_
  refine om rfl ?_
  refine op_v' (j_elemN (n := j) slt23 rfl rfl (by first | omega | (simp only [nr, nl, netL_len]; omega)) (at_map (by first | omega | (simp only [nr, nl, netL_len]; omega))) rfl) ?_
  refine op_v' (j_load_el leaf3 rfl (at_map (by first | omega | (simp only [nr, nl, netL_len]; omega))) rfl) ?_
  refine op_v' (j_lt rfl rfl) ?_
  refine on ?_
  refine ac rfl (fun h4 => ?_) fun h4 => ?_
  ·
   have h4r := h4
   try simp only [nq, nr, nl, netL_len] at h4
   refine a_seq ?_
   refine a_draw mixed (by kernel_rfl) (by kernel_rfl) fun vf => ?_
   refine d_v' (j_fldp fld69f0 rfl rfl) ?_
   refine d_v' (j_load_box leaf67 rfl rfl rfl) ?_
   refine d_v' (j_move (evo rfl)) ?_
   refine d_v' (j_move (evo rfl)) ?_
   refine d_v' (j_elemN (n := j) slt23 rfl rfl (by first | omega | (simp only [nr, nl, netL_len]; omega)) (at_map (by first | omega | (simp only [nr, nl, netL_len]; omega))) rfl) ?_
   refine d_v' (j_load_el leaf3 rfl (at_map (by first | omega | (simp only [nr, nl, netL_len]; omega))) rfl) ?_
   refine d_v' (j_neg rfl (by first | omega | (simp only [nr, nl, netL_len]; omega)) (by first | omega | (simp only [nr, nl, netL_len]; omega))) ?_
   refine d_v' (j_move (evo rfl)) ?_
   refine d_v' (j_neg rfl (by first | omega | (simp only [nr, nl, netL_len]; omega)) (by first | omega | (simp only [nr, nl, netL_len]; omega))) ?_
   refine d_v' (j_build (parts := [(0, .tmp 40), (1, .tmp 42)]) str135 elt135 rfl rfl) ?_
   refine d_n' (fun ver => j_buildSlice (parts := [(0, .tmp 43)]) (es := [[_, _]]) slt67 elt135 rfl rfl (by decide) (by decide) rfl rfl (by simp) rfl) ?_
   refine d_n' (fun ver => j_append_own slt67 elt135 rfl rfl rfl rfl rfl rfl (by rw [maxLen_eq]; first | omega | (simp only [nr, nl, netL_len]; omega)) (by first | omega | (simp only [nr, nl, netL_len]; omega))) ?_
   refine d_v' (j_fldp fld69f0 rfl rfl) ?_
   refine d_s' (j_store_box leaf67 rfl rfl (Nat.le_of_ble_eq_true rfl) (evo rfl) rfl) ?_
   refine d_nil (by kernel_rfl) (by kernel_rfl) ?_
   refine ar ?_
   refine om rfl ?_
   refine om rfl ?_
   refine om rfl ?_
   refine op_v' (j_elemN (n := j) slt23 rfl rfl (by first | omega | (simp only [nr, nl, netL_len]; omega)) (at_map (by first | omega | (simp only [nr, nl, netL_len]; omega))) rfl) ?_
   refine op_v' (j_load_el leaf3 rfl (at_map (by first | omega | (simp only [nr, nl, netL_len]; omega))) rfl) ?_
   refine op_v' (j_sub rfl rfl (by first | omega | (simp only [nr, nl, netL_len]; omega)) (by first | omega | (simp only [nr, nl, netL_len]; omega))) ?_
   refine oa rfl ?_
   refine on ?_
   refine ar ?_
   refine om rfl ?_
   refine op_v' (j_add rfl rfl (by first | omega | (simp only [nr, nl, netL_len]; omega)) (by first | omega | (simp only [nr, nl, netL_len]; omega))) ?_
   refine oa rfl ?_
   refine on ?_
   exact ⟨(j + 1, (vf 1006)), (by first | exact (by first | omega | (simp only [nr, nl, netL_len]; omega)) | (dsimp only; exact (by first | omega | (simp only [nr, nl, netL_len]; omega)))), ⟨⟨rfl, rfl⟩, ⟨rfl, intEq (by dsimp only; rw [nrmB_m (by omega), hna]), trivial⟩, ⟨rfl, rowEq (by dsimp only; rw [hna, nrmT_m (by omega), List.map_append]; rfl), trivial⟩, ⟨rfl, rfl⟩, ⟨rfl, rfl⟩⟩, (by first | exact (by first | omega | (simp only [nr, nl, netL_len]; omega)) | (dsimp only; exact (by first | omega | (simp only [nr, nl, netL_len]; omega))))⟩
  have h4r := h4
  try simp only [nq, nr, nl, netL_len] at h4
  refine a_skip ?_
  refine ar ?_
  refine om rfl ?_
  refine op_v' (j_add rfl rfl (by first | omega | (simp only [nr, nl, netL_len]; omega)) (by first | omega | (simp only [nr, nl, netL_len]; omega))) ?_
  refine oa rfl ?_
  refine on ?_
  exact ⟨(j + 1, v), (by first | exact (by first | omega | (simp only [nr, nl, netL_len]; omega)) | (dsimp only; exact (by first | omega | (simp only [nr, nl, netL_len]; omega)))), ⟨⟨rfl, rfl⟩, ⟨rfl, intEq (by dsimp only; rw [nrmB_z (by omega)]), trivial⟩, ⟨rfl, rowEq (by dsimp only; rw [nrmT_z (by omega) (by omega)]), trivial⟩, ⟨rfl, rfl⟩, ⟨rfl, rfl⟩⟩, (by first | exact (by first | omega | (simp only [nr, nl, netL_len]; omega)) | (dsimp only; exact (by first | omega | (simp only [nr, nl, netL_len]; omega))))⟩
 have h1r := h1
 try simp only [nq, nr, nl, netL_len] at h1
 refine a_exit ?_
 refine a_seq ?_
 refine a_seq ?_
 obtain rfl : j = 13 := by omega
 refine ar ?_
 refine om rfl ?_
 refine op_v' (j_lt rfl rfl) ?_
 refine on ?_
 refine ac rfl (fun h5 => ?_) fun h5 => ?_
 ·
  have h5r := h5
  try simp only [nq, nr, nl, netL_len] at h5
  refine ar ?_
  refine oa rfl ?_
  refine on ?_
  refine rs ?_
  refine om rfl ?_
  refine op_v' (j_fldp fld69f1 rfl rfl) ?_
  refine op_s' (j_store_box leaf3 rfl rfl (Nat.le_of_ble_eq_true rfl) (evo rfl) rfl) ?_
  refine on ?_
  refine a_seq ?_
  refine a_seq ?_
  refine a_freezeboxK 0 6 (by decide) trivial rfl rfl rfl rfl ?_
  try dsimp only [List.set]
  refine ar ?_
  refine op_v' (j_loada_box (ys := [.sl _, .p _]) agg69 rfl rfl rfl (Nat.le_of_ble_eq_true rfl)) ?_
  refine op_v0' (j_call0 (v := .p _) (hp1 := []) [] false [] ent118 (f_cvSpec (nrmT (netV ts) 13, _)) ⟨.inl ⟨rfl, rfl⟩, trivial⟩ trivial rfl rfl (fun h => by cases h) rfl (fun _ h => by cases h) (.inl rfl) rfl rfl) ?_
  refine op_v' (j_not rfl) ?_
  refine on ?_
  refine ac rfl (fun h6 => ?_) fun h6 => ?_
  ·
   have h6r := h6
   try simp only [nq, nr, nl, netL_len] at h6
   refine rs ?_
   refine op_v' (j_build (parts := []) str69 elt69 rfl rfl) ?_
   refine op_s' (j_storea_box0 agg69 rfl rfl rfl rfl rfl rfl) ?_
   refine oa rfl ?_
   refine on ?_
   refine a_adopt_box' 0 1014 135 2 (by decide) (id := 4) rfl rfl fun v1014x4 => ?_
   refine a_freezeboxK 0 4 (by decide) trivial rfl rfl rfl rfl ?_
   try dsimp only [List.set]
   refine a_ret ?_
   exact ⟨[.agg [.sl _, .p _], .p _], .tup [.agg [.sl _, .p _], .p _], [], [], [], ⟨⟨_, _, _, _, rfl, rfl, agg69, rfl⟩, rfl, trivial⟩, rfl, rfl, trivial, rfl, rfl, ⟨by first | (have hmx : max 0 (nrmB (netV ts) c 13) = 0 := (by omega); rw [hmx]; first | (have hq : cOk (nrmT (netV ts) 13, 0) = true := (by assumption); rw [vC_ok hq, hq]) | (have hq : cOk (nrmT (netV ts) 13, 0) = false := (by assumption); rw [vC_bad hq, hq]; rfl)) | (have hmx : max 0 (nrmB (netV ts) c 13) = (nrmB (netV ts) c 13) := (by omega); rw [hmx]; first | (have hq : cOk (nrmT (netV ts) 13, (nrmB (netV ts) c 13)) = true := (by assumption); rw [vC_ok hq, hq]) | (have hq : cOk (nrmT (netV ts) 13, (nrmB (netV ts) c 13)) = false := (by assumption); rw [vC_bad hq, hq]; rfl)), rfl, rfl⟩⟩
  have h6r := h6
  try simp only [nq, nr, nl, netL_len] at h6
  refine a_skip ?_
  refine rs ?_
  refine op_v' (j_loada_box (ys := [.sl _, .p _]) agg69 rfl rfl rfl (Nat.le_of_ble_eq_true rfl)) ?_
  refine op_s' (j_storea_box0 agg69 rfl rfl rfl rfl rfl rfl) ?_
  refine oa rfl ?_
  refine on ?_
  refine a_ret ?_
  exact ⟨[.agg [.sl _, .p _], .p _], .tup [.agg [.sl _, .p _], .p _], [], [], [], ⟨⟨_, _, _, _, rfl, rfl, agg69, rfl⟩, rfl, trivial⟩, rfl, rfl, trivial, rfl, rfl, ⟨by first | (have hmx : max 0 (nrmB (netV ts) c 13) = 0 := (by omega); rw [hmx]; first | (have hq : cOk (nrmT (netV ts) 13, 0) = true := (by assumption); rw [vC_ok hq, hq]) | (have hq : cOk (nrmT (netV ts) 13, 0) = false := (by assumption); rw [vC_bad hq, hq]; rfl)) | (have hmx : max 0 (nrmB (netV ts) c 13) = (nrmB (netV ts) c 13) := (by omega); rw [hmx]; first | (have hq : cOk (nrmT (netV ts) 13, (nrmB (netV ts) c 13)) = true := (by assumption); rw [vC_ok hq, hq]) | (have hq : cOk (nrmT (netV ts) 13, (nrmB (netV ts) c 13)) = false := (by assumption); rw [vC_bad hq, hq]; rfl)), rfl, rfl⟩⟩
 have h5r := h5
 try simp only [nq, nr, nl, netL_len] at h5
 refine a_skip ?_
 refine rs ?_
 refine om rfl ?_
 refine op_v' (j_fldp fld69f1 rfl rfl) ?_
 refine op_s' (j_store_box leaf3 rfl rfl (Nat.le_of_ble_eq_true rfl) (evo rfl) rfl) ?_
 refine on ?_
 refine a_seq ?_
 refine a_seq ?_
 refine a_freezeboxK 0 6 (by decide) trivial rfl rfl rfl rfl ?_
 try dsimp only [List.set]
 refine ar ?_
 refine op_v' (j_loada_box (ys := [.sl _, .p _]) agg69 rfl rfl rfl (Nat.le_of_ble_eq_true rfl)) ?_
 refine op_v0' (j_call0 (v := .p _) (hp1 := []) [] false [] ent118 (f_cvSpec (nrmT (netV ts) 13, _)) ⟨.inl ⟨rfl, rfl⟩, trivial⟩ trivial rfl rfl (fun h => by cases h) rfl (fun _ h => by cases h) (.inl rfl) rfl rfl) ?_
 refine op_v' (j_not rfl) ?_
 refine on ?_
 refine ac rfl (fun h7 => ?_) fun h7 => ?_
 ·
  have h7r := h7
  try simp only [nq, nr, nl, netL_len] at h7
  refine rs ?_
  refine op_v' (j_build (parts := []) str69 elt69 rfl rfl) ?_
  refine op_s' (j_storea_box0 agg69 rfl rfl rfl rfl rfl rfl) ?_
  refine oa rfl ?_
  refine on ?_
  refine a_adopt_box' 0 1014 135 2 (by decide) (id := 4) rfl rfl fun v1014x5 => ?_
  refine a_freezeboxK 0 4 (by decide) trivial rfl rfl rfl rfl ?_
  try dsimp only [List.set]
  refine a_ret ?_
  exact ⟨[.agg [.sl _, .p _], .p _], .tup [.agg [.sl _, .p _], .p _], [], [], [], ⟨⟨_, _, _, _, rfl, rfl, agg69, rfl⟩, rfl, trivial⟩, rfl, rfl, trivial, rfl, rfl, ⟨by first | (have hmx : max 0 (nrmB (netV ts) c 13) = 0 := (by omega); rw [hmx]; first | (have hq : cOk (nrmT (netV ts) 13, 0) = true := (by assumption); rw [vC_ok hq, hq]) | (have hq : cOk (nrmT (netV ts) 13, 0) = false := (by assumption); rw [vC_bad hq, hq]; rfl)) | (have hmx : max 0 (nrmB (netV ts) c 13) = (nrmB (netV ts) c 13) := (by omega); rw [hmx]; first | (have hq : cOk (nrmT (netV ts) 13, (nrmB (netV ts) c 13)) = true := (by assumption); rw [vC_ok hq, hq]) | (have hq : cOk (nrmT (netV ts) 13, (nrmB (netV ts) c 13)) = false := (by assumption); rw [vC_bad hq, hq]; rfl)), rfl, rfl⟩⟩
 have h7r := h7
 try simp only [nq, nr, nl, netL_len] at h7
 refine a_skip ?_
 refine rs ?_
 refine op_v' (j_loada_box (ys := [.sl _, .p _]) agg69 rfl rfl rfl (Nat.le_of_ble_eq_true rfl)) ?_
 refine op_s' (j_storea_box0 agg69 rfl rfl rfl rfl rfl rfl) ?_
 refine oa rfl ?_
 refine on ?_
 refine a_ret ?_
 exact ⟨[.agg [.sl _, .p _], .p _], .tup [.agg [.sl _, .p _], .p _], [], [], [], ⟨⟨_, _, _, _, rfl, rfl, agg69, rfl⟩, rfl, trivial⟩, rfl, rfl, trivial, rfl, rfl, ⟨by first | (have hmx : max 0 (nrmB (netV ts) c 13) = 0 := (by omega); rw [hmx]; first | (have hq : cOk (nrmT (netV ts) 13, 0) = true := (by assumption); rw [vC_ok hq, hq]) | (have hq : cOk (nrmT (netV ts) 13, 0) = false := (by assumption); rw [vC_bad hq, hq]; rfl)) | (have hmx : max 0 (nrmB (netV ts) c 13) = (nrmB (netV ts) c 13) := (by omega); rw [hmx]; first | (have hq : cOk (nrmT (netV ts) 13, (nrmB (netV ts) c 13)) = true := (by assumption); rw [vC_ok hq, hq]) | (have hq : cOk (nrmT (netV ts) 13, (nrmB (netV ts) c 13)) = false := (by assumption); rw [vC_bad hq, hq]; rfl)), rfl, rfl⟩⟩
theorem f_addSpec (a b : Con) (ha : cOk a = true) (hb : cOk b = true) : Fn Tryz.prog 222 [.agg [.sl (a.1.map dT), .p (.int .i64 a.2)], .agg [.sl (b.1.map dT), .p (.int .i64 b.2)]] [] (fun rr ii nn => rr = .tup [.agg [.sl ((addC a b).1.map dT), .p (.int .i64 (addC a b).2)], .p (.bool (addO a b))] ∧ ii = [] ∧ nn = []) := by
 refine fn_of Tryz.func222 rfl (Nat.le_of_ble_eq_true rfl) fun w X g => ?_
 show AWp _ _ _ ⟨[(0, .agg [.sl (a.1.map dT), .p (.int .i64 a.2)]), (1, .agg [.sl (b.1.map dT), .p (.int .i64 b.2)])], []⟩
 have hfc := fit_cons ha hb
 have hba := cOk_bound ha
 have hbb := cOk_bound hb
 have hla := cOk_len ha
 have hlb := cOk_len hb
 have hnb := netB_all hfc (a.2 + b.2)
 refine rs ?_
 refine op_n' (fun ver => j_boxa rfl) fun v2x1 => ?_
 refine op_n' (fun ver => j_boxa rfl) fun v3x2 => ?_
 refine op_n' (fun ver => j_alloc elt69 rfl) fun v4x3 => ?_
 refine oa rfl ?_
 refine on ?_
 refine a_seq ?_
 refine rs ?_
 refine op_v' (j_loada_box (ys := [.sl _, .p _]) agg69 rfl rfl rfl (Nat.le_of_ble_eq_true rfl)) ?_
 refine op_v0' (j_call0 (v := .p _) (hp1 := []) [] false [] ent118 (f_cvSpec a) ⟨.inl ⟨rfl, rfl⟩, trivial⟩ trivial rfl rfl (fun h => by cases h) rfl (fun _ h => by cases h) (.inl rfl) rfl rfl) ?_
 refine op_v' (j_not rfl) ?_
 refine om rfl ?_
 refine op_split' 11 rfl (fun h1 => ?_) (fun h1 => ?_)
 ·
  have h1r := h1
  try simp only [nq, nr, nl] at h1
  exact absurd h1r (by simp [ha, hb])
 have h1r := h1
 try simp only [nq, nr, nl] at h1
 refine op_v' (j_want rfl rfl h1r (j_loada_box (ys := [.sl _, .p _]) agg69 rfl rfl rfl (Nat.le_of_ble_eq_true rfl))) ?_
 refine op_v0' (j_want rfl rfl h1r (j_call0 (v := .p _) (hp1 := []) [] false [] ent118 (f_cvSpec b) ⟨.inl ⟨rfl, rfl⟩, trivial⟩ trivial rfl rfl (fun h => by cases h) rfl (fun _ h => by cases h) (.inl rfl) rfl rfl)) ?_
 refine op_v' (j_want rfl rfl h1r (j_not rfl)) ?_
 refine op_v' (j_pick_f rfl h1r (evo rfl)) ?_
 refine on ?_
 refine ac rfl (fun h2 => ?_) fun h2 => ?_
 ·
  have h2r := h2
  try simp only [nq, nr, nl] at h2
  exact absurd h2r (by simp [ha, hb])
 have h2r := h2
 try simp only [nq, nr, nl] at h2
 refine a_skip ?_
 refine a_seq ?_
 refine a_draw mixed (by kernel_rfl) (by kernel_rfl) fun vf => ?_
 refine d_n' (fun ver => j_buildSlice (parts := []) (es := []) slt67 elt135 rfl rfl (by decide) (by decide) rfl rfl (by simp) rfl) ?_
 refine d_v' (j_fldp fld69f0 rfl rfl) ?_
 refine d_v' (j_load_box leaf67 rfl rfl rfl) ?_
 refine d_n1' (fun ver => j_append_slN (by decide) slt67 elt135 rfl rfl rfl rfl len_dT (all_lf_dT _) (by rw [maxLen_eq]; first | omega | (simp only [nr, nl]; omega)) (by first | omega | (simp only [nr, nl]; omega))) ?_
 refine d_v' (j_fldp fld69f0 rfl rfl) ?_
 refine d_v' (j_load_box leaf67 rfl rfl rfl) ?_
 refine d_n1' (fun ver => j_append_slN (by decide) slt67 elt135 rfl rfl rfl rfl len_dT (all_lf_dT _) (by rw [maxLen_eq]; first | omega | (simp only [nr, nl]; omega)) (by first | omega | (simp only [nr, nl]; omega))) ?_
 refine d_v' (j_fldp fld69f1 rfl rfl) ?_
 refine d_v' (j_load_box leaf3 rfl rfl rfl) ?_
 refine d_v' (j_fldp fld69f1 rfl rfl) ?_
 refine d_v' (j_load_box leaf3 rfl rfl rfl) ?_
 refine d_v' (j_add rfl rfl (by first | omega | (simp only [nr, nl]; omega)) (by first | omega | (simp only [nr, nl]; omega))) ?_
 refine d_n1' (fun ver => j_call1 (v := .tup [.own 30 ver, .p _]) (hp1 := [(30, some (ver, .row 3 1 _))]) [] true [24] ent261 (f_l1NetV a.1 b.1 (a.2 + b.2) hfc (by omega)) ⟨.inr ⟨rfl, view_own rfl rfl, rfl⟩, .inl ⟨rfl, rfl⟩, trivial⟩ trivial rfl rfl rfl (fun _ => rfl) rfl (List.all_eq_true.1 rfl) (.inr ⟨rfl, by first | exact pl_new1 (fun _ => rfl) | exact pl_newC | (simp [plO, plV, plV.plL]; done)⟩) rfl rfl) ?_
 refine d_v' (j_move (evo rfl)) ?_
 refine d_v' (j_extract rfl rfl) ?_
 refine d_v' (j_extract rfl rfl) ?_
 refine d_v' (j_assign (evo rfl)) ?_
 refine d_v' (j_assign (evo rfl)) ?_
 refine d_nil (by kernel_rfl) (by kernel_rfl) ?_
 refine a_seq ?_
 refine a_freeze' 6 (noA _ _ _ _ _) rfl rfl ?_
 refine ar ?_
 refine om rfl ?_
 refine om rfl ?_
 refine op_v0' (j_call0 (v := .tup [.agg [.sl _, .p _], .p _]) (hp1 := []) [] false [] ent262 (f_l1Normal (a.1 ++ b.1) (netB (a.1 ++ b.1) (a.2 + b.2)) hfc (by omega)) ⟨.inl ⟨rfl, rfl⟩, .inl ⟨rfl, rfl⟩, trivial⟩ trivial rfl rfl (fun h => by cases h) rfl (fun _ h => by cases h) (.inl rfl) rfl rfl) ?_
 refine op_v' (j_extract rfl rfl) ?_
 refine op_v' (j_extract rfl rfl) ?_
 refine op_s' (j_storea_box0 agg69 rfl rfl rfl rfl rfl rfl) ?_
 refine oa rfl ?_
 refine on ?_
 refine a_ret ?_
 exact ⟨[.agg [.sl _, .p _], .p _], .tup [.agg [.sl _, .p _], .p _], [], [], [], ⟨⟨_, _, _, _, rfl, rfl, agg69, rfl⟩, rfl, trivial⟩, rfl, rfl, trivial, rfl, rfl, ⟨rfl, rfl, rfl⟩⟩
end Go.Ab

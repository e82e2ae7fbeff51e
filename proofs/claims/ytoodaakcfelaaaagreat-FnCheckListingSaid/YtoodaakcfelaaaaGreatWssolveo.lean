/- Walks. -/
import Derived.Test.YtoodaakcfelaaaaGreatBase
import Derived.Test.YtoodaakcfelaaaaGreatWssolve
namespace Go.Ab
open Go.Proofs
set_option maxRecDepth 100000
set_option maxHeartbeats 8000000
set_option linter.unusedSimpArgs false
set_option linter.unusedVariables false
theorem f_solveSpecO (l : List Con) (fu : Int) : Fn Tryz.prog 75 [.own 0 0, .p (.int .i64 (fu))] [.row 69 2 ((l).map dC)] (fun rr ii nn => rr = .tup [.p (.int .i64 (svC l fu)), .sl ((svV l fu).map dB), .sl ((svS l fu).map dSt)] ∧ ii = [.row 69 2 ((l).map dC)] ∧ nn = []) := by
 refine fn_of Tryz.func75 rfl (Nat.le_of_ble_eq_true rfl) fun w X g => ?_
 show AWp _ _ _ ⟨[(0, .own 0 0), (1, .p (.int .i64 (fu)))], [(0, some (0, .row 69 2 ((l).map dC)))]⟩
 refine rs ?_
 refine oa rfl ?_
 refine oa rfl ?_
 refine oa rfl ?_
 refine on ?_
 refine a_seq ?_
 refine rs ?_
 refine om rfl ?_
 refine op_v0' (j_call0 (v := .p _) (hp1 := []) [] true [0] ent48 (f_pvSpec l) ⟨.inr ⟨rfl, view_own rfl rfl, rfl⟩, trivial⟩ trivial rfl rfl (fun _ => rfl) rfl (fun _ h => by cases h) (.inr ⟨rfl, by first | exact pl_new1 (fun _ => rfl) | exact pl_newC | (simp [plO, plV, plV.plL]; done)⟩) rfl rfl) ?_
 refine op_v' (j_not rfl) ?_
 refine om rfl ?_
 refine op_split' 16 rfl (fun h1 => ?_) (fun h1 => ?_)
 ·
  have h1r := h1
  try simp only [nq, nr, nl] at h1
  refine op_v' (j_unwantV rfl rfl h1r) ?_
  refine op_v' (j_unwantV rfl rfl h1r) ?_
  refine op_v' (j_pick_t rfl h1r (evo rfl)) ?_
  refine om rfl ?_
  refine op_v' (j_unwantV rfl rfl rfl) ?_
  refine op_v' (j_unwantV rfl rfl rfl) ?_
  refine op_v' (j_pick_t rfl rfl (evo rfl)) ?_
  refine on ?_
  refine a_tt rfl ?_
  refine rs ?_
  refine op_n' (fun ver => j_buildSlice (parts := []) (es := []) slt44 elt4 rfl rfl (by decide) (by decide) rfl rfl (by simp) rfl) fun v24x1 => ?_
  refine op_n' (fun ver => j_buildSlice (parts := []) (es := []) slt34 elt89 rfl rfl (by decide) (by decide) rfl rfl (by simp) rfl) fun v25x2 => ?_
  refine oa rfl ?_
  refine oa rfl ?_
  refine oa rfl ?_
  refine on ?_
  refine a_freezeK 5 ⟨⟨_, _, _, rfl⟩, trivial⟩ rfl rfl rfl ?_
  refine a_freezeK 6 ⟨⟨_, _, _, rfl⟩, trivial⟩ rfl rfl rfl ?_
  refine a_ret ?_
  have hb : svOk l fu = false := by unfold svOk; first | (simp_all; done) | (rw [decide_eq_false (show ¬ (0 ≤ fu ∧ fu ≤ 2000) by omega), Bool.and_false])
  have hs := sv_bad hb
  exact ⟨[.p _, .sl _, .sl _], .tup [.p _, .sl _, .sl _], [.row 69 2 _], [], [], ⟨rfl, rfl, rfl, trivial⟩, rfl, rfl, ⟨⟨rfl, rfl⟩, trivial⟩, rfl, rfl, ⟨by rw [hs.1, hs.2.1, hs.2.2]; rfl, rfl, rfl⟩⟩
 have h1r := h1
 try simp only [nq, nr, nl] at h1
 refine op_v' (j_want rfl rfl h1r (j_move (evo rfl))) ?_
 refine op_v' (j_want rfl rfl h1r (j_lt rfl rfl)) ?_
 refine op_v' (j_pick_f rfl h1r (evo rfl)) ?_
 refine om rfl ?_
 refine op_split' 20 rfl (fun h2 => ?_) (fun h2 => ?_)
 ·
  have h2r := h2
  try simp only [nq, nr, nl] at h2
  refine op_v' (j_unwantV rfl rfl h2r) ?_
  refine op_v' (j_unwantV rfl rfl h2r) ?_
  refine op_v' (j_pick_t rfl h2r (evo rfl)) ?_
  refine on ?_
  refine a_tt rfl ?_
  refine rs ?_
  refine op_n' (fun ver => j_buildSlice (parts := []) (es := []) slt44 elt4 rfl rfl (by decide) (by decide) rfl rfl (by simp) rfl) fun v24x3 => ?_
  refine op_n' (fun ver => j_buildSlice (parts := []) (es := []) slt34 elt89 rfl rfl (by decide) (by decide) rfl rfl (by simp) rfl) fun v25x4 => ?_
  refine oa rfl ?_
  refine oa rfl ?_
  refine oa rfl ?_
  refine on ?_
  refine a_freezeK 5 ⟨⟨_, _, _, rfl⟩, trivial⟩ rfl rfl rfl ?_
  refine a_freezeK 6 ⟨⟨_, _, _, rfl⟩, trivial⟩ rfl rfl rfl ?_
  refine a_ret ?_
  have hb : svOk l fu = false := by unfold svOk; first | (simp_all; done) | (rw [decide_eq_false (show ¬ (0 ≤ fu ∧ fu ≤ 2000) by omega), Bool.and_false])
  have hs := sv_bad hb
  exact ⟨[.p _, .sl _, .sl _], .tup [.p _, .sl _, .sl _], [.row 69 2 _], [], [], ⟨rfl, rfl, rfl, trivial⟩, rfl, rfl, ⟨⟨rfl, rfl⟩, trivial⟩, rfl, rfl, ⟨by rw [hs.1, hs.2.1, hs.2.2]; rfl, rfl, rfl⟩⟩
 have h2r := h2
 try simp only [nq, nr, nl] at h2
 refine op_v' (j_want rfl rfl h2r (j_move (evo rfl))) ?_
 refine op_v' (j_want rfl rfl h2r (j_gt rfl rfl)) ?_
 refine op_v' (j_pick_f rfl h2r (evo rfl)) ?_
 refine on ?_
 refine ac rfl (fun h3 => ?_) fun h3 => ?_
 ·
  have h3r := h3
  try simp only [nq, nr, nl] at h3
  refine rs ?_
  refine op_n' (fun ver => j_buildSlice (parts := []) (es := []) slt44 elt4 rfl rfl (by decide) (by decide) rfl rfl (by simp) rfl) fun v24x5 => ?_
  refine op_n' (fun ver => j_buildSlice (parts := []) (es := []) slt34 elt89 rfl rfl (by decide) (by decide) rfl rfl (by simp) rfl) fun v25x6 => ?_
  refine oa rfl ?_
  refine oa rfl ?_
  refine oa rfl ?_
  refine on ?_
  refine a_freezeK 5 ⟨⟨_, _, _, rfl⟩, trivial⟩ rfl rfl rfl ?_
  refine a_freezeK 6 ⟨⟨_, _, _, rfl⟩, trivial⟩ rfl rfl rfl ?_
  refine a_ret ?_
  have hb : svOk l fu = false := by unfold svOk; first | (simp_all; done) | (rw [decide_eq_false (show ¬ (0 ≤ fu ∧ fu ≤ 2000) by omega), Bool.and_false])
  have hs := sv_bad hb
  exact ⟨[.p _, .sl _, .sl _], .tup [.p _, .sl _, .sl _], [.row 69 2 _], [], [], ⟨rfl, rfl, rfl, trivial⟩, rfl, rfl, ⟨⟨rfl, rfl⟩, trivial⟩, rfl, rfl, ⟨by rw [hs.1, hs.2.1, hs.2.2]; rfl, rfl, rfl⟩⟩
 have h3r := h3
 try simp only [nq, nr, nl] at h3
 refine a_skip ?_
 refine a_seq ?_
 have hok : svOk l fu = true := by unfold svOk; simp_all
 have hpo := (svOk_parts hok).1
 have hfu := (svOk_parts hok).2
 have hln := pOk_len hpo
 have hvh : visH l 13 [] fu [] := ⟨by rw [List.append_nil]; exact pOk_all hpo, by simp, hfu, inv_nil, rfl, by omega⟩
 have hsv := sv_ok hok
 have hgd := sv_good hok
 have hs0 := f_search0 l fu hvh
 rw [List.append_nil] at hs0
 have hgl : (visit l 13 [] fu []).1.length ≤ 1000 := hgd.len
 refine ar ?_
 refine op_n' (fun ver => j_buildSlice (parts := []) (es := []) slt30 elt69 rfl rfl (by decide) (by decide) rfl rfl (by simp) rfl) fun v27x7 => ?_
 refine om rfl ?_
 refine op_n' (fun ver => j_append_own slt30 elt69 rfl rfl rfl rfl rfl (all_lf_dC l) (by rw [maxLen_eq]; first | omega | (simp only [nr, nl]; omega)) (by first | omega | (simp only [nr, nl]; omega))) fun v27x8 => ?_
 refine om rfl ?_
 refine op_v' (j_build (parts := [(0, .tmp 29), (2, .tmp 30)]) str162 elt162 rfl rfl) ?_
 refine op_call3 (v := fun ver ver2 ver3 => .tup [.agg [.own 32 ver, .own 100032 ver2, .p _], .p _, .own 200032 ver3]) (hp1 := fun ver ver2 ver3 => [(27, some (v27x8, .gone)), (32, some (ver, .row 69 2 _)), (100032, some (ver2, .row 89 5 _)), (200032, some (ver3, .row 4 1 _))]) [(27, v27x8)] false ent135 hs0 ⟨.inl ⟨rfl, rfl⟩, .inl ⟨rfl, rfl⟩, trivial⟩ ⟨⟨rfl, rfl⟩, trivial⟩ rfl rfl rfl rfl (.inl rfl) (fun _ _ _ => rfl) (fun _ _ _ => rfl) ?_
 rintro  v32x9 v100032x9 v200032x9
 dsimp only [List.cons_append, List.nil_append]
 refine om rfl ?_
 refine op_v' (j_extract rfl rfl) ?_
 refine op_v' (j_extract rfl rfl) ?_
 refine op_v' (j_extract rfl rfl) ?_
 refine op_n' (fun ver => j_alloc elt162 rfl) fun v7x10 => ?_
 refine op_s' (j_storea_box0 agg162 rfl rfl rfl rfl rfl rfl) ?_
 refine oa rfl ?_
 refine oa rfl ?_
 refine on ?_
 refine a_seq ?_
 refine rs ?_
 refine om rfl ?_
 refine op_v' (j_ne rfl rfl) ?_
 refine on ?_
 refine ac rfl (fun h4 => ?_) fun h4 => ?_
 ·
  have h4r := h4
  try simp only [nq, nr, nl] at h4
  refine rs ?_
  refine om rfl ?_
  refine om rfl ?_
  refine op_n' (fun ver => j_buildSlice (parts := []) (es := []) slt34 elt89 rfl rfl (by decide) (by decide) rfl rfl (by simp) rfl) fun v40x11 => ?_
  refine oa rfl ?_
  refine oa rfl ?_
  refine oa rfl ?_
  refine on ?_
  refine a_freezeK 5 ⟨⟨_, _, _, rfl⟩, trivial⟩ rfl rfl rfl ?_
  refine a_freezeK 6 ⟨⟨_, _, _, rfl⟩, trivial⟩ rfl rfl rfl ?_
  refine a_ret ?_
  have hc : ¬ (svR l fu).2.2.1 = 2 := (by assumption)
  have hs : svS l fu = [] := by unfold svS; rw [if_neg (by omega)]
  exact ⟨[.p _, .sl _, .sl _], .tup [.p _, .sl _, .sl _], [.row 69 2 _], [], [], ⟨rfl, rfl, rfl, trivial⟩, rfl, rfl, ⟨⟨rfl, rfl⟩, trivial⟩, rfl, rfl, ⟨by rw [hsv.1, hsv.2, hs]; rfl, rfl, rfl⟩⟩
 have h4r := h4
 try simp only [nq, nr, nl] at h4
 refine a_skip ?_
 refine rs ?_
 refine op_n' (fun ver => j_buildSlice (parts := []) (es := []) slt34 elt89 rfl rfl (by decide) (by decide) rfl rfl (by simp) rfl) fun v41x12 => ?_
 refine oa rfl ?_
 refine on ?_
 refine a_seq ?_
 refine rs ?_
 refine oa rfl ?_
 refine on ?_
 refine a_block ?_
 refine a_loopF' (ι := Nat × Nat) (fun x => x.1 ≤ (visit l 13 [] fu []).1.length) (fun x r => (11, .p (.int .i64 ((x.1 : Nat)))) :: (10, .own 41 x.2) :: r) (fun x r => (41, some (x.2, .row 89 5 (((visit l 13 [] fu []).1.take x.1).map dSt))) :: r) (fun x => (visit l 13 [] fu []).1.length - x.1) (fun _ _ => rfl) (fun _ _ => rfl) (0, v41x12) (by first | exact (Nat.zero_le _) | (dsimp only; exact (Nat.zero_le _))) ⟨⟨rfl, rfl⟩, ⟨rfl, rfl, trivial⟩, ⟨rfl, trivial⟩, ⟨rfl, rfl⟩, ⟨rfl, rfl⟩⟩ ?_
 rintro ⟨k, v⟩ hk; dsimp only at hk ⊢
 refine a_seq ?_
 refine rs ?_
 refine om rfl ?_
 refine op_v' (j_fldp fld162f1 rfl rfl) ?_
 refine op_v' (j_load_box leaf34 rfl rfl rfl) ?_
 refine op_v' (j_len_own_map Tryz.underlying34 rfl rfl) ?_
 refine op_v' (j_lt rfl rfl) ?_
 refine on ?_
 refine ac rfl (fun h5 => ?_) fun h5 => ?_
 ·
  have h5r := h5
  try simp only [nq, nr, nl] at h5
  refine a_skip ?_
  refine a_seq ?_
  refine a_block ?_
  refine rs ?_
  refine op_v' (j_fldp fld162f1 rfl rfl) ?_
  refine op_v' (j_load_box leaf34 rfl rfl rfl) ?_
  refine om rfl ?_
  refine op_v' (j_elem_ownN slt34 rfl rfl rfl rfl (by first | omega | (simp only [nr, nl]; omega))) ?_
  refine op_v' (j_loada_pel (ys := [.p _, .p _, .p _, .sl _, .p _]) agg89 rfl rfl (at_map (by first | omega | (simp only [nr, nl]; omega))) rfl (Nat.le_refl _)) ?_
  refine op_n' (fun ver => j_alloc elt89 rfl) fun v12x13 => ?_
  refine op_s' (j_storea_box0 agg89 rfl rfl rfl rfl rfl rfl) ?_
  refine on ?_
  refine rs ?_
  refine op_v' (j_fldp fld89f3 rfl rfl) ?_
  refine op_v' (j_loada_box (ys := [.sl _, .p _]) agg69 rfl rfl rfl (Nat.le_of_ble_eq_true rfl)) ?_
  refine op_v0' (j_call0 (v := .agg [.sl _, .p _]) (hp1 := []) [] false [] ent136 (f_copyF ((visit l 13 [] fu []).1.getD k default) (by have h9 := List.all_eq_true.1 hgd.ok _ (List.mem_append_right _ (getD_mem (d := default) (show k < (visit l 13 [] fu []).1.length by omega))); have h8 : ((visit l 13 [] fu []).1.getD k default).1.length ≤ 12 := cOk_len h9; omega)) ⟨.inl ⟨rfl, rfl⟩, trivial⟩ trivial rfl rfl (fun h => by cases h) rfl (fun _ h => by cases h) (.inl rfl) rfl rfl) ?_
  refine op_v' (j_fldp fld89f3 rfl rfl) ?_
  refine op_s' (j_storea_box agg69 rfl rfl rfl (Nat.le_of_ble_eq_true rfl) rfl rfl) ?_
  refine on ?_
  refine ar ?_
  refine om rfl ?_
  refine op_v' (j_loada_box (ys := [.p _, .p _, .p _, .sl _, .p _]) agg89 rfl rfl rfl (Nat.le_of_ble_eq_true rfl)) ?_
  refine op_n' (fun ver => j_buildSlice (parts := [(0, .tmp 59)]) (es := [[_, _, _, _, _]]) slt34 elt89 rfl rfl (by decide) (by decide) rfl rfl (by simp) rfl) fun v60x14 => ?_
  refine op_n' (fun ver => j_append_own slt34 elt89 rfl rfl rfl rfl rfl rfl (by rw [maxLen_eq]; first | omega | (simp only [nr, nl]; omega)) (by first | omega | (simp only [nr, nl]; omega))) fun v41x15 => ?_
  refine oa rfl ?_
  refine on ?_
  refine ar ?_
  refine om rfl ?_
  refine op_v' (j_add rfl rfl (by first | omega | (simp only [nr, nl]; omega)) (by first | omega | (simp only [nr, nl]; omega))) ?_
  refine oa rfl ?_
  refine on ?_
  exact ⟨(k + 1, v41x15), (by first | exact (by first | omega | (simp only [nr, nl]; omega)) | (dsimp only; exact (by first | omega | (simp only [nr, nl]; omega)))), ⟨⟨rfl, rfl⟩, ⟨rfl, rfl, trivial⟩, ⟨rowEq (by dsimp only; rw [take_succD (d := (default : Con)) (by omega), List.map_append]; rfl), trivial⟩, ⟨rfl, rfl⟩, ⟨rfl, rfl⟩⟩, (by first | exact (by first | omega | (simp only [nr, nl]; omega)) | (dsimp only; exact (by first | omega | (simp only [nr, nl]; omega))))⟩
 have h5r := h5
 try simp only [nq, nr, nl] at h5
 refine a_exit ?_
 refine rs ?_
 refine om rfl ?_
 refine op_n' (fun ver => j_buildSlice (parts := []) (es := []) slt44 elt4 rfl rfl (by decide) (by decide) rfl rfl (by simp) rfl) fun v63x16 => ?_
 refine om rfl ?_
 refine oa rfl ?_
 refine oa rfl ?_
 refine oa rfl ?_
 refine on ?_
 refine a_freezeK 5 ⟨⟨_, _, _, rfl⟩, trivial⟩ rfl rfl rfl ?_
 refine a_freezeK 6 ⟨⟨_, _, _, rfl⟩, trivial⟩ rfl rfl rfl ?_
 refine a_ret ?_
 have hc : (svR l fu).2.2.1 = 2 := (by assumption)
 have hs : svS l fu = (svR l fu).1 := by unfold svS; rw [if_pos (by omega)]
 have hv := hgd.non (by omega)
 exact ⟨[.p _, .sl _, .sl _], .tup [.p _, .sl _, .sl _], [.row 69 2 _], [], [], ⟨rfl, rfl, rfl, trivial⟩, rfl, rfl, ⟨⟨rfl, rfl⟩, trivial⟩, rfl, rfl, ⟨by rw [hsv.1, hsv.2, hs, hv, List.take_of_length_le (by omega)]; rfl, rfl, rfl⟩⟩
end Go.Ab

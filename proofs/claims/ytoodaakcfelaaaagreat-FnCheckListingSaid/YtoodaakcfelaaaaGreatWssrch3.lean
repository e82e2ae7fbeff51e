/- Walks. -/
import Derived.Test.YtoodaakcfelaaaaGreatBase
import Derived.Test.YtoodaakcfelaaaaGreatCub
import Derived.Test.YtoodaakcfelaaaaGreatWssrch
import Derived.Test.YtoodaakcfelaaaaGreatWsprop
import Derived.Test.YtoodaakcfelaaaaGreatWscons
import Derived.Test.YtoodaakcfelaaaaGreatWsfix
namespace Go.Ab
open Go.Proofs
set_option maxRecDepth 100000
set_option maxHeartbeats 8000000
set_option linter.unusedSimpArgs false
set_option linter.unusedVariables false
theorem f_seaO (l : List Con) (n : Nat) (st : List Con) (fu : Int) (D : List Int) (hh : visH l (n + 1) st fu D) (IH : ∀ (st' : List Con) (fu' : Int) (d : Int), visH l n st' fu' (D ++ [d]) → Fn Tryz.prog 135 [.agg [.own 0 0, .own 1 0, .p (.int .i64 (fu'))], .own 2 0] [.row 69 2 ((l ++ st').map dC), .row 89 5 ((st').map dSt), .row 3 1 ((D ++ [d]).map dI)] (fun rr ii nn => rr = .tup [.agg [.own 3 0, .own 4 0, .p (.int .i64 (visit l n st' (fu') (D ++ [d])).2.1)], .p (.int .i64 (visit l n st' (fu') (D ++ [d])).2.2.1), .own 5 0] ∧ ii = [.gone, .gone, .row 3 1 ((D ++ [d]).map dI)] ∧ nn = [.row 69 2 ((l ++ (visit l n st' (fu') (D ++ [d])).1).map dC), .row 89 5 (((visit l n st' (fu') (D ++ [d])).1).map dSt), .row 4 1 ((visit l n st' (fu') (D ++ [d])).2.2.2.map dB)])) : Fn Tryz.prog 135 [.agg [.own 0 0, .own 1 0, .p (.int .i64 (fu))], .own 2 0] [.row 69 2 ((l ++ st).map dC), .row 89 5 ((st).map dSt), .row 3 1 ((D).map dI)] (fun rr ii nn => rr = .tup [.agg [.own 3 0, .own 4 0, .p (.int .i64 (visit l (n + 1) st (fu) (D)).2.1)], .p (.int .i64 (visit l (n + 1) st (fu) (D)).2.2.1), .own 5 0] ∧ ii = [.gone, .gone, .row 3 1 ((D).map dI)] ∧ nn = [.row 69 2 ((l ++ (visit l (n + 1) st (fu) (D)).1).map dC), .row 89 5 (((visit l (n + 1) st (fu) (D)).1).map dSt), .row 4 1 ((visit l (n + 1) st (fu) (D)).2.2.2.map dB)]) := by
 refine fn_of Tryz.func135 rfl (Nat.le_of_ble_eq_true rfl) fun w X g => ?_
 show AWp _ _ _ ⟨[(0, .agg [.own 0 0, .own 1 0, .p (.int .i64 (fu))]), (1, .own 2 0)], [(0, some (0, .row 69 2 ((l ++ st).map dC))), (1, some (0, .row 89 5 ((st).map dSt))), (2, some (0, .row 3 1 ((D).map dI)))]⟩
 have hvd := visH_len hh
 have hall := hh.1
 have hst := hh.2.1
 have hfu := hh.2.2.1
 have hinv := hh.2.2.2.1
 have hasc := hinv.1
 have hll := hh.2.2.2.2.2
 have hz12 : zeroP.length = 12 := rfl
 have hpok := prD_ok (l := l) (st := st) (D := D)
 have hpl := paOk_len hpok
 have hprd : (prop (l ++ st) (asgL zeroP D)).2 = (prD l st D).2 := rfl
 have hprl : (prop (l ++ st) (asgL zeroP D)).1.length = (prD l st D).1.length := rfl
 refine rs ?_
 refine op_n' (fun ver => j_boxaI 1010 rfl) fun v1010x1 => ?_
 refine op_n' (fun ver => j_alloc elt162 rfl) fun v4x2 => ?_
 refine oa rfl ?_
 refine oa rfl ?_
 refine on ?_
 refine a_adopt' 6 6 4 1 rfl fun v6 => ?_
 refine a_mvB (i := 0) 1010 0 1001 (by decide) (by decide) rfl rfl rfl rfl fun v1001x3 => ?_
 try dsimp only [List.set]
 refine a_mvB (i := 1) 1010 1 1002 (by decide) (by decide) rfl rfl rfl rfl fun v1002x4 => ?_
 try dsimp only [List.set]
 refine a_seq ?_
 refine rs ?_
 refine op_v' (j_fldp fld162f2 rfl rfl) ?_
 refine op_v' (j_load_box leaf3 rfl rfl rfl) ?_
 refine op_v' (j_eq rfl rfl) ?_
 refine om rfl ?_
 refine op_split' 19 rfl (fun h1 => ?_) (fun h1 => ?_)
 ·
  have h1r := h1
  try simp only [nq, nr, nl, asgD_len, asgL_len, valP_len] at h1
  refine op_v' (j_unwantV rfl rfl h1r) ?_
  refine op_v' (j_unwantV rfl rfl h1r) ?_
  refine op_v' (j_unwantV rfl rfl h1r) ?_
  refine op_v' (j_unwantV rfl rfl h1r) ?_
  refine op_v' (j_pick_t rfl h1r (evo rfl)) ?_
  refine on ?_
  refine a_tt rfl ?_
  refine rs ?_
  refine op_v' (j_loada_box (ys := [.own 1001 v1001x3, .own 1002 v1002x4, .p _]) agg162 rfl rfl rfl (Nat.le_of_ble_eq_true rfl)) ?_
  refine op_n' (fun ver => j_buildSlice (parts := []) (es := []) slt44 elt4 rfl rfl (by decide) (by decide) rfl rfl (by simp) rfl) fun v26x5 => ?_
  refine op_s' (j_storea_box0 agg162 rfl rfl rfl rfl rfl rfl) ?_
  refine oa rfl ?_
  refine oa rfl ?_
  refine on ?_
  refine a_ret ?_
  have hr := vs_much (l := l) (n := n) (D := D) (fu := fu) (st := st) (by first | exact .inl (by omega) | exact .inr (by omega))
  exact ⟨[.agg [.own 1001 v1001x3, .own 1002 v1002x4, .p _], .p _, .own 26 v26x5], .tup [.agg [.own 3 0, .own 4 0, .p _], .p _, .own 5 0], [.gone, .gone, .row 3 1 _], [.row 69 2 _, .row 89 5 _, .row 4 1 _], [(1001, v1001x3), (1002, v1002x4), (26, v26x5)], ⟨⟨_, _, _, _, rfl, rfl, agg162, rfl⟩, rfl, rfl, trivial⟩, rfl, rfl, ⟨⟨rfl, rfl⟩, ⟨rfl, rfl⟩, ⟨rfl, rfl⟩, ⟨rfl, rfl⟩, ⟨rfl, rfl⟩, ⟨rfl, rfl⟩, trivial⟩, rfl, rfl, ⟨by rw [hr]; try rfl, rfl, by rw [hr]; try rfl⟩⟩
 have h1r := h1
 try simp only [nq, nr, nl, asgD_len, asgL_len, valP_len] at h1
 refine op_v' (j_want rfl rfl h1r (j_fldp fld162f1 rfl rfl)) ?_
 refine op_v' (j_want rfl rfl h1r (j_load_box leaf34 rfl rfl rfl)) ?_
 refine op_v' (j_want rfl rfl h1r (j_len_own_map Tryz.underlying34 rfl rfl)) ?_
 refine op_v' (j_want rfl rfl h1r (j_ge rfl rfl)) ?_
 refine op_v' (j_pick_f rfl h1r (evo rfl)) ?_
 refine on ?_
 refine ac rfl (fun h2 => ?_) fun h2 => ?_
 ·
  have h2r := h2
  try simp only [nq, nr, nl, asgD_len, asgL_len, valP_len] at h2
  refine rs ?_
  refine op_v' (j_loada_box (ys := [.own 1001 v1001x3, .own 1002 v1002x4, .p _]) agg162 rfl rfl rfl (Nat.le_of_ble_eq_true rfl)) ?_
  refine op_n' (fun ver => j_buildSlice (parts := []) (es := []) slt44 elt4 rfl rfl (by decide) (by decide) rfl rfl (by simp) rfl) fun v26x6 => ?_
  refine op_s' (j_storea_box0 agg162 rfl rfl rfl rfl rfl rfl) ?_
  refine oa rfl ?_
  refine oa rfl ?_
  refine on ?_
  refine a_ret ?_
  have hr := vs_much (l := l) (n := n) (D := D) (fu := fu) (st := st) (by first | exact .inl (by omega) | exact .inr (by omega))
  exact ⟨[.agg [.own 1001 v1001x3, .own 1002 v1002x4, .p _], .p _, .own 26 v26x6], .tup [.agg [.own 3 0, .own 4 0, .p _], .p _, .own 5 0], [.gone, .gone, .row 3 1 _], [.row 69 2 _, .row 89 5 _, .row 4 1 _], [(1001, v1001x3), (1002, v1002x4), (26, v26x6)], ⟨⟨_, _, _, _, rfl, rfl, agg162, rfl⟩, rfl, rfl, trivial⟩, rfl, rfl, ⟨⟨rfl, rfl⟩, ⟨rfl, rfl⟩, ⟨rfl, rfl⟩, ⟨rfl, rfl⟩, ⟨rfl, rfl⟩, ⟨rfl, rfl⟩, trivial⟩, rfl, rfl, ⟨by rw [hr]; try rfl, rfl, by rw [hr]; try rfl⟩⟩
 have h2r := h2
 try simp only [nq, nr, nl, asgD_len, asgL_len, valP_len] at h2
 refine a_skip ?_
 refine a_seq ?_
 have hm : ¬ (fu = 0 ∨ 1000 ≤ st.length) := by omega
 refine ar ?_
 refine op_v' (j_fldp fld162f2 rfl rfl) ?_
 refine op_v' (j_load_box leaf3 rfl rfl rfl) ?_
 refine op_v' (j_sub rfl rfl (by first | omega | (simp only [nr, nl, asgD_len, asgL_len, valP_len]; omega)) (by first | omega | (simp only [nr, nl, asgD_len, asgL_len, valP_len]; omega))) ?_
 refine op_v' (j_fldp fld162f2 rfl rfl) ?_
 refine op_s' (j_store_box leaf3 rfl rfl (Nat.le_of_ble_eq_true rfl) (evo rfl) rfl) ?_
 refine on ?_
 refine rs ?_
 refine op_n' (fun ver => j_make (n := 12) slt23 elt3 rfl rfl (by decide) rfl rfl rfl rfl (by first | omega | (simp only [nr, nl, asgD_len, asgL_len, valP_len]; omega)) (by rw [maxLen_eq]; first | omega | (simp only [nr, nl, asgD_len, asgL_len, valP_len]; omega))) fun v31x7 => ?_
 refine oa rfl ?_
 refine on ?_
 refine a_row 31 (es' := (asgL zeroP (D.take 0)).map dI) rfl (by rw [List.take_zero]; rfl) ?_
 refine a_seq ?_
 refine rs ?_
 refine oa rfl ?_
 refine on ?_
 refine a_block ?_
 refine a_loopF' (ι := Nat) (fun k => k ≤ D.length) (fun k r => (8, .p (.int .i64 ((k : Nat)))) :: r) (fun k r => (31, some (v31x7, .row 3 1 ((asgL zeroP (D.take k)).map dI))) :: r) (fun k => D.length - k) (fun _ _ => rfl) (fun _ _ => rfl) 0 (Nat.zero_le _) ⟨⟨rfl, rfl⟩, ⟨rfl, trivial⟩, ⟨rfl, trivial⟩, ⟨rfl, rfl⟩, ⟨rfl, rfl⟩⟩ ?_
 intro k hk
 refine a_seq ?_
 refine rs ?_
 refine om rfl ?_
 refine om rfl ?_
 refine op_v' (j_len_own_map Tryz.underlying23 rfl rfl) ?_
 refine op_v' (j_lt rfl rfl) ?_
 refine on ?_
 refine ac rfl (fun h3 => ?_) fun h3 => ?_
 ·
  have h3r := h3
  try simp only [nq, nr, nl, asgD_len, asgL_len, valP_len] at h3
  refine a_skip ?_
  refine a_seq ?_
  refine a_block ?_
  refine ar ?_
  refine om rfl ?_
  refine om rfl ?_
  refine om rfl ?_
  refine op_v' (j_elem_ownN slt23 rfl rfl rfl rfl (by first | omega | (simp only [nr, nl, asgD_len, asgL_len, valP_len]; omega))) ?_
  refine op_v' (j_load_pel leaf3 rfl rfl (at_map (by first | omega | (simp only [nr, nl, asgD_len, asgL_len, valP_len]; omega))) rfl) ?_
  refine op_v0' (j_call0 (v := .tup []) (hp1 := [(31, some (v31x7, .row 3 1 _))]) [(31, v31x7)] false [31] ent185 (f_l3Assign (asgL zeroP (D.take k)) (D.getD k default) (asc_at hasc (by first | omega | (simp only [nr, nl, asgD_len, asgL_len, valP_len]; omega))) (by rw [asgL_len]; rfl)) ⟨.inl ⟨rfl, rfl⟩, .inl ⟨rfl, rfl⟩, trivial⟩ ⟨⟨rfl, rfl⟩, trivial⟩ rfl rfl (fun h => by cases h) rfl (List.all_eq_true.1 rfl) (.inl rfl) rfl rfl) ?_
  refine on ?_
  refine ar ?_
  refine om rfl ?_
  refine op_v' (j_add rfl rfl (by first | omega | (simp only [nr, nl, asgD_len, asgL_len, valP_len]; omega)) (by first | omega | (simp only [nr, nl, asgD_len, asgL_len, valP_len]; omega))) ?_
  refine oa rfl ?_
  refine on ?_
  exact ⟨k + 1, (by first | omega | (simp only [nr, nl, asgD_len, asgL_len, valP_len]; omega)), ⟨⟨rfl, rfl⟩, ⟨rfl, trivial⟩, ⟨rowEq (by rw [asgL_next (by first | omega | (simp only [nr, nl, asgD_len, asgL_len, valP_len]; omega))]; rfl), trivial⟩, ⟨rfl, rfl⟩, ⟨rfl, rfl⟩⟩, (by first | omega | (simp only [nr, nl, asgD_len, asgL_len, valP_len]; omega))⟩
 have h3r := h3
 try simp only [nq, nr, nl, asgD_len, asgL_len, valP_len] at h3
 refine a_exit ?_
 refine a_seq ?_
 refine a_seq ?_
 refine a_row 31 (es' := (asgL zeroP D).map dI) rfl (by rw [List.take_of_length_le (by first | omega | (simp only [nr, nl, asgD_len, asgL_len, valP_len]; omega))]) ?_
 refine ar ?_
 refine op_v' (j_fldp fld162f0 rfl rfl) ?_
 refine op_v' (j_load_box leaf30 rfl rfl rfl) ?_
 refine om rfl ?_
 refine op_v0' (j_call0 (v := .p _) (hp1 := [(31, some (v31x7, .row 3 1 _))]) [(31, v31x7)] true [1001, 31] ent186 (f_l3Prop (l ++ st) (asgL zeroP D) hall (by first | omega | (simp only [nr, nl, asgD_len, asgL_len, valP_len]; omega)) (asgL_ok zero_ok)) ⟨.inr ⟨rfl, view_own rfl rfl, rfl⟩, .inl ⟨rfl, rfl⟩, trivial⟩ ⟨⟨rfl, rfl⟩, trivial⟩ rfl rfl (fun _ => rfl) rfl (List.all_eq_true.1 rfl) (.inr ⟨rfl, by first | exact pl_new1 (fun _ => rfl) | exact pl_newC | (simp [plO, plV, plV.plL]; done)⟩) rfl rfl) ?_
 refine op_v' (j_ge rfl rfl) ?_
 refine on ?_
 refine ac rfl (fun h4 => ?_) fun h4 => ?_
 ·
  have h4r := h4
  try simp only [nq, nr, nl, asgD_len, asgL_len, valP_len] at h4
  refine rs ?_
  refine op_v' (j_loada_box (ys := [.own 1001 v1001x3, .own 1002 v1002x4, .p _]) agg162 rfl rfl rfl (Nat.le_of_ble_eq_true rfl)) ?_
  refine om rfl ?_
  refine op_call2 (v := fun ver ver2 => .agg [.own 51 ver, .own 100051 ver2, .p _]) (hp1 := fun ver ver2 => [(1001, some (v1001x3, .gone)), (1002, some (v1002x4, .gone)), (2, some (0, .row 3 1 _)), (51, some (ver, .row 69 2 _)), (100051, some (ver2, .row 89 5 _))]) [(1001, v1001x3), (1002, v1002x4), (2, 0)] false ent187 (f_l5LearnO (l ++ st) st (fu - 1) D hasc (by simp; omega) (by omega)) ⟨.inl ⟨rfl, rfl⟩, .inl ⟨rfl, rfl⟩, trivial⟩ ⟨⟨rfl, rfl⟩, ⟨rfl, rfl⟩, ⟨rfl, rfl⟩, trivial⟩ rfl rfl rfl rfl (.inl rfl) (fun _ _ => rfl) (fun _ _ => rfl) ?_
  rintro  v51x8 v100051x8
  dsimp only [List.cons_append, List.nil_append]
  refine op_n' (fun ver => j_buildSlice (parts := []) (es := []) slt44 elt4 rfl rfl (by decide) (by decide) rfl rfl (by simp) rfl) fun v52x9 => ?_
  refine op_s' (j_storea_box0 agg162 rfl rfl rfl rfl rfl rfl) ?_
  refine oa rfl ?_
  refine oa rfl ?_
  refine on ?_
  refine a_ret ?_
  have hr := vs_bad (l := l) (n := n) (D := D) hm (by omega)
  exact ⟨[.agg [.own 51 v51x8, .own 100051 v100051x8, .p _], .p _, .own 52 v52x9], .tup [.agg [.own 3 0, .own 4 0, .p _], .p _, .own 5 0], [.gone, .gone, .row 3 1 _], [.row 69 2 _, .row 89 5 _, .row 4 1 _], [(51, v51x8), (100051, v100051x8), (52, v52x9)], ⟨⟨_, _, _, _, rfl, rfl, agg162, rfl⟩, rfl, rfl, trivial⟩, rfl, rfl, ⟨⟨rfl, rfl⟩, ⟨rfl, rfl⟩, ⟨rfl, rfl⟩, ⟨rfl, rfl⟩, ⟨rfl, rfl⟩, ⟨rfl, rfl⟩, trivial⟩, rfl, rfl, ⟨by rw [hr]; try rfl, rfl, by rw [hr]; simp only [List.append_assoc]; try rfl⟩⟩
 have h4r := h4
 try simp only [nq, nr, nl, asgD_len, asgL_len, valP_len] at h4
 refine a_skip ?_
 refine a_seq ?_
 have hc1 : ¬ 0 ≤ (prD l st D).2 := by omega
 refine ar ?_
 refine om rfl ?_
 refine op_v0' (j_call0 (v := .p _) (hp1 := []) [] true [31] ent188 (f_l5Free (prD l st D).1 (by omega)) ⟨.inr ⟨rfl, view_own rfl rfl, rfl⟩, trivial⟩ trivial rfl rfl (fun _ => rfl) rfl (fun _ h => by cases h) (.inr ⟨rfl, by first | exact pl_new1 (fun _ => rfl) | exact pl_newC | (simp [plO, plV, plV.plL]; done)⟩) rfl rfl) ?_
 refine oa rfl ?_
 refine on ?_
 refine a_seq ?_
 refine rs ?_
 refine om rfl ?_
 refine op_v' (j_eq rfl rfl) ?_
 refine on ?_
 refine ac rfl (fun h5 => ?_) fun h5 => ?_
 ·
  have h5r := h5
  try simp only [nq, nr, nl, asgD_len, asgL_len, valP_len] at h5
  refine a_seq ?_
  have hv0 : freeV (prD l st D).1 = 0 := by omega
  refine ar ?_
  refine op_n' (fun ver => j_buildSlice (parts := []) (es := []) slt44 elt4 rfl rfl (by decide) (by decide) rfl rfl (by simp) rfl) fun v57x10 => ?_
  refine oa rfl ?_
  refine on ?_
  refine a_seq ?_
  refine rs ?_
  refine oa rfl ?_
  refine on ?_
  refine a_block ?_
  refine a_loopF' (ι := Nat × Nat) (fun x => x.1 ≤ (prD l st D).1.length) (fun x r => (11, .p (.int .i64 ((x.1 : Nat)))) :: (10, .own 57 x.2) :: r) (fun x r => (57, some (x.2, .row 4 1 ((valP ((prD l st D).1.take x.1)).map dB))) :: r) (fun x => (prD l st D).1.length - x.1) (fun _ _ => rfl) (fun _ _ => rfl) (0, v57x10) (by first | exact (Nat.zero_le _) | (dsimp only; exact (Nat.zero_le _))) ⟨⟨rfl, rfl⟩, ⟨rfl, rfl, trivial⟩, ⟨rfl, trivial⟩, ⟨rfl, rfl⟩, ⟨rfl, rfl⟩⟩ ?_
  rintro ⟨k, v⟩ hk; dsimp only at hk ⊢
  refine a_seq ?_
  refine rs ?_
  refine om rfl ?_
  refine om rfl ?_
  refine op_v' (j_len_own_map Tryz.underlying23 rfl rfl) ?_
  refine op_v' (j_lt rfl rfl) ?_
  refine on ?_
  refine ac rfl (fun h6 => ?_) fun h6 => ?_
  ·
   have h6r := h6
   try simp only [nq, nr, nl, asgD_len, asgL_len, valP_len] at h6
   refine a_skip ?_
   refine a_seq ?_
   refine a_block ?_
   refine ar ?_
   refine om rfl ?_
   refine om rfl ?_
   refine om rfl ?_
   refine op_v' (j_elem_ownN slt23 rfl rfl rfl rfl (by first | omega | (simp only [nr, nl, asgD_len, asgL_len, valP_len]; omega))) ?_
   refine op_v' (j_load_pel leaf3 rfl rfl (at_map (by first | omega | (simp only [nr, nl, asgD_len, asgL_len, valP_len]; omega))) rfl) ?_
   refine op_v' (j_gt rfl rfl) ?_
   refine op_n' (fun ver => j_buildSlice (parts := [(0, .tmp 69)]) (es := [[_]]) slt44 elt4 rfl rfl (by decide) (by decide) rfl rfl (by simp) rfl) fun v70x11 => ?_
   refine op_n' (fun ver => j_append_own slt44 elt4 rfl rfl rfl rfl rfl rfl (by rw [maxLen_eq]; first | omega | (simp only [nr, nl, asgD_len, asgL_len, valP_len]; omega)) (by first | omega | (simp only [nr, nl, asgD_len, asgL_len, valP_len]; omega))) fun v57x12 => ?_
   refine oa rfl ?_
   refine on ?_
   refine ar ?_
   refine om rfl ?_
   refine op_v' (j_add rfl rfl (by first | omega | (simp only [nr, nl, asgD_len, asgL_len, valP_len]; omega)) (by first | omega | (simp only [nr, nl, asgD_len, asgL_len, valP_len]; omega))) ?_
   refine oa rfl ?_
   refine on ?_
   exact ⟨(k + 1, v57x12), (by first | exact (by first | omega | (simp only [nr, nl, asgD_len, asgL_len, valP_len]; omega)) | (dsimp only; exact (by first | omega | (simp only [nr, nl, asgD_len, asgL_len, valP_len]; omega)))), ⟨⟨rfl, rfl⟩, ⟨rfl, rfl, trivial⟩, ⟨rowEq (by dsimp only; rw [valP_next (by omega), List.map_append]; rfl), trivial⟩, ⟨rfl, rfl⟩, ⟨rfl, rfl⟩⟩, (by first | exact (by first | omega | (simp only [nr, nl, asgD_len, asgL_len, valP_len]; omega)) | (dsimp only; exact (by first | omega | (simp only [nr, nl, asgD_len, asgL_len, valP_len]; omega))))⟩
  have h6r := h6
  try simp only [nq, nr, nl, asgD_len, asgL_len, valP_len] at h6
  refine a_exit ?_
  refine rs ?_
  refine op_v' (j_loada_box (ys := [.own 1001 v1001x3, .own 1002 v1002x4, .p _]) agg162 rfl rfl rfl (Nat.le_of_ble_eq_true rfl)) ?_
  refine om rfl ?_
  refine op_s' (j_storea_box0 agg162 rfl rfl rfl rfl rfl rfl) ?_
  refine oa rfl ?_
  refine oa rfl ?_
  refine on ?_
  refine a_ret ?_
  have hr := vs_sat (n := n) hm hc1 hv0
  exact ⟨[.agg [.own 1001 v1001x3, .own 1002 v1002x4, .p _], .p _, .own 57 v], .tup [.agg [.own 3 0, .own 4 0, .p _], .p _, .own 5 0], [.gone, .gone, .row 3 1 _], [.row 69 2 _, .row 89 5 _, .row 4 1 _], [(1001, v1001x3), (1002, v1002x4), (57, v)], ⟨⟨_, _, _, _, rfl, rfl, agg162, rfl⟩, rfl, rfl, trivial⟩, rfl, rfl, ⟨⟨rfl, rfl⟩, ⟨rfl, rfl⟩, ⟨rfl, rfl⟩, ⟨rfl, rfl⟩, ⟨rfl, rfl⟩, ⟨rfl, rfl⟩, trivial⟩, rfl, rfl, ⟨by rw [hr]; try rfl, rfl, by rw [hr, List.take_of_length_le (by omega)]⟩⟩
 have h5r := h5
 try simp only [nq, nr, nl, asgD_len, asgL_len, valP_len] at h5
 refine a_skip ?_
 refine a_seq ?_
 refine a_seq ?_
 have hv0 : ¬ freeV (prD l st D).1 = 0 := by omega
 have hv12 := (freeV_some hv0).1
 refine ar ?_
 refine om rfl ?_
 refine om rfl ?_
 refine op_v' (j_neg rfl (by first | omega | (simp only [nr, nl, asgD_len, asgL_len, valP_len]; omega)) (by first | omega | (simp only [nr, nl, asgD_len, asgL_len, valP_len]; omega))) ?_
 refine op_n' (fun ver => j_buildSlice (parts := [(0, .tmp 74), (1, .tmp 76)]) (es := [[_], [_]]) slt23 elt3 rfl rfl (by decide) (by decide) rfl rfl (by simp) rfl) fun v77x13 => ?_
 refine op_v' (j_len_own Tryz.underlying23 rfl rfl) ?_
 refine om rfl ?_
 refine on ?_
 refine a_row 77 (es' := (twoV l st D).map dI) rfl rfl ?_
 try dsimp only [List.length_cons, List.length_nil]
 refine a_block ?_
 refine a_loopF' (ι := Nat × Nat × Nat) (fun x => x.1 ≤ 2 ∧ ∀ i, i < x.1 → (visN l n st fu D i).2.2.1 = 2) (fun x r => (79, .p (.int .i64 ((x.1 : Nat)))) :: r) (fun x r => (1010, some (v1010x1, .box 162 [.own 1001 x.2.1, .own 1002 x.2.2, .p (.int .i64 (visK l n st fu D x.1).2)])) :: (1001, some (x.2.1, .row 69 2 ((l ++ (visK l n st fu D x.1).1).map dC))) :: (1002, some (x.2.2, .row 89 5 (((visK l n st fu D x.1).1).map dSt))) :: r) (fun x => 2 - x.1) (fun _ _ => rfl) (fun _ _ => rfl) (0, v1001x3, v1002x4) (by first | exact ⟨Nat.zero_le _, fun i h => absurd h (Nat.not_lt_zero i)⟩ | (dsimp only; exact ⟨Nat.zero_le _, fun i h => absurd h (Nat.not_lt_zero i)⟩)) ⟨⟨rfl, rfl⟩, ⟨rfl, trivial⟩, ⟨rfl, rfl, rfl, trivial⟩, ⟨rfl, rfl⟩, ⟨rfl, rfl⟩⟩ ?_
 rintro ⟨k, v1, v2⟩ hk; dsimp only at hk ⊢
 refine rs ?_
 refine op_v' (j_lt rfl rfl) ?_
 refine on ?_
 refine a_seq ?_
 refine ac rfl (fun h7 => ?_) fun h7 => ?_
 ·
  have h7r := h7
  try simp only [nq, nr, nl, asgD_len, asgL_len, valP_len] at h7
  refine a_skip ?_
  refine a_seq ?_
  refine a_block ?_
  refine rs ?_
  refine op_v' (j_elem_ownN slt23 rfl rfl rfl rfl (by first | omega | (simp only [nr, nl, asgD_len, asgL_len, valP_len]; omega))) ?_
  refine op_v' (j_load_pel leaf3 rfl rfl (at_map (by first | omega | (simp only [nr, nl, asgD_len, asgL_len, valP_len]; omega))) rfl) ?_
  refine oa rfl ?_
  refine on ?_
  refine rs ?_
  refine oa rfl ?_
  refine on ?_
  refine rs ?_
  refine op_n' (fun ver => j_buildSlice (parts := []) (es := []) slt44 elt4 rfl rfl (by decide) (by decide) rfl rfl (by simp) rfl) fun v83x14 => ?_
  refine oa rfl ?_
  refine on ?_
  refine a_seq ?_
  have hkH := visK_H hh hm hc1 hv0 (k := k) (by first | omega | (simp only [nr, nl, asgD_len, asgL_len, valP_len]; omega))
  have hkG := visN_good hh hm hc1 hv0 (k := k) (by first | omega | (simp only [nr, nl, asgD_len, asgL_len, valP_len]; omega))
  have hvn : (visit l n (visK l n st fu D k).1 (visK l n st fu D k).2 (D ++ [((twoV l st D).getD k default)])).2.2.1 = (visN l n st fu D k).2.2.1 := rfl
  have IH9 := IH _ _ _ hkH
  rw [show (D ++ [((twoV l st D).getD k default)]).map dI = D.map dI ++ [dI ((twoV l st D).getD k default)] from List.map_append ..] at IH9
  refine a_draw mixed (by kernel_rfl) (by kernel_rfl) fun vf => ?_
  refine d_v' (j_loada_box (ys := [.own 1001 v1, .own 1002 v2, .p _]) agg162 rfl rfl rfl (Nat.le_of_ble_eq_true rfl)) ?_
  refine d_n' (fun ver => j_buildSlice (parts := []) (es := []) slt23 elt3 rfl rfl (by decide) (by decide) rfl rfl (by simp) rfl) ?_
  refine d_v' (j_move (evo rfl)) ?_
  refine d_n1' (fun ver => j_append_ownN (by decide) slt23 elt3 rfl rfl rfl rfl rfl (all_lf_dI D) (by rw [maxLen_eq]; first | omega | (simp only [nr, nl, asgD_len, asgL_len, valP_len]; omega)) (by first | omega | (simp only [nr, nl, asgD_len, asgL_len, valP_len]; omega)) rfl) ?_
  refine d_v' (j_move (evo rfl)) ?_
  refine d_n' (fun ver => j_buildSlice (parts := [(0, .tmp 89)]) (es := [[_]]) slt23 elt3 rfl rfl (by decide) (by decide) rfl rfl (by simp) rfl) ?_
  refine d_n1' (fun ver => j_append_ownN (by decide) slt23 elt3 rfl rfl rfl rfl rfl rfl (by rw [maxLen_eq]; first | omega | (simp only [nr, nl, asgD_len, asgL_len, valP_len]; omega)) (by first | omega | (simp only [nr, nl, asgD_len, asgL_len, valP_len]; omega)) rfl) ?_
  refine d_n3' (fun ver ver2 ver3 => j_call3 (v := .tup [.agg [.own 92 ver, .own 100092 ver2, .p _], .p _, .own 200092 ver3]) (hp1 := [(1001, some (v1, .gone)), (1002, some (v2, .gone)), (91, some ((vf 91), .row 3 1 _)), (92, some (ver, .row 69 2 _)), (100092, some (ver2, .row 89 5 _)), (200092, some (ver3, .row 4 1 _))]) [(1001, v1), (1002, v2), (91, (vf 91))] false [1001, 1002, 91] ent135 IH9 ⟨.inl ⟨rfl, rfl⟩, .inl ⟨rfl, rfl⟩, trivial⟩ ⟨⟨rfl, rfl⟩, ⟨rfl, rfl⟩, ⟨rfl, rfl⟩, trivial⟩ rfl rfl rfl (fun h => by cases h) rfl (List.all_eq_true.1 rfl) (.inl rfl) rfl rfl) ?_
  refine d_v' (j_move (evo rfl)) ?_
  refine d_v' (j_extract rfl rfl) ?_
  refine d_v' (j_extract rfl rfl) ?_
  refine d_v' (j_extract rfl rfl) ?_
  refine d_s' (j_storea_box0 agg162 rfl rfl rfl rfl rfl rfl) ?_
  refine d_v' (j_assign (evo rfl)) ?_
  refine d_v' (j_assign (evo rfl)) ?_
  refine d_nil (by kernel_rfl) (by kernel_rfl) ?_
  refine a_mvB (i := 92) 1010 0 1001 (by decide) (by decide) rfl rfl rfl rfl fun v1001x15 => ?_
  try dsimp only [List.set]
  refine a_mvB (i := 100092) 1010 1 1002 (by decide) (by decide) rfl rfl rfl rfl fun v1002x16 => ?_
  try dsimp only [List.set]
  refine rs ?_
  refine om rfl ?_
  refine op_v' (j_ne rfl rfl) ?_
  refine on ?_
  refine ac rfl (fun h8 => ?_) fun h8 => ?_
  ·
   have h8r := h8
   try simp only [nq, nr, nl, asgD_len, asgL_len, valP_len] at h8
   refine a_seq ?_
   have hne : (visN l n st fu D k).2.2.1 ≠ 2 := by omega
   refine ar ?_
   refine op_v' (j_loada_box (ys := [.own 1001 v1001x15, .own 1002 v1002x16, .p _]) agg162 rfl rfl rfl (Nat.le_of_ble_eq_true rfl)) ?_
   refine om rfl ?_
   refine om rfl ?_
   refine op_s' (j_storea_box0 agg162 rfl rfl rfl rfl rfl rfl) ?_
   refine oa rfl ?_
   refine oa rfl ?_
   refine on ?_
   refine a_ret ?_
   have hr := visN_hit hm hc1 hv0 (k := k) (by first | omega | (simp only [nr, nl, asgD_len, asgL_len, valP_len]; omega)) (fun q => hk.2 0 (by omega)) hne
   exact ⟨[.agg [.own 1001 v1001x15, .own 1002 v1002x16, .p _], .p _, .own 200092 (vf 200092)], .tup [.agg [.own 3 0, .own 4 0, .p _], .p _, .own 5 0], [.gone, .gone, .row 3 1 _], [.row 69 2 _, .row 89 5 _, .row 4 1 _], [(1001, v1001x15), (1002, v1002x16), (200092, (vf 200092))], ⟨⟨_, _, _, _, rfl, rfl, agg162, rfl⟩, rfl, rfl, trivial⟩, rfl, rfl, ⟨⟨rfl, rfl⟩, ⟨rfl, rfl⟩, ⟨rfl, rfl⟩, ⟨rfl, rfl⟩, ⟨rfl, rfl⟩, ⟨rfl, rfl⟩, trivial⟩, rfl, rfl, ⟨by rw [hr]; try rfl, rfl, by rw [hr]; try rfl⟩⟩
  have h8r := h8
  try simp only [nq, nr, nl, asgD_len, asgL_len, valP_len] at h8
  refine a_skip ?_
  have h2e : (visN l n st fu D k).2.2.1 = 2 := by omega
  refine ar ?_
  refine op_v' (j_add rfl rfl (by first | omega | (simp only [nr, nl, asgD_len, asgL_len, valP_len]; omega)) (by first | omega | (simp only [nr, nl, asgD_len, asgL_len, valP_len]; omega))) ?_
  refine om rfl ?_
  refine on ?_
  exact ⟨(k + 1, v1001x15, v1002x16), (by first | exact ⟨by first | omega | (simp only [nr, nl, asgD_len, asgL_len, valP_len]; omega), fun i hi => by rcases Nat.lt_succ_iff_lt_or_eq.1 hi with q | q; (· exact hk.2 i q); (· subst q; exact h2e)⟩ | (dsimp only; exact ⟨by first | omega | (simp only [nr, nl, asgD_len, asgL_len, valP_len]; omega), fun i hi => by rcases Nat.lt_succ_iff_lt_or_eq.1 hi with q | q; (· exact hk.2 i q); (· subst q; exact h2e)⟩)), ⟨⟨rfl, rfl⟩, ⟨rfl, trivial⟩, ⟨(by dsimp only; rw [visK_next (by omega)]; rfl), (by dsimp only; rw [visK_next (by omega)]; rfl), (by dsimp only; rw [visK_next (by omega)]; rfl), trivial⟩, ⟨rfl, rfl⟩, ⟨rfl, rfl⟩⟩, (by first | exact (by first | omega | (simp only [nr, nl, asgD_len, asgL_len, valP_len]; omega)) | (dsimp only; exact (by first | omega | (simp only [nr, nl, asgD_len, asgL_len, valP_len]; omega))))⟩
 have h7r := h7
 try simp only [nq, nr, nl, asgD_len, asgL_len, valP_len] at h7
 refine a_exit ?_
 refine a_seq ?_
 refine a_seq ?_
 obtain rfl : k = 2 := by omega
 have hk1 := hk.2 1 (by omega)
 have hk0 := hk.2 0 (by omega)
 have hvl2 : (visK l n st fu D 2).1.length = (vis2 l n st fu D).1.length := rfl
 have hk2L : (vis2 l n st fu D).1.length ≤ 1000 := (visN_good hh hm hc1 hv0 (k := 1) (by omega)).len
 refine ar ?_
 refine op_v' (j_fldp fld162f1 rfl rfl) ?_
 refine op_v' (j_load_box leaf34 rfl rfl rfl) ?_
 refine op_v' (j_len_own_map Tryz.underlying34 rfl rfl) ?_
 refine op_v' (j_ge rfl rfl) ?_
 refine on ?_
 refine ac rfl (fun h9 => ?_) fun h9 => ?_
 ·
  have h9r := h9
  try simp only [nq, nr, nl, asgD_len, asgL_len, valP_len] at h9
  refine rs ?_
  refine op_v' (j_loada_box (ys := [.own 1001 v1, .own 1002 v2, .p _]) agg162 rfl rfl rfl (Nat.le_of_ble_eq_true rfl)) ?_
  refine op_n' (fun ver => j_buildSlice (parts := []) (es := []) slt44 elt4 rfl rfl (by decide) (by decide) rfl rfl (by simp) rfl) fun v107x17 => ?_
  refine op_s' (j_storea_box0 agg162 rfl rfl rfl rfl rfl rfl) ?_
  refine oa rfl ?_
  refine oa rfl ?_
  refine on ?_
  refine a_ret ?_
  have hr := vs_full hm hc1 hv0 (fun q => q hk0) (fun q => q hk1) (by omega)
  exact ⟨[.agg [.own 1001 v1, .own 1002 v2, .p _], .p _, .own 107 v107x17], .tup [.agg [.own 3 0, .own 4 0, .p _], .p _, .own 5 0], [.gone, .gone, .row 3 1 _], [.row 69 2 _, .row 89 5 _, .row 4 1 _], [(1001, v1), (1002, v2), (107, v107x17)], ⟨⟨_, _, _, _, rfl, rfl, agg162, rfl⟩, rfl, rfl, trivial⟩, rfl, rfl, ⟨⟨rfl, rfl⟩, ⟨rfl, rfl⟩, ⟨rfl, rfl⟩, ⟨rfl, rfl⟩, ⟨rfl, rfl⟩, ⟨rfl, rfl⟩, trivial⟩, rfl, rfl, ⟨by rw [hr]; try rfl, rfl, by rw [hr]; try rfl⟩⟩
 have h9r := h9
 try simp only [nq, nr, nl, asgD_len, asgL_len, valP_len] at h9
 refine a_skip ?_
 refine rs ?_
 refine op_v' (j_loada_box (ys := [.own 1001 v1, .own 1002 v2, .p _]) agg162 rfl rfl rfl (Nat.le_of_ble_eq_true rfl)) ?_
 refine om rfl ?_
 refine op_call2 (v := fun ver ver2 => .agg [.own 110 ver, .own 100110 ver2, .p _]) (hp1 := fun ver ver2 => [(1001, some (v1, .gone)), (1002, some (v2, .gone)), (2, some (0, .row 3 1 _)), (110, some (ver, .row 69 2 _)), (100110, some (ver2, .row 89 5 _))]) [(1001, v1), (1002, v2), (2, 0)] false ent187 (f_l5LearnO (l ++ (visK l n st fu D 2).1) (visK l n st fu D 2).1 (visK l n st fu D 2).2 D hasc (by simp; omega) (by omega)) ⟨.inl ⟨rfl, rfl⟩, .inl ⟨rfl, rfl⟩, trivial⟩ ⟨⟨rfl, rfl⟩, ⟨rfl, rfl⟩, ⟨rfl, rfl⟩, trivial⟩ rfl rfl rfl rfl (.inl rfl) (fun _ _ => rfl) (fun _ _ => rfl) ?_
 rintro  v110x18 v100110x18
 dsimp only [List.cons_append, List.nil_append]
 refine op_n' (fun ver => j_buildSlice (parts := []) (es := []) slt44 elt4 rfl rfl (by decide) (by decide) rfl rfl (by simp) rfl) fun v111x19 => ?_
 refine op_s' (j_storea_box0 agg162 rfl rfl rfl rfl rfl rfl) ?_
 refine oa rfl ?_
 refine oa rfl ?_
 refine on ?_
 refine a_ret ?_
 have hr := vs_fail hm hc1 hv0 (fun q => q hk0) (fun q => q hk1) (by omega)
 exact ⟨[.agg [.own 110 v110x18, .own 100110 v100110x18, .p _], .p _, .own 111 v111x19], .tup [.agg [.own 3 0, .own 4 0, .p _], .p _, .own 5 0], [.gone, .gone, .row 3 1 _], [.row 69 2 _, .row 89 5 _, .row 4 1 _], [(110, v110x18), (100110, v100110x18), (111, v111x19)], ⟨⟨_, _, _, _, rfl, rfl, agg162, rfl⟩, rfl, rfl, trivial⟩, rfl, rfl, ⟨⟨rfl, rfl⟩, ⟨rfl, rfl⟩, ⟨rfl, rfl⟩, ⟨rfl, rfl⟩, ⟨rfl, rfl⟩, ⟨rfl, rfl⟩, trivial⟩, rfl, rfl, ⟨by rw [hr]; try rfl, rfl, by rw [hr]; simp only [List.append_assoc]; try rfl⟩⟩
theorem f_seaN (l : List Con) (n : Nat) (st : List Con) (fu : Int) (D : List Int) (hh : visH l (n + 1) st fu D) (hD : D = []) (hS : st = []) (IH : ∀ (st' : List Con) (fu' : Int) (d : Int), visH l n st' fu' (D ++ [d]) → Fn Tryz.prog 135 [.agg [.own 0 0, .own 1 0, .p (.int .i64 (fu'))], .own 2 0] [.row 69 2 ((l ++ st').map dC), .row 89 5 ((st').map dSt), .row 3 1 ((D ++ [d]).map dI)] (fun rr ii nn => rr = .tup [.agg [.own 3 0, .own 4 0, .p (.int .i64 (visit l n st' (fu') (D ++ [d])).2.1)], .p (.int .i64 (visit l n st' (fu') (D ++ [d])).2.2.1), .own 5 0] ∧ ii = [.gone, .gone, .row 3 1 ((D ++ [d]).map dI)] ∧ nn = [.row 69 2 ((l ++ (visit l n st' (fu') (D ++ [d])).1).map dC), .row 89 5 (((visit l n st' (fu') (D ++ [d])).1).map dSt), .row 4 1 ((visit l n st' (fu') (D ++ [d])).2.2.2.map dB)])) : Fn Tryz.prog 135 [.agg [.own 0 0, .p (.slice none 0 0), .p (.int .i64 (fu))], .p (.slice none 0 0)] [.row 69 2 ((l ++ st).map dC)] (fun rr ii nn => rr = .tup [.agg [.own 1 0, .own 2 0, .p (.int .i64 (visit l (n + 1) st (fu) (D)).2.1)], .p (.int .i64 (visit l (n + 1) st (fu) (D)).2.2.1), .own 3 0] ∧ ii = [.gone] ∧ nn = [.row 69 2 ((l ++ (visit l (n + 1) st (fu) (D)).1).map dC), .row 89 5 (((visit l (n + 1) st (fu) (D)).1).map dSt), .row 4 1 ((visit l (n + 1) st (fu) (D)).2.2.2.map dB)]) := by
 refine fn_of Tryz.func135 rfl (Nat.le_of_ble_eq_true rfl) fun w X g => ?_
 show AWp _ _ _ ⟨[(0, .agg [.own 0 0, .p (.slice none 0 0), .p (.int .i64 (fu))]), (1, .p (.slice none 0 0))], [(0, some (0, .row 69 2 ((l ++ st).map dC)))]⟩
 refine a_nil 1 rfl ?_
 rw [show (V.sl []) = .sl (D.map dI) by rw [hD]; rfl]
 have hvd := visH_len hh
 have hall := hh.1
 have hst := hh.2.1
 have hfu := hh.2.2.1
 have hinv := hh.2.2.2.1
 have hasc := hinv.1
 have hll := hh.2.2.2.2.2
 have hz12 : zeroP.length = 12 := rfl
 have hpok := prD_ok (l := l) (st := st) (D := D)
 have hpl := paOk_len hpok
 have hprd : (prop (l ++ st) (asgL zeroP D)).2 = (prD l st D).2 := rfl
 have hprl : (prop (l ++ st) (asgL zeroP D)).1.length = (prD l st D).1.length := rfl
 refine rs ?_
 refine op_n' (fun ver => j_boxaI 1010 rfl) fun v1010x1 => ?_
 refine op_n' (fun ver => j_alloc elt162 rfl) fun v4x2 => ?_
 refine oa rfl ?_
 refine oa rfl ?_
 refine on ?_
 refine a_adopt' 6 6 4 1 rfl fun v6 => ?_
 refine a_mvB (i := 0) 1010 0 1001 (by decide) (by decide) rfl rfl rfl rfl fun v1001x3 => ?_
 try dsimp only [List.set]
 refine a_adopt_box' 1 1002 89 5 (by decide) (id := 1010) rfl rfl fun v1002x4 => ?_
 refine a_seq ?_
 refine a_seq ?_
 refine a_row 1002 (es' := st.map dSt) rfl (by rw [hS]; rfl) ?_
 refine ar ?_
 refine op_v' (j_fldp fld162f2 rfl rfl) ?_
 refine op_v' (j_load_box leaf3 rfl rfl rfl) ?_
 refine op_v' (j_eq rfl rfl) ?_
 refine om rfl ?_
 refine op_split' 19 rfl (fun h1 => ?_) (fun h1 => ?_)
 ·
  have h1r := h1
  try simp only [nq, nr, nl, asgD_len, asgL_len, valP_len] at h1
  refine op_v' (j_unwantV rfl rfl h1r) ?_
  refine op_v' (j_unwantV rfl rfl h1r) ?_
  refine op_v' (j_unwantV rfl rfl h1r) ?_
  refine op_v' (j_unwantV rfl rfl h1r) ?_
  refine op_v' (j_pick_t rfl h1r (evo rfl)) ?_
  refine on ?_
  refine a_tt rfl ?_
  refine rs ?_
  refine op_v' (j_loada_box (ys := [.own 1001 v1001x3, .own 1002 v1002x4, .p _]) agg162 rfl rfl rfl (Nat.le_of_ble_eq_true rfl)) ?_
  refine op_n' (fun ver => j_buildSlice (parts := []) (es := []) slt44 elt4 rfl rfl (by decide) (by decide) rfl rfl (by simp) rfl) fun v26x5 => ?_
  refine op_s' (j_storea_box0 agg162 rfl rfl rfl rfl rfl rfl) ?_
  refine oa rfl ?_
  refine oa rfl ?_
  refine on ?_
  refine a_ret ?_
  have hr := vs_much (l := l) (n := n) (D := D) (fu := fu) (st := st) (by first | exact .inl (by omega) | exact .inr (by omega))
  exact ⟨[.agg [.own 1001 v1001x3, .own 1002 v1002x4, .p _], .p _, .own 26 v26x5], .tup [.agg [.own 1 0, .own 2 0, .p _], .p _, .own 3 0], [.gone], [.row 69 2 _, .row 89 5 _, .row 4 1 _], [(1001, v1001x3), (1002, v1002x4), (26, v26x5)], ⟨⟨_, _, _, _, rfl, rfl, agg162, rfl⟩, rfl, rfl, trivial⟩, rfl, rfl, ⟨⟨rfl, rfl⟩, ⟨rfl, rfl⟩, ⟨rfl, rfl⟩, ⟨rfl, rfl⟩, trivial⟩, rfl, rfl, ⟨by rw [hr]; try rfl, rfl, by rw [hr]; try rfl⟩⟩
 have h1r := h1
 try simp only [nq, nr, nl, asgD_len, asgL_len, valP_len] at h1
 refine op_v' (j_want rfl rfl h1r (j_fldp fld162f1 rfl rfl)) ?_
 refine op_v' (j_want rfl rfl h1r (j_load_box leaf34 rfl rfl rfl)) ?_
 refine op_v' (j_want rfl rfl h1r (j_len_own_map Tryz.underlying34 rfl rfl)) ?_
 refine op_v' (j_want rfl rfl h1r (j_ge rfl rfl)) ?_
 refine op_v' (j_pick_f rfl h1r (evo rfl)) ?_
 refine on ?_
 refine ac rfl (fun h2 => ?_) fun h2 => ?_
 ·
  have h2r := h2
  try simp only [nq, nr, nl, asgD_len, asgL_len, valP_len] at h2
  refine rs ?_
  refine op_v' (j_loada_box (ys := [.own 1001 v1001x3, .own 1002 v1002x4, .p _]) agg162 rfl rfl rfl (Nat.le_of_ble_eq_true rfl)) ?_
  refine op_n' (fun ver => j_buildSlice (parts := []) (es := []) slt44 elt4 rfl rfl (by decide) (by decide) rfl rfl (by simp) rfl) fun v26x6 => ?_
  refine op_s' (j_storea_box0 agg162 rfl rfl rfl rfl rfl rfl) ?_
  refine oa rfl ?_
  refine oa rfl ?_
  refine on ?_
  refine a_ret ?_
  have hr := vs_much (l := l) (n := n) (D := D) (fu := fu) (st := st) (by first | exact .inl (by omega) | exact .inr (by omega))
  exact ⟨[.agg [.own 1001 v1001x3, .own 1002 v1002x4, .p _], .p _, .own 26 v26x6], .tup [.agg [.own 1 0, .own 2 0, .p _], .p _, .own 3 0], [.gone], [.row 69 2 _, .row 89 5 _, .row 4 1 _], [(1001, v1001x3), (1002, v1002x4), (26, v26x6)], ⟨⟨_, _, _, _, rfl, rfl, agg162, rfl⟩, rfl, rfl, trivial⟩, rfl, rfl, ⟨⟨rfl, rfl⟩, ⟨rfl, rfl⟩, ⟨rfl, rfl⟩, ⟨rfl, rfl⟩, trivial⟩, rfl, rfl, ⟨by rw [hr]; try rfl, rfl, by rw [hr]; try rfl⟩⟩
 have h2r := h2
 try simp only [nq, nr, nl, asgD_len, asgL_len, valP_len] at h2
 refine a_skip ?_
 refine a_seq ?_
 have hm : ¬ (fu = 0 ∨ 1000 ≤ st.length) := by omega
 refine ar ?_
 refine op_v' (j_fldp fld162f2 rfl rfl) ?_
 refine op_v' (j_load_box leaf3 rfl rfl rfl) ?_
 refine op_v' (j_sub rfl rfl (by first | omega | (simp only [nr, nl, asgD_len, asgL_len, valP_len]; omega)) (by first | omega | (simp only [nr, nl, asgD_len, asgL_len, valP_len]; omega))) ?_
 refine op_v' (j_fldp fld162f2 rfl rfl) ?_
 refine op_s' (j_store_box leaf3 rfl rfl (Nat.le_of_ble_eq_true rfl) (evo rfl) rfl) ?_
 refine on ?_
 refine rs ?_
 refine op_n' (fun ver => j_make (n := 12) slt23 elt3 rfl rfl (by decide) rfl rfl rfl rfl (by first | omega | (simp only [nr, nl, asgD_len, asgL_len, valP_len]; omega)) (by rw [maxLen_eq]; first | omega | (simp only [nr, nl, asgD_len, asgL_len, valP_len]; omega))) fun v31x7 => ?_
 refine oa rfl ?_
 refine on ?_
 refine a_row 31 (es' := (asgL zeroP (D.take 0)).map dI) rfl (by rw [List.take_zero]; rfl) ?_
 refine a_seq ?_
 refine rs ?_
 refine oa rfl ?_
 refine on ?_
 refine a_block ?_
 refine a_loopF' (ι := Nat) (fun k => k ≤ D.length) (fun k r => (8, .p (.int .i64 ((k : Nat)))) :: r) (fun k r => (31, some (v31x7, .row 3 1 ((asgL zeroP (D.take k)).map dI))) :: r) (fun k => D.length - k) (fun _ _ => rfl) (fun _ _ => rfl) 0 (Nat.zero_le _) ⟨⟨rfl, rfl⟩, ⟨rfl, trivial⟩, ⟨rfl, trivial⟩, ⟨rfl, rfl⟩, ⟨rfl, rfl⟩⟩ ?_
 intro k hk
 refine a_seq ?_
 refine rs ?_
 refine om rfl ?_
 refine om rfl ?_
 refine op_v' (j_len_map Tryz.underlying23 rfl) ?_
 refine op_v' (j_lt rfl rfl) ?_
 refine on ?_
 refine ac rfl (fun h3 => ?_) fun h3 => ?_
 ·
  have h3r := h3
  try simp only [nq, nr, nl, asgD_len, asgL_len, valP_len] at h3
  refine a_skip ?_
  refine a_seq ?_
  refine a_block ?_
  refine ar ?_
  refine om rfl ?_
  refine om rfl ?_
  refine om rfl ?_
  refine op_v' (j_elemN slt23 rfl rfl rfl (at_map (by first | omega | (simp only [nr, nl, asgD_len, asgL_len, valP_len]; omega))) rfl) ?_
  refine op_v' (j_load_el leaf3 rfl (at_map (by first | omega | (simp only [nr, nl, asgD_len, asgL_len, valP_len]; omega))) rfl) ?_
  refine op_v0' (j_call0 (v := .tup []) (hp1 := [(31, some (v31x7, .row 3 1 _))]) [(31, v31x7)] false [31] ent185 (f_l3Assign (asgL zeroP (D.take k)) (D.getD k default) (asc_at hasc (by first | omega | (simp only [nr, nl, asgD_len, asgL_len, valP_len]; omega))) (by rw [asgL_len]; rfl)) ⟨.inl ⟨rfl, rfl⟩, .inl ⟨rfl, rfl⟩, trivial⟩ ⟨⟨rfl, rfl⟩, trivial⟩ rfl rfl (fun h => by cases h) rfl (List.all_eq_true.1 rfl) (.inl rfl) rfl rfl) ?_
  refine on ?_
  refine ar ?_
  refine om rfl ?_
  refine op_v' (j_add rfl rfl (by first | omega | (simp only [nr, nl, asgD_len, asgL_len, valP_len]; omega)) (by first | omega | (simp only [nr, nl, asgD_len, asgL_len, valP_len]; omega))) ?_
  refine oa rfl ?_
  refine on ?_
  exact ⟨k + 1, (by first | omega | (simp only [nr, nl, asgD_len, asgL_len, valP_len]; omega)), ⟨⟨rfl, rfl⟩, ⟨rfl, trivial⟩, ⟨rowEq (by rw [asgL_next (by first | omega | (simp only [nr, nl, asgD_len, asgL_len, valP_len]; omega))]; rfl), trivial⟩, ⟨rfl, rfl⟩, ⟨rfl, rfl⟩⟩, (by first | omega | (simp only [nr, nl, asgD_len, asgL_len, valP_len]; omega))⟩
 have h3r := h3
 try simp only [nq, nr, nl, asgD_len, asgL_len, valP_len] at h3
 refine a_exit ?_
 refine a_seq ?_
 refine a_seq ?_
 refine a_row 31 (es' := (asgL zeroP D).map dI) rfl (by rw [List.take_of_length_le (by first | omega | (simp only [nr, nl, asgD_len, asgL_len, valP_len]; omega))]) ?_
 refine ar ?_
 refine op_v' (j_fldp fld162f0 rfl rfl) ?_
 refine op_v' (j_load_box leaf30 rfl rfl rfl) ?_
 refine om rfl ?_
 refine op_v0' (j_call0 (v := .p _) (hp1 := [(31, some (v31x7, .row 3 1 _))]) [(31, v31x7)] true [1001, 31] ent186 (f_l3Prop (l ++ st) (asgL zeroP D) hall (by first | omega | (simp only [nr, nl, asgD_len, asgL_len, valP_len]; omega)) (asgL_ok zero_ok)) ⟨.inr ⟨rfl, view_own rfl rfl, rfl⟩, .inl ⟨rfl, rfl⟩, trivial⟩ ⟨⟨rfl, rfl⟩, trivial⟩ rfl rfl (fun _ => rfl) rfl (List.all_eq_true.1 rfl) (.inr ⟨rfl, by first | exact pl_new1 (fun _ => rfl) | exact pl_newC | (simp [plO, plV, plV.plL]; done)⟩) rfl rfl) ?_
 refine op_v' (j_ge rfl rfl) ?_
 refine on ?_
 refine ac rfl (fun h4 => ?_) fun h4 => ?_
 ·
  have h4r := h4
  try simp only [nq, nr, nl, asgD_len, asgL_len, valP_len] at h4
  refine rs ?_
  refine op_v' (j_loada_box (ys := [.own 1001 v1001x3, .own 1002 v1002x4, .p _]) agg162 rfl rfl rfl (Nat.le_of_ble_eq_true rfl)) ?_
  refine om rfl ?_
  refine op_call2 (v := fun ver ver2 => .agg [.own 51 ver, .own 100051 ver2, .p _]) (hp1 := fun ver ver2 => [(1001, some (v1001x3, .gone)), (1002, some (v1002x4, .gone)), (51, some (ver, .row 69 2 _)), (100051, some (ver2, .row 89 5 _))]) [(1001, v1001x3), (1002, v1002x4)] false ent187 (f_l5Learn (l ++ st) st (fu - 1) D hasc (by simp; omega) (by omega)) ⟨.inl ⟨rfl, rfl⟩, .inl ⟨rfl, rfl⟩, trivial⟩ ⟨⟨rfl, rfl⟩, ⟨rfl, rfl⟩, trivial⟩ rfl rfl rfl rfl (.inl rfl) (fun _ _ => rfl) (fun _ _ => rfl) ?_
  rintro  v51x8 v100051x8
  dsimp only [List.cons_append, List.nil_append]
  refine op_n' (fun ver => j_buildSlice (parts := []) (es := []) slt44 elt4 rfl rfl (by decide) (by decide) rfl rfl (by simp) rfl) fun v52x9 => ?_
  refine op_s' (j_storea_box0 agg162 rfl rfl rfl rfl rfl rfl) ?_
  refine oa rfl ?_
  refine oa rfl ?_
  refine on ?_
  refine a_ret ?_
  have hr := vs_bad (l := l) (n := n) (D := D) hm (by omega)
  exact ⟨[.agg [.own 51 v51x8, .own 100051 v100051x8, .p _], .p _, .own 52 v52x9], .tup [.agg [.own 1 0, .own 2 0, .p _], .p _, .own 3 0], [.gone], [.row 69 2 _, .row 89 5 _, .row 4 1 _], [(51, v51x8), (100051, v100051x8), (52, v52x9)], ⟨⟨_, _, _, _, rfl, rfl, agg162, rfl⟩, rfl, rfl, trivial⟩, rfl, rfl, ⟨⟨rfl, rfl⟩, ⟨rfl, rfl⟩, ⟨rfl, rfl⟩, ⟨rfl, rfl⟩, trivial⟩, rfl, rfl, ⟨by rw [hr]; try rfl, rfl, by rw [hr]; simp only [List.append_assoc]; try rfl⟩⟩
 have h4r := h4
 try simp only [nq, nr, nl, asgD_len, asgL_len, valP_len] at h4
 refine a_skip ?_
 refine a_seq ?_
 have hc1 : ¬ 0 ≤ (prD l st D).2 := by omega
 refine ar ?_
 refine om rfl ?_
 refine op_v0' (j_call0 (v := .p _) (hp1 := []) [] true [31] ent188 (f_l5Free (prD l st D).1 (by omega)) ⟨.inr ⟨rfl, view_own rfl rfl, rfl⟩, trivial⟩ trivial rfl rfl (fun _ => rfl) rfl (fun _ h => by cases h) (.inr ⟨rfl, by first | exact pl_new1 (fun _ => rfl) | exact pl_newC | (simp [plO, plV, plV.plL]; done)⟩) rfl rfl) ?_
 refine oa rfl ?_
 refine on ?_
 refine a_seq ?_
 refine rs ?_
 refine om rfl ?_
 refine op_v' (j_eq rfl rfl) ?_
 refine on ?_
 refine ac rfl (fun h5 => ?_) fun h5 => ?_
 ·
  have h5r := h5
  try simp only [nq, nr, nl, asgD_len, asgL_len, valP_len] at h5
  refine a_seq ?_
  have hv0 : freeV (prD l st D).1 = 0 := by omega
  refine ar ?_
  refine op_n' (fun ver => j_buildSlice (parts := []) (es := []) slt44 elt4 rfl rfl (by decide) (by decide) rfl rfl (by simp) rfl) fun v57x10 => ?_
  refine oa rfl ?_
  refine on ?_
  refine a_seq ?_
  refine rs ?_
  refine oa rfl ?_
  refine on ?_
  refine a_block ?_
  refine a_loopF' (ι := Nat × Nat) (fun x => x.1 ≤ (prD l st D).1.length) (fun x r => (11, .p (.int .i64 ((x.1 : Nat)))) :: (10, .own 57 x.2) :: r) (fun x r => (57, some (x.2, .row 4 1 ((valP ((prD l st D).1.take x.1)).map dB))) :: r) (fun x => (prD l st D).1.length - x.1) (fun _ _ => rfl) (fun _ _ => rfl) (0, v57x10) (by first | exact (Nat.zero_le _) | (dsimp only; exact (Nat.zero_le _))) ⟨⟨rfl, rfl⟩, ⟨rfl, rfl, trivial⟩, ⟨rfl, trivial⟩, ⟨rfl, rfl⟩, ⟨rfl, rfl⟩⟩ ?_
  rintro ⟨k, v⟩ hk; dsimp only at hk ⊢
  refine a_seq ?_
  refine rs ?_
  refine om rfl ?_
  refine om rfl ?_
  refine op_v' (j_len_own_map Tryz.underlying23 rfl rfl) ?_
  refine op_v' (j_lt rfl rfl) ?_
  refine on ?_
  refine ac rfl (fun h6 => ?_) fun h6 => ?_
  ·
   have h6r := h6
   try simp only [nq, nr, nl, asgD_len, asgL_len, valP_len] at h6
   refine a_skip ?_
   refine a_seq ?_
   refine a_block ?_
   refine ar ?_
   refine om rfl ?_
   refine om rfl ?_
   refine om rfl ?_
   refine op_v' (j_elem_ownN slt23 rfl rfl rfl rfl (by first | omega | (simp only [nr, nl, asgD_len, asgL_len, valP_len]; omega))) ?_
   refine op_v' (j_load_pel leaf3 rfl rfl (at_map (by first | omega | (simp only [nr, nl, asgD_len, asgL_len, valP_len]; omega))) rfl) ?_
   refine op_v' (j_gt rfl rfl) ?_
   refine op_n' (fun ver => j_buildSlice (parts := [(0, .tmp 69)]) (es := [[_]]) slt44 elt4 rfl rfl (by decide) (by decide) rfl rfl (by simp) rfl) fun v70x11 => ?_
   refine op_n' (fun ver => j_append_own slt44 elt4 rfl rfl rfl rfl rfl rfl (by rw [maxLen_eq]; first | omega | (simp only [nr, nl, asgD_len, asgL_len, valP_len]; omega)) (by first | omega | (simp only [nr, nl, asgD_len, asgL_len, valP_len]; omega))) fun v57x12 => ?_
   refine oa rfl ?_
   refine on ?_
   refine ar ?_
   refine om rfl ?_
   refine op_v' (j_add rfl rfl (by first | omega | (simp only [nr, nl, asgD_len, asgL_len, valP_len]; omega)) (by first | omega | (simp only [nr, nl, asgD_len, asgL_len, valP_len]; omega))) ?_
   refine oa rfl ?_
   refine on ?_
   exact ⟨(k + 1, v57x12), (by first | exact (by first | omega | (simp only [nr, nl, asgD_len, asgL_len, valP_len]; omega)) | (dsimp only; exact (by first | omega | (simp only [nr, nl, asgD_len, asgL_len, valP_len]; omega)))), ⟨⟨rfl, rfl⟩, ⟨rfl, rfl, trivial⟩, ⟨rowEq (by dsimp only; rw [valP_next (by omega), List.map_append]; rfl), trivial⟩, ⟨rfl, rfl⟩, ⟨rfl, rfl⟩⟩, (by first | exact (by first | omega | (simp only [nr, nl, asgD_len, asgL_len, valP_len]; omega)) | (dsimp only; exact (by first | omega | (simp only [nr, nl, asgD_len, asgL_len, valP_len]; omega))))⟩
  have h6r := h6
  try simp only [nq, nr, nl, asgD_len, asgL_len, valP_len] at h6
  refine a_exit ?_
  refine rs ?_
  refine op_v' (j_loada_box (ys := [.own 1001 v1001x3, .own 1002 v1002x4, .p _]) agg162 rfl rfl rfl (Nat.le_of_ble_eq_true rfl)) ?_
  refine om rfl ?_
  refine op_s' (j_storea_box0 agg162 rfl rfl rfl rfl rfl rfl) ?_
  refine oa rfl ?_
  refine oa rfl ?_
  refine on ?_
  refine a_ret ?_
  have hr := vs_sat (n := n) hm hc1 hv0
  exact ⟨[.agg [.own 1001 v1001x3, .own 1002 v1002x4, .p _], .p _, .own 57 v], .tup [.agg [.own 1 0, .own 2 0, .p _], .p _, .own 3 0], [.gone], [.row 69 2 _, .row 89 5 _, .row 4 1 _], [(1001, v1001x3), (1002, v1002x4), (57, v)], ⟨⟨_, _, _, _, rfl, rfl, agg162, rfl⟩, rfl, rfl, trivial⟩, rfl, rfl, ⟨⟨rfl, rfl⟩, ⟨rfl, rfl⟩, ⟨rfl, rfl⟩, ⟨rfl, rfl⟩, trivial⟩, rfl, rfl, ⟨by rw [hr]; try rfl, rfl, by rw [hr, List.take_of_length_le (by omega)]⟩⟩
 have h5r := h5
 try simp only [nq, nr, nl, asgD_len, asgL_len, valP_len] at h5
 refine a_skip ?_
 refine a_seq ?_
 refine a_seq ?_
 have hv0 : ¬ freeV (prD l st D).1 = 0 := by omega
 have hv12 := (freeV_some hv0).1
 refine ar ?_
 refine om rfl ?_
 refine om rfl ?_
 refine op_v' (j_neg rfl (by first | omega | (simp only [nr, nl, asgD_len, asgL_len, valP_len]; omega)) (by first | omega | (simp only [nr, nl, asgD_len, asgL_len, valP_len]; omega))) ?_
 refine op_n' (fun ver => j_buildSlice (parts := [(0, .tmp 74), (1, .tmp 76)]) (es := [[_], [_]]) slt23 elt3 rfl rfl (by decide) (by decide) rfl rfl (by simp) rfl) fun v77x13 => ?_
 refine op_v' (j_len_own Tryz.underlying23 rfl rfl) ?_
 refine om rfl ?_
 refine on ?_
 refine a_row 77 (es' := (twoV l st D).map dI) rfl rfl ?_
 try dsimp only [List.length_cons, List.length_nil]
 refine a_block ?_
 refine a_loopF' (ι := Nat × Nat × Nat) (fun x => x.1 ≤ 2 ∧ ∀ i, i < x.1 → (visN l n st fu D i).2.2.1 = 2) (fun x r => (79, .p (.int .i64 ((x.1 : Nat)))) :: r) (fun x r => (1010, some (v1010x1, .box 162 [.own 1001 x.2.1, .own 1002 x.2.2, .p (.int .i64 (visK l n st fu D x.1).2)])) :: (1001, some (x.2.1, .row 69 2 ((l ++ (visK l n st fu D x.1).1).map dC))) :: (1002, some (x.2.2, .row 89 5 (((visK l n st fu D x.1).1).map dSt))) :: r) (fun x => 2 - x.1) (fun _ _ => rfl) (fun _ _ => rfl) (0, v1001x3, v1002x4) (by first | exact ⟨Nat.zero_le _, fun i h => absurd h (Nat.not_lt_zero i)⟩ | (dsimp only; exact ⟨Nat.zero_le _, fun i h => absurd h (Nat.not_lt_zero i)⟩)) ⟨⟨rfl, rfl⟩, ⟨rfl, trivial⟩, ⟨rfl, rfl, rfl, trivial⟩, ⟨rfl, rfl⟩, ⟨rfl, rfl⟩⟩ ?_
 rintro ⟨k, v1, v2⟩ hk; dsimp only at hk ⊢
 refine rs ?_
 refine op_v' (j_lt rfl rfl) ?_
 refine on ?_
 refine a_seq ?_
 refine ac rfl (fun h7 => ?_) fun h7 => ?_
 ·
  have h7r := h7
  try simp only [nq, nr, nl, asgD_len, asgL_len, valP_len] at h7
  refine a_skip ?_
  refine a_seq ?_
  refine a_block ?_
  refine rs ?_
  refine op_v' (j_elem_ownN slt23 rfl rfl rfl rfl (by first | omega | (simp only [nr, nl, asgD_len, asgL_len, valP_len]; omega))) ?_
  refine op_v' (j_load_pel leaf3 rfl rfl (at_map (by first | omega | (simp only [nr, nl, asgD_len, asgL_len, valP_len]; omega))) rfl) ?_
  refine oa rfl ?_
  refine on ?_
  refine rs ?_
  refine oa rfl ?_
  refine on ?_
  refine rs ?_
  refine op_n' (fun ver => j_buildSlice (parts := []) (es := []) slt44 elt4 rfl rfl (by decide) (by decide) rfl rfl (by simp) rfl) fun v83x14 => ?_
  refine oa rfl ?_
  refine on ?_
  refine a_seq ?_
  have hkH := visK_H hh hm hc1 hv0 (k := k) (by first | omega | (simp only [nr, nl, asgD_len, asgL_len, valP_len]; omega))
  have hkG := visN_good hh hm hc1 hv0 (k := k) (by first | omega | (simp only [nr, nl, asgD_len, asgL_len, valP_len]; omega))
  have hvn : (visit l n (visK l n st fu D k).1 (visK l n st fu D k).2 (D ++ [((twoV l st D).getD k default)])).2.2.1 = (visN l n st fu D k).2.2.1 := rfl
  have IH9 := IH _ _ _ hkH
  rw [show (D ++ [((twoV l st D).getD k default)]).map dI = D.map dI ++ [dI ((twoV l st D).getD k default)] from List.map_append ..] at IH9
  refine a_draw mixed (by kernel_rfl) (by kernel_rfl) fun vf => ?_
  refine d_v' (j_loada_box (ys := [.own 1001 v1, .own 1002 v2, .p _]) agg162 rfl rfl rfl (Nat.le_of_ble_eq_true rfl)) ?_
  refine d_n' (fun ver => j_buildSlice (parts := []) (es := []) slt23 elt3 rfl rfl (by decide) (by decide) rfl rfl (by simp) rfl) ?_
  refine d_v' (j_move (evo rfl)) ?_
  refine d_n1' (fun ver => j_append_slN (by decide) slt23 elt3 rfl rfl rfl rfl (by intro x hx; obtain ⟨t, _, rfl⟩ := List.mem_map.1 hx; rfl) (all_lf_dI D) (by rw [maxLen_eq]; first | omega | (simp only [nr, nl, asgD_len, asgL_len, valP_len]; omega)) (by first | omega | (simp only [nr, nl, asgD_len, asgL_len, valP_len]; omega))) ?_
  refine d_v' (j_move (evo rfl)) ?_
  refine d_n' (fun ver => j_buildSlice (parts := [(0, .tmp 89)]) (es := [[_]]) slt23 elt3 rfl rfl (by decide) (by decide) rfl rfl (by simp) rfl) ?_
  refine d_n1' (fun ver => j_append_ownN (by decide) slt23 elt3 rfl rfl rfl rfl rfl rfl (by rw [maxLen_eq]; first | omega | (simp only [nr, nl, asgD_len, asgL_len, valP_len]; omega)) (by first | omega | (simp only [nr, nl, asgD_len, asgL_len, valP_len]; omega)) rfl) ?_
  refine d_n3' (fun ver ver2 ver3 => j_call3 (v := .tup [.agg [.own 92 ver, .own 100092 ver2, .p _], .p _, .own 200092 ver3]) (hp1 := [(1001, some (v1, .gone)), (1002, some (v2, .gone)), (91, some ((vf 91), .row 3 1 _)), (92, some (ver, .row 69 2 _)), (100092, some (ver2, .row 89 5 _)), (200092, some (ver3, .row 4 1 _))]) [(1001, v1), (1002, v2), (91, (vf 91))] false [1001, 1002, 91] ent135 IH9 ⟨.inl ⟨rfl, rfl⟩, .inl ⟨rfl, rfl⟩, trivial⟩ ⟨⟨rfl, rfl⟩, ⟨rfl, rfl⟩, ⟨rfl, rfl⟩, trivial⟩ rfl rfl rfl (fun h => by cases h) rfl (List.all_eq_true.1 rfl) (.inl rfl) rfl rfl) ?_
  refine d_v' (j_move (evo rfl)) ?_
  refine d_v' (j_extract rfl rfl) ?_
  refine d_v' (j_extract rfl rfl) ?_
  refine d_v' (j_extract rfl rfl) ?_
  refine d_s' (j_storea_box0 agg162 rfl rfl rfl rfl rfl rfl) ?_
  refine d_v' (j_assign (evo rfl)) ?_
  refine d_v' (j_assign (evo rfl)) ?_
  refine d_nil (by kernel_rfl) (by kernel_rfl) ?_
  refine a_mvB (i := 92) 1010 0 1001 (by decide) (by decide) rfl rfl rfl rfl fun v1001x15 => ?_
  try dsimp only [List.set]
  refine a_mvB (i := 100092) 1010 1 1002 (by decide) (by decide) rfl rfl rfl rfl fun v1002x16 => ?_
  try dsimp only [List.set]
  refine rs ?_
  refine om rfl ?_
  refine op_v' (j_ne rfl rfl) ?_
  refine on ?_
  refine ac rfl (fun h8 => ?_) fun h8 => ?_
  ·
   have h8r := h8
   try simp only [nq, nr, nl, asgD_len, asgL_len, valP_len] at h8
   refine a_seq ?_
   have hne : (visN l n st fu D k).2.2.1 ≠ 2 := by omega
   refine ar ?_
   refine op_v' (j_loada_box (ys := [.own 1001 v1001x15, .own 1002 v1002x16, .p _]) agg162 rfl rfl rfl (Nat.le_of_ble_eq_true rfl)) ?_
   refine om rfl ?_
   refine om rfl ?_
   refine op_s' (j_storea_box0 agg162 rfl rfl rfl rfl rfl rfl) ?_
   refine oa rfl ?_
   refine oa rfl ?_
   refine on ?_
   refine a_ret ?_
   have hr := visN_hit hm hc1 hv0 (k := k) (by first | omega | (simp only [nr, nl, asgD_len, asgL_len, valP_len]; omega)) (fun q => hk.2 0 (by omega)) hne
   exact ⟨[.agg [.own 1001 v1001x15, .own 1002 v1002x16, .p _], .p _, .own 200092 (vf 200092)], .tup [.agg [.own 1 0, .own 2 0, .p _], .p _, .own 3 0], [.gone], [.row 69 2 _, .row 89 5 _, .row 4 1 _], [(1001, v1001x15), (1002, v1002x16), (200092, (vf 200092))], ⟨⟨_, _, _, _, rfl, rfl, agg162, rfl⟩, rfl, rfl, trivial⟩, rfl, rfl, ⟨⟨rfl, rfl⟩, ⟨rfl, rfl⟩, ⟨rfl, rfl⟩, ⟨rfl, rfl⟩, trivial⟩, rfl, rfl, ⟨by rw [hr]; try rfl, rfl, by rw [hr]; try rfl⟩⟩
  have h8r := h8
  try simp only [nq, nr, nl, asgD_len, asgL_len, valP_len] at h8
  refine a_skip ?_
  have h2e : (visN l n st fu D k).2.2.1 = 2 := by omega
  refine ar ?_
  refine op_v' (j_add rfl rfl (by first | omega | (simp only [nr, nl, asgD_len, asgL_len, valP_len]; omega)) (by first | omega | (simp only [nr, nl, asgD_len, asgL_len, valP_len]; omega))) ?_
  refine om rfl ?_
  refine on ?_
  exact ⟨(k + 1, v1001x15, v1002x16), (by first | exact ⟨by first | omega | (simp only [nr, nl, asgD_len, asgL_len, valP_len]; omega), fun i hi => by rcases Nat.lt_succ_iff_lt_or_eq.1 hi with q | q; (· exact hk.2 i q); (· subst q; exact h2e)⟩ | (dsimp only; exact ⟨by first | omega | (simp only [nr, nl, asgD_len, asgL_len, valP_len]; omega), fun i hi => by rcases Nat.lt_succ_iff_lt_or_eq.1 hi with q | q; (· exact hk.2 i q); (· subst q; exact h2e)⟩)), ⟨⟨rfl, rfl⟩, ⟨rfl, trivial⟩, ⟨(by dsimp only; rw [visK_next (by omega)]; rfl), (by dsimp only; rw [visK_next (by omega)]; rfl), (by dsimp only; rw [visK_next (by omega)]; rfl), trivial⟩, ⟨rfl, rfl⟩, ⟨rfl, rfl⟩⟩, (by first | exact (by first | omega | (simp only [nr, nl, asgD_len, asgL_len, valP_len]; omega)) | (dsimp only; exact (by first | omega | (simp only [nr, nl, asgD_len, asgL_len, valP_len]; omega))))⟩
 have h7r := h7
 try simp only [nq, nr, nl, asgD_len, asgL_len, valP_len] at h7
 refine a_exit ?_
 refine a_seq ?_
 refine a_seq ?_
 obtain rfl : k = 2 := by omega
 have hk1 := hk.2 1 (by omega)
 have hk0 := hk.2 0 (by omega)
 have hvl2 : (visK l n st fu D 2).1.length = (vis2 l n st fu D).1.length := rfl
 have hk2L : (vis2 l n st fu D).1.length ≤ 1000 := (visN_good hh hm hc1 hv0 (k := 1) (by omega)).len
 refine ar ?_
 refine op_v' (j_fldp fld162f1 rfl rfl) ?_
 refine op_v' (j_load_box leaf34 rfl rfl rfl) ?_
 refine op_v' (j_len_own_map Tryz.underlying34 rfl rfl) ?_
 refine op_v' (j_ge rfl rfl) ?_
 refine on ?_
 refine ac rfl (fun h9 => ?_) fun h9 => ?_
 ·
  have h9r := h9
  try simp only [nq, nr, nl, asgD_len, asgL_len, valP_len] at h9
  refine rs ?_
  refine op_v' (j_loada_box (ys := [.own 1001 v1, .own 1002 v2, .p _]) agg162 rfl rfl rfl (Nat.le_of_ble_eq_true rfl)) ?_
  refine op_n' (fun ver => j_buildSlice (parts := []) (es := []) slt44 elt4 rfl rfl (by decide) (by decide) rfl rfl (by simp) rfl) fun v107x17 => ?_
  refine op_s' (j_storea_box0 agg162 rfl rfl rfl rfl rfl rfl) ?_
  refine oa rfl ?_
  refine oa rfl ?_
  refine on ?_
  refine a_ret ?_
  have hr := vs_full hm hc1 hv0 (fun q => q hk0) (fun q => q hk1) (by omega)
  exact ⟨[.agg [.own 1001 v1, .own 1002 v2, .p _], .p _, .own 107 v107x17], .tup [.agg [.own 1 0, .own 2 0, .p _], .p _, .own 3 0], [.gone], [.row 69 2 _, .row 89 5 _, .row 4 1 _], [(1001, v1), (1002, v2), (107, v107x17)], ⟨⟨_, _, _, _, rfl, rfl, agg162, rfl⟩, rfl, rfl, trivial⟩, rfl, rfl, ⟨⟨rfl, rfl⟩, ⟨rfl, rfl⟩, ⟨rfl, rfl⟩, ⟨rfl, rfl⟩, trivial⟩, rfl, rfl, ⟨by rw [hr]; try rfl, rfl, by rw [hr]; try rfl⟩⟩
 have h9r := h9
 try simp only [nq, nr, nl, asgD_len, asgL_len, valP_len] at h9
 refine a_skip ?_
 refine rs ?_
 refine op_v' (j_loada_box (ys := [.own 1001 v1, .own 1002 v2, .p _]) agg162 rfl rfl rfl (Nat.le_of_ble_eq_true rfl)) ?_
 refine om rfl ?_
 refine op_call2 (v := fun ver ver2 => .agg [.own 110 ver, .own 100110 ver2, .p _]) (hp1 := fun ver ver2 => [(1001, some (v1, .gone)), (1002, some (v2, .gone)), (110, some (ver, .row 69 2 _)), (100110, some (ver2, .row 89 5 _))]) [(1001, v1), (1002, v2)] false ent187 (f_l5Learn (l ++ (visK l n st fu D 2).1) (visK l n st fu D 2).1 (visK l n st fu D 2).2 D hasc (by simp; omega) (by omega)) ⟨.inl ⟨rfl, rfl⟩, .inl ⟨rfl, rfl⟩, trivial⟩ ⟨⟨rfl, rfl⟩, ⟨rfl, rfl⟩, trivial⟩ rfl rfl rfl rfl (.inl rfl) (fun _ _ => rfl) (fun _ _ => rfl) ?_
 rintro  v110x18 v100110x18
 dsimp only [List.cons_append, List.nil_append]
 refine op_n' (fun ver => j_buildSlice (parts := []) (es := []) slt44 elt4 rfl rfl (by decide) (by decide) rfl rfl (by simp) rfl) fun v111x19 => ?_
 refine op_s' (j_storea_box0 agg162 rfl rfl rfl rfl rfl rfl) ?_
 refine oa rfl ?_
 refine oa rfl ?_
 refine on ?_
 refine a_ret ?_
 have hr := vs_fail hm hc1 hv0 (fun q => q hk0) (fun q => q hk1) (by omega)
 exact ⟨[.agg [.own 110 v110x18, .own 100110 v100110x18, .p _], .p _, .own 111 v111x19], .tup [.agg [.own 1 0, .own 2 0, .p _], .p _, .own 3 0], [.gone], [.row 69 2 _, .row 89 5 _, .row 4 1 _], [(110, v110x18), (100110, v100110x18), (111, v111x19)], ⟨⟨_, _, _, _, rfl, rfl, agg162, rfl⟩, rfl, rfl, trivial⟩, rfl, rfl, ⟨⟨rfl, rfl⟩, ⟨rfl, rfl⟩, ⟨rfl, rfl⟩, ⟨rfl, rfl⟩, trivial⟩, rfl, rfl, ⟨by rw [hr]; try rfl, rfl, by rw [hr]; simp only [List.append_assoc]; try rfl⟩⟩
theorem f_search (l : List Con) : ∀ (n : Nat) (st : List Con) (fu : Int) (D : List Int), visH l n st fu D → Fn Tryz.prog 135 [.agg [.own 0 0, .own 1 0, .p (.int .i64 (fu))], .own 2 0] [.row 69 2 ((l ++ st).map dC), .row 89 5 ((st).map dSt), .row 3 1 ((D).map dI)] (fun rr ii nn => rr = .tup [.agg [.own 3 0, .own 4 0, .p (.int .i64 (visit l n st (fu) (D)).2.1)], .p (.int .i64 (visit l n st (fu) (D)).2.2.1), .own 5 0] ∧ ii = [.gone, .gone, .row 3 1 ((D).map dI)] ∧ nn = [.row 69 2 ((l ++ (visit l n st (fu) (D)).1).map dC), .row 89 5 (((visit l n st (fu) (D)).1).map dSt), .row 4 1 ((visit l n st (fu) (D)).2.2.2.map dB)]) := by
 intro n
 induction n with
 | zero => intro st fu D h; exact absurd rfl (visH_n h)
 | succ n ih => intro st fu D h; exact f_seaO l n st fu D h (fun st' fu' d h' => ih st' fu' (D ++ [d]) h')
theorem f_search0 (l : List Con) (fu : Int) (h : visH l 13 [] fu []) : Fn Tryz.prog 135 [.agg [.own 0 0, .p (.slice none 0 0), .p (.int .i64 fu)], .p (.slice none 0 0)] [.row 69 2 ((l ++ ([] : List Con)).map dC)] (fun rr ii nn => rr = .tup [.agg [.own 1 0, .own 2 0, .p (.int .i64 (visit l 13 ([] : List Con) (fu) (([] : List Int))).2.1)], .p (.int .i64 (visit l 13 ([] : List Con) (fu) (([] : List Int))).2.2.1), .own 3 0] ∧ ii = [.gone] ∧ nn = [.row 69 2 ((l ++ (visit l 13 ([] : List Con) (fu) (([] : List Int))).1).map dC), .row 89 5 (((visit l 13 ([] : List Con) (fu) (([] : List Int))).1).map dSt), .row 4 1 ((visit l 13 ([] : List Con) (fu) (([] : List Int))).2.2.2.map dB)]) :=
 f_seaN l 12 [] fu [] h rfl rfl (fun st' fu' d h' => f_search l 12 st' fu' ([] ++ [d]) h')
end Go.Ab

/- Walks. -/
import Derived.Test.YtoodaakcfelaaaaGreatBase
import Derived.Test.YtoodaakcfelaaaaGreatCub
import Derived.Test.YtoodaakcfelaaaaGreatWsrun4
namespace Go.Ab
open Go.Proofs
set_option maxRecDepth 100000
set_option maxHeartbeats 8000000
set_option linter.unusedSimpArgs false
set_option linter.unusedVariables false
theorem f_runY (l : List Con) (ss : List Stp) (E : Db) (h : runV l ss = some E) : Fn Tryz.prog 145 [.sl (l.map dC), .sl (ss.map dStp)] [] (fun rr ii nn => rr = .tup [.ptr 0 0 0, .p (.int .i64 (-1))] ∧ ii = [] ∧ nn = [.box 170 [.own 1 0, .own 2 0], .row 69 2 ((E.1).map dC), .row 4 1 ((E.2).map dB)]) := by
 refine fn_of Tryz.func145 rfl (Nat.le_of_ble_eq_true rfl) fun w X g => ?_
 show AWp _ _ _ ⟨[(0, .sl (l.map dC)), (1, .sl (ss.map dStp))], []⟩
 obtain ⟨hpo, hsl, hrun⟩ := runV_parts h
 have hrp := runI_0 (ss := ss) hpo
 have hln := pOk_len hpo
 refine rs ?_
 refine oa rfl ?_
 refine oa rfl ?_
 refine on ?_
 refine a_seq ?_
 refine rs ?_
 refine om rfl ?_
 refine op_v0' (j_call0 (v := .p _) (hp1 := []) [] false [] ent69 (f_pvImpl l) ⟨.inl ⟨rfl, rfl⟩, trivial⟩ trivial rfl rfl (fun h => by cases h) rfl (fun _ h => by cases h) (.inl rfl) rfl rfl) ?_
 refine op_v' (j_not rfl) ?_
 refine om rfl ?_
 refine op_split' 12 rfl (fun h1 => ?_) (fun h1 => ?_)
 ·
  have h1r := h1
  try simp only [nq, nr, nl] at h1
  exact absurd h1r (by rw [hpo]; decide)
 have h1r := h1
 try simp only [nq, nr, nl] at h1
 refine op_v' (j_want rfl rfl h1r (j_move (evo rfl))) ?_
 refine op_v' (j_want rfl rfl h1r (j_len_map Tryz.underlying34 rfl)) ?_
 refine op_v' (j_want rfl rfl h1r (j_gt rfl rfl)) ?_
 refine op_v' (j_pick_f rfl h1r (evo rfl)) ?_
 refine on ?_
 refine ac rfl (fun h2 => ?_) fun h2 => ?_
 ·
  have h2r := h2
  try simp only [nq, nr, nl] at h2
  exact absurd h2r (by first | (rw [hpo]; decide) | (simp; omega))
 have h2r := h2
 try simp only [nq, nr, nl] at h2
 refine a_skip ?_
 refine a_seq ?_
 refine a_draw mixed (by kernel_rfl) (by kernel_rfl) fun vf => ?_
 refine d_v' (j_move (evo rfl)) ?_
 refine d_n1' (fun ver => j_call1 (v := .own 18 ver) (hp1 := [(18, some (ver, .row 69 2 _))]) [] false [] ent57 (f_cloneC l (by omega)) ⟨.inl ⟨rfl, rfl⟩, trivial⟩ trivial rfl rfl rfl (fun h => by cases h) rfl (List.all_eq_true.1 rfl) (.inl rfl) rfl rfl) ?_
 refine d_v' (j_move (evo rfl)) ?_
 refine d_v' (j_len_map Tryz.underlying30 rfl) ?_
 refine d_n' (fun ver => j_make (n := l.length) slt44 elt4 rfl rfl (by decide) rfl rfl rfl rfl (by first | omega | (simp only [nr, nl]; omega)) (by rw [maxLen_eq]; first | omega | (simp only [nr, nl]; omega))) ?_
 refine d_v' (j_build (parts := [(0, .tmp 18), (1, .tmp 21)]) str170 elt170 rfl rfl) ?_
 refine d_n' (fun ver => j_boxa rfl) ?_
 refine d_v' (j_assign (evo rfl)) ?_
 refine d_nil (by kernel_rfl) (by kernel_rfl) ?_
 refine a_seq ?_
 refine rs ?_
 refine om rfl ?_
 refine op_v' (j_len_map Tryz.underlying34 rfl) ?_
 refine om rfl ?_
 refine on ?_
 refine a_block ?_
 refine a_loopF' (ι := Nat × Db × Nat × Nat) (fun x => runI l ss x.1 x.2.1) (fun x r => (26, .p (.int .i64 ((x.1 : Nat)))) :: (6, .ptr 23 (vf 23) 0) :: r) (fun x r => (23, some ((vf 23), .box 170 [.own 18 x.2.2.1, .own 21 x.2.2.2])) :: (18, some (x.2.2.1, .row 69 2 ((x.2.1.1).map dC))) :: (21, some (x.2.2.2, .row 4 1 ((x.2.1.2).map dB))) :: r) (fun x => ss.length - x.1) (fun _ _ => rfl) (fun _ _ => rfl) (0, run0 l, (vf 18), (vf 21)) (by first | exact hrp | (dsimp only; exact hrp)) ⟨⟨rfl, rfl⟩, ⟨rfl, rfl, trivial⟩, ⟨rfl, rfl, rowEq (by unfold run0; dsimp only; rw [List.map_replicate]; rfl), trivial⟩, ⟨rfl, rfl⟩, ⟨rfl, rfl⟩⟩ ?_
 rintro ⟨k, D, v1, v2⟩ hi; dsimp only at hi ⊢
 refine rs ?_
 refine op_v' (j_lt rfl rfl) ?_
 refine on ?_
 refine a_seq ?_
 refine ac rfl (fun h3 => ?_) fun h3 => ?_
 ·
  have h3r := h3
  try simp only [nq, nr, nl] at h3
  refine a_skip ?_
  refine a_seq ?_
  refine a_block ?_
  refine rs ?_
  refine om rfl ?_
  refine op_v' (j_elemN slt34 rfl rfl rfl (at_map (by first | omega | (simp only [nr, nl]; omega))) rfl) ?_
  refine op_v' (j_loada_el (ys := [.p _, .p _, .p _, .sl _, .p _]) agg89 rfl (at_map (by first | omega | (simp only [nr, nl]; omega))) rfl (Nat.le_refl _)) ?_
  refine op_n' (fun ver => j_alloc elt89 rfl) fun v8x1 => ?_
  refine oa rfl ?_
  refine op_s' (j_storea_box0 agg89 rfl rfl rfl rfl rfl rfl) ?_
  refine on ?_
  refine a_seq ?_
  have hi1 := hi.1
  have hid := hi.2.2.1
  have hig := hi.2.2.2.1
  have hil := hi.2.2.2.2
  refine ar ?_
  refine om rfl ?_
  refine op_v' (j_loada_box (ys := [.p _, .p _, .p _, .sl _, .p _]) agg89 rfl rfl rfl (Nat.le_of_ble_eq_true rfl)) ?_
  refine op_call2 (v := fun ver ver2 => .p _) (hp1 := fun ver ver2 => [(23, some ((vf 23), .box 170 [.own 33 ver, .own 100033 ver2])), (18, some (v1, .gone)), (21, some (v2, .gone)), (33, some (ver, .row 69 2 _)), (100033, some (ver2, .row 4 1 _))]) [(23, (vf 23)), (18, v1), (21, v2)] false ent192 (f_step D (ss.getD k default) hid hig (by omega)) ⟨.inl ⟨rfl, rfl⟩, .inl ⟨rfl, rfl⟩, trivial⟩ ⟨⟨rfl, rfl⟩, ⟨rfl, rfl⟩, ⟨rfl, rfl⟩, trivial⟩ rfl rfl rfl rfl (.inl rfl) (fun _ _ => rfl) (fun _ _ => rfl) ?_
  rintro  v33x2 v100033x2
  dsimp only [List.cons_append, List.nil_append]
  refine op_v' (j_not rfl) ?_
  refine on ?_
  refine ac rfl (fun h4 => ?_) fun h4 => ?_
  ·
   have h4r := h4
   try simp only [nq, nr, nl] at h4
   exact absurd (runI_stop hi (by first | omega | (simp only [nr, nl]; omega)) (by simpa using h4r)) (by rw [hrun]; exact fun e => by cases e)
  have h4r := h4
  try simp only [nq, nr, nl] at h4
  refine a_skip ?_
  have hst : stpO D (ss.getD k default) = true := by simp_all
  refine ar ?_
  refine op_v' (j_add rfl rfl (by first | omega | (simp only [nr, nl]; omega)) (by first | omega | (simp only [nr, nl]; omega))) ?_
  refine om rfl ?_
  refine op_mvB (i := 33) 23 0 18 (by decide) (by decide) rfl rfl rfl rfl fun v18x3 => ?_
  try dsimp only [List.set]
  refine op_mvB (i := 100033) 23 1 21 (by decide) (by decide) rfl rfl rfl rfl fun v21x4 => ?_
  try dsimp only [List.set]
  refine on ?_
  exact ⟨(k + 1, stpF D (ss.getD k default), v18x3, v21x4), (by first | exact (by rw [stpF_o hst]; exact runI_next hi (by first | omega | (simp only [nr, nl]; omega)) hst) | (dsimp only; exact (by rw [stpF_o hst]; exact runI_next hi (by first | omega | (simp only [nr, nl]; omega)) hst))), ⟨⟨rfl, rfl⟩, ⟨rfl, rfl, trivial⟩, ⟨rfl, rfl, rfl, trivial⟩, ⟨rfl, rfl⟩, ⟨rfl, rfl⟩⟩, (by first | exact (by first | omega | (simp only [nr, nl]; omega)) | (dsimp only; exact (by first | omega | (simp only [nr, nl]; omega))))⟩
 have h3r := h3
 try simp only [nq, nr, nl] at h3
 refine a_exit ?_
 refine a_seq ?_
 have hre := runI_end hi (by first | omega | (simp only [nr, nl]; omega))
 rw [hrun] at hre
 obtain rfl : E = D := by injection hre
 refine ar ?_
 refine om rfl ?_
 refine oa rfl ?_
 refine oa rfl ?_
 refine on ?_
 refine a_ret ?_
 exact ⟨[.ptr 23 (vf 23) 0, .p _], .tup [.ptr 0 0 0, .p _], [], [.box 170 [.own 1 0, .own 2 0], .row 69 2 _, .row 4 1 _], [(23, (vf 23)), (18, v1), (21, v2)], ⟨rfl, rfl, trivial⟩, rfl, rfl, ⟨⟨rfl, rfl⟩, ⟨rfl, rfl⟩, ⟨rfl, rfl⟩, trivial⟩, rfl, rfl, ⟨rfl, rfl, rfl⟩⟩
theorem f_runN (l : List Con) (ss : List Stp) (h : runV l ss = none) : Fn Tryz.prog 145 [.sl (l.map dC), .sl (ss.map dStp)] [] (fun rr ii nn => ∃ x : Int, (0 ≤ x) ∧ rr = .tup [.p (.pointer none), .p (.int .i64 (x))] ∧ ii = [] ∧ nn = []) := by
 refine fn_of Tryz.func145 rfl (Nat.le_of_ble_eq_true rfl) fun w X g => ?_
 show AWp _ _ _ ⟨[(0, .sl (l.map dC)), (1, .sl (ss.map dStp))], []⟩
 refine rs ?_
 refine oa rfl ?_
 refine oa rfl ?_
 refine on ?_
 refine a_seq ?_
 refine rs ?_
 refine om rfl ?_
 refine op_v0' (j_call0 (v := .p _) (hp1 := []) [] false [] ent69 (f_pvImpl l) ⟨.inl ⟨rfl, rfl⟩, trivial⟩ trivial rfl rfl (fun h => by cases h) rfl (fun _ h => by cases h) (.inl rfl) rfl rfl) ?_
 refine op_v' (j_not rfl) ?_
 refine om rfl ?_
 refine op_split' 12 rfl (fun h1 => ?_) (fun h1 => ?_)
 ·
  have h1r := h1
  try simp only [nq, nr, nl] at h1
  refine op_v' (j_unwantV rfl rfl h1r) ?_
  refine op_v' (j_unwantV rfl rfl h1r) ?_
  refine op_v' (j_unwantV rfl rfl h1r) ?_
  refine op_v' (j_pick_t rfl h1r (evo rfl)) ?_
  refine on ?_
  refine a_tt rfl ?_
  refine rs ?_
  refine oa rfl ?_
  refine oa rfl ?_
  refine on ?_
  refine a_ret ?_
  exact ⟨[.p _, .p _], .tup [.p _, .p _], [], [], [], ⟨rfl, rfl, trivial⟩, rfl, rfl, trivial, rfl, rfl, ⟨0, Int.le_refl 0, rfl, rfl, rfl⟩⟩
 have h1r := h1
 try simp only [nq, nr, nl] at h1
 refine op_v' (j_want rfl rfl h1r (j_move (evo rfl))) ?_
 refine op_v' (j_want rfl rfl h1r (j_len_map Tryz.underlying34 rfl)) ?_
 refine op_v' (j_want rfl rfl h1r (j_gt rfl rfl)) ?_
 refine op_v' (j_pick_f rfl h1r (evo rfl)) ?_
 refine on ?_
 refine ac rfl (fun h2 => ?_) fun h2 => ?_
 ·
  have h2r := h2
  try simp only [nq, nr, nl] at h2
  refine rs ?_
  refine oa rfl ?_
  refine oa rfl ?_
  refine on ?_
  refine a_ret ?_
  exact ⟨[.p _, .p _], .tup [.p _, .p _], [], [], [], ⟨rfl, rfl, trivial⟩, rfl, rfl, trivial, rfl, rfl, ⟨0, Int.le_refl 0, rfl, rfl, rfl⟩⟩
 have h2r := h2
 try simp only [nq, nr, nl] at h2
 refine a_skip ?_
 refine a_seq ?_
 have hpo : pOk l = true := by simp_all
 have hsl : ss.length ≤ 1000 := by omega
 rw [runV_y hpo hsl] at h
 have hrp := runI_0 (ss := ss) hpo
 have hln := pOk_len hpo
 refine a_draw mixed (by kernel_rfl) (by kernel_rfl) fun vf => ?_
 refine d_v' (j_move (evo rfl)) ?_
 refine d_n1' (fun ver => j_call1 (v := .own 18 ver) (hp1 := [(18, some (ver, .row 69 2 _))]) [] false [] ent57 (f_cloneC l (by omega)) ⟨.inl ⟨rfl, rfl⟩, trivial⟩ trivial rfl rfl rfl (fun h => by cases h) rfl (List.all_eq_true.1 rfl) (.inl rfl) rfl rfl) ?_
 refine d_v' (j_move (evo rfl)) ?_
 refine d_v' (j_len_map Tryz.underlying30 rfl) ?_
 refine d_n' (fun ver => j_make (n := l.length) slt44 elt4 rfl rfl (by decide) rfl rfl rfl rfl (by first | omega | (simp only [nr, nl]; omega)) (by rw [maxLen_eq]; first | omega | (simp only [nr, nl]; omega))) ?_
 refine d_v' (j_build (parts := [(0, .tmp 18), (1, .tmp 21)]) str170 elt170 rfl rfl) ?_
 refine d_n' (fun ver => j_boxa rfl) ?_
 refine d_v' (j_assign (evo rfl)) ?_
 refine d_nil (by kernel_rfl) (by kernel_rfl) ?_
 refine a_seq ?_
 refine rs ?_
 refine om rfl ?_
 refine op_v' (j_len_map Tryz.underlying34 rfl) ?_
 refine om rfl ?_
 refine on ?_
 refine a_block ?_
 refine a_loopF' (ι := Nat × Db × Nat × Nat) (fun x => runI l ss x.1 x.2.1) (fun x r => (26, .p (.int .i64 ((x.1 : Nat)))) :: (6, .ptr 23 (vf 23) 0) :: r) (fun x r => (23, some ((vf 23), .box 170 [.own 18 x.2.2.1, .own 21 x.2.2.2])) :: (18, some (x.2.2.1, .row 69 2 ((x.2.1.1).map dC))) :: (21, some (x.2.2.2, .row 4 1 ((x.2.1.2).map dB))) :: r) (fun x => ss.length - x.1) (fun _ _ => rfl) (fun _ _ => rfl) (0, run0 l, (vf 18), (vf 21)) (by first | exact hrp | (dsimp only; exact hrp)) ⟨⟨rfl, rfl⟩, ⟨rfl, rfl, trivial⟩, ⟨rfl, rfl, rowEq (by unfold run0; dsimp only; rw [List.map_replicate]; rfl), trivial⟩, ⟨rfl, rfl⟩, ⟨rfl, rfl⟩⟩ ?_
 rintro ⟨k, D, v1, v2⟩ hi; dsimp only at hi ⊢
 refine rs ?_
 refine op_v' (j_lt rfl rfl) ?_
 refine on ?_
 refine a_seq ?_
 refine ac rfl (fun h3 => ?_) fun h3 => ?_
 ·
  have h3r := h3
  try simp only [nq, nr, nl] at h3
  refine a_skip ?_
  refine a_seq ?_
  refine a_block ?_
  refine rs ?_
  refine om rfl ?_
  refine op_v' (j_elemN slt34 rfl rfl rfl (at_map (by first | omega | (simp only [nr, nl]; omega))) rfl) ?_
  refine op_v' (j_loada_el (ys := [.p _, .p _, .p _, .sl _, .p _]) agg89 rfl (at_map (by first | omega | (simp only [nr, nl]; omega))) rfl (Nat.le_refl _)) ?_
  refine op_n' (fun ver => j_alloc elt89 rfl) fun v8x1 => ?_
  refine oa rfl ?_
  refine op_s' (j_storea_box0 agg89 rfl rfl rfl rfl rfl rfl) ?_
  refine on ?_
  refine a_seq ?_
  have hi1 := hi.1
  have hid := hi.2.2.1
  have hig := hi.2.2.2.1
  have hil := hi.2.2.2.2
  refine ar ?_
  refine om rfl ?_
  refine op_v' (j_loada_box (ys := [.p _, .p _, .p _, .sl _, .p _]) agg89 rfl rfl rfl (Nat.le_of_ble_eq_true rfl)) ?_
  refine op_call2 (v := fun ver ver2 => .p _) (hp1 := fun ver ver2 => [(23, some ((vf 23), .box 170 [.own 33 ver, .own 100033 ver2])), (18, some (v1, .gone)), (21, some (v2, .gone)), (33, some (ver, .row 69 2 _)), (100033, some (ver2, .row 4 1 _))]) [(23, (vf 23)), (18, v1), (21, v2)] false ent192 (f_step D (ss.getD k default) hid hig (by omega)) ⟨.inl ⟨rfl, rfl⟩, .inl ⟨rfl, rfl⟩, trivial⟩ ⟨⟨rfl, rfl⟩, ⟨rfl, rfl⟩, ⟨rfl, rfl⟩, trivial⟩ rfl rfl rfl rfl (.inl rfl) (fun _ _ => rfl) (fun _ _ => rfl) ?_
  rintro  v33x2 v100033x2
  dsimp only [List.cons_append, List.nil_append]
  refine op_v' (j_not rfl) ?_
  refine on ?_
  refine ac rfl (fun h4 => ?_) fun h4 => ?_
  ·
   have h4r := h4
   try simp only [nq, nr, nl] at h4
   refine rs ?_
   refine om rfl ?_
   refine oa rfl ?_
   refine oa rfl ?_
   refine on ?_
   refine a_ret ?_
   exact ⟨[.p _, .p _], .tup [.p _, .p _], [], [], [], ⟨rfl, rfl, trivial⟩, rfl, rfl, trivial, rfl, rfl, ⟨(k : Nat), (by omega), rfl, rfl, rfl⟩⟩
  have h4r := h4
  try simp only [nq, nr, nl] at h4
  refine a_skip ?_
  have hst : stpO D (ss.getD k default) = true := by simp_all
  refine ar ?_
  refine op_v' (j_add rfl rfl (by first | omega | (simp only [nr, nl]; omega)) (by first | omega | (simp only [nr, nl]; omega))) ?_
  refine om rfl ?_
  refine op_mvB (i := 33) 23 0 18 (by decide) (by decide) rfl rfl rfl rfl fun v18x3 => ?_
  try dsimp only [List.set]
  refine op_mvB (i := 100033) 23 1 21 (by decide) (by decide) rfl rfl rfl rfl fun v21x4 => ?_
  try dsimp only [List.set]
  refine on ?_
  exact ⟨(k + 1, stpF D (ss.getD k default), v18x3, v21x4), (by first | exact (by rw [stpF_o hst]; exact runI_next hi (by first | omega | (simp only [nr, nl]; omega)) hst) | (dsimp only; exact (by rw [stpF_o hst]; exact runI_next hi (by first | omega | (simp only [nr, nl]; omega)) hst))), ⟨⟨rfl, rfl⟩, ⟨rfl, rfl, trivial⟩, ⟨rfl, rfl, rfl, trivial⟩, ⟨rfl, rfl⟩, ⟨rfl, rfl⟩⟩, (by first | exact (by first | omega | (simp only [nr, nl]; omega)) | (dsimp only; exact (by first | omega | (simp only [nr, nl]; omega))))⟩
 have h3r := h3
 try simp only [nq, nr, nl] at h3
 exact absurd (runI_end hi (by have h9 := of_decide_eq_false h3r; omega)) (by rw [h]; exact fun e => by cases e)
theorem f_refY (l : List Con) (ss : List Stp) (E : Db) (h : runV l ss = some E) (hE : invD E 1400) : Fn Tryz.prog 88 [.sl (l.map dC), .sl (ss.map dStp)] [] (fun rr ii nn => rr = .tup [.ptr 0 0 0, .p (.int .i64 (falI E))] ∧ ii = [] ∧ nn = [.box 170 [.own 1 0, .own 2 0], .row 69 2 ((E.1).map dC), .row 4 1 ((E.2).map dB)]) := by
 refine fn_of Tryz.func88 rfl (Nat.le_of_ble_eq_true rfl) fun w X g => ?_
 show AWp _ _ _ ⟨[(0, .sl (l.map dC)), (1, .sl (ss.map dStp))], []⟩
 have hE1 := hE.2.1
 have hE2 := hE.2.2
 refine rs ?_
 refine oa rfl ?_
 refine oa rfl ?_
 refine on ?_
 refine rs ?_
 refine om rfl ?_
 refine om rfl ?_
 refine op_call3 (v := fun ver ver2 ver3 => .tup [.ptr 13 ver 0, .p _]) (hp1 := fun ver ver2 ver3 => [(13, some (ver, .box 170 [.own 100013 ver2, .own 200013 ver3])), (100013, some (ver2, .row 69 2 _)), (200013, some (ver3, .row 4 1 _))]) [] false ent145 (f_runY l ss E h) ⟨.inl ⟨rfl, rfl⟩, .inl ⟨rfl, rfl⟩, trivial⟩ trivial rfl rfl rfl rfl (.inl rfl) (fun _ _ _ => rfl) (fun _ _ _ => rfl) ?_
 rintro  v13x1 v100013x1 v200013x1
 dsimp only [List.cons_append, List.nil_append]
 refine om rfl ?_
 refine op_v' (j_extract rfl rfl) ?_
 refine op_v' (j_extract rfl rfl) ?_
 refine oa rfl ?_
 refine oa rfl ?_
 refine on ?_
 refine a_seq ?_
 refine rs ?_
 refine om rfl ?_
 refine op_v' (j_ge rfl rfl) ?_
 refine on ?_
 refine ac rfl (fun h1 => ?_) fun h1 => ?_
 ·
  have h1r := h1
  try simp only [nq, nr, nl] at h1
  exact absurd h1r (by decide)
 have h1r := h1
 try simp only [nq, nr, nl] at h1
 refine a_skip ?_
 refine a_seq ?_
 refine rs ?_
 refine om rfl ?_
 refine op_v' (j_nil_ptr rfl rfl) ?_
 refine op_v' (j_fldp fld170f0 rfl rfl) ?_
 refine op_v' (j_load_box leaf30 rfl rfl rfl) ?_
 refine op_v' (j_len_own_map Tryz.underlying30 rfl rfl) ?_
 refine om rfl ?_
 refine on ?_
 refine a_block ?_
 refine a_loopF' (ι := Nat) (fun k => k ≤ E.1.length ∧ falI E = idxF (falN E) ((List.range E.1.length).drop k) (k : Int)) (fun k r => (23, .p (.int .i64 ((k : Nat)))) :: r) (fun k r => (13, some (v13x1, .box 170 [.own 100013 v100013x1, .own 200013 v200013x1])) :: (100013, some (v100013x1, .row 69 2 ((E.1).map dC))) :: (200013, some (v200013x1, .row 4 1 ((E.2).map dB))) :: r) (fun k => E.1.length - k) (fun _ _ => rfl) (fun _ _ => rfl) 0 ⟨Nat.zero_le _, falI_start⟩ ⟨⟨rfl, rfl⟩, ⟨rfl, trivial⟩, ⟨rfl, rfl, rfl, trivial⟩, ⟨rfl, rfl⟩, ⟨rfl, rfl⟩⟩ ?_
 intro k hk
 refine rs ?_
 refine op_v' (j_lt rfl rfl) ?_
 refine on ?_
 refine a_seq ?_
 refine ac rfl (fun h2 => ?_) fun h2 => ?_
 ·
  have h2r := h2
  try simp only [nq, nr, nl] at h2
  refine a_skip ?_
  refine a_seq ?_
  refine a_block ?_
  refine rs ?_
  refine om rfl ?_
  refine op_v' (j_elem_ownN (n := k) slt30 rfl rfl rfl (by first | omega | (simp only [nr, nl]; omega)) (by first | omega | (simp only [nr, nl]; omega))) ?_
  refine op_v' (j_loada_pel (ys := [.sl _, .p _]) agg69 rfl rfl (at_map (by first | omega | (simp only [nr, nl]; omega))) rfl (Nat.le_refl _)) ?_
  refine op_n' (fun ver => j_alloc elt69 rfl) fun v9x2 => ?_
  refine oa rfl ?_
  refine op_s' (j_storea_box0 agg69 rfl rfl rfl rfl rfl rfl) ?_
  refine on ?_
  refine rs ?_
  refine om rfl ?_
  refine op_v' (j_nil_ptr rfl rfl) ?_
  refine op_v' (j_fldp fld170f1 rfl rfl) ?_
  refine op_v' (j_load_box leaf44 rfl rfl rfl) ?_
  refine om rfl ?_
  refine op_v' (j_elem_ownN (n := k) slt44 rfl rfl rfl (by first | omega | (simp only [nr, nl]; omega)) (by first | omega | (simp only [nr, nl]; omega))) ?_
  refine op_v' (j_load_pel leaf4 rfl rfl (at_map (by first | omega | (simp only [nr, nl]; omega))) rfl) ?_
  refine op_v' (j_not rfl) ?_
  refine om rfl ?_
  refine op_split' 36 rfl (fun h3 => ?_) (fun h3 => ?_)
  ·
   have h3r := h3
   try simp only [nq, nr, nl] at h3
   refine op_v' (j_want rfl rfl h3r (j_loada_box (ys := [.sl _, .p _]) agg69 rfl rfl rfl (Nat.le_of_ble_eq_true rfl))) ?_
   refine op_v0' (j_want rfl rfl h3r (j_call0 (v := .p _) (hp1 := []) [] false [] ent146 (f_falImpl (E.1.getD k default)) ⟨.inl ⟨rfl, rfl⟩, trivial⟩ trivial rfl rfl (fun h => by cases h) rfl (fun _ h => by cases h) (.inl rfl) rfl rfl)) ?_
   refine op_v' (j_pick_t rfl h3r (evo rfl)) ?_
   refine on ?_
   refine ac rfl (fun h4 => ?_) fun h4 => ?_
   ·
    have h4r := h4
    try simp only [nq, nr, nl] at h4
    refine rs ?_
    refine om rfl ?_
    refine om rfl ?_
    refine oa rfl ?_
    refine oa rfl ?_
    refine on ?_
    refine a_ret ?_
    have hf := falI_hit (by first | omega | (simp only [nr, nl]; omega)) hk.2 (falN_y (by assumption) (by assumption))
    exact ⟨[.ptr 13 v13x1 0, .p _], .tup [.ptr 0 0 0, .p _], [], [.box 170 [.own 1 0, .own 2 0], .row 69 2 _, .row 4 1 _], [(13, v13x1), (100013, v100013x1), (200013, v200013x1)], ⟨rfl, rfl, trivial⟩, rfl, rfl, ⟨⟨rfl, rfl⟩, ⟨rfl, rfl⟩, ⟨rfl, rfl⟩, trivial⟩, rfl, rfl, ⟨by rw [hf], rfl, rfl⟩⟩
   have h4r := h4
   try simp only [nq, nr, nl] at h4
   refine a_skip ?_
   refine ar ?_
   refine op_v' (j_add rfl rfl (by first | omega | (simp only [nr, nl]; omega)) (by first | omega | (simp only [nr, nl]; omega))) ?_
   refine om rfl ?_
   refine on ?_
   exact ⟨k + 1, ⟨by first | omega | (simp only [nr, nl]; omega), falI_skip (by first | omega | (simp only [nr, nl]; omega)) hk.2 (falN_n (by first | exact .inr (by assumption) | exact .inl (by assumption)))⟩, ⟨⟨rfl, rfl⟩, ⟨rfl, trivial⟩, ⟨rfl, rfl, rfl, trivial⟩, ⟨rfl, rfl⟩, ⟨rfl, rfl⟩⟩, (by first | omega | (simp only [nr, nl]; omega))⟩
  have h3r := h3
  try simp only [nq, nr, nl] at h3
  refine op_v' (j_unwantV rfl rfl h3r) ?_
  refine op_v' (j_unwantV rfl rfl h3r) ?_
  refine op_v' (j_pick_f rfl h3r (evo rfl)) ?_
  refine on ?_
  refine a_ff rfl ?_
  refine a_skip ?_
  refine ar ?_
  refine op_v' (j_add rfl rfl (by first | omega | (simp only [nr, nl]; omega)) (by first | omega | (simp only [nr, nl]; omega))) ?_
  refine om rfl ?_
  refine on ?_
  exact ⟨k + 1, ⟨by first | omega | (simp only [nr, nl]; omega), falI_skip (by first | omega | (simp only [nr, nl]; omega)) hk.2 (falN_n (by first | exact .inr (by assumption) | exact .inl (by assumption)))⟩, ⟨⟨rfl, rfl⟩, ⟨rfl, trivial⟩, ⟨rfl, rfl, rfl, trivial⟩, ⟨rfl, rfl⟩, ⟨rfl, rfl⟩⟩, (by first | omega | (simp only [nr, nl]; omega))⟩
 have h2r := h2
 try simp only [nq, nr, nl] at h2
 refine a_exit ?_
 refine rs ?_
 refine om rfl ?_
 refine oa rfl ?_
 refine oa rfl ?_
 refine on ?_
 refine a_ret ?_
 have hf := falI_end (by first | omega | (simp only [nr, nl]; omega)) hk.2
 exact ⟨[.ptr 13 v13x1 0, .p _], .tup [.ptr 0 0 0, .p _], [], [.box 170 [.own 1 0, .own 2 0], .row 69 2 _, .row 4 1 _], [(13, v13x1), (100013, v100013x1), (200013, v200013x1)], ⟨rfl, rfl, trivial⟩, rfl, rfl, ⟨⟨rfl, rfl⟩, ⟨rfl, rfl⟩, ⟨rfl, rfl⟩, trivial⟩, rfl, rfl, ⟨by rw [hf], rfl, rfl⟩⟩
theorem f_refN (l : List Con) (ss : List Stp) (h : runV l ss = none) : Fn Tryz.prog 88 [.sl (l.map dC), .sl (ss.map dStp)] [] (fun rr ii nn => rr = .tup [.p (.pointer none), .p (.int .i64 (-1))] ∧ ii = [] ∧ nn = []) := by
 refine fn_of Tryz.func88 rfl (Nat.le_of_ble_eq_true rfl) fun w X g => ?_
 show AWp _ _ _ ⟨[(0, .sl (l.map dC)), (1, .sl (ss.map dStp))], []⟩
 refine rs ?_
 refine oa rfl ?_
 refine oa rfl ?_
 refine on ?_
 refine rs ?_
 refine om rfl ?_
 refine om rfl ?_
 refine op_callE (v := fun x => .tup [.p _, .p _]) (hp1 := fun x => []) [] false ent145 (f_runN l ss h) ⟨.inl ⟨rfl, rfl⟩, .inl ⟨rfl, rfl⟩, trivial⟩ trivial rfl (fun _ => rfl) (fun _ => rfl) (.inl rfl) (fun _ => rfl) (fun _ => rfl) ?_
 rintro z13 hz13
 try dsimp only at hz13
 dsimp only [List.cons_append, List.nil_append]
 refine om rfl ?_
 refine op_v' (j_extract rfl rfl) ?_
 refine op_v' (j_extract rfl rfl) ?_
 refine oa rfl ?_
 refine oa rfl ?_
 refine on ?_
 refine a_seq ?_
 refine rs ?_
 refine om rfl ?_
 refine op_v' (j_ge rfl rfl) ?_
 refine on ?_
 refine ac rfl (fun h1 => ?_) fun h1 => ?_
 ·
  have h1r := h1
  try simp only [nq, nr, nl] at h1
  refine rs ?_
  refine oa rfl ?_
  refine oa rfl ?_
  refine on ?_
  refine a_ret ?_
  exact ⟨[.p _, .p _], .tup [.p _, .p _], [], [], [], ⟨rfl, rfl, trivial⟩, rfl, rfl, trivial, rfl, rfl, ⟨rfl, rfl, rfl⟩⟩
 have h1r := h1
 try simp only [nq, nr, nl] at h1
 exact absurd (of_decide_eq_false h1r) (by omega)
theorem f_crY (l : List Con) (ss : List Stp) (E : Db) (h : runV l ss = some E) (hE : invD E 1400) : Fn Tryz.prog 35 [.sl (l.map dC), .sl (ss.map dStp)] [] (fun rr ii nn => rr = .p (.bool (crV l ss)) ∧ ii = [] ∧ nn = []) := by
 refine fn_of Tryz.func35 rfl (Nat.le_of_ble_eq_true rfl) fun w X g => ?_
 show AWp _ _ _ ⟨[(0, .sl (l.map dC)), (1, .sl (ss.map dStp))], []⟩
 refine rs ?_
 refine oa rfl ?_
 refine on ?_
 refine rs ?_
 refine om rfl ?_
 refine om rfl ?_
 refine op_call3 (v := fun ver ver2 ver3 => .tup [.ptr 10 ver 0, .p _]) (hp1 := fun ver ver2 ver3 => [(10, some (ver, .box 170 [.own 100010 ver2, .own 200010 ver3])), (100010, some (ver2, .row 69 2 _)), (200010, some (ver3, .row 4 1 _))]) [] false ent88 (f_refY l ss E h hE) ⟨.inl ⟨rfl, rfl⟩, .inl ⟨rfl, rfl⟩, trivial⟩ trivial rfl rfl rfl rfl (.inl rfl) (fun _ _ _ => rfl) (fun _ _ _ => rfl) ?_
 rintro  v10x1 v100010x1 v200010x1
 dsimp only [List.cons_append, List.nil_append]
 refine om rfl ?_
 refine op_v' (j_extract rfl rfl) ?_
 refine op_v' (j_extract rfl rfl) ?_
 refine oa rfl ?_
 refine oa rfl ?_
 refine on ?_
 refine rs ?_
 refine om rfl ?_
 refine op_v' (j_ge rfl rfl) ?_
 refine oa rfl ?_
 refine on ?_
 refine a_ret ?_
 exact fin_p rfl ⟨boolEq (by rw [crV_y h]; exact falI_fal), rfl, rfl⟩
theorem f_crN (l : List Con) (ss : List Stp) (h : runV l ss = none) : Fn Tryz.prog 35 [.sl (l.map dC), .sl (ss.map dStp)] [] (fun rr ii nn => rr = .p (.bool (crV l ss)) ∧ ii = [] ∧ nn = []) := by
 refine fn_of Tryz.func35 rfl (Nat.le_of_ble_eq_true rfl) fun w X g => ?_
 show AWp _ _ _ ⟨[(0, .sl (l.map dC)), (1, .sl (ss.map dStp))], []⟩
 refine rs ?_
 refine oa rfl ?_
 refine on ?_
 refine rs ?_
 refine om rfl ?_
 refine om rfl ?_
 refine op_v0' (j_call0 (v := .tup [.p _, .p _]) (hp1 := []) [] false [] ent88 (f_refN l ss h) ⟨.inl ⟨rfl, rfl⟩, .inl ⟨rfl, rfl⟩, trivial⟩ trivial rfl rfl (fun h => by cases h) rfl (fun _ h => by cases h) (.inl rfl) rfl rfl) ?_
 refine om rfl ?_
 refine op_v' (j_extract rfl rfl) ?_
 refine op_v' (j_extract rfl rfl) ?_
 refine oa rfl ?_
 refine oa rfl ?_
 refine on ?_
 refine rs ?_
 refine om rfl ?_
 refine op_v' (j_ge rfl rfl) ?_
 refine oa rfl ?_
 refine on ?_
 refine a_ret ?_
 exact fin_p rfl ⟨boolEq (by rw [crV_n h]; rfl), rfl, rfl⟩
theorem f_crImpl (l : List Con) (ss : List Stp) : Fn Tryz.prog 35 [.sl (l.map dC), .sl (ss.map dStp)] [] (fun rr ii nn => rr = .p (.bool (crV l ss)) ∧ ii = [] ∧ nn = []) := by
 cases h : runV l ss with
 | none => exact f_crN l ss h
 | some E => exact f_crY l ss E h (runV_inv h)
end Go.Ab

/- Walks. -/
import Derived.Test.YtoodaakcfelaaaaGreatBase2
import Derived.Test.YtoodaakcfelaaaaGreatPf4
import Derived.Test.YtoodaakcfelaaaaGreatWsrun6
import Derived.Test.YtoodaakcfelaaaaGreatWsrun5
import Derived.Test.YtoodaakcfelaaaaGreatWslist
import Derived.Test.YtoodaakcfelaaaaGreatWsprob
namespace Go.Ab
open Go.Proofs
set_option maxRecDepth 100000
set_option maxHeartbeats 8000000
set_option linter.unusedSimpArgs false
set_option linter.unusedVariables false
theorem f_clImplL (l : List Con) (vs : List Int) (f : List (List Bool)) (ss : List Stp) : Fn Tryz.prog 16 [.sl (l.map dC), .sl (vs.map dI), .sl (f.map dD), .sl (ss.map dStp)] [] (fun rr ii nn => rr = .p (.bool (lcV l vs f ss)) ∧ ii = [] ∧ nn = []) := by
 refine fn_of Tryz.func16 rfl (Nat.le_of_ble_eq_true rfl) fun w X g => ?_
 show AWp _ _ _ ⟨[(0, .sl (l.map dC)), (1, .sl (vs.map dI)), (2, .sl (f.map dD)), (3, .sl (ss.map dStp))], []⟩
 refine rs ?_
 refine oa rfl ?_
 refine on ?_
 refine a_seq ?_
 refine rs ?_
 refine om rfl ?_
 refine om rfl ?_
 refine op_v0' (j_call0 (v := .p _) (hp1 := []) [] false [] ent56 (f_listable l vs) ⟨.inl ⟨rfl, rfl⟩, .inl ⟨rfl, rfl⟩, trivial⟩ trivial rfl rfl (fun h => by cases h) rfl (fun _ h => by cases h) (.inl rfl) rfl rfl) ?_
 refine op_v' (j_not rfl) ?_
 refine om rfl ?_
 refine op_split' 16 rfl (fun h1 => ?_) (fun h1 => ?_)
 ·
  have h1r := h1
  try simp only [nq, nr, nl] at h1
  refine op_v' (j_unwantV rfl rfl h1r) ?_
  refine op_v' (j_unwantV rfl rfl h1r) ?_
  refine op_v' (j_unwantV rfl rfl h1r) ?_
  refine op_v' (j_pick_t rfl h1r (evo rfl)) ?_
  refine on ?_
  refine a_tt rfl ?_
  refine rs ?_
  refine oa rfl ?_
  refine on ?_
  refine a_ret ?_
  have hb : lcOk l vs f = false := (by unfold lcOk; first | (simp_all; done) | (simp_all; omega))
  exact fin_p rfl ⟨boolEq (lc_bad hb).symm, rfl, rfl⟩
 have h1r := h1
 try simp only [nq, nr, nl] at h1
 refine op_v' (j_want rfl rfl h1r (j_move (evo rfl))) ?_
 refine op_v' (j_want rfl rfl h1r (j_len_map Tryz.underlying24 rfl)) ?_
 refine op_v' (j_want rfl rfl h1r (j_gt rfl rfl)) ?_
 refine op_v' (j_pick_f rfl h1r (evo rfl)) ?_
 refine on ?_
 refine ac rfl (fun h2 => ?_) fun h2 => ?_
 ·
  have h2r := h2
  try simp only [nq, nr, nl] at h2
  refine rs ?_
  refine oa rfl ?_
  refine on ?_
  refine a_ret ?_
  have hb : lcOk l vs f = false := (by unfold lcOk; first | (simp_all; done) | (simp_all; omega))
  exact fin_p rfl ⟨boolEq (lc_bad hb).symm, rfl, rfl⟩
 have h2r := h2
 try simp only [nq, nr, nl] at h2
 refine a_skip ?_
 refine a_seq ?_
 have hok : lcOk l vs f = true := (by unfold lcOk; first | (simp_all; done) | (simp_all; omega))
 have hpt := lcOk_parts hok
 have hls := lcI_0 (vs := vs) (f := f) hok
 have hln := pOk_len hpt.1
 refine ar ?_
 refine om rfl ?_
 refine op_n1' (fun ver => j_call1 (v := .own 22 ver) (hp1 := [(22, some (ver, .row 69 2 _))]) [] false [] ent57 (f_cloneC l (by omega)) ⟨.inl ⟨rfl, rfl⟩, trivial⟩ trivial rfl rfl rfl (fun h => by cases h) rfl (List.all_eq_true.1 rfl) (.inl rfl) rfl rfl) fun v22x1 => ?_
 refine oa rfl ?_
 refine on ?_
 refine a_seq ?_
 refine rs ?_
 refine om rfl ?_
 refine op_v' (j_len_map Tryz.underlying24 rfl) ?_
 refine om rfl ?_
 refine on ?_
 refine a_block ?_
 refine a_loopF' (ι := Nat × List Con × Nat) (fun x => lcI l vs f x.1 x.2.1) (fun x r => (25, .p (.int .i64 ((x.1 : Nat)))) :: (9, .own 22 x.2.2) :: r) (fun x r => (22, some (x.2.2, .row 69 2 ((x.2.1).map dC))) :: r) (fun x => f.length - x.1) (fun _ _ => rfl) (fun _ _ => rfl) (0, l, v22x1) (by first | exact hls | (dsimp only; exact hls)) ⟨⟨rfl, rfl⟩, ⟨rfl, rfl, trivial⟩, ⟨rfl, trivial⟩, ⟨rfl, rfl⟩, ⟨rfl, rfl⟩⟩ ?_
 rintro ⟨k, L, v⟩ hi; dsimp only at hi ⊢
 refine rs ?_
 refine op_v' (j_lt rfl rfl) ?_
 refine on ?_
 refine a_seq ?_
 refine ac rfl (fun h3 => ?_) fun h3 => ?_
 ·
  have h3r := h3
  try simp only [nq, nr, nl] at h3
  refine a_skip ?_
  refine a_seq ?_
  refine a_block ?_
  refine a_seq ?_
  have hvs := hpt.2.2.1
  have hLa := hi.2.2.1
  have hLl := hi.2.2.2
  refine ar ?_
  refine op_v' (j_elemN (n := k) slt24 rfl rfl (by first | omega | (simp only [nr, nl]; omega)) (at_map (by first | omega | (simp only [nr, nl]; omega))) rfl) ?_
  refine op_v' (j_load_el leaf44 rfl (at_map (by first | omega | (simp only [nr, nl]; omega))) rfl) ?_
  refine oa rfl ?_
  refine on ?_
  refine a_seq ?_
  refine rs ?_
  refine om rfl ?_
  refine op_v' (j_len_map Tryz.underlying44 rfl) ?_
  refine op_v' (j_ne rfl rfl) ?_
  refine om rfl ?_
  refine op_split' 32 rfl (fun h4 => ?_) (fun h4 => ?_)
  ·
   have h4r := h4
   try simp only [nq, nr, nl] at h4
   refine op_v' (j_unwantV rfl rfl h4r) ?_
   refine op_v' (j_unwantV rfl rfl h4r) ?_
   refine op_v' (j_unwantV rfl rfl h4r) ?_
   refine op_v' (j_unwantV rfl rfl h4r) ?_
   refine op_v' (j_pick_t rfl h4r (evo rfl)) ?_
   refine on ?_
   refine a_tt rfl ?_
   refine rs ?_
   refine oa rfl ?_
   refine on ?_
   refine a_ret ?_
   have hfn : ¬ ((f.getD k default).length = 12 ∧ satV L (f.getD k default) = true) := by intro hx; first | (simp_all; done) | (simp_all; omega)
   exact fin_p rfl ⟨boolEq (lc_stop hok hi (by first | omega | (simp only [nr, nl]; omega)) hfn).symm, rfl, rfl⟩
  have h4r := h4
  try simp only [nq, nr, nl] at h4
  refine op_v' (j_want rfl rfl h4r (j_move (evo rfl))) ?_
  refine op_v' (j_want rfl rfl h4r (j_move (evo rfl))) ?_
  refine op_v0' (j_want rfl rfl h4r (j_call0 (v := .p _) (hp1 := []) [] true [22] ent58 (f_sat L (f.getD k default) hLa (by omega)) ⟨.inr ⟨rfl, view_own rfl rfl, rfl⟩, .inl ⟨rfl, rfl⟩, trivial⟩ trivial rfl rfl (fun _ => rfl) rfl (fun _ h => by cases h) (.inr ⟨rfl, by first | exact pl_new1 (fun _ => rfl) | exact pl_newC | (simp [plO, plV, plV.plL]; done)⟩) rfl rfl)) ?_
  refine op_v' (j_want rfl rfl h4r (j_not rfl)) ?_
  refine op_v' (j_pick_f rfl h4r (evo rfl)) ?_
  refine on ?_
  refine ac rfl (fun h5 => ?_) fun h5 => ?_
  ·
   have h5r := h5
   try simp only [nq, nr, nl] at h5
   refine rs ?_
   refine oa rfl ?_
   refine on ?_
   refine a_ret ?_
   have hfn : ¬ ((f.getD k default).length = 12 ∧ satV L (f.getD k default) = true) := by intro hx; first | (simp_all; done) | (simp_all; omega)
   exact fin_p rfl ⟨boolEq (lc_stop hok hi (by first | omega | (simp only [nr, nl]; omega)) hfn).symm, rfl, rfl⟩
  have h5r := h5
  try simp only [nq, nr, nl] at h5
  refine a_skip ?_
  have hfk : (f.getD k default).length = 12 ∧ satV L (f.getD k default) = true := by first | (exact ⟨by omega, by assumption⟩) | (simp_all; done) | (simp_all; omega)
  refine ar ?_
  refine om rfl ?_
  refine om rfl ?_
  refine om rfl ?_
  refine op_v0' (j_call0 (v := .agg [.sl _, .p _]) (hp1 := []) [] false [] ent59 (f_exclImplF vs (f.getD k default) hvs (by omega)) ⟨.inl ⟨rfl, rfl⟩, .inl ⟨rfl, rfl⟩, trivial⟩ trivial rfl rfl (fun h => by cases h) rfl (fun _ h => by cases h) (.inl rfl) rfl rfl) ?_
  refine op_n' (fun ver => j_buildSlice (parts := [(0, .tmp 41)]) (es := [[_, _]]) slt30 elt69 rfl rfl (by decide) (by decide) rfl rfl (by simp) rfl) fun v42x2 => ?_
  refine op_n' (fun ver => j_append_own slt30 elt69 rfl rfl rfl rfl rfl rfl (by rw [maxLen_eq]; first | omega | (simp only [nr, nl]; omega)) (by first | omega | (simp only [nr, nl]; omega))) fun v22x3 => ?_
  refine oa rfl ?_
  refine on ?_
  refine ar ?_
  refine op_v' (j_add rfl rfl (by first | omega | (simp only [nr, nl]; omega)) (by first | omega | (simp only [nr, nl]; omega))) ?_
  refine om rfl ?_
  refine on ?_
  exact ⟨(k + 1, L ++ [lsX vs (f.getD k default)], v22x3), (by first | exact (lcI_next hi (by first | omega | (simp only [nr, nl]; omega)) hfk) | (dsimp only; exact (lcI_next hi (by first | omega | (simp only [nr, nl]; omega)) hfk))), ⟨⟨rfl, rfl⟩, ⟨rfl, rfl, trivial⟩, ⟨rowEq (by dsimp only; rw [List.map_append]; rfl), trivial⟩, ⟨rfl, rfl⟩, ⟨rfl, rfl⟩⟩, (by first | exact (by first | omega | (simp only [nr, nl]; omega)) | (dsimp only; exact (by first | omega | (simp only [nr, nl]; omega))))⟩
 have h3r := h3
 try simp only [nq, nr, nl] at h3
 refine a_exit ?_
 refine rs ?_
 refine om rfl ?_
 refine om rfl ?_
 refine op_v0' (j_call0 (v := .p _) (hp1 := []) [] true [22] ent35 (f_crImpl L ss) ⟨.inr ⟨rfl, view_own rfl rfl, rfl⟩, .inl ⟨rfl, rfl⟩, trivial⟩ trivial rfl rfl (fun _ => rfl) rfl (fun _ h => by cases h) (.inr ⟨rfl, by first | exact pl_new1 (fun _ => rfl) | exact pl_newC | (simp [plO, plV, plV.plL]; done)⟩) rfl rfl) ?_
 refine oa rfl ?_
 refine on ?_
 refine a_ret ?_
 exact fin_p rfl ⟨boolEq (lc_end hok hi (by first | omega | (simp only [nr, nl]; omega))).symm, rfl, rfl⟩
theorem f_clSpecL (l : List Con) (vs : List Int) (f : List (List Bool)) (ss : List Stp) (hgs : ∀ s ∈ ss, s.2.2.2.1.length ≤ 1048576) : Fn Tryz.prog 11 [.sl (l.map dC), .sl (vs.map dI), .sl (f.map dD), .sl (ss.map dStp)] [] (fun rr ii nn => rr = .p (.bool (lcV l vs f ss)) ∧ ii = [] ∧ nn = []) := by
 refine fn_of Tryz.func11 rfl (Nat.le_of_ble_eq_true rfl) fun w X g => ?_
 show AWp _ _ _ ⟨[(0, .sl (l.map dC)), (1, .sl (vs.map dI)), (2, .sl (f.map dD)), (3, .sl (ss.map dStp))], []⟩
 refine rs ?_
 refine oa rfl ?_
 refine on ?_
 refine a_seq ?_
 refine rs ?_
 refine om rfl ?_
 refine op_v0' (j_call0 (v := .p _) (hp1 := []) [] false [] ent48 (f_pvSpec l) ⟨.inl ⟨rfl, rfl⟩, trivial⟩ trivial rfl rfl (fun h => by cases h) rfl (fun _ h => by cases h) (.inl rfl) rfl rfl) ?_
 refine op_v' (j_not rfl) ?_
 refine om rfl ?_
 refine op_split' 14 rfl (fun h1 => ?_) (fun h1 => ?_)
 ·
  have h1r := h1
  try simp only [nq, nr, nl] at h1
  refine op_v' (j_unwantV rfl rfl h1r) ?_
  refine op_v' (j_unwantV rfl rfl h1r) ?_
  refine op_v' (j_unwantV rfl rfl h1r) ?_
  refine op_v' (j_pick_t rfl h1r (evo rfl)) ?_
  refine om rfl ?_
  refine op_v' (j_unwantV rfl rfl rfl) ?_
  refine op_v' (j_unwantV rfl rfl rfl) ?_
  refine op_v' (j_unwantV rfl rfl rfl) ?_
  refine op_v' (j_pick_t rfl rfl (evo rfl)) ?_
  refine om rfl ?_
  refine op_v' (j_unwantV rfl rfl rfl) ?_
  refine op_v' (j_unwantV rfl rfl rfl) ?_
  try have hln0 := pOk_len (show pOk l = true by assumption)
  refine op_v' (j_unwantV rfl rfl rfl) ?_
  refine op_v' (j_unwantV rfl rfl rfl) ?_
  refine op_v' (j_pick_t rfl rfl (evo rfl)) ?_
  refine on ?_
  refine a_tt rfl ?_
  refine rs ?_
  refine oa rfl ?_
  refine on ?_
  refine a_ret ?_
  have hb : lcOk l vs f = false := (by unfold lcOk; first | (simp_all; done) | (simp_all; omega))
  exact fin_p rfl ⟨boolEq (lc_bad hb).symm, rfl, rfl⟩
 have h1r := h1
 try simp only [nq, nr, nl] at h1
 refine op_v' (j_want rfl rfl h1r (j_move (evo rfl))) ?_
 refine op_v0' (j_want rfl rfl h1r (j_call0 (v := .p _) (hp1 := []) [] false [] ent49 (f_l14Vars vs) ⟨.inl ⟨rfl, rfl⟩, trivial⟩ trivial rfl rfl (fun h => by cases h) rfl (fun _ h => by cases h) (.inl rfl) rfl rfl)) ?_
 refine op_v' (j_want rfl rfl h1r (j_not rfl)) ?_
 refine op_v' (j_pick_f rfl h1r (evo rfl)) ?_
 refine om rfl ?_
 refine op_split' 19 rfl (fun h2 => ?_) (fun h2 => ?_)
 ·
  have h2r := h2
  try simp only [nq, nr, nl] at h2
  refine op_v' (j_unwantV rfl rfl h2r) ?_
  refine op_v' (j_unwantV rfl rfl h2r) ?_
  refine op_v' (j_unwantV rfl rfl h2r) ?_
  refine op_v' (j_pick_t rfl h2r (evo rfl)) ?_
  refine om rfl ?_
  refine op_v' (j_unwantV rfl rfl rfl) ?_
  refine op_v' (j_unwantV rfl rfl rfl) ?_
  try have hln0 := pOk_len (show pOk l = true by assumption)
  refine op_v' (j_unwantV rfl rfl rfl) ?_
  refine op_v' (j_unwantV rfl rfl rfl) ?_
  refine op_v' (j_pick_t rfl rfl (evo rfl)) ?_
  refine on ?_
  refine a_tt rfl ?_
  refine rs ?_
  refine oa rfl ?_
  refine on ?_
  refine a_ret ?_
  have hb : lcOk l vs f = false := (by unfold lcOk; first | (simp_all; done) | (simp_all; omega))
  exact fin_p rfl ⟨boolEq (lc_bad hb).symm, rfl, rfl⟩
 have h2r := h2
 try simp only [nq, nr, nl] at h2
 refine op_v' (j_want rfl rfl h2r (j_move (evo rfl))) ?_
 refine op_v' (j_want rfl rfl h2r (j_len_map Tryz.underlying24 rfl)) ?_
 refine op_v' (j_want rfl rfl h2r (j_gt rfl rfl)) ?_
 refine op_v' (j_pick_f rfl h2r (evo rfl)) ?_
 refine om rfl ?_
 refine op_split' 24 rfl (fun h3 => ?_) (fun h3 => ?_)
 ·
  have h3r := h3
  try simp only [nq, nr, nl] at h3
  refine op_v' (j_unwantV rfl rfl h3r) ?_
  refine op_v' (j_unwantV rfl rfl h3r) ?_
  try have hln0 := pOk_len (show pOk l = true by assumption)
  refine op_v' (j_unwantV rfl rfl h3r) ?_
  refine op_v' (j_unwantV rfl rfl h3r) ?_
  refine op_v' (j_pick_t rfl h3r (evo rfl)) ?_
  refine on ?_
  refine a_tt rfl ?_
  refine rs ?_
  refine oa rfl ?_
  refine on ?_
  refine a_ret ?_
  have hb : lcOk l vs f = false := (by unfold lcOk; first | (simp_all; done) | (simp_all; omega))
  exact fin_p rfl ⟨boolEq (lc_bad hb).symm, rfl, rfl⟩
 have h3r := h3
 try simp only [nq, nr, nl] at h3
 refine op_v' (j_want rfl rfl h3r (j_move (evo rfl))) ?_
 refine op_v' (j_want rfl rfl h3r (j_len_map Tryz.underlying30 rfl)) ?_
 try have hln0 := pOk_len (show pOk l = true by assumption)
 refine op_v' (j_want rfl rfl h3r (j_add rfl rfl (by first | omega | (simp only [nr, nl]; omega)) (by first | omega | (simp only [nr, nl]; omega)))) ?_
 refine op_v' (j_want rfl rfl h3r (j_gt rfl rfl)) ?_
 refine op_v' (j_pick_f rfl h3r (evo rfl)) ?_
 refine on ?_
 refine ac rfl (fun h4 => ?_) fun h4 => ?_
 ·
  have h4r := h4
  try simp only [nq, nr, nl] at h4
  refine rs ?_
  refine oa rfl ?_
  refine on ?_
  refine a_ret ?_
  have hb : lcOk l vs f = false := (by unfold lcOk; first | (simp_all; done) | (simp_all; omega))
  exact fin_p rfl ⟨boolEq (lc_bad hb).symm, rfl, rfl⟩
 have h4r := h4
 try simp only [nq, nr, nl] at h4
 refine a_skip ?_
 refine a_seq ?_
 have hok : lcOk l vs f = true := (by unfold lcOk; first | (simp_all; done) | (simp_all; omega))
 have hpt := lcOk_parts hok
 have hls := lcI_0 (vs := vs) (f := f) hok
 have hln := pOk_len hpt.1
 refine ar ?_
 refine op_n' (fun ver => j_buildSlice (parts := []) (es := []) slt30 elt69 rfl rfl (by decide) (by decide) rfl rfl (by simp) rfl) fun v30x1 => ?_
 refine om rfl ?_
 refine op_n' (fun ver => j_append_sl slt30 elt69 rfl rfl rfl rfl len_dC (all_lf_dC _) (by rw [maxLen_eq]; first | omega | (simp only [nr, nl]; omega)) (by first | omega | (simp only [nr, nl]; omega))) fun v30x2 => ?_
 refine oa rfl ?_
 refine on ?_
 refine a_seq ?_
 refine rs ?_
 refine oa rfl ?_
 refine on ?_
 refine a_block ?_
 refine a_loopF' (ι := Nat × List Con × Nat) (fun x => lcI l vs f x.1 x.2.1) (fun x r => (10, .p (.int .i64 ((x.1 : Nat)))) :: (9, .own 30 x.2.2) :: r) (fun x r => (30, some (x.2.2, .row 69 2 ((x.2.1).map dC))) :: r) (fun x => f.length - x.1) (fun _ _ => rfl) (fun _ _ => rfl) (0, l, v30x2) (by first | exact hls | (dsimp only; exact hls)) ⟨⟨rfl, rfl⟩, ⟨rfl, rfl, trivial⟩, ⟨rfl, trivial⟩, ⟨rfl, rfl⟩, ⟨rfl, rfl⟩⟩ ?_
 rintro ⟨k, L, v⟩ hi; dsimp only at hi ⊢
 refine a_seq ?_
 refine rs ?_
 refine om rfl ?_
 refine om rfl ?_
 refine op_v' (j_len_map Tryz.underlying24 rfl) ?_
 refine op_v' (j_lt rfl rfl) ?_
 refine on ?_
 refine ac rfl (fun h5 => ?_) fun h5 => ?_
 ·
  have h5r := h5
  try simp only [nq, nr, nl] at h5
  refine a_skip ?_
  refine a_seq ?_
  refine a_block ?_
  refine a_seq ?_
  refine a_seq ?_
  have hvs := hpt.2.2.1
  have hLa := hi.2.2.1
  have hLl := hi.2.2.2
  refine ar ?_
  refine om rfl ?_
  refine om rfl ?_
  refine op_v' (j_elemN (n := k) slt24 rfl rfl (by first | omega | (simp only [nr, nl]; omega)) (at_map (by first | omega | (simp only [nr, nl]; omega))) rfl) ?_
  refine op_v' (j_load_el leaf44 rfl (at_map (by first | omega | (simp only [nr, nl]; omega))) rfl) ?_
  refine op_v' (j_len_map Tryz.underlying44 rfl) ?_
  refine op_v' (j_ne rfl rfl) ?_
  refine om rfl ?_
  refine op_split' 45 rfl (fun h6 => ?_) (fun h6 => ?_)
  ·
   have h6r := h6
   try simp only [nq, nr, nl] at h6
   refine op_v' (j_unwantV rfl rfl h6r) ?_
   refine op_v' (j_unwantV rfl rfl h6r) ?_
   refine op_v' (j_unwantV rfl rfl h6r) ?_
   refine op_v' (j_unwantV rfl rfl h6r) ?_
   refine op_v' (j_unwantV rfl rfl h6r) ?_
   refine op_v' (j_unwantV rfl rfl h6r) ?_
   refine op_v' (j_unwantV rfl rfl h6r) ?_
   refine op_v' (j_pick_t rfl h6r (evo rfl)) ?_
   refine on ?_
   refine a_tt rfl ?_
   refine rs ?_
   refine oa rfl ?_
   refine on ?_
   refine a_ret ?_
   have hfn : ¬ ((f.getD k default).length = 12 ∧ satV L (f.getD k default) = true) := by intro hx; first | (simp_all; done) | (simp_all; omega)
   exact fin_p rfl ⟨boolEq (lc_stop hok hi (by first | omega | (simp only [nr, nl]; omega)) hfn).symm, rfl, rfl⟩
  have h6r := h6
  try simp only [nq, nr, nl] at h6
  refine op_v' (j_want rfl rfl h6r (j_move (evo rfl))) ?_
  refine op_v' (j_want rfl rfl h6r (j_move (evo rfl))) ?_
  refine op_v' (j_want rfl rfl h6r (j_move (evo rfl))) ?_
  refine op_v' (j_want rfl rfl h6r (j_elemN (n := k) slt24 rfl rfl (by first | omega | (simp only [nr, nl]; omega)) (at_map (by first | omega | (simp only [nr, nl]; omega))) rfl)) ?_
  refine op_v' (j_want rfl rfl h6r (j_load_el leaf44 rfl (at_map (by first | omega | (simp only [nr, nl]; omega))) rfl)) ?_
  refine op_v0' (j_want rfl rfl h6r (j_call0 (v := .p _) (hp1 := []) [] true [30] ent50 (f_l3All L (f.getD k default) hLa (by omega)) ⟨.inr ⟨rfl, view_own rfl rfl, rfl⟩, .inl ⟨rfl, rfl⟩, trivial⟩ trivial rfl rfl (fun _ => rfl) rfl (fun _ h => by cases h) (.inr ⟨rfl, by first | exact pl_new1 (fun _ => rfl) | exact pl_newC | (simp [plO, plV, plV.plL]; done)⟩) rfl rfl)) ?_
  refine op_v' (j_want rfl rfl h6r (j_not rfl)) ?_
  refine op_v' (j_pick_f rfl h6r (evo rfl)) ?_
  refine on ?_
  refine ac rfl (fun h7 => ?_) fun h7 => ?_
  ·
   have h7r := h7
   try simp only [nq, nr, nl] at h7
   refine rs ?_
   refine oa rfl ?_
   refine on ?_
   refine a_ret ?_
   have hfn : ¬ ((f.getD k default).length = 12 ∧ satV L (f.getD k default) = true) := by intro hx; first | (simp_all; done) | (simp_all; omega)
   exact fin_p rfl ⟨boolEq (lc_stop hok hi (by first | omega | (simp only [nr, nl]; omega)) hfn).symm, rfl, rfl⟩
  have h7r := h7
  try simp only [nq, nr, nl] at h7
  refine a_skip ?_
  have hfk : (f.getD k default).length = 12 ∧ satV L (f.getD k default) = true := by first | (exact ⟨by omega, by assumption⟩) | (simp_all; done) | (simp_all; omega)
  refine ar ?_
  refine om rfl ?_
  refine om rfl ?_
  refine om rfl ?_
  refine om rfl ?_
  refine op_v' (j_elemN (n := k) slt24 rfl rfl (by first | omega | (simp only [nr, nl]; omega)) (at_map (by first | omega | (simp only [nr, nl]; omega))) rfl) ?_
  refine op_v' (j_load_el leaf44 rfl (at_map (by first | omega | (simp only [nr, nl]; omega))) rfl) ?_
  refine op_v0' (j_call0 (v := .agg [.sl _, .p _]) (hp1 := []) [] false [] ent51 (f_exclSpecF vs (f.getD k default) hvs (by omega)) ⟨.inl ⟨rfl, rfl⟩, .inl ⟨rfl, rfl⟩, trivial⟩ trivial rfl rfl (fun h => by cases h) rfl (fun _ h => by cases h) (.inl rfl) rfl rfl) ?_
  refine op_n' (fun ver => j_buildSlice (parts := [(0, .tmp 60)]) (es := [[_, _]]) slt30 elt69 rfl rfl (by decide) (by decide) rfl rfl (by simp) rfl) fun v61x3 => ?_
  refine op_n' (fun ver => j_append_own slt30 elt69 rfl rfl rfl rfl rfl rfl (by rw [maxLen_eq]; first | omega | (simp only [nr, nl]; omega)) (by first | omega | (simp only [nr, nl]; omega))) fun v30x4 => ?_
  refine oa rfl ?_
  refine on ?_
  refine ar ?_
  refine om rfl ?_
  refine op_v' (j_add rfl rfl (by first | omega | (simp only [nr, nl]; omega)) (by first | omega | (simp only [nr, nl]; omega))) ?_
  refine oa rfl ?_
  refine on ?_
  exact ⟨(k + 1, L ++ [lsX vs (f.getD k default)], v30x4), (by first | exact (lcI_next hi (by first | omega | (simp only [nr, nl]; omega)) hfk) | (dsimp only; exact (lcI_next hi (by first | omega | (simp only [nr, nl]; omega)) hfk))), ⟨⟨rfl, rfl⟩, ⟨rfl, rfl, trivial⟩, ⟨rowEq (by dsimp only; rw [List.map_append]; rfl), trivial⟩, ⟨rfl, rfl⟩, ⟨rfl, rfl⟩⟩, (by first | exact (by first | omega | (simp only [nr, nl]; omega)) | (dsimp only; exact (by first | omega | (simp only [nr, nl]; omega))))⟩
 have h5r := h5
 try simp only [nq, nr, nl] at h5
 refine a_exit ?_
 refine rs ?_
 refine om rfl ?_
 refine om rfl ?_
 refine op_v0' (j_call0 (v := .p _) (hp1 := []) [] true [30] ent52 (f_crSpec L ss hgs) ⟨.inr ⟨rfl, view_own rfl rfl, rfl⟩, .inl ⟨rfl, rfl⟩, trivial⟩ trivial rfl rfl (fun _ => rfl) rfl (fun _ h => by cases h) (.inr ⟨rfl, by first | exact pl_new1 (fun _ => rfl) | exact pl_newC | (simp [plO, plV, plV.plL]; done)⟩) rfl rfl) ?_
 refine oa rfl ?_
 refine on ?_
 refine a_ret ?_
 exact fin_p rfl ⟨boolEq (lc_end hok hi (by first | omega | (simp only [nr, nl]; omega))).symm, rfl, rfl⟩
end Go.Ab

/- Walks. -/
import Derived.Test.YtoodaakcfelaaaaGreatBase2
import Derived.Test.YtoodaakcfelaaaaGreatPf4
import Derived.Test.YtoodaakcfelaaaaGreatWsrun7
import Derived.Test.YtoodaakcfelaaaaGreatWscp
import Derived.Test.YtoodaakcfelaaaaGreatBase
import Derived.Test.YtoodaakcfelaaaaGreatMod3
import Derived.Test.YtoodaakcfelaaaaGreatWsfun
import Derived.Test.YtoodaakcfelaaaaGreatWscons
import Derived.Test.YtoodaakcfelaaaaGreatSimp
import Derived.Test.YtoodaakcfelaaaaGreatVals
import Derived.Test.YtoodaakcfelaaaaGreatWslist
import Derived.Test.YtoodaakcfelaaaaGreatWssimp
import Derived.Test.YtoodaakcfelaaaaGreatWsprobd
import Derived.Test.YtoodaakcfelaaaaGreatWsdrawc
import Derived.Test.YtoodaakcfelaaaaGreatWsdraw
namespace Go.Ab
open Go.Proofs
set_option maxRecDepth 100000
set_option maxHeartbeats 8000000
set_option linter.unusedSimpArgs false
set_option linter.unusedVariables false
theorem f_listSpecO (l : List Con) (vs : List Int) (fu : Int) : Fn Tryz.prog 27 [.sl (l.map dC), .sl (vs.map dI), .p (.int .i64 (fu))] [] (fun rr ii nn => rr = .tup [.p (.int .i64 (lsV l vs fu).1), .own 0 0, .sl ((lsV l vs fu).2.2.map dSt)] ∧ ii = [] ∧ nn = [.row 44 1 (((lsV l vs fu).2.1).map dD)]) := by
 refine fn_of Tryz.func27 rfl (Nat.le_of_ble_eq_true rfl) fun w X g => ?_
 show AWp _ _ _ ⟨[(0, .sl (l.map dC)), (1, .sl (vs.map dI)), (2, .p (.int .i64 (fu)))], []⟩
 refine rs ?_
 refine oa rfl ?_
 refine oa rfl ?_
 refine oa rfl ?_
 refine on ?_
 refine a_seq ?_
 refine rs ?_
 refine om rfl ?_
 refine op_v0' (j_call0 (v := .p _) (hp1 := []) [] false [] ent48 (f_pvSpec l) ⟨.inl ⟨rfl, rfl⟩, trivial⟩ trivial rfl rfl (fun h => by cases h) rfl (fun _ h => by cases h) (.inl rfl) rfl rfl) ?_
 refine op_v' (j_not rfl) ?_
 refine om rfl ?_
 refine op_split' 17 rfl (fun h1 => ?_) (fun h1 => ?_)
 ·
  have h1r := h1
  try simp only [nq, nr, nl] at h1
  refine op_v' (j_unwantV rfl rfl h1r) ?_
  refine op_v' (j_unwantV rfl rfl h1r) ?_
  refine op_v' (j_unwantV rfl rfl h1r) ?_
  refine op_v' (j_pick_t rfl h1r (evo rfl)) ?_
  refine om rfl ?_
  refine op_v' (j_unwantV rfl rfl rfl) ?_
  refine op_v' (j_unwantV rfl rfl rfl) ?_
  refine op_v' (j_pick_t rfl rfl (evo rfl)) ?_
  refine om rfl ?_
  refine op_v' (j_unwantV rfl rfl rfl) ?_
  refine op_v' (j_unwantV rfl rfl rfl) ?_
  refine op_v' (j_pick_t rfl rfl (evo rfl)) ?_
  refine om rfl ?_
  refine op_v' (j_unwantV rfl rfl rfl) ?_
  refine op_v' (j_unwantV rfl rfl rfl) ?_
  try have hln0 := pOk_len (show pOk l = true by assumption)
  refine op_v' (j_unwantV rfl rfl rfl) ?_
  refine op_v' (j_unwantV rfl rfl rfl) ?_
  refine op_v' (j_pick_t rfl rfl (evo rfl)) ?_
  refine on ?_
  refine a_tt rfl ?_
  refine rs ?_
  refine op_n' (fun ver => j_buildSlice (parts := []) (es := []) slt24 elt44 rfl rfl (by decide) (by decide) rfl rfl (by simp) rfl) fun v36x1 => ?_
  refine op_n' (fun ver => j_buildSlice (parts := []) (es := []) slt34 elt89 rfl rfl (by decide) (by decide) rfl rfl (by simp) rfl) fun v37x2 => ?_
  refine oa rfl ?_
  refine oa rfl ?_
  refine oa rfl ?_
  refine on ?_
  refine a_freeze' 8 (noA _ _ _ _ _) rfl rfl ?_
  refine a_ret ?_
  have hb : lsOk l vs fu = false := (by unfold lsOk; first | (simp_all; done) | (simp_all; omega))
  exact ⟨[.p _, .own 36 v36x1, .sl _], .tup [.p _, .own 0 0, .sl _], [], [.row 44 1 _], [(36, v36x1)], ⟨rfl, rfl, rfl, trivial⟩, rfl, rfl, ⟨⟨rfl, rfl⟩, trivial⟩, rfl, rfl, ⟨by rw [ls_bad hb]; try rfl, rfl, by rw [ls_bad hb]; rfl⟩⟩
 have h1r := h1
 try simp only [nq, nr, nl] at h1
 refine op_v' (j_want rfl rfl h1r (j_move (evo rfl))) ?_
 refine op_v0' (j_want rfl rfl h1r (j_call0 (v := .p _) (hp1 := []) [] false [] ent49 (f_l14Vars vs) ⟨.inl ⟨rfl, rfl⟩, trivial⟩ trivial rfl rfl (fun h => by cases h) rfl (fun _ h => by cases h) (.inl rfl) rfl rfl)) ?_
 refine op_v' (j_want rfl rfl h1r (j_not rfl)) ?_
 refine op_v' (j_pick_f rfl h1r (evo rfl)) ?_
 refine om rfl ?_
 refine op_split' 22 rfl (fun h2 => ?_) (fun h2 => ?_)
 ·
  have h2r := h2
  try simp only [nq, nr, nl] at h2
  refine op_v' (j_unwantV rfl rfl h2r) ?_
  refine op_v' (j_unwantV rfl rfl h2r) ?_
  refine op_v' (j_pick_t rfl h2r (evo rfl)) ?_
  refine om rfl ?_
  refine op_v' (j_unwantV rfl rfl rfl) ?_
  refine op_v' (j_unwantV rfl rfl rfl) ?_
  refine op_v' (j_pick_t rfl rfl (evo rfl)) ?_
  refine om rfl ?_
  refine op_v' (j_unwantV rfl rfl rfl) ?_
  refine op_v' (j_unwantV rfl rfl rfl) ?_
  try have hln0 := pOk_len (show pOk l = true by assumption)
  refine op_v' (j_unwantV rfl rfl rfl) ?_
  refine op_v' (j_unwantV rfl rfl rfl) ?_
  refine op_v' (j_pick_t rfl rfl (evo rfl)) ?_
  refine on ?_
  refine a_tt rfl ?_
  refine rs ?_
  refine op_n' (fun ver => j_buildSlice (parts := []) (es := []) slt24 elt44 rfl rfl (by decide) (by decide) rfl rfl (by simp) rfl) fun v36x3 => ?_
  refine op_n' (fun ver => j_buildSlice (parts := []) (es := []) slt34 elt89 rfl rfl (by decide) (by decide) rfl rfl (by simp) rfl) fun v37x4 => ?_
  refine oa rfl ?_
  refine oa rfl ?_
  refine oa rfl ?_
  refine on ?_
  refine a_freeze' 8 (noA _ _ _ _ _) rfl rfl ?_
  refine a_ret ?_
  have hb : lsOk l vs fu = false := (by unfold lsOk; first | (simp_all; done) | (simp_all; omega))
  exact ⟨[.p _, .own 36 v36x3, .sl _], .tup [.p _, .own 0 0, .sl _], [], [.row 44 1 _], [(36, v36x3)], ⟨rfl, rfl, rfl, trivial⟩, rfl, rfl, ⟨⟨rfl, rfl⟩, trivial⟩, rfl, rfl, ⟨by rw [ls_bad hb]; try rfl, rfl, by rw [ls_bad hb]; rfl⟩⟩
 have h2r := h2
 try simp only [nq, nr, nl] at h2
 refine op_v' (j_want rfl rfl h2r (j_move (evo rfl))) ?_
 refine op_v' (j_want rfl rfl h2r (j_lt rfl rfl)) ?_
 refine op_v' (j_pick_f rfl h2r (evo rfl)) ?_
 refine om rfl ?_
 refine op_split' 26 rfl (fun h3 => ?_) (fun h3 => ?_)
 ·
  have h3r := h3
  try simp only [nq, nr, nl] at h3
  refine op_v' (j_unwantV rfl rfl h3r) ?_
  refine op_v' (j_unwantV rfl rfl h3r) ?_
  refine op_v' (j_pick_t rfl h3r (evo rfl)) ?_
  refine om rfl ?_
  refine op_v' (j_unwantV rfl rfl rfl) ?_
  refine op_v' (j_unwantV rfl rfl rfl) ?_
  try have hln0 := pOk_len (show pOk l = true by assumption)
  refine op_v' (j_unwantV rfl rfl rfl) ?_
  refine op_v' (j_unwantV rfl rfl rfl) ?_
  refine op_v' (j_pick_t rfl rfl (evo rfl)) ?_
  refine on ?_
  refine a_tt rfl ?_
  refine rs ?_
  refine op_n' (fun ver => j_buildSlice (parts := []) (es := []) slt24 elt44 rfl rfl (by decide) (by decide) rfl rfl (by simp) rfl) fun v36x5 => ?_
  refine op_n' (fun ver => j_buildSlice (parts := []) (es := []) slt34 elt89 rfl rfl (by decide) (by decide) rfl rfl (by simp) rfl) fun v37x6 => ?_
  refine oa rfl ?_
  refine oa rfl ?_
  refine oa rfl ?_
  refine on ?_
  refine a_freeze' 8 (noA _ _ _ _ _) rfl rfl ?_
  refine a_ret ?_
  have hb : lsOk l vs fu = false := (by unfold lsOk; first | (simp_all; done) | (simp_all; omega))
  exact ⟨[.p _, .own 36 v36x5, .sl _], .tup [.p _, .own 0 0, .sl _], [], [.row 44 1 _], [(36, v36x5)], ⟨rfl, rfl, rfl, trivial⟩, rfl, rfl, ⟨⟨rfl, rfl⟩, trivial⟩, rfl, rfl, ⟨by rw [ls_bad hb]; try rfl, rfl, by rw [ls_bad hb]; rfl⟩⟩
 have h3r := h3
 try simp only [nq, nr, nl] at h3
 refine op_v' (j_want rfl rfl h3r (j_move (evo rfl))) ?_
 refine op_v' (j_want rfl rfl h3r (j_gt rfl rfl)) ?_
 refine op_v' (j_pick_f rfl h3r (evo rfl)) ?_
 refine om rfl ?_
 refine op_split' 30 rfl (fun h4 => ?_) (fun h4 => ?_)
 ·
  have h4r := h4
  try simp only [nq, nr, nl] at h4
  refine op_v' (j_unwantV rfl rfl h4r) ?_
  refine op_v' (j_unwantV rfl rfl h4r) ?_
  try have hln0 := pOk_len (show pOk l = true by assumption)
  refine op_v' (j_unwantV rfl rfl h4r) ?_
  refine op_v' (j_unwantV rfl rfl h4r) ?_
  refine op_v' (j_pick_t rfl h4r (evo rfl)) ?_
  refine on ?_
  refine a_tt rfl ?_
  refine rs ?_
  refine op_n' (fun ver => j_buildSlice (parts := []) (es := []) slt24 elt44 rfl rfl (by decide) (by decide) rfl rfl (by simp) rfl) fun v36x7 => ?_
  refine op_n' (fun ver => j_buildSlice (parts := []) (es := []) slt34 elt89 rfl rfl (by decide) (by decide) rfl rfl (by simp) rfl) fun v37x8 => ?_
  refine oa rfl ?_
  refine oa rfl ?_
  refine oa rfl ?_
  refine on ?_
  refine a_freeze' 8 (noA _ _ _ _ _) rfl rfl ?_
  refine a_ret ?_
  have hb : lsOk l vs fu = false := (by unfold lsOk; first | (simp_all; done) | (simp_all; omega))
  exact ⟨[.p _, .own 36 v36x7, .sl _], .tup [.p _, .own 0 0, .sl _], [], [.row 44 1 _], [(36, v36x7)], ⟨rfl, rfl, rfl, trivial⟩, rfl, rfl, ⟨⟨rfl, rfl⟩, trivial⟩, rfl, rfl, ⟨by rw [ls_bad hb]; try rfl, rfl, by rw [ls_bad hb]; rfl⟩⟩
 have h4r := h4
 try simp only [nq, nr, nl] at h4
 refine op_v' (j_want rfl rfl h4r (j_move (evo rfl))) ?_
 refine op_v' (j_want rfl rfl h4r (j_len_map Tryz.underlying30 rfl)) ?_
 try have hln0 := pOk_len (show pOk l = true by assumption)
 refine op_v' (j_want rfl rfl h4r (j_add rfl rfl (by first | omega | (simp only [nr, nl]; omega)) (by first | omega | (simp only [nr, nl]; omega)))) ?_
 refine op_v' (j_want rfl rfl h4r (j_gt rfl rfl)) ?_
 refine op_v' (j_pick_f rfl h4r (evo rfl)) ?_
 refine on ?_
 refine ac rfl (fun h5 => ?_) fun h5 => ?_
 ·
  have h5r := h5
  try simp only [nq, nr, nl] at h5
  refine rs ?_
  refine op_n' (fun ver => j_buildSlice (parts := []) (es := []) slt24 elt44 rfl rfl (by decide) (by decide) rfl rfl (by simp) rfl) fun v36x9 => ?_
  refine op_n' (fun ver => j_buildSlice (parts := []) (es := []) slt34 elt89 rfl rfl (by decide) (by decide) rfl rfl (by simp) rfl) fun v37x10 => ?_
  refine oa rfl ?_
  refine oa rfl ?_
  refine oa rfl ?_
  refine on ?_
  refine a_freeze' 8 (noA _ _ _ _ _) rfl rfl ?_
  refine a_ret ?_
  have hb : lsOk l vs fu = false := (by unfold lsOk; first | (simp_all; done) | (simp_all; omega))
  exact ⟨[.p _, .own 36 v36x9, .sl _], .tup [.p _, .own 0 0, .sl _], [], [.row 44 1 _], [(36, v36x9)], ⟨rfl, rfl, rfl, trivial⟩, rfl, rfl, ⟨⟨rfl, rfl⟩, trivial⟩, rfl, rfl, ⟨by rw [ls_bad hb]; try rfl, rfl, by rw [ls_bad hb]; rfl⟩⟩
 have h5r := h5
 try simp only [nq, nr, nl] at h5
 refine a_skip ?_
 refine a_seq ?_
 have hok : lsOk l vs fu = true := (by unfold lsOk; first | (simp_all; done) | (simp_all; omega))
 have hpt := lsOk_parts hok
 have hls := ls_start hok
 have hln := pOk_len hpt.1
 refine ar ?_
 refine op_n' (fun ver => j_buildSlice (parts := []) (es := []) slt24 elt44 rfl rfl (by decide) (by decide) rfl rfl (by simp) rfl) fun v38x11 => ?_
 refine oa rfl ?_
 refine on ?_
 refine rs ?_
 refine op_n' (fun ver => j_buildSlice (parts := []) (es := []) slt30 elt69 rfl rfl (by decide) (by decide) rfl rfl (by simp) rfl) fun v39x12 => ?_
 refine om rfl ?_
 refine op_n' (fun ver => j_append_sl slt30 elt69 rfl rfl rfl rfl (by intro x hx; obtain ⟨t, _, rfl⟩ := List.mem_map.1 hx; rfl) (all_lf_dC l) (by rw [maxLen_eq]; first | omega | (simp only [nr, nl]; omega)) (by first | omega | (simp only [nr, nl]; omega))) fun v39x13 => ?_
 refine oa rfl ?_
 refine on ?_
 refine a_block ?_
 refine a_loopF' (ι := Nat × List Con × List (List Bool) × Nat × Nat) (fun x => lsI l vs fu x.1 x.2.1 x.2.2.1) (fun x r => (10, .own 39 x.2.2.2.1) :: (9, .own 38 x.2.2.2.2) :: r) (fun x r => (39, some (x.2.2.2.1, .row 69 2 ((x.2.1).map dC))) :: (38, some (x.2.2.2.2, .row 44 1 ((x.2.2.1).map dD))) :: r) (fun x => x.1) (fun _ _ => rfl) (fun _ _ => rfl) (64, l, [], v39x13, v38x11) (by first | exact hls | (dsimp only; exact hls)) ⟨⟨rfl, rfl⟩, ⟨rfl, rfl, trivial⟩, ⟨rfl, rfl, trivial⟩, ⟨rfl, rfl⟩, ⟨rfl, rfl⟩⟩ ?_
 rintro ⟨n, L, f, v1, v2⟩ hi; dsimp only at hi ⊢
 refine a_block ?_
 refine a_seq ?_
 have hsv := ls_sv hok hi
 have hcs := svC_cases hsv
 have hLl := hi.2.2.1
 have hfl := hi.2.1
 refine ar ?_
 refine om rfl ?_
 refine om rfl ?_
 refine op_v0' (j_call0 (v := .tup [.p _, .sl _, .sl _]) (hp1 := [(39, some (v1, .row 69 2 _))]) [(39, v1)] false [39] ent75 (f_solveSpecO L fu) ⟨.inl ⟨rfl, rfl⟩, .inl ⟨rfl, rfl⟩, trivial⟩ ⟨⟨rfl, rfl⟩, trivial⟩ rfl rfl (fun h => by cases h) rfl (List.all_eq_true.1 rfl) (.inl rfl) rfl rfl) ?_
 refine om rfl ?_
 refine op_v' (j_extract rfl rfl) ?_
 refine op_v' (j_extract rfl rfl) ?_
 refine op_v' (j_extract rfl rfl) ?_
 refine oa rfl ?_
 refine oa rfl ?_
 refine oa rfl ?_
 refine on ?_
 refine a_seq ?_
 refine rs ?_
 refine om rfl ?_
 refine op_v' (j_eq rfl rfl) ?_
 refine on ?_
 refine ac rfl (fun h6 => ?_) fun h6 => ?_
 ·
  have h6r := h6
  try simp only [nq, nr, nl] at h6
  refine rs ?_
  refine om rfl ?_
  refine om rfl ?_
  refine oa rfl ?_
  refine oa rfl ?_
  refine oa rfl ?_
  refine on ?_
  refine a_ret ?_
  have hu := ls_uns hi (by assumption)
  exact ⟨[.p _, .own 38 v2, .sl _], .tup [.p _, .own 0 0, .sl _], [], [.row 44 1 _], [(38, v2)], ⟨rfl, rfl, rfl, trivial⟩, rfl, rfl, ⟨⟨rfl, rfl⟩, trivial⟩, rfl, rfl, ⟨by rw [hu]; try rfl, rfl, by rw [hu]; try rfl⟩⟩
 have h6r := h6
 try simp only [nq, nr, nl] at h6
 refine a_skip ?_
 refine a_seq ?_
 refine rs ?_
 refine om rfl ?_
 refine op_v' (j_eq rfl rfl) ?_
 refine om rfl ?_
 refine op_split' 55 rfl (fun h7 => ?_) (fun h7 => ?_)
 ·
  have h7r := h7
  try simp only [nq, nr, nl] at h7
  refine op_v' (j_unwantV rfl rfl h7r) ?_
  refine op_v' (j_unwantV rfl rfl h7r) ?_
  refine op_v' (j_unwantV rfl rfl h7r) ?_
  refine op_v' (j_pick_t rfl h7r (evo rfl)) ?_
  refine on ?_
  refine a_tt rfl ?_
  refine rs ?_
  refine op_n' (fun ver => j_buildSlice (parts := []) (es := []) slt24 elt44 rfl rfl (by decide) (by decide) rfl rfl (by simp) rfl) fun v60x14 => ?_
  refine op_n' (fun ver => j_buildSlice (parts := []) (es := []) slt34 elt89 rfl rfl (by decide) (by decide) rfl rfl (by simp) rfl) fun v61x15 => ?_
  refine oa rfl ?_
  refine oa rfl ?_
  refine oa rfl ?_
  refine on ?_
  refine a_freeze' 8 (noA _ _ _ _ _) rfl rfl ?_
  refine a_ret ?_
  have hst := ls_stop hi (by omega) (by omega)
  exact ⟨[.p _, .own 60 v60x14, .sl _], .tup [.p _, .own 0 0, .sl _], [], [.row 44 1 _], [(60, v60x14)], ⟨rfl, rfl, rfl, trivial⟩, rfl, rfl, ⟨⟨rfl, rfl⟩, trivial⟩, rfl, rfl, ⟨by rw [hst]; try rfl, rfl, by rw [hst]; try rfl⟩⟩
 have h7r := h7
 try simp only [nq, nr, nl] at h7
 refine op_v' (j_want rfl rfl h7r (j_move (evo rfl))) ?_
 refine op_v' (j_want rfl rfl h7r (j_len_own_map Tryz.underlying24 rfl rfl)) ?_
 refine op_v' (j_want rfl rfl h7r (j_eq rfl rfl)) ?_
 refine op_v' (j_pick_f rfl h7r (evo rfl)) ?_
 refine on ?_
 refine ac rfl (fun h8 => ?_) fun h8 => ?_
 ·
  have h8r := h8
  try simp only [nq, nr, nl] at h8
  refine rs ?_
  refine op_n' (fun ver => j_buildSlice (parts := []) (es := []) slt24 elt44 rfl rfl (by decide) (by decide) rfl rfl (by simp) rfl) fun v60x16 => ?_
  refine op_n' (fun ver => j_buildSlice (parts := []) (es := []) slt34 elt89 rfl rfl (by decide) (by decide) rfl rfl (by simp) rfl) fun v61x17 => ?_
  refine oa rfl ?_
  refine oa rfl ?_
  refine oa rfl ?_
  refine on ?_
  refine a_freeze' 8 (noA _ _ _ _ _) rfl rfl ?_
  refine a_ret ?_
  have hst := ls_stop hi (by omega) (by omega)
  exact ⟨[.p _, .own 60 v60x16, .sl _], .tup [.p _, .own 0 0, .sl _], [], [.row 44 1 _], [(60, v60x16)], ⟨rfl, rfl, rfl, trivial⟩, rfl, rfl, ⟨⟨rfl, rfl⟩, trivial⟩, rfl, rfl, ⟨by rw [hst]; try rfl, rfl, by rw [hst]; try rfl⟩⟩
 have h8r := h8
 try simp only [nq, nr, nl] at h8
 refine a_skip ?_
 refine a_seq ?_
 have hc1 : svC L fu = 1 := by omega
 have hva := ls_val hsv hc1
 have hnx := ls_next hok hi (by omega) (by omega)
 refine ar ?_
 refine om rfl ?_
 refine om rfl ?_
 refine op_n' (fun ver => j_buildSlice (parts := [(0, .tmp 63)]) (es := [[_]]) slt24 elt44 rfl rfl (by decide) (by decide) rfl rfl (by simp) rfl) fun v64x18 => ?_
 refine op_n' (fun ver => j_append_own slt24 elt44 rfl rfl rfl rfl rfl rfl (by rw [maxLen_eq]; first | omega | (simp only [nr, nl]; omega)) (by first | omega | (simp only [nr, nl]; omega))) fun v38x19 => ?_
 refine oa rfl ?_
 refine on ?_
 refine ar ?_
 refine om rfl ?_
 refine om rfl ?_
 refine om rfl ?_
 refine op_v0' (j_call0 (v := .agg [.sl _, .p _]) (hp1 := []) [] false [] ent51 (f_exclSpecF vs (svV L fu) hpt.2.2.1 hva.1) ⟨.inl ⟨rfl, rfl⟩, .inl ⟨rfl, rfl⟩, trivial⟩ trivial rfl rfl (fun h => by cases h) rfl (fun _ h => by cases h) (.inl rfl) rfl rfl) ?_
 refine op_n' (fun ver => j_buildSlice (parts := [(0, .tmp 69)]) (es := [[_, _]]) slt30 elt69 rfl rfl (by decide) (by decide) rfl rfl (by simp) rfl) fun v70x20 => ?_
 refine op_n' (fun ver => j_append_own slt30 elt69 rfl rfl rfl rfl rfl rfl (by rw [maxLen_eq]; first | omega | (simp only [nr, nl]; omega)) (by first | omega | (simp only [nr, nl]; omega))) fun v39x21 => ?_
 refine oa rfl ?_
 refine on ?_
 exact ⟨(n - 1, L ++ [lsX vs (svV L fu)], f ++ [svV L fu], v39x21, v38x19), (by first | exact hnx.2 | (dsimp only; exact hnx.2)), ⟨⟨rfl, rfl⟩, ⟨rfl, rfl, trivial⟩, ⟨rowEq (by dsimp only; rw [List.map_append]; rfl), rowEq (by dsimp only; rw [List.map_append]; rfl), trivial⟩, ⟨rfl, rfl⟩, ⟨rfl, rfl⟩⟩, (by first | exact (by have := hnx.1; dsimp only; omega) | (dsimp only; exact (by have := hnx.1; dsimp only; omega)))⟩
theorem f_dCL (b : List Int) (hb : ∀ a ∈ b, 0 ≤ a ∧ a ≤ 255) : Fn Tryz.prog 21 [.sl (b.map dU)] [] (fun rr ii nn => ∃ x : List Con × List Int × List (List Bool) × List Con, (okP x.1 14 15 ∧ x.2.1.length ≤ 6 ∧ ∀ c ∈ x.2.2.2, c.1.length ≤ 12) ∧ rr = .tup [.sl (x.1.map dC), .sl (x.2.1.map dI), .sl (x.2.2.1.map dD), .sl ((x.2.2.2.map rupS).map dStp)] ∧ ii = [] ∧ nn = []) := by
 refine fn_of Tryz.func21 rfl (Nat.le_of_ble_eq_true rfl) fun w X g => ?_
 show AWp _ _ _ ⟨[(0, .sl (b.map dU))], []⟩
 refine rs ?_
 refine oa rfl ?_
 refine oa rfl ?_
 refine oa rfl ?_
 refine oa rfl ?_
 refine on ?_
 refine rs ?_
 refine om rfl ?_
 refine op_n1' (fun ver => j_call1 (v := .ptr 13 ver 0) (hp1 := [(13, some (ver, .box 151 [.sl _, .p _]))]) [] false [] ent63 (f_open _) ⟨.inl ⟨rfl, rfl⟩, trivial⟩ trivial rfl rfl rfl (fun h => by cases h) rfl (List.all_eq_true.1 rfl) (.inl rfl) rfl rfl) fun v13x1 => ?_
 refine oa rfl ?_
 refine on ?_
 refine a_seq ?_
 have hbt := okB_take (Nat.le_refl _) hb
 refine ar ?_
 refine om rfl ?_
 refine om rfl ?_
 refine op_callE1 (v := fun x ver => .own 16 ver) (hp1 := fun x ver => [(13, some (v13x1, .box 151 [.sl _, .p _])), (16, some (ver, .row 69 2 _))]) [(13, v13x1)] false ent65 (f_l5Hard (b.take 2000) 0 hbt (by decide)) ⟨.inl ⟨rfl, rfl⟩, trivial⟩ ⟨⟨rfl, rfl⟩, trivial⟩ rfl rfl (fun _ => rfl) (fun _ => rfl) (.inl rfl) (fun _ _ => rfl) (fun _ _ => rfl) ?_
 rintro ⟨l16, p16⟩ ⟨ho16, hp16⟩ v16x2
 try dsimp only at ho16
 try dsimp only at hp16
 dsimp only [List.cons_append, List.nil_append]
 refine op_freezeK 16 trivial rfl rfl rfl ?_
 refine op_callE (v := fun x => .sl _) (hp1 := fun x => [(13, some (v13x1, .box 151 [.sl _, .p _]))]) [(13, v13x1)] false ent64 (f_l3Mut (b.take 2000) p16 l16 14 12 hbt (by omega) ho16 (by decide) (by decide)) ⟨.inl ⟨rfl, rfl⟩, .inl ⟨rfl, rfl⟩, trivial⟩ ⟨⟨rfl, rfl⟩, trivial⟩ rfl (fun _ => rfl) (fun _ => rfl) (.inl rfl) (fun _ => rfl) (fun _ => rfl) ?_
 rintro ⟨l17, p17⟩ ⟨ho17, hl17, hp17⟩
 try dsimp only at ho17
 try dsimp only at hl17
 try dsimp only at hp17
 dsimp only [List.cons_append, List.nil_append]
 refine oa rfl ?_
 refine on ?_
 refine rs ?_
 refine om rfl ?_
 refine op_callE (v := fun x => .sl _) (hp1 := fun x => [(13, some (v13x1, .box 151 [.sl _, .p _]))]) [(13, v13x1)] false ent66 (f_dVars (b.take 2000) p17 hbt (by omega)) ⟨.inl ⟨rfl, rfl⟩, trivial⟩ ⟨⟨rfl, rfl⟩, trivial⟩ rfl (fun _ => rfl) (fun _ => rfl) (.inl rfl) (fun _ => rfl) (fun _ => rfl) ?_
 rintro ⟨vs19, p19⟩ ⟨hl19, hp19⟩
 try dsimp only at hl19
 try dsimp only at hp19
 dsimp only [List.cons_append, List.nil_append]
 refine oa rfl ?_
 refine on ?_
 refine a_seq ?_
 have HT := f_listSpecO l17 vs19 300
 rw [dSt_rups] at HT
 refine ar ?_
 refine om rfl ?_
 refine om rfl ?_
 refine op_n1' (fun ver => j_call1 (v := .tup [.p _, .own 23 ver, .sl _]) (hp1 := [(23, some (ver, .row 44 1 _))]) [] false [] ent27 HT ⟨.inl ⟨rfl, rfl⟩, .inl ⟨rfl, rfl⟩, .inl ⟨rfl, rfl⟩, trivial⟩ trivial rfl rfl rfl (fun h => by cases h) rfl (List.all_eq_true.1 rfl) (.inl rfl) rfl rfl) fun v23x3 => ?_
 refine om rfl ?_
 refine op_v' (j_extract rfl rfl) ?_
 refine op_v' (j_extract rfl rfl) ?_
 refine op_v' (j_extract rfl rfl) ?_
 refine oa rfl ?_
 refine oa rfl ?_
 refine oa rfl ?_
 refine on ?_
 refine a_seq ?_
 refine rs ?_
 refine om rfl ?_
 refine op_v0' (j_call0 (v := .p _) (hp1 := [(13, some (v13x1, .box 151 [.sl _, .p _]))]) [(13, v13x1)] false [13] ent67 (f_pick (b.take 2000) p19 8 hbt (by omega)) ⟨.inl ⟨rfl, rfl⟩, .inl ⟨rfl, rfl⟩, trivial⟩ ⟨⟨rfl, rfl⟩, trivial⟩ rfl rfl (fun h => by cases h) rfl (List.all_eq_true.1 rfl) (.inl rfl) rfl rfl) ?_
 refine on ?_
 refine a_block ?_
 refine rs ?_
 refine op_v' (j_eq rfl rfl) ?_
 refine oa rfl ?_
 refine on ?_
 refine ac rfl (fun h1 => ?_) fun h1 => ?_
 ·
  have h1r := h1
  try simp only [nq, nr, nl] at h1
  refine rs ?_
  refine om rfl ?_
  refine op_v' (j_len_own_map Tryz.underlying24 rfl rfl) ?_
  refine op_v' (j_gt rfl rfl) ?_
  refine on ?_
  refine ac rfl (fun h2 => ?_) fun h2 => ?_
  ·
   have h2r := h2
   try simp only [nq, nr, nl] at h2
   refine a_freeze' 10 (noA _ _ _ _ _) rfl rfl ?_
   refine ar ?_
   refine om rfl ?_
   refine op_v' (j_cut slt24 rfl (fun y hy => by obtain ⟨t, _, rfl⟩ := List.mem_map.1 hy; rfl) (Bd.some rfl rfl) Bd.none (by first | omega | (simp only [nr, nl]; omega)) (by first | omega | (simp only [nr, nl]; omega))) ?_
   refine oa rfl ?_
   refine on ?_
   refine rs ?_
   refine om rfl ?_
   refine om rfl ?_
   refine om rfl ?_
   refine om rfl ?_
   refine oa rfl ?_
   refine oa rfl ?_
   refine oa rfl ?_
   refine oa rfl ?_
   refine on ?_
   refine a_ret ?_
   exact ⟨[.sl _, .sl _, .sl _, .sl _], .tup [.sl _, .sl _, .sl _, .sl _], [], [], [], ⟨rfl, rfl, rfl, rfl, trivial⟩, rfl, rfl, trivial, rfl, rfl, ⟨(l17, vs19, (lsV l17 vs19 300).2.1.drop 1, (lsV l17 vs19 300).2.2), ⟨ho17, (by dsimp only; omega), ls_steps⟩, tup4Eq (slEq (by rw [List.take_of_length_le (by simp), List.map_drop])) rfl, rfl, rfl⟩⟩
  have h2r := h2
  try simp only [nq, nr, nl] at h2
  refine a_skip ?_
  refine a_seq ?_
  refine a_freeze' 10 (noA _ _ _ _ _) rfl rfl ?_
  refine ar ?_
  refine om rfl ?_
  refine om rfl ?_
  refine om rfl ?_
  refine om rfl ?_
  refine oa rfl ?_
  refine oa rfl ?_
  refine oa rfl ?_
  refine oa rfl ?_
  refine on ?_
  refine a_ret ?_
  exact ⟨[.sl _, .sl _, .sl _, .sl _], .tup [.sl _, .sl _, .sl _, .sl _], [], [], [], ⟨rfl, rfl, rfl, rfl, trivial⟩, rfl, rfl, trivial, rfl, rfl, ⟨(l17, vs19, (lsV l17 vs19 300).2.1, (lsV l17 vs19 300).2.2), ⟨ho17, (by dsimp only; omega), ls_steps⟩, tup4Eq rfl rfl, rfl, rfl⟩⟩
 have h1r := h1
 try simp only [nq, nr, nl] at h1
 refine rs ?_
 refine op_v' (j_eq rfl rfl) ?_
 refine oa rfl ?_
 refine on ?_
 refine ac rfl (fun h3 => ?_) fun h3 => ?_
 ·
  have h3r := h3
  try simp only [nq, nr, nl] at h3
  have hfo := ls_found (l := l17) (vs := vs19) (fu := 300)
  refine ar ?_
  refine om rfl ?_
  refine om rfl ?_
  refine op_n1' (fun ver => j_call1 (v := .own 40 ver) (hp1 := [(13, some (v13x1, .box 151 [.sl _, .p _])), (40, some (ver, .row 4 1 _))]) [(13, v13x1)] false [13] ent68 (f_values (b.take 2000) (p19 + 1) hbt (by omega)) ⟨.inl ⟨rfl, rfl⟩, trivial⟩ ⟨⟨rfl, rfl⟩, trivial⟩ rfl rfl rfl (fun h => by cases h) rfl (List.all_eq_true.1 rfl) (.inl rfl) rfl rfl) fun v40x4 => ?_
  refine op_freezeK 40 trivial rfl rfl rfl ?_
  refine op_n' (fun ver => j_buildSlice (parts := [(0, .tmp 40)]) (es := [[_]]) slt24 elt44 rfl rfl (by decide) (by decide) rfl rfl (by simp) rfl) fun v41x5 => ?_
  refine op_n' (fun ver => j_append_own slt24 elt44 rfl rfl rfl rfl rfl rfl (by rw [maxLen_eq]; first | omega | (simp only [nr, nl]; omega)) (by first | omega | (simp only [nr, nl]; omega))) fun v23x6 => ?_
  refine oa rfl ?_
  refine on ?_
  refine a_seq ?_
  refine a_freeze' 10 (noA _ _ _ _ _) rfl rfl ?_
  refine ar ?_
  refine om rfl ?_
  refine om rfl ?_
  refine om rfl ?_
  refine om rfl ?_
  refine oa rfl ?_
  refine oa rfl ?_
  refine oa rfl ?_
  refine oa rfl ?_
  refine on ?_
  refine a_ret ?_
  exact ⟨[.sl _, .sl _, .sl _, .sl _], .tup [.sl _, .sl _, .sl _, .sl _], [], [], [], ⟨rfl, rfl, rfl, rfl, trivial⟩, rfl, rfl, trivial, rfl, rfl, ⟨(l17, vs19, (lsV l17 vs19 300).2.1 ++ [valV (b.take 2000) (p19 + 1)], (lsV l17 vs19 300).2.2), ⟨ho17, (by dsimp only; omega), ls_steps⟩, tup4Eq (slEq (by rw [List.map_append]; rfl)) rfl, rfl, rfl⟩⟩
 have h3r := h3
 try simp only [nq, nr, nl] at h3
 refine rs ?_
 refine op_v' (j_eq rfl rfl) ?_
 refine oa rfl ?_
 refine on ?_
 refine ac rfl (fun h4 => ?_) fun h4 => ?_
 ·
  have h4r := h4
  try simp only [nq, nr, nl] at h4
  refine rs ?_
  refine om rfl ?_
  refine op_v' (j_len_map Tryz.underlying34 rfl) ?_
  refine op_v' (j_gt rfl rfl) ?_
  refine on ?_
  refine ac rfl (fun h5 => ?_) fun h5 => ?_
  ·
   have h5r := h5
   try simp only [nq, nr, nl] at h5
   refine ar ?_
   refine om rfl ?_
   refine op_v' (j_cut slt34 rfl (fun y hy => by obtain ⟨t, _, rfl⟩ := List.mem_map.1 hy; rfl) (Bd.some rfl rfl) Bd.none (by first | omega | (simp only [nr, nl]; omega)) (by first | omega | (simp only [nr, nl]; omega))) ?_
   refine oa rfl ?_
   refine on ?_
   refine a_seq ?_
   refine a_freeze' 10 (noA _ _ _ _ _) rfl rfl ?_
   refine ar ?_
   refine om rfl ?_
   refine om rfl ?_
   refine om rfl ?_
   refine om rfl ?_
   refine oa rfl ?_
   refine oa rfl ?_
   refine oa rfl ?_
   refine oa rfl ?_
   refine on ?_
   refine a_ret ?_
   exact ⟨[.sl _, .sl _, .sl _, .sl _], .tup [.sl _, .sl _, .sl _, .sl _], [], [], [], ⟨rfl, rfl, rfl, rfl, trivial⟩, rfl, rfl, trivial, rfl, rfl, ⟨(l17, vs19, (lsV l17 vs19 300).2.1, (lsV l17 vs19 300).2.2.drop 1), ⟨ho17, (by dsimp only; omega), (fun c hc => ls_steps c (List.mem_of_mem_drop hc))⟩, tup4Eq rfl (slEq (by rw [List.take_of_length_le (by simp), List.map_drop, List.map_drop])), rfl, rfl⟩⟩
  have h5r := h5
  try simp only [nq, nr, nl] at h5
  refine a_skip ?_
  refine a_seq ?_
  refine a_freeze' 10 (noA _ _ _ _ _) rfl rfl ?_
  refine ar ?_
  refine om rfl ?_
  refine om rfl ?_
  refine om rfl ?_
  refine om rfl ?_
  refine oa rfl ?_
  refine oa rfl ?_
  refine oa rfl ?_
  refine oa rfl ?_
  refine on ?_
  refine a_ret ?_
  exact ⟨[.sl _, .sl _, .sl _, .sl _], .tup [.sl _, .sl _, .sl _, .sl _], [], [], [], ⟨rfl, rfl, rfl, rfl, trivial⟩, rfl, rfl, trivial, rfl, rfl, ⟨(l17, vs19, (lsV l17 vs19 300).2.1, (lsV l17 vs19 300).2.2), ⟨ho17, (by dsimp only; omega), ls_steps⟩, tup4Eq rfl rfl, rfl, rfl⟩⟩
 have h4r := h4
 try simp only [nq, nr, nl] at h4
 refine a_skip ?_
 refine a_seq ?_
 refine a_freeze' 10 (noA _ _ _ _ _) rfl rfl ?_
 refine ar ?_
 refine om rfl ?_
 refine om rfl ?_
 refine om rfl ?_
 refine om rfl ?_
 refine oa rfl ?_
 refine oa rfl ?_
 refine oa rfl ?_
 refine oa rfl ?_
 refine on ?_
 refine a_ret ?_
 exact ⟨[.sl _, .sl _, .sl _, .sl _], .tup [.sl _, .sl _, .sl _, .sl _], [], [], [], ⟨rfl, rfl, rfl, rfl, trivial⟩, rfl, rfl, trivial, rfl, rfl, ⟨(l17, vs19, (lsV l17 vs19 300).2.1, (lsV l17 vs19 300).2.2), ⟨ho17, (by dsimp only; omega), ls_steps⟩, tup4Eq rfl rfl, rfl, rfl⟩⟩
theorem f_lawCL (b1 : List Int) (hb1 : ∀ a ∈ b1, 0 ≤ a ∧ a ≤ 255) : Fn Tryz.prog 4 [.sl (b1.map dU)] [] (fun rr ii nn => rr = .p (.bool true) ∧ ii = [] ∧ nn = []) := by
 refine fn_of Tryz.func4 rfl (Nat.le_of_ble_eq_true rfl) fun w X g => ?_
 show AWp _ _ _ ⟨[(0, .sl (b1.map dU))], []⟩
 refine rs ?_
 refine oa rfl ?_
 refine on ?_
 refine a_seq ?_
 refine rs ?_
 refine om rfl ?_
 refine op_v' (j_len_map Tryz.underlying41 rfl) ?_
 refine op_v' (j_gt rfl rfl) ?_
 refine on ?_
 refine ac rfl (fun h1 => ?_) fun h1 => ?_
 ·
  have h1r := h1
  try simp only [nq, nr] at h1
  refine rs ?_
  refine oa rfl ?_
  refine on ?_
  refine a_ret ?_
  exact fin_p rfl ⟨rfl, rfl, rfl⟩
 have h1r := h1
 try simp only [nq, nr] at h1
 refine a_skip ?_
 refine rs ?_
 refine om rfl ?_
 refine op_callE (v := fun x => .tup [.sl _, .sl _, .sl _, .sl _]) (hp1 := fun x => []) [] false ent21 (f_dCL b1 hb1) ⟨.inl ⟨rfl, rfl⟩, trivial⟩ trivial rfl (fun _ => rfl) (fun _ => rfl) (.inl rfl) (fun _ => rfl) (fun _ => rfl) ?_
 rintro ⟨l19, vs19, f19, s19⟩ ⟨ho19, hv19, hs19⟩
 try dsimp only at ho19
 try dsimp only at hv19
 try dsimp only at hs19
 dsimp only [List.cons_append, List.nil_append]
 refine om rfl ?_
 refine op_v' (j_extract rfl rfl) ?_
 refine op_v' (j_extract rfl rfl) ?_
 refine op_v' (j_extract rfl rfl) ?_
 refine op_v' (j_extract rfl rfl) ?_
 refine oa rfl ?_
 refine oa rfl ?_
 refine oa rfl ?_
 refine oa rfl ?_
 refine on ?_
 refine a_seq ?_
 have hgs : ∀ s ∈ (s19.map rupS), s.2.2.2.1.length ≤ 1048576 := (fun s hs => by obtain ⟨c, hc, rfl⟩ := List.mem_map.1 hs; have h9 := hs19 c hc; show c.1.length ≤ 1048576; omega)
 refine ar ?_
 refine om rfl ?_
 refine om rfl ?_
 refine om rfl ?_
 refine om rfl ?_
 refine op_v0' (j_call0 (v := .p _) (hp1 := []) [] false [] ent16 (f_clImplL l19 vs19 f19 (s19.map rupS)) ⟨.inl ⟨rfl, rfl⟩, .inl ⟨rfl, rfl⟩, .inl ⟨rfl, rfl⟩, .inl ⟨rfl, rfl⟩, trivial⟩ trivial rfl rfl (fun h => by cases h) rfl (fun _ h => by cases h) (.inl rfl) rfl rfl) ?_
 refine oa rfl ?_
 refine on ?_
 refine a_seq ?_
 refine rs ?_
 refine om rfl ?_
 refine om rfl ?_
 refine om rfl ?_
 refine om rfl ?_
 refine om rfl ?_
 refine op_v0' (j_call0 (v := .p _) (hp1 := []) [] false [] ent11 (f_clSpecL l19 vs19 f19 (s19.map rupS) hgs) ⟨.inl ⟨rfl, rfl⟩, .inl ⟨rfl, rfl⟩, .inl ⟨rfl, rfl⟩, .inl ⟨rfl, rfl⟩, trivial⟩ trivial rfl rfl (fun h => by cases h) rfl (fun _ h => by cases h) (.inl rfl) rfl rfl) ?_
 refine op_v' (j_neb Tryz.underlying4 rfl rfl) ?_
 refine om rfl ?_
 refine op_split' 36 rfl (fun h2 => ?_) (fun h2 => ?_)
 ·
  have h2r := h2
  try simp only [nq, nr] at h2
  exact absurd h2r (by simp)
 have h2r := h2
 try simp only [nq, nr] at h2
 refine op_v' (j_want rfl rfl h2r (j_move (evo rfl))) ?_
 refine op_v' (j_want rfl rfl h2r (j_not rfl)) ?_
 refine op_v' (j_pick_f rfl h2r (evo rfl)) ?_
 refine on ?_
 refine ac rfl (fun h3 => ?_) fun h3 => ?_
 ·
  have h3r := h3
  try simp only [nq, nr] at h3
  refine rs ?_
  refine om rfl ?_
  refine om rfl ?_
  refine om rfl ?_
  refine om rfl ?_
  refine om rfl ?_
  refine op_v0' (j_call0 (v := .p _) (hp1 := []) [] false [] ent11 (f_clSpecL l19 vs19 f19 (s19.map rupS) hgs) ⟨.inl ⟨rfl, rfl⟩, .inl ⟨rfl, rfl⟩, .inl ⟨rfl, rfl⟩, .inl ⟨rfl, rfl⟩, trivial⟩ trivial rfl rfl (fun h => by cases h) rfl (fun _ h => by cases h) (.inl rfl) rfl rfl) ?_
  refine op_v' (j_eqb Tryz.underlying4 rfl rfl) ?_
  refine oa rfl ?_
  refine on ?_
  refine a_ret ?_
  exact fin_p rfl ⟨boolEq (by first | (simp; done) | (simp_all; done)), rfl, rfl⟩
 have h3r := h3
 try simp only [nq, nr] at h3
 refine a_skip ?_
 refine a_seq ?_
 refine a_seq ?_
 have hlc : lcV l19 vs19 f19 (s19.map rupS) = true := by simp_all
 have hct := lc_count hlc
 have hpt := lcOk_parts (lc_chn hlc).1
 refine ar ?_
 refine oa rfl ?_
 refine on ?_
 refine a_block ?_
 refine a_loopF' (ι := Nat) (fun n => n ≤ 4096) (fun n r => (8, .p (.int .i64 ((n : Nat)))) :: r) (fun n r => r) (fun n => 4096 - n) (fun _ _ => rfl) (fun _ _ => rfl) 0 (Nat.zero_le _) ⟨⟨rfl, rfl⟩, ⟨rfl, trivial⟩, trivial, ⟨rfl, rfl⟩, ⟨rfl, rfl⟩⟩ ?_
 intro n hn
 refine a_seq ?_
 refine rs ?_
 refine om rfl ?_
 refine op_v' (j_lt rfl rfl) ?_
 refine on ?_
 refine ac rfl (fun h4 => ?_) fun h4 => ?_
 ·
  have h4r := h4
  try simp only [nq, nr] at h4
  refine a_skip ?_
  refine a_seq ?_
  refine a_block ?_
  refine rs ?_
  refine om rfl ?_
  refine op_callE1 (v := fun x ver => .own 52 ver) (hp1 := fun x ver => [(52, some (ver, .row 4 1 _))]) [] false ent22 (f_cpVals n (by omega)) ⟨.inl ⟨rfl, rfl⟩, trivial⟩ trivial rfl rfl (fun _ => rfl) (fun _ => rfl) (.inl rfl) (fun _ _ => rfl) (fun _ _ => rfl) ?_
  rintro bs52 hl52 v52x1
  try dsimp only at hl52
  dsimp only [List.cons_append, List.nil_append]
  refine op_freezeK 52 trivial rfl rfl rfl ?_
  refine oa rfl ?_
  refine on ?_
  refine a_seq ?_
  refine rs ?_
  refine om rfl ?_
  refine om rfl ?_
  refine op_v0' (j_call0 (v := .p _) (hp1 := []) [] false [] ent23 (f_sa l19 bs52) ⟨.inl ⟨rfl, rfl⟩, .inl ⟨rfl, rfl⟩, trivial⟩ trivial rfl rfl (fun h => by cases h) rfl (fun _ h => by cases h) (.inl rfl) rfl rfl) ?_
  refine op_v' (j_not rfl) ?_
  refine on ?_
  refine ac rfl (fun h5 => ?_) fun h5 => ?_
  ·
   have h5r := h5
   try simp only [nq, nr] at h5
   refine a_exit ?_
   refine ar ?_
   refine om rfl ?_
   refine op_v' (j_add rfl rfl (by first | omega | (simp only [nr]; omega)) (by first | omega | (simp only [nr]; omega))) ?_
   refine oa rfl ?_
   refine on ?_
   exact ⟨n + 1, (by first | omega | (simp only [nr]; omega)), ⟨⟨rfl, rfl⟩, ⟨rfl, trivial⟩, trivial, ⟨rfl, rfl⟩, ⟨rfl, rfl⟩⟩, (by first | omega | (simp only [nr]; omega))⟩
  have h5r := h5
  try simp only [nq, nr] at h5
  refine a_skip ?_
  refine rs ?_
  refine oa rfl ?_
  refine on ?_
  refine a_seq ?_
  refine rs ?_
  refine oa rfl ?_
  refine on ?_
  refine a_block ?_
  refine a_loopF' (ι := Nat) (fun i => i ≤ f19.length) (fun i r => (11, .p (.int .i64 ((i : Nat)))) :: (10, .p (.int .i64 ((sameN vs19 f19 bs52 i : Nat)))) :: r) (fun i r => r) (fun i => f19.length - i) (fun _ _ => rfl) (fun _ _ => rfl) 0 (Nat.zero_le _) ⟨⟨rfl, rfl⟩, ⟨rfl, rfl, trivial⟩, trivial, ⟨rfl, rfl⟩, ⟨rfl, rfl⟩⟩ ?_
  intro i hi
  refine a_seq ?_
  refine rs ?_
  refine om rfl ?_
  refine om rfl ?_
  refine op_v' (j_len_map Tryz.underlying24 rfl) ?_
  refine op_v' (j_lt rfl rfl) ?_
  refine on ?_
  refine ac rfl (fun h6 => ?_) fun h6 => ?_
  ·
   have h6r := h6
   try simp only [nq, nr] at h6
   refine a_skip ?_
   refine a_seq ?_
   refine a_block ?_
   refine rs ?_
   refine oa rfl ?_
   refine on ?_
   refine a_seq ?_
   refine rs ?_
   refine oa rfl ?_
   refine on ?_
   refine a_block ?_
   refine a_loopF' (ι := Nat) (fun k => k ≤ vs19.length) (fun k r => (13, .p (.int .i64 ((k : Nat)))) :: (12, .p (.bool ((!diffV (vs19.take k) (f19.getD i default) bs52)))) :: r) (fun k r => r) (fun k => vs19.length - k) (fun _ _ => rfl) (fun _ _ => rfl) 0 (Nat.zero_le _) ⟨⟨rfl, rfl⟩, ⟨rfl, boolEq rfl, trivial⟩, trivial, ⟨rfl, rfl⟩, ⟨rfl, rfl⟩⟩ ?_
   intro k hk
   refine a_seq ?_
   refine rs ?_
   refine om rfl ?_
   refine om rfl ?_
   refine op_v' (j_len_map Tryz.underlying23 rfl) ?_
   refine op_v' (j_lt rfl rfl) ?_
   refine on ?_
   refine ac rfl (fun h7 => ?_) fun h7 => ?_
   ·
    have h7r := h7
    try simp only [nq, nr] at h7
    refine a_skip ?_
    refine a_seq ?_
    refine a_block ?_
    have hvk := vars_at hpt.2.2.1 (k := k) (by first | omega | (simp only [nr]; omega))
    have hfl := lc_lens hlc (i := i) (by first | omega | (simp only [nr]; omega))
    have hdn := diffV_next (vs := vs19) (bs := f19.getD i default) (os := bs52) (k := k) (by first | omega | (simp only [nr]; omega))
    refine a_draw mixed (by kernel_rfl) (by kernel_rfl) fun vf => ?_
    refine d_v' (j_move (evo rfl)) ?_
    refine d_v' (j_move (evo rfl)) ?_
    refine d_split' 70 rfl (fun h8 => ?_) (fun h8 => ?_)
    ·
     have h8r := h8
     try simp only [nq, nr] at h8
     refine d_v' (j_want rfl rfl h8r (j_move (evo rfl))) ?_
     refine d_v' (j_want rfl rfl h8r (j_move (evo rfl))) ?_
     refine d_v' (j_want rfl rfl h8r (j_elemN (n := i) slt24 rfl rfl (by first | omega | (simp only [nr]; omega)) (at_map (by first | omega | (simp only [nr]; omega))) rfl)) ?_
     refine d_v' (j_want rfl rfl h8r (j_load_el leaf44 rfl (at_map (by first | omega | (simp only [nr]; omega))) rfl)) ?_
     refine d_v' (j_want rfl rfl h8r (j_move (evo rfl))) ?_
     refine d_v' (j_want rfl rfl h8r (j_move (evo rfl))) ?_
     refine d_v' (j_want rfl rfl h8r (j_elemN (n := k) slt23 rfl rfl (by first | omega | (simp only [nr]; omega)) (at_map (by first | omega | (simp only [nr]; omega))) rfl)) ?_
     refine d_v' (j_want rfl rfl h8r (j_load_el leaf3 rfl (at_map (by first | omega | (simp only [nr]; omega))) rfl)) ?_
     refine d_v' (j_want rfl rfl h8r (j_sub rfl rfl (by first | omega | (simp only [nr]; omega)) (by first | omega | (simp only [nr]; omega)))) ?_
     refine d_v' (j_want rfl rfl h8r (j_elemN (n := (vs19.getD k default - 1).toNat) slt44 rfl rfl (by first | omega | (simp only [nr]; omega)) (at_map (by first | omega | (simp only [nr]; omega))) rfl)) ?_
     refine d_v' (j_want rfl rfl h8r (j_load_el leaf4 rfl (at_map (by first | omega | (simp only [nr]; omega))) rfl)) ?_
     refine d_v' (j_want rfl rfl h8r (j_move (evo rfl))) ?_
     refine d_v' (j_want rfl rfl h8r (j_move (evo rfl))) ?_
     refine d_v' (j_want rfl rfl h8r (j_move (evo rfl))) ?_
     refine d_v' (j_want rfl rfl h8r (j_elemN (n := k) slt23 rfl rfl (by first | omega | (simp only [nr]; omega)) (at_map (by first | omega | (simp only [nr]; omega))) rfl)) ?_
     refine d_v' (j_want rfl rfl h8r (j_load_el leaf3 rfl (at_map (by first | omega | (simp only [nr]; omega))) rfl)) ?_
     refine d_v' (j_want rfl rfl h8r (j_sub rfl rfl (by first | omega | (simp only [nr]; omega)) (by first | omega | (simp only [nr]; omega)))) ?_
     refine d_v' (j_want rfl rfl h8r (j_elemN (n := (vs19.getD k default - 1).toNat) slt44 rfl rfl (by first | omega | (simp only [nr]; omega)) (at_map (by first | omega | (simp only [nr]; omega))) rfl)) ?_
     refine d_v' (j_want rfl rfl h8r (j_load_el leaf4 rfl (at_map (by first | omega | (simp only [nr]; omega))) rfl)) ?_
     refine d_v' (j_want rfl rfl h8r (j_eqb Tryz.underlying4 rfl rfl)) ?_
     refine d_v' (j_pick_t rfl h8r (evo rfl)) ?_
     refine d_v' (j_assign (evo rfl)) ?_
     refine d_nil (by kernel_rfl) (by kernel_rfl) ?_
     refine ar ?_
     refine om rfl ?_
     refine op_v' (j_add rfl rfl (by first | omega | (simp only [nr]; omega)) (by first | omega | (simp only [nr]; omega))) ?_
     refine oa rfl ?_
     refine on ?_
     exact ⟨k + 1, (by first | omega | (simp only [nr]; omega)), ⟨⟨rfl, rfl⟩, ⟨rfl, boolEq (by rw [hdn]; first | (simp_all; done) | (simp_all [bne]; done)), trivial⟩, trivial, ⟨rfl, rfl⟩, ⟨rfl, rfl⟩⟩, (by first | omega | (simp only [nr]; omega))⟩
    have h8r := h8
    try simp only [nq, nr] at h8
    refine d_v' (j_unwantV rfl rfl h8r) ?_
    refine d_v' (j_unwantV rfl rfl h8r) ?_
    refine d_v' (j_unwantV rfl rfl h8r) ?_
    refine d_v' (j_unwantV rfl rfl h8r) ?_
    refine d_v' (j_unwantV rfl rfl h8r) ?_
    refine d_v' (j_unwantV rfl rfl h8r) ?_
    refine d_v' (j_unwantV rfl rfl h8r) ?_
    refine d_v' (j_unwantV rfl rfl h8r) ?_
    refine d_v' (j_unwantV rfl rfl h8r) ?_
    refine d_v' (j_unwantV rfl rfl h8r) ?_
    refine d_v' (j_unwantV rfl rfl h8r) ?_
    refine d_v' (j_unwantV rfl rfl h8r) ?_
    refine d_v' (j_unwantV rfl rfl h8r) ?_
    refine d_v' (j_unwantV rfl rfl h8r) ?_
    refine d_v' (j_unwantV rfl rfl h8r) ?_
    refine d_v' (j_unwantV rfl rfl h8r) ?_
    refine d_v' (j_unwantV rfl rfl h8r) ?_
    refine d_v' (j_unwantV rfl rfl h8r) ?_
    refine d_v' (j_unwantV rfl rfl h8r) ?_
    refine d_v' (j_unwantV rfl rfl h8r) ?_
    refine d_v' (j_pick_f rfl h8r (evo rfl)) ?_
    refine d_v' (j_assign (evo rfl)) ?_
    refine d_nil (by kernel_rfl) (by kernel_rfl) ?_
    refine ar ?_
    refine om rfl ?_
    refine op_v' (j_add rfl rfl (by first | omega | (simp only [nr]; omega)) (by first | omega | (simp only [nr]; omega))) ?_
    refine oa rfl ?_
    refine on ?_
    exact ⟨k + 1, (by first | omega | (simp only [nr]; omega)), ⟨⟨rfl, rfl⟩, ⟨rfl, boolEq (by rw [hdn]; first | (simp_all; done) | (simp_all [bne]; done)), trivial⟩, trivial, ⟨rfl, rfl⟩, ⟨rfl, rfl⟩⟩, (by first | omega | (simp only [nr]; omega))⟩
   have h7r := h7
   try simp only [nq, nr] at h7
   refine a_exit ?_
   refine a_seq ?_
   have hvt : vs19.take k = vs19 := List.take_of_length_le (by first | omega | (simp only [nr]; omega))
   refine ar ?_
   refine om rfl ?_
   refine on ?_
   refine ac rfl (fun h9 => ?_) fun h9 => ?_
   ·
    have h9r := h9
    try simp only [nq, nr] at h9
    have hsl := same_le (vs := vs19) (f := f19) (bs := bs52) (i := i)
    refine ar ?_
    refine om rfl ?_
    refine op_v' (j_add rfl rfl (by first | omega | (simp only [nr]; omega)) (by first | omega | (simp only [nr]; omega))) ?_
    refine oa rfl ?_
    refine on ?_
    refine ar ?_
    refine om rfl ?_
    refine op_v' (j_add rfl rfl (by first | omega | (simp only [nr]; omega)) (by first | omega | (simp only [nr]; omega))) ?_
    refine oa rfl ?_
    refine on ?_
    exact ⟨i + 1, (by first | omega | (simp only [nr]; omega)), ⟨⟨rfl, rfl⟩, ⟨rfl, intEq (by rw [same_y (by first | omega | (simp only [nr]; omega)) (by have hq : (!diffV (vs19.take k) (f19.getD i default) bs52) = true := (by assumption); rw [hvt] at hq; simpa using hq)]; omega), trivial⟩, trivial, ⟨rfl, rfl⟩, ⟨rfl, rfl⟩⟩, (by first | omega | (simp only [nr]; omega))⟩
   have h9r := h9
   try simp only [nq, nr] at h9
   refine a_skip ?_
   refine ar ?_
   refine om rfl ?_
   refine op_v' (j_add rfl rfl (by first | omega | (simp only [nr]; omega)) (by first | omega | (simp only [nr]; omega))) ?_
   refine oa rfl ?_
   refine on ?_
   exact ⟨i + 1, (by first | omega | (simp only [nr]; omega)), ⟨⟨rfl, rfl⟩, ⟨rfl, intEq (by rw [same_n (by first | omega | (simp only [nr]; omega)) (by have hq : (!diffV (vs19.take k) (f19.getD i default) bs52) = false := (by assumption); rw [hvt] at hq; simpa using hq)]), trivial⟩, trivial, ⟨rfl, rfl⟩, ⟨rfl, rfl⟩⟩, (by first | omega | (simp only [nr]; omega))⟩
  have h6r := h6
  try simp only [nq, nr] at h6
  refine a_exit ?_
  refine a_seq ?_
  have hone := lc_same hlc hl52 (by assumption)
  refine ar ?_
  refine om rfl ?_
  refine op_v' (j_ne rfl rfl) ?_
  refine on ?_
  refine ac rfl (fun h10 => ?_) fun h10 => ?_
  ·
   have h10r := h10
   try simp only [nq, nr] at h10
   refine rs ?_
   refine oa rfl ?_
   refine on ?_
   refine a_ret ?_
   exfalso
   have hii : i = f19.length := by omega
   subst hii
   simp_all
  have h10r := h10
  try simp only [nq, nr] at h10
  refine a_skip ?_
  refine ar ?_
  refine om rfl ?_
  refine op_v' (j_add rfl rfl (by first | omega | (simp only [nr]; omega)) (by first | omega | (simp only [nr]; omega))) ?_
  refine oa rfl ?_
  refine on ?_
  exact ⟨n + 1, (by first | omega | (simp only [nr]; omega)), ⟨⟨rfl, rfl⟩, ⟨rfl, trivial⟩, trivial, ⟨rfl, rfl⟩, ⟨rfl, rfl⟩⟩, (by first | omega | (simp only [nr]; omega))⟩
 have h4r := h4
 try simp only [nq, nr] at h4
 refine a_exit ?_
 refine rs ?_
 refine om rfl ?_
 refine op_v' (j_len_map Tryz.underlying24 rfl) ?_
 refine om rfl ?_
 refine om rfl ?_
 refine op_v0' (j_call0 (v := .p _) (hp1 := []) [] false [] ent24 (f_cpImpl l19 vs19) ⟨.inl ⟨rfl, rfl⟩, .inl ⟨rfl, rfl⟩, trivial⟩ trivial rfl rfl (fun h => by cases h) rfl (fun _ h => by cases h) (.inl rfl) rfl rfl) ?_
 refine op_v' (j_eq rfl rfl) ?_
 refine oa rfl ?_
 refine on ?_
 refine a_ret ?_
 exact fin_p rfl ⟨boolEq (by rw [hct]; simp), rfl, rfl⟩
end Go.Ab

/- Walks. -/
import Derived.Test.YtoodaakcfelaaaaGreatBase
import Derived.Test.YtoodaakcfelaaaaGreatCub
import Derived.Test.YtoodaakcfelaaaaGreatWsprop
import Derived.Test.YtoodaakcfelaaaaGreatMod3
import Derived.Test.YtoodaakcfelaaaaGreatWsfun
import Derived.Test.YtoodaakcfelaaaaGreatWscons
import Derived.Test.YtoodaakcfelaaaaGreatSimp
import Derived.Test.YtoodaakcfelaaaaGreatVals
import Derived.Test.YtoodaakcfelaaaaGreatWstight
import Derived.Test.YtoodaakcfelaaaaGreatWsclau
import Derived.Test.YtoodaakcfelaaaaGreatWsrup
namespace Go.Ab
open Go.Proofs
set_option maxRecDepth 100000
set_option maxHeartbeats 8000000
set_option linter.unusedSimpArgs false
set_option linter.unusedVariables false
theorem f_l5Free (p : List Int) (hp : p.length = 12) : Fn Tryz.prog 188 [.sl (p.map dI)] [] (fun rr ii nn => rr = .p (.int .i64 ((freeV p : Nat))) ∧ ii = [] ∧ nn = []) := by
 refine fn_of Tryz.func188 rfl (Nat.le_of_ble_eq_true rfl) fun w X g => ?_
 show AWp _ _ _ ⟨[(0, .sl (p.map dI))], []⟩
 refine rs ?_
 refine oa rfl ?_
 refine on ?_
 refine a_seq ?_
 refine rs ?_
 refine oa rfl ?_
 refine on ?_
 refine a_block ?_
 refine a_loopF' (ι := Nat) (fun k => k ≤ p.length ∧ ∀ i, i < k → p.getD i default ≠ 0) (fun k r => (3, .p (.int .i64 ((k : Nat)))) :: r) (fun k r => r) (fun k => p.length - k) (fun _ _ => rfl) (fun _ _ => rfl) 0 ⟨Nat.zero_le _, fun i h => absurd h (Nat.not_lt_zero i)⟩ ⟨⟨rfl, rfl⟩, ⟨rfl, trivial⟩, trivial, ⟨rfl, rfl⟩, ⟨rfl, rfl⟩⟩ ?_
 intro k hk
 refine a_seq ?_
 refine rs ?_
 refine om rfl ?_
 refine om rfl ?_
 refine op_v' (j_len_map Tryz.underlying23 rfl) ?_
 refine op_v' (j_lt rfl rfl) ?_
 refine on ?_
 refine ac rfl (fun h1 => ?_) fun h1 => ?_
 ·
  have h1r := h1
  try simp only [nq, nr, nl] at h1
  refine a_skip ?_
  refine a_seq ?_
  refine a_block ?_
  refine rs ?_
  refine om rfl ?_
  refine om rfl ?_
  refine op_v' (j_elemN slt23 rfl rfl rfl (at_map (by first | omega | (simp only [nr, nl]; omega))) rfl) ?_
  refine op_v' (j_load_el leaf3 rfl (at_map (by first | omega | (simp only [nr, nl]; omega))) rfl) ?_
  refine op_v' (j_eq rfl rfl) ?_
  refine on ?_
  refine ac rfl (fun h2 => ?_) fun h2 => ?_
  ·
   have h2r := h2
   try simp only [nq, nr, nl] at h2
   refine rs ?_
   refine om rfl ?_
   refine op_v' (j_add rfl rfl (by first | omega | (simp only [nr, nl]; omega)) (by first | omega | (simp only [nr, nl]; omega))) ?_
   refine oa rfl ?_
   refine on ?_
   refine a_ret ?_
   have hfv := freeV_hit (p := p) (k := k) (by omega) (by assumption) hk.2
   exact fin_p rfl ⟨by rw [hfv]; rfl, rfl, rfl⟩
  have h2r := h2
  try simp only [nq, nr, nl] at h2
  refine a_skip ?_
  refine ar ?_
  refine om rfl ?_
  refine op_v' (j_add rfl rfl (by first | omega | (simp only [nr, nl]; omega)) (by first | omega | (simp only [nr, nl]; omega))) ?_
  refine oa rfl ?_
  refine on ?_
  exact ⟨k + 1, ⟨by omega, fun i hi => by rcases Nat.lt_succ_iff_lt_or_eq.1 hi with q | q; (· exact hk.2 i q); (· subst q; assumption)⟩, ⟨⟨rfl, rfl⟩, ⟨rfl, trivial⟩, trivial, ⟨rfl, rfl⟩, ⟨rfl, rfl⟩⟩, (by first | omega | (simp only [nr, nl]; omega))⟩
 have h1r := h1
 try simp only [nq, nr, nl] at h1
 refine a_exit ?_
 refine rs ?_
 refine oa rfl ?_
 refine on ?_
 refine a_ret ?_
 have hfv := freeV_none (p := p) (fun i hi => hk.2 i (by omega))
 exact fin_p rfl ⟨by rw [hfv]; rfl, rfl, rfl⟩
theorem f_l5Learn (A S : List Con) (fu : Int) (D : List Int) (h : asc D) (hA : A.length ≤ 2000) (hS : S.length ≤ 2000) : Fn Tryz.prog 187 [.agg [.own 0 0, .own 1 0, .p (.int .i64 fu)], .sl (D.map dI)] [.row 69 2 ((A).map dC), .row 89 5 ((S).map dSt)] (fun rr ii nn => rr = .agg [.own 2 0, .own 3 0, .p (.int .i64 fu)] ∧ ii = [.gone, .gone] ∧ nn = [.row 69 2 ((A ++ [cle D]).map dC), .row 89 5 ((S ++ [cle D]).map dSt)]) := by
 refine fn_of Tryz.func187 rfl (Nat.le_of_ble_eq_true rfl) fun w X g => ?_
 show AWp _ _ _ ⟨[(0, .agg [.own 0 0, .own 1 0, .p (.int .i64 fu)]), (1, .sl (D.map dI))], [(0, some (0, .row 69 2 ((A).map dC))), (1, some (0, .row 89 5 ((S).map dSt)))]⟩
 have hl12 := asc_len h
 have hcl := cle_len h
 refine rs ?_
 refine op_n' (fun ver => j_boxaI 1010 rfl) fun v1010x1 => ?_
 refine op_n' (fun ver => j_alloc elt162 rfl) fun v4x2 => ?_
 refine on ?_
 refine rs ?_
 refine op_n' (fun ver => j_buildSlice (parts := []) (es := []) slt23 elt3 rfl rfl (by decide) (by decide) rfl rfl (by simp) rfl) fun v9x3 => ?_
 refine oa rfl ?_
 refine on ?_
 refine a_seq ?_
 refine rs ?_
 refine oa rfl ?_
 refine on ?_
 refine a_block ?_
 refine a_loopF' (ι := Nat × Nat) (fun x => x.1 ≤ D.length) (fun x r => (6, .p (.int .i64 ((x.1 : Nat)))) :: (5, .own 9 x.2) :: r) (fun x r => (9, some (x.2, .row 3 1 ((negL (D.take x.1)).map dI))) :: r) (fun x => D.length - x.1) (fun _ _ => rfl) (fun _ _ => rfl) (0, v9x3) (by first | exact (Nat.zero_le _) | (dsimp only; exact (Nat.zero_le _))) ⟨⟨rfl, rfl⟩, ⟨rfl, rfl, trivial⟩, ⟨rfl, trivial⟩, ⟨rfl, rfl⟩, ⟨rfl, rfl⟩⟩ ?_
 rintro ⟨k, v⟩ hk; dsimp only at hk ⊢
 refine a_seq ?_
 refine rs ?_
 refine om rfl ?_
 refine om rfl ?_
 refine op_v' (j_len_map Tryz.underlying23 rfl) ?_
 refine op_v' (j_lt rfl rfl) ?_
 refine on ?_
 refine ac rfl (fun h1 => ?_) fun h1 => ?_
 ·
  have h1r := h1
  try simp only [nq, nr, nl, negL_len] at h1
  refine a_skip ?_
  refine a_seq ?_
  refine a_block ?_
  have hli := litOk_iff.1 (asc_at h (k := k) (by first | omega | (simp only [nr, nl, negL_len]; omega)))
  refine ar ?_
  refine om rfl ?_
  refine om rfl ?_
  refine om rfl ?_
  refine op_v' (j_elemN slt23 rfl rfl rfl (at_map (by first | omega | (simp only [nr, nl, negL_len]; omega))) rfl) ?_
  refine op_v' (j_load_el leaf3 rfl (at_map (by first | omega | (simp only [nr, nl, negL_len]; omega))) rfl) ?_
  refine op_v' (j_neg rfl (by first | omega | (simp only [nr, nl, negL_len]; omega)) (by first | omega | (simp only [nr, nl, negL_len]; omega))) ?_
  refine op_n' (fun ver => j_buildSlice (parts := [(0, .tmp 21)]) (es := [[_]]) slt23 elt3 rfl rfl (by decide) (by decide) rfl rfl (by simp) rfl) fun v22x4 => ?_
  refine op_n' (fun ver => j_append_own slt23 elt3 rfl rfl rfl rfl rfl rfl (by rw [maxLen_eq]; first | omega | (simp only [nr, nl, negL_len]; omega)) (by first | omega | (simp only [nr, nl, negL_len]; omega))) fun v9x5 => ?_
  refine oa rfl ?_
  refine on ?_
  refine ar ?_
  refine om rfl ?_
  refine op_v' (j_add rfl rfl (by first | omega | (simp only [nr, nl, negL_len]; omega)) (by first | omega | (simp only [nr, nl, negL_len]; omega))) ?_
  refine oa rfl ?_
  refine on ?_
  exact ⟨(k + 1, v9x5), (by first | exact (by first | omega | (simp only [nr, nl, negL_len]; omega)) | (dsimp only; exact (by first | omega | (simp only [nr, nl, negL_len]; omega)))), ⟨⟨rfl, rfl⟩, ⟨rfl, rfl, trivial⟩, ⟨rowEq (by dsimp only; rw [negL_take (by first | omega | (simp only [nr, nl, negL_len]; omega)), List.map_append]; rfl), trivial⟩, ⟨rfl, rfl⟩, ⟨rfl, rfl⟩⟩, (by first | exact (by first | omega | (simp only [nr, nl, negL_len]; omega)) | (dsimp only; exact (by first | omega | (simp only [nr, nl, negL_len]; omega))))⟩
 have h1r := h1
 try simp only [nq, nr, nl, negL_len] at h1
 refine a_exit ?_
 refine a_seq ?_
 refine a_row 9 (es' := (negL D).map dI) rfl (by rw [List.take_of_length_le (by first | omega | (simp only [nr, nl, negL_len]; omega))]) ?_
 refine a_freezeK 5 ⟨⟨_, _, _, rfl⟩, ⟨_, _, _, rfl⟩, trivial⟩ rfl rfl rfl ?_
 refine ar ?_
 refine om rfl ?_
 refine op_v0' (j_call0 (v := .tup [.agg [.sl _, .p _], .p _]) (hp1 := []) [] false [] ent191 (f_clauseSpec (negL D) (asc_negL h)) ⟨.inl ⟨rfl, rfl⟩, trivial⟩ trivial rfl rfl (fun h => by cases h) rfl (fun _ h => by cases h) (.inl rfl) rfl rfl) ?_
 refine om rfl ?_
 refine op_v' (j_extract rfl rfl) ?_
 refine op_v' (j_extract rfl rfl) ?_
 refine op_n' (fun ver => j_alloc elt69 rfl) fun v7x6 => ?_
 refine op_s' (j_storea_box0 agg69 rfl rfl rfl rfl rfl rfl) ?_
 refine oa rfl ?_
 refine on ?_
 refine a_mvB (i := 0) 1010 0 1001 (by decide) (by decide) rfl rfl rfl rfl fun v1001x7 => ?_
 try dsimp only [List.set]
 refine a_mvB (i := 1) 1010 1 1002 (by decide) (by decide) rfl rfl rfl rfl fun v1002x8 => ?_
 try dsimp only [List.set]
 refine rs ?_
 refine op_v' (j_fldp fld162f0 rfl rfl) ?_
 refine op_v' (j_load_box leaf30 rfl rfl rfl) ?_
 refine op_v' (j_loada_box (ys := [.sl _, .p _]) agg69 rfl rfl rfl (Nat.le_of_ble_eq_true rfl)) ?_
 refine op_n' (fun ver => j_buildSlice (parts := [(0, .tmp 31)]) (es := [[_, _]]) slt30 elt69 rfl rfl (by decide) (by decide) rfl rfl (by simp) rfl) fun v32x9 => ?_
 refine op_n' (fun ver => j_append_own slt30 elt69 rfl rfl rfl rfl rfl rfl (by rw [maxLen_eq]; first | omega | (simp only [nr, nl, negL_len]; omega)) (by first | omega | (simp only [nr, nl, negL_len]; omega))) fun v1001x10 => ?_
 refine op_v' (j_fldp fld162f0 rfl rfl) ?_
 refine op_s' (j_store_box leaf30 rfl rfl (Nat.le_of_ble_eq_true rfl) (evo rfl) rfl) ?_
 refine on ?_
 refine rs ?_
 refine op_v' (j_fldp fld162f1 rfl rfl) ?_
 refine op_v' (j_load_box leaf34 rfl rfl rfl) ?_
 refine op_v' (j_loada_box (ys := [.sl _, .p _]) agg69 rfl rfl rfl (Nat.le_of_ble_eq_true rfl)) ?_
 refine op_v' (j_build (parts := [(0, .const (.int .i64 7)), (3, .tmp 37)]) str89 elt89 rfl rfl) ?_
 refine op_n' (fun ver => j_buildSlice (parts := [(0, .tmp 38)]) (es := [[_, _, _, _, _]]) slt34 elt89 rfl rfl (by decide) (by decide) rfl rfl (by simp) rfl) fun v39x11 => ?_
 refine op_n' (fun ver => j_append_own slt34 elt89 rfl rfl rfl rfl rfl rfl (by rw [maxLen_eq]; first | omega | (simp only [nr, nl, negL_len]; omega)) (by first | omega | (simp only [nr, nl, negL_len]; omega))) fun v1002x12 => ?_
 refine op_v' (j_fldp fld162f1 rfl rfl) ?_
 refine op_s' (j_store_box leaf34 rfl rfl (Nat.le_of_ble_eq_true rfl) (evo rfl) rfl) ?_
 refine on ?_
 refine rs ?_
 refine op_v' (j_loada_box (ys := [.own 1001 v1001x10, .own 1002 v1002x12, .p _]) agg162 rfl rfl rfl (Nat.le_of_ble_eq_true rfl)) ?_
 refine op_s' (j_storea_box0 agg162 rfl rfl rfl rfl rfl rfl) ?_
 refine on ?_
 refine a_ret ?_
 exact ⟨[.agg [.own 1001 v1001x10, .own 1002 v1002x12, .p _]], .agg [.own 2 0, .own 3 0, .p _], [.gone, .gone], [.row 69 2 _, .row 89 5 _], [(1001, v1001x10), (1002, v1002x12)], ⟨⟨_, _, _, _, rfl, rfl, agg162, rfl⟩, trivial⟩, rfl, rfl, ⟨⟨rfl, rfl⟩, ⟨rfl, rfl⟩, ⟨rfl, rfl⟩, ⟨rfl, rfl⟩, trivial⟩, rfl, rfl, ⟨rfl, rfl, by rw [dSt_snoc, List.map_append]; rfl⟩⟩
theorem f_l5LearnO (A S : List Con) (fu : Int) (D : List Int) (h : asc D) (hA : A.length ≤ 2000) (hS : S.length ≤ 2000) : Fn Tryz.prog 187 [.agg [.own 0 0, .own 1 0, .p (.int .i64 fu)], .own 2 0] [.row 69 2 ((A).map dC), .row 89 5 ((S).map dSt), .row 3 1 (D.map dI)] (fun rr ii nn => rr = .agg [.own 3 0, .own 4 0, .p (.int .i64 fu)] ∧ ii = [.gone, .gone, .row 3 1 (D.map dI)] ∧ nn = [.row 69 2 ((A ++ [cle D]).map dC), .row 89 5 ((S ++ [cle D]).map dSt)]) := by
 refine fn_of Tryz.func187 rfl (Nat.le_of_ble_eq_true rfl) fun w X g => ?_
 show AWp _ _ _ ⟨[(0, .agg [.own 0 0, .own 1 0, .p (.int .i64 fu)]), (1, .own 2 0)], [(0, some (0, .row 69 2 ((A).map dC))), (1, some (0, .row 89 5 ((S).map dSt))), (2, some (0, .row 3 1 (D.map dI)))]⟩
 have hl12 := asc_len h
 have hcl := cle_len h
 refine rs ?_
 refine op_n' (fun ver => j_boxaI 1010 rfl) fun v1010x1 => ?_
 refine op_n' (fun ver => j_alloc elt162 rfl) fun v4x2 => ?_
 refine on ?_
 refine rs ?_
 refine op_n' (fun ver => j_buildSlice (parts := []) (es := []) slt23 elt3 rfl rfl (by decide) (by decide) rfl rfl (by simp) rfl) fun v9x3 => ?_
 refine oa rfl ?_
 refine on ?_
 refine a_seq ?_
 refine rs ?_
 refine oa rfl ?_
 refine on ?_
 refine a_block ?_
 refine a_loopF' (ι := Nat × Nat) (fun x => x.1 ≤ D.length) (fun x r => (6, .p (.int .i64 ((x.1 : Nat)))) :: (5, .own 9 x.2) :: r) (fun x r => (9, some (x.2, .row 3 1 ((negL (D.take x.1)).map dI))) :: r) (fun x => D.length - x.1) (fun _ _ => rfl) (fun _ _ => rfl) (0, v9x3) (by first | exact (Nat.zero_le _) | (dsimp only; exact (Nat.zero_le _))) ⟨⟨rfl, rfl⟩, ⟨rfl, rfl, trivial⟩, ⟨rfl, trivial⟩, ⟨rfl, rfl⟩, ⟨rfl, rfl⟩⟩ ?_
 rintro ⟨k, v⟩ hk; dsimp only at hk ⊢
 refine a_seq ?_
 refine rs ?_
 refine om rfl ?_
 refine om rfl ?_
 refine op_v' (j_len_own_map Tryz.underlying23 rfl rfl) ?_
 refine op_v' (j_lt rfl rfl) ?_
 refine on ?_
 refine ac rfl (fun h1 => ?_) fun h1 => ?_
 ·
  have h1r := h1
  try simp only [nq, nr, nl, negL_len] at h1
  refine a_skip ?_
  refine a_seq ?_
  refine a_block ?_
  have hli := litOk_iff.1 (asc_at h (k := k) (by first | omega | (simp only [nr, nl, negL_len]; omega)))
  refine ar ?_
  refine om rfl ?_
  refine om rfl ?_
  refine om rfl ?_
  refine op_v' (j_elem_ownN slt23 rfl rfl rfl rfl (by first | omega | (simp only [nr, nl, negL_len]; omega))) ?_
  refine op_v' (j_load_pel leaf3 rfl rfl (at_map (by first | omega | (simp only [nr, nl, negL_len]; omega))) rfl) ?_
  refine op_v' (j_neg rfl (by first | omega | (simp only [nr, nl, negL_len]; omega)) (by first | omega | (simp only [nr, nl, negL_len]; omega))) ?_
  refine op_n' (fun ver => j_buildSlice (parts := [(0, .tmp 21)]) (es := [[_]]) slt23 elt3 rfl rfl (by decide) (by decide) rfl rfl (by simp) rfl) fun v22x4 => ?_
  refine op_n' (fun ver => j_append_own slt23 elt3 rfl rfl rfl rfl rfl rfl (by rw [maxLen_eq]; first | omega | (simp only [nr, nl, negL_len]; omega)) (by first | omega | (simp only [nr, nl, negL_len]; omega))) fun v9x5 => ?_
  refine oa rfl ?_
  refine on ?_
  refine ar ?_
  refine om rfl ?_
  refine op_v' (j_add rfl rfl (by first | omega | (simp only [nr, nl, negL_len]; omega)) (by first | omega | (simp only [nr, nl, negL_len]; omega))) ?_
  refine oa rfl ?_
  refine on ?_
  exact ⟨(k + 1, v9x5), (by first | exact (by first | omega | (simp only [nr, nl, negL_len]; omega)) | (dsimp only; exact (by first | omega | (simp only [nr, nl, negL_len]; omega)))), ⟨⟨rfl, rfl⟩, ⟨rfl, rfl, trivial⟩, ⟨rowEq (by dsimp only; rw [negL_take (by first | omega | (simp only [nr, nl, negL_len]; omega)), List.map_append]; rfl), trivial⟩, ⟨rfl, rfl⟩, ⟨rfl, rfl⟩⟩, (by first | exact (by first | omega | (simp only [nr, nl, negL_len]; omega)) | (dsimp only; exact (by first | omega | (simp only [nr, nl, negL_len]; omega))))⟩
 have h1r := h1
 try simp only [nq, nr, nl, negL_len] at h1
 refine a_exit ?_
 refine a_seq ?_
 refine a_row 9 (es' := (negL D).map dI) rfl (by rw [List.take_of_length_le (by first | omega | (simp only [nr, nl, negL_len]; omega))]) ?_
 refine a_freezeK 5 ⟨⟨_, _, _, rfl⟩, ⟨_, _, _, rfl⟩, ⟨_, _, _, rfl⟩, trivial⟩ rfl rfl rfl ?_
 refine ar ?_
 refine om rfl ?_
 refine op_v0' (j_call0 (v := .tup [.agg [.sl _, .p _], .p _]) (hp1 := []) [] false [] ent191 (f_clauseSpec (negL D) (asc_negL h)) ⟨.inl ⟨rfl, rfl⟩, trivial⟩ trivial rfl rfl (fun h => by cases h) rfl (fun _ h => by cases h) (.inl rfl) rfl rfl) ?_
 refine om rfl ?_
 refine op_v' (j_extract rfl rfl) ?_
 refine op_v' (j_extract rfl rfl) ?_
 refine op_n' (fun ver => j_alloc elt69 rfl) fun v7x6 => ?_
 refine op_s' (j_storea_box0 agg69 rfl rfl rfl rfl rfl rfl) ?_
 refine oa rfl ?_
 refine on ?_
 refine a_mvB (i := 0) 1010 0 1001 (by decide) (by decide) rfl rfl rfl rfl fun v1001x7 => ?_
 try dsimp only [List.set]
 refine a_mvB (i := 1) 1010 1 1002 (by decide) (by decide) rfl rfl rfl rfl fun v1002x8 => ?_
 try dsimp only [List.set]
 refine rs ?_
 refine op_v' (j_fldp fld162f0 rfl rfl) ?_
 refine op_v' (j_load_box leaf30 rfl rfl rfl) ?_
 refine op_v' (j_loada_box (ys := [.sl _, .p _]) agg69 rfl rfl rfl (Nat.le_of_ble_eq_true rfl)) ?_
 refine op_n' (fun ver => j_buildSlice (parts := [(0, .tmp 31)]) (es := [[_, _]]) slt30 elt69 rfl rfl (by decide) (by decide) rfl rfl (by simp) rfl) fun v32x9 => ?_
 refine op_n' (fun ver => j_append_own slt30 elt69 rfl rfl rfl rfl rfl rfl (by rw [maxLen_eq]; first | omega | (simp only [nr, nl, negL_len]; omega)) (by first | omega | (simp only [nr, nl, negL_len]; omega))) fun v1001x10 => ?_
 refine op_v' (j_fldp fld162f0 rfl rfl) ?_
 refine op_s' (j_store_box leaf30 rfl rfl (Nat.le_of_ble_eq_true rfl) (evo rfl) rfl) ?_
 refine on ?_
 refine rs ?_
 refine op_v' (j_fldp fld162f1 rfl rfl) ?_
 refine op_v' (j_load_box leaf34 rfl rfl rfl) ?_
 refine op_v' (j_loada_box (ys := [.sl _, .p _]) agg69 rfl rfl rfl (Nat.le_of_ble_eq_true rfl)) ?_
 refine op_v' (j_build (parts := [(0, .const (.int .i64 7)), (3, .tmp 37)]) str89 elt89 rfl rfl) ?_
 refine op_n' (fun ver => j_buildSlice (parts := [(0, .tmp 38)]) (es := [[_, _, _, _, _]]) slt34 elt89 rfl rfl (by decide) (by decide) rfl rfl (by simp) rfl) fun v39x11 => ?_
 refine op_n' (fun ver => j_append_own slt34 elt89 rfl rfl rfl rfl rfl rfl (by rw [maxLen_eq]; first | omega | (simp only [nr, nl, negL_len]; omega)) (by first | omega | (simp only [nr, nl, negL_len]; omega))) fun v1002x12 => ?_
 refine op_v' (j_fldp fld162f1 rfl rfl) ?_
 refine op_s' (j_store_box leaf34 rfl rfl (Nat.le_of_ble_eq_true rfl) (evo rfl) rfl) ?_
 refine on ?_
 refine rs ?_
 refine op_v' (j_loada_box (ys := [.own 1001 v1001x10, .own 1002 v1002x12, .p _]) agg162 rfl rfl rfl (Nat.le_of_ble_eq_true rfl)) ?_
 refine op_s' (j_storea_box0 agg162 rfl rfl rfl rfl rfl rfl) ?_
 refine on ?_
 refine a_ret ?_
 exact ⟨[.agg [.own 1001 v1001x10, .own 1002 v1002x12, .p _]], .agg [.own 3 0, .own 4 0, .p _], [.gone, .gone, .row 3 1 _], [.row 69 2 _, .row 89 5 _], [(1001, v1001x10), (1002, v1002x12)], ⟨⟨_, _, _, _, rfl, rfl, agg162, rfl⟩, trivial⟩, rfl, rfl, ⟨⟨rfl, rfl⟩, ⟨rfl, rfl⟩, ⟨rfl, rfl⟩, ⟨rfl, rfl⟩, ⟨rfl, rfl⟩, trivial⟩, rfl, rfl, ⟨rfl, rfl, by rw [dSt_snoc, List.map_append]; rfl⟩⟩
end Go.Ab

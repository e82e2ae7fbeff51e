/- Walks. -/
import Derived.Test.YtoodaakcfelaaaaGreatBase
import Derived.Test.YtoodaakcfelaaaaGreatSimp
import Derived.Test.YtoodaakcfelaaaaGreatWsfix
import Derived.Test.YtoodaakcfelaaaaGreatWsdrawd
import Derived.Test.YtoodaakcfelaaaaGreatWstab
namespace Go.Ab
open Go.Proofs
set_option maxRecDepth 100000
set_option maxHeartbeats 8000000
set_option linter.unusedSimpArgs false
set_option linter.unusedVariables false
theorem f_clauseSpec (ls : List Int) (h : okFrom 0 (ls.map oneL) = true) : Fn Tryz.prog 191 [.sl (ls.map dI)] [] (fun rr ii nn => rr = .tup [.agg [.sl ((ls.map oneL).map dT), .p (.int .i64 1)], .p (.bool true)] ∧ ii = [] ∧ nn = []) := by
 refine fn_of Tryz.func191 rfl (Nat.le_of_ble_eq_true rfl) fun w X g => ?_
 show AWp _ _ _ ⟨[(0, .sl (ls.map dI))], []⟩
 have hll := lits_len h
 refine rs ?_
 refine op_n' (fun ver => j_alloc elt69 rfl) fun v2x1 => ?_
 refine oa rfl ?_
 refine on ?_
 refine rs ?_
 refine op_n' (fun ver => j_make (n := 13) slt23 elt3 rfl rfl (by decide) rfl rfl rfl rfl (by first | omega | (simp only [nr, nl, rowS_len]; omega)) (by rw [maxLen_eq]; first | omega | (simp only [nr, nl, rowS_len]; omega))) fun v9x2 => ?_
 refine oa rfl ?_
 refine on ?_
 refine a_row 9 (es' := (rowS []).map dI) rfl rowS_nil.symm ?_
 refine a_seq ?_
 refine rs ?_
 refine om rfl ?_
 refine op_v' (j_len_map Tryz.underlying23 rfl) ?_
 refine op_v' (j_gt rfl rfl) ?_
 refine on ?_
 refine ac rfl (fun h1 => ?_) fun h1 => ?_
 ·
  have h1r := h1
  try simp only [nq, nr, nl, rowS_len] at h1
  exact absurd (of_decide_eq_true h1r) (by omega)
 have h1r := h1
 try simp only [nq, nr, nl, rowS_len] at h1
 refine a_skip ?_
 refine a_seq ?_
 refine rs ?_
 refine oa rfl ?_
 refine on ?_
 refine a_block ?_
 refine a_loopF' (ι := Nat) (fun k => k ≤ ls.length) (fun k r => (5, .p (.int .i64 ((k : Nat)))) :: r) (fun k r => (9, some (v9x2, .row 3 1 ((rowS (ls.take k)).map dI))) :: r) (fun k => ls.length - k) (fun _ _ => rfl) (fun _ _ => rfl) 0 (by first | omega | (simp only [nr, nl, rowS_len]; omega)) ⟨⟨rfl, rfl⟩, ⟨rfl, trivial⟩, ⟨rfl, trivial⟩, ⟨rfl, rfl⟩, ⟨rfl, rfl⟩⟩ ?_
 intro k hpre0
 refine a_seq ?_
 refine rs ?_
 refine om rfl ?_
 refine om rfl ?_
 refine op_v' (j_len_map Tryz.underlying23 rfl) ?_
 refine op_v' (j_lt rfl rfl) ?_
 refine on ?_
 refine ac rfl (fun h2 => ?_) fun h2 => ?_
 ·
  have h2r := h2
  try simp only [nq, nr, nl, rowS_len] at h2
  refine a_skip ?_
  refine a_seq ?_
  refine a_block ?_
  refine a_seq ?_
  refine a_seq ?_
  have hlo := lit_ok h (k := k) (by omega)
  have hli := litOk_iff.1 hlo
  have hvo : varOf (ls.getD k default) = max (ls.getD k default) (-(ls.getD k default)) := rfl
  have hs0 : (rowS (ls.take k)).getD (varOf (ls.getD k default)).toNat default = 0 := by rw [rowS_at (by omega), Int.toNat_of_nonneg (by omega)]; exact seen_0 (lit_apart h (by omega))
  refine ar ?_
  refine om rfl ?_
  refine om rfl ?_
  refine op_v' (j_elemN slt23 rfl rfl rfl (at_map (by first | omega | (simp only [nr, nl, rowS_len]; omega))) rfl) ?_
  refine op_v' (j_load_el leaf3 rfl (at_map (by first | omega | (simp only [nr, nl, rowS_len]; omega))) rfl) ?_
  refine op_v0' (j_call0 (v := .p _) (hp1 := []) [] false [] ent170 (f_l1Lit _) ⟨.inl ⟨rfl, rfl⟩, trivial⟩ trivial rfl rfl (fun h => by cases h) rfl (fun _ h => by cases h) (.inl rfl) rfl rfl) ?_
  refine op_v' (j_not rfl) ?_
  refine on ?_
  refine ac rfl (fun h3 => ?_) fun h3 => ?_
  ·
   have h3r := h3
   try simp only [nq, nr, nl, rowS_len] at h3
   exact absurd h3r (by rw [hlo]; decide)
  have h3r := h3
  try simp only [nq, nr, nl, rowS_len] at h3
  refine a_skip ?_
  refine rs ?_
  refine om rfl ?_
  refine om rfl ?_
  refine op_v' (j_elemN slt23 rfl rfl rfl (at_map (by first | omega | (simp only [nr, nl, rowS_len]; omega))) rfl) ?_
  refine op_v' (j_load_el leaf3 rfl (at_map (by first | omega | (simp only [nr, nl, rowS_len]; omega))) rfl) ?_
  refine op_v0' (j_call0 (v := .p _) (hp1 := []) [] false [] ent171 (f_l1Abs _ (by first | omega | (simp only [nr, nl, rowS_len]; omega))) ⟨.inl ⟨rfl, rfl⟩, trivial⟩ trivial rfl rfl (fun h => by cases h) rfl (fun _ h => by cases h) (.inl rfl) rfl rfl) ?_
  refine oa rfl ?_
  refine on ?_
  refine a_seq ?_
  refine a_seq ?_
  refine a_draw mixed (by kernel_rfl) (by kernel_rfl) fun vf => ?_
  refine d_v' (j_move (evo rfl)) ?_
  refine d_v' (j_move (evo rfl)) ?_
  refine d_v' (j_elem_ownN (n := (varOf (ls.getD k default)).toNat) slt23 rfl rfl rfl (by first | omega | (simp only [nr, nl, rowS_len]; omega)) (by first | omega | (simp only [nr, nl, rowS_len]; omega))) ?_
  refine d_v' (j_load_pel leaf3 rfl rfl (at_map (by first | omega | (simp only [nr, nl, rowS_len]; omega))) rfl) ?_
  refine d_v' (j_move (evo rfl)) ?_
  refine d_v' (j_move (evo rfl)) ?_
  refine d_v' (j_elemN slt23 rfl rfl rfl (at_map (by first | omega | (simp only [nr, nl, rowS_len]; omega))) rfl) ?_
  refine d_v' (j_load_el leaf3 rfl (at_map (by first | omega | (simp only [nr, nl, rowS_len]; omega))) rfl) ?_
  refine d_v' (j_neg rfl (by first | omega | (simp only [nr, nl, rowS_len]; omega)) (by first | omega | (simp only [nr, nl, rowS_len]; omega))) ?_
  refine d_v' (j_eq rfl rfl) ?_
  refine d_nil (by kernel_rfl) (by kernel_rfl) ?_
  refine ac rfl (fun h4 => ?_) fun h4 => ?_
  ·
   have h4r := h4
   try simp only [nq, nr, nl, rowS_len] at h4
   exact absurd (of_decide_eq_true h4r) (by rw [hs0]; omega)
  have h4r := h4
  try simp only [nq, nr, nl, rowS_len] at h4
  refine a_skip ?_
  refine ar ?_
  refine om rfl ?_
  refine om rfl ?_
  refine om rfl ?_
  refine om rfl ?_
  refine op_v' (j_elemN slt23 rfl rfl rfl (at_map (by first | omega | (simp only [nr, nl, rowS_len]; omega))) rfl) ?_
  refine op_v' (j_load_el leaf3 rfl (at_map (by first | omega | (simp only [nr, nl, rowS_len]; omega))) rfl) ?_
  refine op_v' (j_elem_ownN (n := (varOf (ls.getD k default)).toNat) slt23 rfl rfl rfl (by first | omega | (simp only [nr, nl, rowS_len]; omega)) (by first | omega | (simp only [nr, nl, rowS_len]; omega))) ?_
  refine op_s' (j_store_row leaf3 rfl rfl (by first | omega | (simp only [nr, nl, rowS_len]; omega)) (evo rfl) rfl rfl) ?_
  refine on ?_
  refine ar ?_
  refine om rfl ?_
  refine op_v' (j_add rfl rfl (by first | omega | (simp only [nr, nl, rowS_len]; omega)) (by first | omega | (simp only [nr, nl, rowS_len]; omega))) ?_
  refine oa rfl ?_
  refine on ?_
  exact ⟨k + 1, (by first | omega | (simp only [nr, nl, rowS_len]; omega)), ⟨⟨rfl, rfl⟩, ⟨rfl, trivial⟩, ⟨rowEq (rowS_set h (by omega)), trivial⟩, ⟨rfl, rfl⟩, ⟨rfl, rfl⟩⟩, (by first | omega | (simp only [nr, nl, rowS_len]; omega))⟩
 have h2r := h2
 try simp only [nq, nr, nl, rowS_len] at h2
 refine a_exit ?_
 refine rs ?_
 refine op_v' (j_build (parts := [(1, .const (.int .i64 1))]) str69 elt69 rfl rfl) ?_
 refine op_n' (fun ver => j_alloc elt69 rfl) fun v7x3 => ?_
 refine op_s' (j_storea_box0 agg69 rfl rfl rfl rfl rfl rfl) ?_
 refine on ?_
 refine a_adopt_box' 0 1007 135 2 (by decide) (id := 7) rfl rfl fun v1007x4 => ?_
 refine a_seq ?_
 refine rs ?_
 refine oa rfl ?_
 refine on ?_
 refine a_block ?_
 refine a_loopF' (ι := Nat × Nat) (fun x => x.1 ≤ 12) (fun x r => (8, .p (.int .i64 ((x.1 : Nat) + 1))) :: r) (fun x r => (7, some (v7x3, .box 69 [.own 1007 x.2, .p (.int .i64 1)])) :: (1007, some (x.2, .row 135 2 (((filtN ls (x.1 : Int)).map oneL).map dT))) :: r) (fun x => 12 - x.1) (fun _ _ => rfl) (fun _ _ => rfl) (0, v1007x4) (by first | exact (Nat.zero_le _) | (dsimp only; exact (Nat.zero_le _))) ⟨⟨rfl, rfl⟩, ⟨rfl, trivial⟩, ⟨rfl, rowEq (by rw [show filtN ls ((0 : Nat) : Int) = [] from filt_gt h (Int.le_refl 0)]; rfl), trivial⟩, ⟨rfl, rfl⟩, ⟨rfl, rfl⟩⟩ ?_
 rintro ⟨v, vr⟩ hpv; dsimp only at hpv ⊢; obtain rfl : k = ls.length := (by omega); rw [List.take_length]; have hfl : (filtN ls (v : Int)).length ≤ ls.length := List.length_filter_le ..
 refine a_seq ?_
 refine rs ?_
 refine om rfl ?_
 refine op_v' (j_le rfl rfl) ?_
 refine on ?_
 refine ac rfl (fun h5 => ?_) fun h5 => ?_
 ·
  have h5r := h5
  try simp only [nq, nr, nl, rowS_len] at h5
  have hra : (rowS ls).getD (v + 1) default = seenG ls ((v : Int) + 1) := rowS_at (by omega)
  refine a_skip ?_
  refine a_seq ?_
  refine a_block ?_
  refine rs ?_
  refine om rfl ?_
  refine om rfl ?_
  refine op_v' (j_elem_ownN (n := v + 1) slt23 rfl rfl rfl (by first | omega | (simp only [nr, nl, rowS_len]; omega)) (by first | omega | (simp only [nr, nl, rowS_len]; omega))) ?_
  refine op_v' (j_load_pel leaf3 rfl rfl (at_map (by first | omega | (simp only [nr, nl, rowS_len]; omega))) rfl) ?_
  refine op_v' (j_ne rfl rfl) ?_
  refine on ?_
  refine ac rfl (fun h6 => ?_) fun h6 => ?_
  ·
   have h6r := h6
   try simp only [nq, nr, nl, rowS_len] at h6
   refine a_draw mixed (by kernel_rfl) (by kernel_rfl) fun vf => ?_
   refine d_v' (j_fldp fld69f0 rfl rfl) ?_
   refine d_v' (j_load_box leaf67 rfl rfl rfl) ?_
   refine d_v' (j_move (evo rfl)) ?_
   refine d_v' (j_move (evo rfl)) ?_
   refine d_v' (j_elem_ownN (n := v + 1) slt23 rfl rfl rfl (by first | omega | (simp only [nr, nl, rowS_len]; omega)) (by first | omega | (simp only [nr, nl, rowS_len]; omega))) ?_
   refine d_v' (j_load_pel leaf3 rfl rfl (at_map (by first | omega | (simp only [nr, nl, rowS_len]; omega))) rfl) ?_
   refine d_v' (j_build (parts := [(0, .const (.int .i64 1)), (1, .tmp 65)]) str135 elt135 rfl rfl) ?_
   refine d_n' (fun ver => j_buildSlice (parts := [(0, .tmp 66)]) (es := [[_, _]]) slt67 elt135 rfl rfl (by decide) (by decide) rfl rfl (by simp) rfl) ?_
   refine d_n' (fun ver => j_append_own slt67 elt135 rfl rfl rfl rfl rfl rfl (by rw [maxLen_eq]; first | omega | (simp only [nr, nl, rowS_len]; omega)) (by first | omega | (simp only [nr, nl, rowS_len]; omega))) ?_
   refine d_v' (j_fldp fld69f0 rfl rfl) ?_
   refine d_s' (j_store_box leaf67 rfl rfl (Nat.le_of_ble_eq_true rfl) (evo rfl) rfl) ?_
   refine d_nil (by kernel_rfl) (by kernel_rfl) ?_
   refine ar ?_
   refine om rfl ?_
   refine op_v' (j_add rfl rfl (by first | omega | (simp only [nr, nl, rowS_len]; omega)) (by first | omega | (simp only [nr, nl, rowS_len]; omega))) ?_
   refine oa rfl ?_
   refine on ?_
   exact ⟨(v + 1, (vf 1007)), (by first | exact (by first | omega | (simp only [nr, nl, rowS_len]; omega)) | (dsimp only; exact (by first | omega | (simp only [nr, nl, rowS_len]; omega)))), ⟨⟨rfl, rfl⟩, ⟨rfl, trivial⟩, ⟨rfl, rowEq (by rw [show (((v + 1 : Nat) : Nat) : Int) = (v : Int) + 1 from rfl, filt_next h, if_pos (by rw [← hra]; assumption), List.map_append, List.map_append, ← hra]; rfl), trivial⟩, ⟨rfl, rfl⟩, ⟨rfl, rfl⟩⟩, (by first | exact (by first | omega | (simp only [nr, nl, rowS_len]; omega)) | (dsimp only; exact (by first | omega | (simp only [nr, nl, rowS_len]; omega))))⟩
  have h6r := h6
  try simp only [nq, nr, nl, rowS_len] at h6
  refine a_skip ?_
  refine ar ?_
  refine om rfl ?_
  refine op_v' (j_add rfl rfl (by first | omega | (simp only [nr, nl, rowS_len]; omega)) (by first | omega | (simp only [nr, nl, rowS_len]; omega))) ?_
  refine oa rfl ?_
  refine on ?_
  exact ⟨(v + 1, vr), (by first | exact (by first | omega | (simp only [nr, nl, rowS_len]; omega)) | (dsimp only; exact (by first | omega | (simp only [nr, nl, rowS_len]; omega)))), ⟨⟨rfl, rfl⟩, ⟨rfl, trivial⟩, ⟨rfl, rowEq (by rw [show (((v + 1 : Nat) : Nat) : Int) = (v : Int) + 1 from rfl, filt_next h, if_neg (by rw [← hra]; omega), List.append_nil]), trivial⟩, ⟨rfl, rfl⟩, ⟨rfl, rfl⟩⟩, (by first | exact (by first | omega | (simp only [nr, nl, rowS_len]; omega)) | (dsimp only; exact (by first | omega | (simp only [nr, nl, rowS_len]; omega))))⟩
 have h5r := h5
 try simp only [nq, nr, nl, rowS_len] at h5
 refine a_exit ?_
 refine rs ?_
 refine op_v' (j_loada_box (ys := [.own 1007 vr, .p _]) agg69 rfl rfl rfl (Nat.le_of_ble_eq_true rfl)) ?_
 refine op_s' (j_storea_box0 agg69 rfl rfl rfl rfl rfl rfl) ?_
 refine oa rfl ?_
 refine on ?_
 refine a_freezeboxK 0 2 (by decide) trivial rfl rfl rfl rfl ?_
 try dsimp only [List.set]
 refine a_ret ?_
 exact ⟨[.agg [.sl _, .p _], .p _], .tup [.agg [.sl _, .p _], .p _], [], [], [], ⟨⟨_, _, _, _, rfl, rfl, agg69, rfl⟩, rfl, trivial⟩, rfl, rfl, trivial, rfl, rfl, ⟨by rw [show v = 12 by omega]; rw [show filtN ls ((12 : Nat) : Int) = ls from filt_all h], rfl, rfl⟩⟩
end Go.Ab

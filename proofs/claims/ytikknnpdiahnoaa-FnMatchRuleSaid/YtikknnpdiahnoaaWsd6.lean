/- Walks. -/
import Derived.Test.YtikknnpdiahnoaaBase
import Derived.Test.YtikknnpdiahnoaaMt
import Derived.Test.YtikknnpdiahnoaaWsdraw
import Derived.Test.YtikknnpdiahnoaaWsmod2
import Derived.Test.YtikknnpdiahnoaaSimp
import Derived.Test.YtikknnpdiahnoaaWscons
import Derived.Test.YtikknnpdiahnoaaVals
namespace Go.Ab
open Go.Proofs
set_option maxRecDepth 100000
set_option maxHeartbeats 8000000
set_option linter.unusedSimpArgs false
set_option linter.unusedVariables false
theorem f_l6Some (b : List Int) (p : Nat) (s : List Int) (l : List Rl) (least : Nat) (hb : okB b) (hp : p ≤ 1099511627000) (hs : s.length ≤ 100) (hl : least ≤ 2) : Fn Try.prog 143 [.ptr 0 0 0, .agg [.sl (s.map dI), .own 1 0], .p (.int .i64 ((least : Nat)))] [.box 114 [.sl (b.map dU), .p (.int .i64 ((p : Nat) : Int))], .row 43 5 ((l).map dR)] (fun rr ii nn => rr = .sl ((someV b p s.length least).1.map dI) ∧ ii = [.box 114 [.sl (b.map dU), .p (.int .i64 (((someV b p s.length least).2 : Nat) : Int))], .row 43 5 ((l).map dR)] ∧ nn = []) := by
 refine fn_of Try.func143 rfl (Nat.le_of_ble_eq_true rfl) fun w X g => ?_
 show AWp _ _ _ ⟨[(0, .ptr 0 0 0), (1, .agg [.sl (s.map dI), .own 1 0]), (2, .p (.int .i64 ((least : Nat))))], [(0, some (0, .box 114 [.sl (b.map dU), .p (.int .i64 ((p : Nat) : Int))])), (1, some (0, .row 43 5 ((l).map dR)))]⟩
 refine a_seq ?_
 refine a_region (by kernel_rfl) ?_
 refine op_n' (fun ver => j_boxa rfl) fun v4x1 => ?_
 refine op_v' (j_assign (evo rfl)) ?_
 refine op_nil ?_
 refine a_seq ?_
 refine a_region (by kernel_rfl) ?_
 refine op_n' (fun ver => j_buildSlice (parts := []) (es := []) slt23 elt3 rfl rfl (by decide) (by decide) rfl rfl (by simp) rfl) fun v12x2 => ?_
 refine op_v' (j_assign (evo rfl)) ?_
 refine op_nil ?_
 refine a_seq ?_
 refine a_seq ?_
 refine a_region (by kernel_rfl) ?_
 refine op_v' (j_assign (evo rfl)) ?_
 refine op_nil ?_
 refine a_block ?_
 refine a_loopF' (ι := Nat × Nat) (fun x => x.1 ≤ s.length) (fun x r => (8, .p (.int .i64 ((x.1 : Nat)))) :: (7, .own 12 x.2) :: r) (fun x r => (0, some (0, .box 114 [.sl (b.map dU), .p (.int .i64 ((p + x.1 : Nat) : Int))])) :: (12, some (x.2, .row 3 1 ((someA b p x.1).map dI))) :: r) (fun x => s.length - x.1) (fun _ _ => rfl) (fun _ _ => rfl) (0, v12x2) (by first | exact (Nat.zero_le _) | (dsimp only; exact (Nat.zero_le _))) ⟨⟨rfl, rfl⟩, ⟨rfl, rfl, trivial⟩, ⟨rfl, rfl, trivial⟩, ⟨rfl, rfl⟩, ⟨rfl, rfl⟩⟩ ?_
 rintro ⟨k, v⟩ hpre1; dsimp only at hpre1 ⊢
 have hal := someA_len (b := b) (p := p) (v := k)
 refine a_seq ?_
 refine a_seq ?_
 refine a_region (by kernel_rfl) ?_
 refine op_v' (j_move (evo rfl)) ?_
 refine op_v' (j_fldp fld26f0 rfl rfl) ?_
 refine op_v' (j_load_box leaf23 rfl rfl rfl) ?_
 refine op_v' (j_len_map Try.underlying23 rfl) ?_
 refine op_v' (j_lt rfl rfl) ?_
 refine op_nil ?_
 refine a_cond rfl (fun h1 => ?_) (fun h1 => ?_)
 ·
  have h1r := h1
  try simp only [nq, nr, nl, rangeI_len] at h1
  refine a_skip ?_
  refine a_seq ?_
  refine a_block ?_
  refine a_seq ?_
  refine a_region (by kernel_rfl) ?_
  refine op_v' (j_move (evo rfl)) ?_
  refine op_v0' (j_call0 (v := .p _) (hp1 := [(0, some (0, .box 114 [.sl _, .p _]))]) [(0, 0)] false [0] ent99 (f_pick b (p + k) 3 hb (by omega)) ⟨.inl ⟨rfl, rfl⟩, .inl ⟨rfl, rfl⟩, trivial⟩ ⟨⟨rfl, rfl⟩, trivial⟩ rfl rfl (fun h => by cases h) rfl (List.all_eq_true.1 rfl) (.inl rfl) rfl rfl) ?_
  refine op_v' (j_gt rfl rfl) ?_
  refine op_nil ?_
  refine a_cond rfl (fun h2 => ?_) (fun h2 => ?_)
  ·
   have h2r := h2
   try simp only [nq, nr, nl, rangeI_len] at h2
   refine a_region (by kernel_rfl) ?_
   refine op_v' (j_move (evo rfl)) ?_
   refine op_v' (j_move (evo rfl)) ?_
   refine op_n' (fun ver => j_buildSlice (parts := [(0, .tmp 24)]) (es := [[_]]) slt23 elt3 rfl rfl (by decide) (by decide) rfl rfl (by simp) rfl) fun v25x3 => ?_
   refine op_n' (fun ver => j_append_own slt23 elt3 rfl rfl rfl rfl rfl rfl (by rw [maxLen_eq]; first | omega | (simp only [nr, nl, rangeI_len]; omega)) (by first | omega | (simp only [nr, nl, rangeI_len]; omega))) fun v12x4 => ?_
   refine op_v' (j_assign (evo rfl)) ?_
   refine op_nil ?_
   refine a_region (by kernel_rfl) ?_
   refine op_v' (j_move (evo rfl)) ?_
   refine op_v' (j_add rfl rfl (by first | omega | (simp only [nr, nl, rangeI_len]; omega)) (by first | omega | (simp only [nr, nl, rangeI_len]; omega))) ?_
   refine op_v' (j_assign (evo rfl)) ?_
   refine op_nil ?_
   exact ⟨(k + 1, v12x4), (by first | exact (by first | omega | (simp only [nr, nl, rangeI_len]; omega)) | (dsimp only; exact (by first | omega | (simp only [nr, nl, rangeI_len]; omega)))), ⟨⟨rfl, rfl⟩, ⟨rfl, rfl, trivial⟩, ⟨rfl, rowEq (by rw [someA_y (by assumption), List.map_append]; rfl), trivial⟩, ⟨rfl, rfl⟩, ⟨rfl, rfl⟩⟩, (by first | exact (by first | omega | (simp only [nr, nl, rangeI_len]; omega)) | (dsimp only; exact (by first | omega | (simp only [nr, nl, rangeI_len]; omega))))⟩
  ·
   have h2r := h2
   try simp only [nq, nr, nl, rangeI_len] at h2
   refine a_skip ?_
   refine a_region (by kernel_rfl) ?_
   refine op_v' (j_move (evo rfl)) ?_
   refine op_v' (j_add rfl rfl (by first | omega | (simp only [nr, nl, rangeI_len]; omega)) (by first | omega | (simp only [nr, nl, rangeI_len]; omega))) ?_
   refine op_v' (j_assign (evo rfl)) ?_
   refine op_nil ?_
   exact ⟨(k + 1, v), (by first | exact (by first | omega | (simp only [nr, nl, rangeI_len]; omega)) | (dsimp only; exact (by first | omega | (simp only [nr, nl, rangeI_len]; omega)))), ⟨⟨rfl, rfl⟩, ⟨rfl, rfl, trivial⟩, ⟨rfl, rowEq (by rw [someA_n (by assumption)]), trivial⟩, ⟨rfl, rfl⟩, ⟨rfl, rfl⟩⟩, (by first | exact (by first | omega | (simp only [nr, nl, rangeI_len]; omega)) | (dsimp only; exact (by first | omega | (simp only [nr, nl, rangeI_len]; omega))))⟩
 ·
  have h1r := h1
  try simp only [nq, nr, nl, rangeI_len] at h1
  refine a_exit ?_
  refine a_seq ?_
  refine a_seq ?_
  obtain rfl : k = s.length := by omega
  refine a_region (by kernel_rfl) ?_
  refine op_v' (j_assign (evo rfl)) ?_
  refine op_nil ?_
  refine a_block ?_
  refine a_loopF' (ι := Nat × List Int × Nat) (fun x => x.1 ≤ s.length ∧ x.2.1.length ≤ s.length + x.1 ∧ fillF least (s.length - x.1) x.1 x.2.1 = fillF least s.length 0 (someA b p s.length)) (fun x r => (9, .p (.int .i64 ((x.1 : Nat)))) :: (7, .own 12 x.2.2) :: r) (fun x r => (12, some (x.2.2, .row 3 1 ((x.2.1).map dI))) :: r) (fun x => s.length - x.1) (fun _ _ => rfl) (fun _ _ => rfl) (0, someA b p s.length, v) (by first | exact ⟨Nat.zero_le _, by have := someA_len (b := b) (p := p) (v := s.length); omega, rfl⟩ | (dsimp only; exact ⟨Nat.zero_le _, by have := someA_len (b := b) (p := p) (v := s.length); omega, rfl⟩)) ⟨⟨rfl, rfl⟩, ⟨rfl, rfl, trivial⟩, ⟨rfl, trivial⟩, ⟨rfl, rfl⟩, ⟨rfl, rfl⟩⟩ ?_
  rintro ⟨j, l2, v2⟩ hpre2; dsimp only at hpre2 ⊢
  refine a_seq ?_
  refine a_seq ?_
  have hlc : l2.length ≤ 400 := by omega
  refine a_region (by kernel_rfl) ?_
  refine op_v' (j_move (evo rfl)) ?_
  refine op_v' (j_len_own_map Try.underlying23 rfl rfl) ?_
  refine op_v' (j_move (evo rfl)) ?_
  refine op_v' (j_lt rfl rfl) ?_
  refine op_v' (j_move (evo rfl)) ?_
  refine op_split' 31 rfl (fun h3 => ?_) (fun h3 => ?_)
  ·
   have h3r := h3
   try simp only [nq, nr, nl, rangeI_len] at h3
   refine op_v' (j_want rfl rfl h3r (j_move (evo rfl))) ?_
   refine op_v' (j_want rfl rfl h3r (j_fldp fld26f0 rfl rfl)) ?_
   refine op_v' (j_want rfl rfl h3r (j_load_box leaf23 rfl rfl rfl)) ?_
   refine op_v' (j_want rfl rfl h3r (j_len_map Try.underlying23 rfl)) ?_
   refine op_v' (j_want rfl rfl h3r (j_lt rfl rfl)) ?_
   refine op_v' (j_pick_t rfl h3r (evo rfl)) ?_
   refine op_nil ?_
   refine a_cond rfl (fun h4 => ?_) (fun h4 => ?_)
   ·
    have h4r := h4
    try simp only [nq, nr, nl, rangeI_len] at h4
    refine a_skip ?_
    refine a_seq ?_
    refine a_block ?_
    refine a_seq ?_
    refine a_region (by kernel_rfl) ?_
    refine op_v' (j_move (evo rfl)) ?_
    refine op_v' (j_len_own_map Try.underlying23 rfl rfl) ?_
    refine op_v' (j_eq rfl rfl) ?_
    refine op_v' (j_move (evo rfl)) ?_
    refine op_split' 43 rfl (fun h5 => ?_) (fun h5 => ?_)
    ·
     have h5r := h5
     try simp only [nq, nr, nl, rangeI_len] at h5
     refine op_v' (j_unwantV rfl rfl h5r) ?_
     refine op_v' (j_unwantV rfl rfl h5r) ?_
     refine op_v' (j_unwantV rfl rfl h5r) ?_
     refine op_v' (j_unwantV rfl rfl h5r) ?_
     refine op_v' (j_unwantV rfl rfl h5r) ?_
     refine op_v' (j_unwantV rfl rfl h5r) ?_
     refine op_v' (j_unwantV rfl rfl h5r) ?_
     refine op_v' (j_unwantV rfl rfl h5r) ?_
     refine op_v' (j_pick_t rfl h5r (evo rfl)) ?_
     refine op_nil ?_
     refine a_tt rfl ?_
     refine a_region (by kernel_rfl) ?_
     refine op_v' (j_move (evo rfl)) ?_
     refine op_v' (j_move (evo rfl)) ?_
     refine op_n' (fun ver => j_buildSlice (parts := [(0, .tmp 54)]) (es := [[_]]) slt23 elt3 rfl rfl (by decide) (by decide) rfl rfl (by simp) rfl) fun v55x5 => ?_
     refine op_n' (fun ver => j_append_own slt23 elt3 rfl rfl rfl rfl rfl rfl (by rw [maxLen_eq]; first | omega | (simp only [nr, nl, rangeI_len]; omega)) (by first | omega | (simp only [nr, nl, rangeI_len]; omega))) fun v12x6 => ?_
     refine op_v' (j_assign (evo rfl)) ?_
     refine op_nil ?_
     refine a_region (by kernel_rfl) ?_
     refine op_v' (j_move (evo rfl)) ?_
     refine op_v' (j_add rfl rfl (by first | omega | (simp only [nr, nl, rangeI_len]; omega)) (by first | omega | (simp only [nr, nl, rangeI_len]; omega))) ?_
     refine op_v' (j_assign (evo rfl)) ?_
     refine op_nil ?_
     exact ⟨(j + 1, l2 ++ [(j : Int)], v12x6), (by first | exact ⟨by omega, by simp only [List.length_append, List.length_cons, List.length_nil]; omega, by rw [show s.length - (j + 1) = s.length - j - 1 by omega, fill_y (by omega) (by omega) (by first | exact .inl (by omega) | exact .inr (by omega))]; exact hpre2.2.2⟩ | (dsimp only; exact ⟨by omega, by simp only [List.length_append, List.length_cons, List.length_nil]; omega, by rw [show s.length - (j + 1) = s.length - j - 1 by omega, fill_y (by omega) (by omega) (by first | exact .inl (by omega) | exact .inr (by omega))]; exact hpre2.2.2⟩)), ⟨⟨rfl, rfl⟩, ⟨rfl, rfl, trivial⟩, ⟨rowEq (by rw [List.map_append]; rfl), trivial⟩, ⟨rfl, rfl⟩, ⟨rfl, rfl⟩⟩, (by first | exact (by omega) | (dsimp only; exact (by omega)))⟩
    ·
     have h5r := h5
     try simp only [nq, nr, nl, rangeI_len] at h5
     refine op_v' (j_want rfl rfl h5r (j_move (evo rfl))) ?_
     refine op_v' (j_want rfl rfl h5r (j_move (evo rfl))) ?_
     refine op_v' (j_want rfl rfl h5r (j_len_own_map Try.underlying23 rfl rfl)) ?_
     refine op_v' (j_want rfl rfl h5r (j_sub rfl rfl (by first | omega | (simp only [nr, nl, rangeI_len]; omega)) (by first | omega | (simp only [nr, nl, rangeI_len]; omega)))) ?_
     refine op_v' (j_want rfl rfl h5r (j_elem_ownN (n := (l2.length - 1)) slt23 rfl rfl rfl (by first | omega | (simp only [nr, nl, rangeI_len]; omega)) (by first | omega | (simp only [nr, nl, rangeI_len]; omega)))) ?_
     refine op_v' (j_want rfl rfl h5r (j_load_pel leaf3 rfl rfl (at_map (by first | omega | (simp only [nr, nl, rangeI_len]; omega))) rfl)) ?_
     refine op_v' (j_want rfl rfl h5r (j_move (evo rfl))) ?_
     refine op_v' (j_want rfl rfl h5r (j_lt rfl rfl)) ?_
     refine op_v' (j_pick_f rfl h5r (evo rfl)) ?_
     refine op_nil ?_
     refine a_cond rfl (fun h6 => ?_) (fun h6 => ?_)
     ·
      have h6r := h6
      try simp only [nq, nr, nl, rangeI_len] at h6
      refine a_region (by kernel_rfl) ?_
      refine op_v' (j_move (evo rfl)) ?_
      refine op_v' (j_move (evo rfl)) ?_
      refine op_n' (fun ver => j_buildSlice (parts := [(0, .tmp 54)]) (es := [[_]]) slt23 elt3 rfl rfl (by decide) (by decide) rfl rfl (by simp) rfl) fun v55x7 => ?_
      refine op_n' (fun ver => j_append_own slt23 elt3 rfl rfl rfl rfl rfl rfl (by rw [maxLen_eq]; first | omega | (simp only [nr, nl, rangeI_len]; omega)) (by first | omega | (simp only [nr, nl, rangeI_len]; omega))) fun v12x8 => ?_
      refine op_v' (j_assign (evo rfl)) ?_
      refine op_nil ?_
      refine a_region (by kernel_rfl) ?_
      refine op_v' (j_move (evo rfl)) ?_
      refine op_v' (j_add rfl rfl (by first | omega | (simp only [nr, nl, rangeI_len]; omega)) (by first | omega | (simp only [nr, nl, rangeI_len]; omega))) ?_
      refine op_v' (j_assign (evo rfl)) ?_
      refine op_nil ?_
      exact ⟨(j + 1, l2 ++ [(j : Int)], v12x8), (by first | exact ⟨by omega, by simp only [List.length_append, List.length_cons, List.length_nil]; omega, by rw [show s.length - (j + 1) = s.length - j - 1 by omega, fill_y (by omega) (by omega) (by first | exact .inl (by omega) | exact .inr (by omega))]; exact hpre2.2.2⟩ | (dsimp only; exact ⟨by omega, by simp only [List.length_append, List.length_cons, List.length_nil]; omega, by rw [show s.length - (j + 1) = s.length - j - 1 by omega, fill_y (by omega) (by omega) (by first | exact .inl (by omega) | exact .inr (by omega))]; exact hpre2.2.2⟩)), ⟨⟨rfl, rfl⟩, ⟨rfl, rfl, trivial⟩, ⟨rowEq (by rw [List.map_append]; rfl), trivial⟩, ⟨rfl, rfl⟩, ⟨rfl, rfl⟩⟩, (by first | exact (by omega) | (dsimp only; exact (by omega)))⟩
     ·
      have h6r := h6
      try simp only [nq, nr, nl, rangeI_len] at h6
      refine a_skip ?_
      refine a_region (by kernel_rfl) ?_
      refine op_v' (j_move (evo rfl)) ?_
      refine op_v' (j_add rfl rfl (by first | omega | (simp only [nr, nl, rangeI_len]; omega)) (by first | omega | (simp only [nr, nl, rangeI_len]; omega))) ?_
      refine op_v' (j_assign (evo rfl)) ?_
      refine op_nil ?_
      exact ⟨(j + 1, l2, v2), (by first | exact ⟨by omega, by omega, by rw [show s.length - (j + 1) = s.length - j - 1 by omega, fill_n (by omega) (by omega) (by unfold lastL; omega)]; exact hpre2.2.2⟩ | (dsimp only; exact ⟨by omega, by omega, by rw [show s.length - (j + 1) = s.length - j - 1 by omega, fill_n (by omega) (by omega) (by unfold lastL; omega)]; exact hpre2.2.2⟩)), ⟨⟨rfl, rfl⟩, ⟨rfl, rfl, trivial⟩, ⟨rfl, trivial⟩, ⟨rfl, rfl⟩, ⟨rfl, rfl⟩⟩, (by first | exact (by omega) | (dsimp only; exact (by omega)))⟩
   ·
    have h4r := h4
    try simp only [nq, nr, nl, rangeI_len] at h4
    refine a_exit ?_
    refine a_seq ?_
    refine a_seq ?_
    refine a_region (by kernel_rfl) ?_
    refine op_v' (j_move (evo rfl)) ?_
    refine op_v' (j_len_own_map Try.underlying23 rfl rfl) ?_
    refine op_v' (j_move (evo rfl)) ?_
    refine op_v' (j_lt rfl rfl) ?_
    refine op_v' (j_move (evo rfl)) ?_
    refine op_split' 61 rfl (fun h7 => ?_) (fun h7 => ?_)
    ·
     have h7r := h7
     try simp only [nq, nr, nl, rangeI_len] at h7
     refine op_v' (j_unwantV rfl rfl h7r) ?_
     refine op_v' (j_unwantV rfl rfl h7r) ?_
     refine op_v' (j_unwantV rfl rfl h7r) ?_
     refine op_v' (j_pick_t rfl h7r (evo rfl)) ?_
     refine op_nil ?_
     refine a_tt rfl ?_
     refine a_seq ?_
     refine a_region (by kernel_rfl) ?_
     refine op_n' (fun ver => j_buildSlice (parts := []) (es := []) slt23 elt3 rfl rfl (by decide) (by decide) rfl rfl (by simp) rfl) fun v66x9 => ?_
     refine op_v' (j_assign (evo rfl)) ?_
     refine op_nil ?_
     refine a_seq ?_
     refine a_region (by kernel_rfl) ?_
     refine op_v' (j_assign (evo rfl)) ?_
     refine op_nil ?_
     refine a_block ?_
     refine a_loopF' (ι := Nat × Nat) (fun x => x.1 ≤ least) (fun x r => (10, .p (.int .i64 ((x.1 : Nat)))) :: (7, .own 66 x.2) :: r) (fun x r => (66, some (x.2, .row 3 1 ((rangeI x.1).map dI))) :: r) (fun x => least - x.1) (fun _ _ => rfl) (fun _ _ => rfl) (0, v66x9) (by first | exact (Nat.zero_le _) | (dsimp only; exact (Nat.zero_le _))) ⟨⟨rfl, rfl⟩, ⟨rfl, rfl, trivial⟩, ⟨rfl, trivial⟩, ⟨rfl, rfl⟩, ⟨rfl, rfl⟩⟩ ?_
     rintro ⟨t, v⟩ ht; dsimp only at ht ⊢
     refine a_seq ?_
     refine a_seq ?_
     refine a_region (by kernel_rfl) ?_
     refine op_v' (j_move (evo rfl)) ?_
     refine op_v' (j_move (evo rfl)) ?_
     refine op_v' (j_lt rfl rfl) ?_
     refine op_nil ?_
     refine a_cond rfl (fun h8 => ?_) (fun h8 => ?_)
     ·
      have h8r := h8
      try simp only [nq, nr, nl, rangeI_len] at h8
      refine a_skip ?_
      refine a_seq ?_
      refine a_block ?_
      refine a_region (by kernel_rfl) ?_
      refine op_v' (j_move (evo rfl)) ?_
      refine op_v' (j_move (evo rfl)) ?_
      refine op_n' (fun ver => j_buildSlice (parts := [(0, .tmp 73)]) (es := [[_]]) slt23 elt3 rfl rfl (by decide) (by decide) rfl rfl (by simp) rfl) fun v74x10 => ?_
      refine op_n' (fun ver => j_append_own slt23 elt3 rfl rfl rfl rfl rfl rfl (by rw [maxLen_eq]; first | omega | (simp only [nr, nl, rangeI_len]; omega)) (by first | omega | (simp only [nr, nl, rangeI_len]; omega))) fun v66x11 => ?_
      refine op_v' (j_assign (evo rfl)) ?_
      refine op_nil ?_
      refine a_region (by kernel_rfl) ?_
      refine op_v' (j_move (evo rfl)) ?_
      refine op_v' (j_add rfl rfl (by first | omega | (simp only [nr, nl, rangeI_len]; omega)) (by first | omega | (simp only [nr, nl, rangeI_len]; omega))) ?_
      refine op_v' (j_assign (evo rfl)) ?_
      refine op_nil ?_
      exact ⟨(t + 1, v66x11), (by first | exact (by first | omega | (simp only [nr, nl, rangeI_len]; omega)) | (dsimp only; exact (by first | omega | (simp only [nr, nl, rangeI_len]; omega)))), ⟨⟨rfl, rfl⟩, ⟨rfl, rfl, trivial⟩, ⟨rowEq (by rw [rangeI_next, List.map_append]; rfl), trivial⟩, ⟨rfl, rfl⟩, ⟨rfl, rfl⟩⟩, (by first | exact (by first | omega | (simp only [nr, nl, rangeI_len]; omega)) | (dsimp only; exact (by first | omega | (simp only [nr, nl, rangeI_len]; omega))))⟩
     ·
      have h8r := h8
      try simp only [nq, nr, nl, rangeI_len] at h8
      refine a_exit ?_
      refine a_seq ?_
      refine a_seq ?_
      first | have hL : some3 b p s.length least = rangeI t := (by rw [some3_y ((fill_stop (by omega)).symm.trans hpre2.2.2).symm (by omega)]; congr 1; omega) | have hL : some3 b p s.length least = l2 := some3_n ((fill_stop (by omega)).symm.trans hpre2.2.2).symm (by omega)
      refine a_region (by kernel_rfl) ?_
      refine op_v' (j_move (evo rfl)) ?_
      refine op_v' (j_len_own_map Try.underlying23 rfl rfl) ?_
      refine op_v' (j_gt rfl rfl) ?_
      refine op_v' (j_move (evo rfl)) ?_
      refine op_split' 79 rfl (fun h9 => ?_) (fun h9 => ?_)
      ·
       have h9r := h9
       try simp only [nq, nr, nl, rangeI_len] at h9
       refine op_v' (j_want rfl rfl h9r (j_move (evo rfl))) ?_
       refine op_v0' (j_want rfl rfl h9r (j_call0 (v := .p _) (hp1 := [(0, some (0, .box 114 [.sl _, .p _]))]) [(0, 0)] false [0] ent99 (f_pick b (p + s.length) 3 hb (by omega)) ⟨.inl ⟨rfl, rfl⟩, .inl ⟨rfl, rfl⟩, trivial⟩ ⟨⟨rfl, rfl⟩, trivial⟩ rfl rfl (fun h => by cases h) rfl (List.all_eq_true.1 rfl) (.inl rfl) rfl rfl)) ?_
       refine op_v' (j_want rfl rfl h9r (j_eq rfl rfl)) ?_
       refine op_v' (j_pick_t rfl h9r (evo rfl)) ?_
       refine op_nil ?_
       refine a_cond rfl (fun h10 => ?_) (fun h10 => ?_)
       ·
        have h10r := h10
        try simp only [nq, nr, nl, rangeI_len] at h10
        refine a_seq ?_
        refine a_region (by kernel_rfl) ?_
        refine op_v' (j_move (evo rfl)) ?_
        refine op_v' (j_elem_ownN slt23 rfl rfl rfl rfl (by first | omega | (simp only [nr, nl, rangeI_len]; omega))) ?_
        refine op_v' (j_load_pel leaf3 rfl rfl (at_map (by first | omega | (simp only [nr, nl, rangeI_len]; omega))) rfl) ?_
        refine op_v' (j_assign (evo rfl)) ?_
        refine op_nil ?_
        refine a_seq ?_
        refine a_region (by kernel_rfl) ?_
        refine op_v' (j_move (evo rfl)) ?_
        refine op_v' (j_move (evo rfl)) ?_
        refine op_v' (j_elem_ownN slt23 rfl rfl rfl rfl (by first | omega | (simp only [nr, nl, rangeI_len]; omega))) ?_
        refine op_v' (j_load_pel leaf3 rfl rfl (at_map (by first | omega | (simp only [nr, nl, rangeI_len]; omega))) rfl) ?_
        refine op_v' (j_elem_ownN slt23 rfl rfl rfl rfl (by first | omega | (simp only [nr, nl, rangeI_len]; omega))) ?_
        refine op_s' (j_store_row leaf3 rfl rfl (by first | omega | (simp only [nr, nl, rangeI_len]; omega)) (evo rfl) rfl rfl) ?_
        refine op_nil ?_
        refine a_region (by kernel_rfl) ?_
        refine op_v' (j_move (evo rfl)) ?_
        refine op_v' (j_move (evo rfl)) ?_
        refine op_v' (j_elem_ownN slt23 rfl rfl rfl rfl (by first | omega | (simp only [nr, nl, rangeI_len]; omega))) ?_
        refine op_s' (j_store_row leaf3 rfl rfl (by first | omega | (simp only [nr, nl, rangeI_len]; omega)) (evo rfl) rfl rfl) ?_
        refine op_nil ?_
        refine a_seq ?_
        refine a_region (by kernel_rfl) ?_
        refine op_v' (j_move (evo rfl)) ?_
        refine op_v' (j_assign (evo rfl)) ?_
        refine op_nil ?_
        refine a_freezeK 6 ⟨⟨_, _, rfl⟩, ⟨_, _, _, rfl⟩, trivial⟩ rfl rfl rfl ?_
        refine a_ret ?_
        exact ⟨[.sl _], .sl _, [.box 114 [.sl _, .p _], .row 43 5 _], [], [], ⟨rfl, trivial⟩, rfl, rfl, ⟨⟨rfl, rfl⟩, ⟨rfl, rfl⟩, trivial⟩, rfl, rfl, ⟨by unfold someV; rw [hL]; first | (rw [fin_y (by first | omega | (simp only [nr, nl, rangeI_len]; omega)) (by assumption)]; exact congrArg V.sl (by unfold swp; rw [List.map_set, List.map_set]; rfl)) | (rw [fin_n (by first | omega | (simp only [nr, nl, rangeI_len]; omega)) (by assumption)]; done) | (rw [fin_s (by first | omega | (simp only [nr, nl, rangeI_len]; omega))]; done), by unfold someV; rw [hL]; first | rw [fin_y (by first | omega | (simp only [nr, nl, rangeI_len]; omega)) (by assumption)] | rw [fin_n (by first | omega | (simp only [nr, nl, rangeI_len]; omega)) (by assumption)] | rw [fin_s (by first | omega | (simp only [nr, nl, rangeI_len]; omega))], rfl⟩⟩
       ·
        have h10r := h10
        try simp only [nq, nr, nl, rangeI_len] at h10
        refine a_skip ?_
        refine a_seq ?_
        refine a_region (by kernel_rfl) ?_
        refine op_v' (j_move (evo rfl)) ?_
        refine op_v' (j_assign (evo rfl)) ?_
        refine op_nil ?_
        refine a_freezeK 6 ⟨⟨_, _, rfl⟩, ⟨_, _, _, rfl⟩, trivial⟩ rfl rfl rfl ?_
        refine a_ret ?_
        exact ⟨[.sl _], .sl _, [.box 114 [.sl _, .p _], .row 43 5 _], [], [], ⟨rfl, trivial⟩, rfl, rfl, ⟨⟨rfl, rfl⟩, ⟨rfl, rfl⟩, trivial⟩, rfl, rfl, ⟨by unfold someV; rw [hL]; first | (rw [fin_y (by first | omega | (simp only [nr, nl, rangeI_len]; omega)) (by assumption)]; exact congrArg V.sl (by unfold swp; rw [List.map_set, List.map_set]; rfl)) | (rw [fin_n (by first | omega | (simp only [nr, nl, rangeI_len]; omega)) (by assumption)]; done) | (rw [fin_s (by first | omega | (simp only [nr, nl, rangeI_len]; omega))]; done), by unfold someV; rw [hL]; first | rw [fin_y (by first | omega | (simp only [nr, nl, rangeI_len]; omega)) (by assumption)] | rw [fin_n (by first | omega | (simp only [nr, nl, rangeI_len]; omega)) (by assumption)] | rw [fin_s (by first | omega | (simp only [nr, nl, rangeI_len]; omega))], rfl⟩⟩
      ·
       have h9r := h9
       try simp only [nq, nr, nl, rangeI_len] at h9
       refine op_v' (j_unwantV rfl rfl h9r) ?_
       refine op_v' (j_unwantV rfl rfl h9r) ?_
       refine op_v' (j_unwantV rfl rfl h9r) ?_
       refine op_v' (j_pick_f rfl h9r (evo rfl)) ?_
       refine op_nil ?_
       refine a_ff rfl ?_
       refine a_skip ?_
       refine a_seq ?_
       refine a_region (by kernel_rfl) ?_
       refine op_v' (j_move (evo rfl)) ?_
       refine op_v' (j_assign (evo rfl)) ?_
       refine op_nil ?_
       refine a_freezeK 6 ⟨⟨_, _, rfl⟩, ⟨_, _, _, rfl⟩, trivial⟩ rfl rfl rfl ?_
       refine a_ret ?_
       exact ⟨[.sl _], .sl _, [.box 114 [.sl _, .p _], .row 43 5 _], [], [], ⟨rfl, trivial⟩, rfl, rfl, ⟨⟨rfl, rfl⟩, ⟨rfl, rfl⟩, trivial⟩, rfl, rfl, ⟨by unfold someV; rw [hL]; first | (rw [fin_y (by first | omega | (simp only [nr, nl, rangeI_len]; omega)) (by assumption)]; exact congrArg V.sl (by unfold swp; rw [List.map_set, List.map_set]; rfl)) | (rw [fin_n (by first | omega | (simp only [nr, nl, rangeI_len]; omega)) (by assumption)]; done) | (rw [fin_s (by first | omega | (simp only [nr, nl, rangeI_len]; omega))]; done), by unfold someV; rw [hL]; first | rw [fin_y (by first | omega | (simp only [nr, nl, rangeI_len]; omega)) (by assumption)] | rw [fin_n (by first | omega | (simp only [nr, nl, rangeI_len]; omega)) (by assumption)] | rw [fin_s (by first | omega | (simp only [nr, nl, rangeI_len]; omega))], rfl⟩⟩
    ·
     have h7r := h7
     try simp only [nq, nr, nl, rangeI_len] at h7
     refine op_v' (j_want rfl rfl h7r (j_move (evo rfl))) ?_
     refine op_v' (j_want rfl rfl h7r (j_len_own_map Try.underlying23 rfl rfl)) ?_
     refine op_v' (j_want rfl rfl h7r (j_eq rfl rfl)) ?_
     refine op_v' (j_pick_f rfl h7r (evo rfl)) ?_
     refine op_nil ?_
     refine a_cond rfl (fun h11 => ?_) (fun h11 => ?_)
     ·
      have h11r := h11
      try simp only [nq, nr, nl, rangeI_len] at h11
      refine a_seq ?_
      refine a_region (by kernel_rfl) ?_
      refine op_n' (fun ver => j_buildSlice (parts := []) (es := []) slt23 elt3 rfl rfl (by decide) (by decide) rfl rfl (by simp) rfl) fun v66x12 => ?_
      refine op_v' (j_assign (evo rfl)) ?_
      refine op_nil ?_
      refine a_seq ?_
      refine a_region (by kernel_rfl) ?_
      refine op_v' (j_assign (evo rfl)) ?_
      refine op_nil ?_
      refine a_block ?_
      refine a_loopF' (ι := Nat × Nat) (fun x => x.1 ≤ least) (fun x r => (10, .p (.int .i64 ((x.1 : Nat)))) :: (7, .own 66 x.2) :: r) (fun x r => (66, some (x.2, .row 3 1 ((rangeI x.1).map dI))) :: r) (fun x => least - x.1) (fun _ _ => rfl) (fun _ _ => rfl) (0, v66x12) (by first | exact (Nat.zero_le _) | (dsimp only; exact (Nat.zero_le _))) ⟨⟨rfl, rfl⟩, ⟨rfl, rfl, trivial⟩, ⟨rfl, trivial⟩, ⟨rfl, rfl⟩, ⟨rfl, rfl⟩⟩ ?_
      rintro ⟨t, v⟩ ht; dsimp only at ht ⊢
      refine a_seq ?_
      refine a_seq ?_
      refine a_region (by kernel_rfl) ?_
      refine op_v' (j_move (evo rfl)) ?_
      refine op_v' (j_move (evo rfl)) ?_
      refine op_v' (j_lt rfl rfl) ?_
      refine op_nil ?_
      refine a_cond rfl (fun h12 => ?_) (fun h12 => ?_)
      ·
       have h12r := h12
       try simp only [nq, nr, nl, rangeI_len] at h12
       refine a_skip ?_
       refine a_seq ?_
       refine a_block ?_
       refine a_region (by kernel_rfl) ?_
       refine op_v' (j_move (evo rfl)) ?_
       refine op_v' (j_move (evo rfl)) ?_
       refine op_n' (fun ver => j_buildSlice (parts := [(0, .tmp 73)]) (es := [[_]]) slt23 elt3 rfl rfl (by decide) (by decide) rfl rfl (by simp) rfl) fun v74x13 => ?_
       refine op_n' (fun ver => j_append_own slt23 elt3 rfl rfl rfl rfl rfl rfl (by rw [maxLen_eq]; first | omega | (simp only [nr, nl, rangeI_len]; omega)) (by first | omega | (simp only [nr, nl, rangeI_len]; omega))) fun v66x14 => ?_
       refine op_v' (j_assign (evo rfl)) ?_
       refine op_nil ?_
       refine a_region (by kernel_rfl) ?_
       refine op_v' (j_move (evo rfl)) ?_
       refine op_v' (j_add rfl rfl (by first | omega | (simp only [nr, nl, rangeI_len]; omega)) (by first | omega | (simp only [nr, nl, rangeI_len]; omega))) ?_
       refine op_v' (j_assign (evo rfl)) ?_
       refine op_nil ?_
       exact ⟨(t + 1, v66x14), (by first | exact (by first | omega | (simp only [nr, nl, rangeI_len]; omega)) | (dsimp only; exact (by first | omega | (simp only [nr, nl, rangeI_len]; omega)))), ⟨⟨rfl, rfl⟩, ⟨rfl, rfl, trivial⟩, ⟨rowEq (by rw [rangeI_next, List.map_append]; rfl), trivial⟩, ⟨rfl, rfl⟩, ⟨rfl, rfl⟩⟩, (by first | exact (by first | omega | (simp only [nr, nl, rangeI_len]; omega)) | (dsimp only; exact (by first | omega | (simp only [nr, nl, rangeI_len]; omega))))⟩
      ·
       have h12r := h12
       try simp only [nq, nr, nl, rangeI_len] at h12
       refine a_exit ?_
       refine a_seq ?_
       refine a_seq ?_
       first | have hL : some3 b p s.length least = rangeI t := (by rw [some3_y ((fill_stop (by omega)).symm.trans hpre2.2.2).symm (by omega)]; congr 1; omega) | have hL : some3 b p s.length least = l2 := some3_n ((fill_stop (by omega)).symm.trans hpre2.2.2).symm (by omega)
       refine a_region (by kernel_rfl) ?_
       refine op_v' (j_move (evo rfl)) ?_
       refine op_v' (j_len_own_map Try.underlying23 rfl rfl) ?_
       refine op_v' (j_gt rfl rfl) ?_
       refine op_v' (j_move (evo rfl)) ?_
       refine op_split' 79 rfl (fun h13 => ?_) (fun h13 => ?_)
       ·
        have h13r := h13
        try simp only [nq, nr, nl, rangeI_len] at h13
        refine op_v' (j_want rfl rfl h13r (j_move (evo rfl))) ?_
        refine op_v0' (j_want rfl rfl h13r (j_call0 (v := .p _) (hp1 := [(0, some (0, .box 114 [.sl _, .p _]))]) [(0, 0)] false [0] ent99 (f_pick b (p + s.length) 3 hb (by omega)) ⟨.inl ⟨rfl, rfl⟩, .inl ⟨rfl, rfl⟩, trivial⟩ ⟨⟨rfl, rfl⟩, trivial⟩ rfl rfl (fun h => by cases h) rfl (List.all_eq_true.1 rfl) (.inl rfl) rfl rfl)) ?_
        refine op_v' (j_want rfl rfl h13r (j_eq rfl rfl)) ?_
        refine op_v' (j_pick_t rfl h13r (evo rfl)) ?_
        refine op_nil ?_
        refine a_cond rfl (fun h14 => ?_) (fun h14 => ?_)
        ·
         have h14r := h14
         try simp only [nq, nr, nl, rangeI_len] at h14
         refine a_seq ?_
         refine a_region (by kernel_rfl) ?_
         refine op_v' (j_move (evo rfl)) ?_
         refine op_v' (j_elem_ownN slt23 rfl rfl rfl rfl (by first | omega | (simp only [nr, nl, rangeI_len]; omega))) ?_
         refine op_v' (j_load_pel leaf3 rfl rfl (at_map (by first | omega | (simp only [nr, nl, rangeI_len]; omega))) rfl) ?_
         refine op_v' (j_assign (evo rfl)) ?_
         refine op_nil ?_
         refine a_seq ?_
         refine a_region (by kernel_rfl) ?_
         refine op_v' (j_move (evo rfl)) ?_
         refine op_v' (j_move (evo rfl)) ?_
         refine op_v' (j_elem_ownN slt23 rfl rfl rfl rfl (by first | omega | (simp only [nr, nl, rangeI_len]; omega))) ?_
         refine op_v' (j_load_pel leaf3 rfl rfl (at_map (by first | omega | (simp only [nr, nl, rangeI_len]; omega))) rfl) ?_
         refine op_v' (j_elem_ownN slt23 rfl rfl rfl rfl (by first | omega | (simp only [nr, nl, rangeI_len]; omega))) ?_
         refine op_s' (j_store_row leaf3 rfl rfl (by first | omega | (simp only [nr, nl, rangeI_len]; omega)) (evo rfl) rfl rfl) ?_
         refine op_nil ?_
         refine a_region (by kernel_rfl) ?_
         refine op_v' (j_move (evo rfl)) ?_
         refine op_v' (j_move (evo rfl)) ?_
         refine op_v' (j_elem_ownN slt23 rfl rfl rfl rfl (by first | omega | (simp only [nr, nl, rangeI_len]; omega))) ?_
         refine op_s' (j_store_row leaf3 rfl rfl (by first | omega | (simp only [nr, nl, rangeI_len]; omega)) (evo rfl) rfl rfl) ?_
         refine op_nil ?_
         refine a_seq ?_
         refine a_region (by kernel_rfl) ?_
         refine op_v' (j_move (evo rfl)) ?_
         refine op_v' (j_assign (evo rfl)) ?_
         refine op_nil ?_
         refine a_freezeK 6 ⟨⟨_, _, rfl⟩, ⟨_, _, _, rfl⟩, trivial⟩ rfl rfl rfl ?_
         refine a_ret ?_
         exact ⟨[.sl _], .sl _, [.box 114 [.sl _, .p _], .row 43 5 _], [], [], ⟨rfl, trivial⟩, rfl, rfl, ⟨⟨rfl, rfl⟩, ⟨rfl, rfl⟩, trivial⟩, rfl, rfl, ⟨by unfold someV; rw [hL]; first | (rw [fin_y (by first | omega | (simp only [nr, nl, rangeI_len]; omega)) (by assumption)]; exact congrArg V.sl (by unfold swp; rw [List.map_set, List.map_set]; rfl)) | (rw [fin_n (by first | omega | (simp only [nr, nl, rangeI_len]; omega)) (by assumption)]; done) | (rw [fin_s (by first | omega | (simp only [nr, nl, rangeI_len]; omega))]; done), by unfold someV; rw [hL]; first | rw [fin_y (by first | omega | (simp only [nr, nl, rangeI_len]; omega)) (by assumption)] | rw [fin_n (by first | omega | (simp only [nr, nl, rangeI_len]; omega)) (by assumption)] | rw [fin_s (by first | omega | (simp only [nr, nl, rangeI_len]; omega))], rfl⟩⟩
        ·
         have h14r := h14
         try simp only [nq, nr, nl, rangeI_len] at h14
         refine a_skip ?_
         refine a_seq ?_
         refine a_region (by kernel_rfl) ?_
         refine op_v' (j_move (evo rfl)) ?_
         refine op_v' (j_assign (evo rfl)) ?_
         refine op_nil ?_
         refine a_freezeK 6 ⟨⟨_, _, rfl⟩, ⟨_, _, _, rfl⟩, trivial⟩ rfl rfl rfl ?_
         refine a_ret ?_
         exact ⟨[.sl _], .sl _, [.box 114 [.sl _, .p _], .row 43 5 _], [], [], ⟨rfl, trivial⟩, rfl, rfl, ⟨⟨rfl, rfl⟩, ⟨rfl, rfl⟩, trivial⟩, rfl, rfl, ⟨by unfold someV; rw [hL]; first | (rw [fin_y (by first | omega | (simp only [nr, nl, rangeI_len]; omega)) (by assumption)]; exact congrArg V.sl (by unfold swp; rw [List.map_set, List.map_set]; rfl)) | (rw [fin_n (by first | omega | (simp only [nr, nl, rangeI_len]; omega)) (by assumption)]; done) | (rw [fin_s (by first | omega | (simp only [nr, nl, rangeI_len]; omega))]; done), by unfold someV; rw [hL]; first | rw [fin_y (by first | omega | (simp only [nr, nl, rangeI_len]; omega)) (by assumption)] | rw [fin_n (by first | omega | (simp only [nr, nl, rangeI_len]; omega)) (by assumption)] | rw [fin_s (by first | omega | (simp only [nr, nl, rangeI_len]; omega))], rfl⟩⟩
       ·
        have h13r := h13
        try simp only [nq, nr, nl, rangeI_len] at h13
        refine op_v' (j_unwantV rfl rfl h13r) ?_
        refine op_v' (j_unwantV rfl rfl h13r) ?_
        refine op_v' (j_unwantV rfl rfl h13r) ?_
        refine op_v' (j_pick_f rfl h13r (evo rfl)) ?_
        refine op_nil ?_
        refine a_ff rfl ?_
        refine a_skip ?_
        refine a_seq ?_
        refine a_region (by kernel_rfl) ?_
        refine op_v' (j_move (evo rfl)) ?_
        refine op_v' (j_assign (evo rfl)) ?_
        refine op_nil ?_
        refine a_freezeK 6 ⟨⟨_, _, rfl⟩, ⟨_, _, _, rfl⟩, trivial⟩ rfl rfl rfl ?_
        refine a_ret ?_
        exact ⟨[.sl _], .sl _, [.box 114 [.sl _, .p _], .row 43 5 _], [], [], ⟨rfl, trivial⟩, rfl, rfl, ⟨⟨rfl, rfl⟩, ⟨rfl, rfl⟩, trivial⟩, rfl, rfl, ⟨by unfold someV; rw [hL]; first | (rw [fin_y (by first | omega | (simp only [nr, nl, rangeI_len]; omega)) (by assumption)]; exact congrArg V.sl (by unfold swp; rw [List.map_set, List.map_set]; rfl)) | (rw [fin_n (by first | omega | (simp only [nr, nl, rangeI_len]; omega)) (by assumption)]; done) | (rw [fin_s (by first | omega | (simp only [nr, nl, rangeI_len]; omega))]; done), by unfold someV; rw [hL]; first | rw [fin_y (by first | omega | (simp only [nr, nl, rangeI_len]; omega)) (by assumption)] | rw [fin_n (by first | omega | (simp only [nr, nl, rangeI_len]; omega)) (by assumption)] | rw [fin_s (by first | omega | (simp only [nr, nl, rangeI_len]; omega))], rfl⟩⟩
     ·
      have h11r := h11
      try simp only [nq, nr, nl, rangeI_len] at h11
      refine a_skip ?_
      refine a_seq ?_
      refine a_seq ?_
      first | have hL : some3 b p s.length least = rangeI t := (by rw [some3_y ((fill_stop (by omega)).symm.trans hpre2.2.2).symm (by omega)]; congr 1; omega) | have hL : some3 b p s.length least = l2 := some3_n ((fill_stop (by omega)).symm.trans hpre2.2.2).symm (by omega)
      refine a_region (by kernel_rfl) ?_
      refine op_v' (j_move (evo rfl)) ?_
      refine op_v' (j_len_own_map Try.underlying23 rfl rfl) ?_
      refine op_v' (j_gt rfl rfl) ?_
      refine op_v' (j_move (evo rfl)) ?_
      refine op_split' 79 rfl (fun h15 => ?_) (fun h15 => ?_)
      ·
       have h15r := h15
       try simp only [nq, nr, nl, rangeI_len] at h15
       refine op_v' (j_want rfl rfl h15r (j_move (evo rfl))) ?_
       refine op_v0' (j_want rfl rfl h15r (j_call0 (v := .p _) (hp1 := [(0, some (0, .box 114 [.sl _, .p _]))]) [(0, 0)] false [0] ent99 (f_pick b (p + s.length) 3 hb (by omega)) ⟨.inl ⟨rfl, rfl⟩, .inl ⟨rfl, rfl⟩, trivial⟩ ⟨⟨rfl, rfl⟩, trivial⟩ rfl rfl (fun h => by cases h) rfl (List.all_eq_true.1 rfl) (.inl rfl) rfl rfl)) ?_
       refine op_v' (j_want rfl rfl h15r (j_eq rfl rfl)) ?_
       refine op_v' (j_pick_t rfl h15r (evo rfl)) ?_
       refine op_nil ?_
       refine a_cond rfl (fun h16 => ?_) (fun h16 => ?_)
       ·
        have h16r := h16
        try simp only [nq, nr, nl, rangeI_len] at h16
        refine a_seq ?_
        refine a_region (by kernel_rfl) ?_
        refine op_v' (j_move (evo rfl)) ?_
        refine op_v' (j_elem_ownN slt23 rfl rfl rfl rfl (by first | omega | (simp only [nr, nl, rangeI_len]; omega))) ?_
        refine op_v' (j_load_pel leaf3 rfl rfl (at_map (by first | omega | (simp only [nr, nl, rangeI_len]; omega))) rfl) ?_
        refine op_v' (j_assign (evo rfl)) ?_
        refine op_nil ?_
        refine a_seq ?_
        refine a_region (by kernel_rfl) ?_
        refine op_v' (j_move (evo rfl)) ?_
        refine op_v' (j_move (evo rfl)) ?_
        refine op_v' (j_elem_ownN slt23 rfl rfl rfl rfl (by first | omega | (simp only [nr, nl, rangeI_len]; omega))) ?_
        refine op_v' (j_load_pel leaf3 rfl rfl (at_map (by first | omega | (simp only [nr, nl, rangeI_len]; omega))) rfl) ?_
        refine op_v' (j_elem_ownN slt23 rfl rfl rfl rfl (by first | omega | (simp only [nr, nl, rangeI_len]; omega))) ?_
        refine op_s' (j_store_row leaf3 rfl rfl (by first | omega | (simp only [nr, nl, rangeI_len]; omega)) (evo rfl) rfl rfl) ?_
        refine op_nil ?_
        refine a_region (by kernel_rfl) ?_
        refine op_v' (j_move (evo rfl)) ?_
        refine op_v' (j_move (evo rfl)) ?_
        refine op_v' (j_elem_ownN slt23 rfl rfl rfl rfl (by first | omega | (simp only [nr, nl, rangeI_len]; omega))) ?_
        refine op_s' (j_store_row leaf3 rfl rfl (by first | omega | (simp only [nr, nl, rangeI_len]; omega)) (evo rfl) rfl rfl) ?_
        refine op_nil ?_
        refine a_seq ?_
        refine a_region (by kernel_rfl) ?_
        refine op_v' (j_move (evo rfl)) ?_
        refine op_v' (j_assign (evo rfl)) ?_
        refine op_nil ?_
        refine a_freezeK 6 ⟨⟨_, _, rfl⟩, ⟨_, _, _, rfl⟩, trivial⟩ rfl rfl rfl ?_
        refine a_ret ?_
        exact ⟨[.sl _], .sl _, [.box 114 [.sl _, .p _], .row 43 5 _], [], [], ⟨rfl, trivial⟩, rfl, rfl, ⟨⟨rfl, rfl⟩, ⟨rfl, rfl⟩, trivial⟩, rfl, rfl, ⟨by unfold someV; rw [hL]; first | (rw [fin_y (by first | omega | (simp only [nr, nl, rangeI_len]; omega)) (by assumption)]; exact congrArg V.sl (by unfold swp; rw [List.map_set, List.map_set]; rfl)) | (rw [fin_n (by first | omega | (simp only [nr, nl, rangeI_len]; omega)) (by assumption)]; done) | (rw [fin_s (by first | omega | (simp only [nr, nl, rangeI_len]; omega))]; done), by unfold someV; rw [hL]; first | rw [fin_y (by first | omega | (simp only [nr, nl, rangeI_len]; omega)) (by assumption)] | rw [fin_n (by first | omega | (simp only [nr, nl, rangeI_len]; omega)) (by assumption)] | rw [fin_s (by first | omega | (simp only [nr, nl, rangeI_len]; omega))], rfl⟩⟩
       ·
        have h16r := h16
        try simp only [nq, nr, nl, rangeI_len] at h16
        refine a_skip ?_
        refine a_seq ?_
        refine a_region (by kernel_rfl) ?_
        refine op_v' (j_move (evo rfl)) ?_
        refine op_v' (j_assign (evo rfl)) ?_
        refine op_nil ?_
        refine a_freezeK 6 ⟨⟨_, _, rfl⟩, ⟨_, _, _, rfl⟩, trivial⟩ rfl rfl rfl ?_
        refine a_ret ?_
        exact ⟨[.sl _], .sl _, [.box 114 [.sl _, .p _], .row 43 5 _], [], [], ⟨rfl, trivial⟩, rfl, rfl, ⟨⟨rfl, rfl⟩, ⟨rfl, rfl⟩, trivial⟩, rfl, rfl, ⟨by unfold someV; rw [hL]; first | (rw [fin_y (by first | omega | (simp only [nr, nl, rangeI_len]; omega)) (by assumption)]; exact congrArg V.sl (by unfold swp; rw [List.map_set, List.map_set]; rfl)) | (rw [fin_n (by first | omega | (simp only [nr, nl, rangeI_len]; omega)) (by assumption)]; done) | (rw [fin_s (by first | omega | (simp only [nr, nl, rangeI_len]; omega))]; done), by unfold someV; rw [hL]; first | rw [fin_y (by first | omega | (simp only [nr, nl, rangeI_len]; omega)) (by assumption)] | rw [fin_n (by first | omega | (simp only [nr, nl, rangeI_len]; omega)) (by assumption)] | rw [fin_s (by first | omega | (simp only [nr, nl, rangeI_len]; omega))], rfl⟩⟩
      ·
       have h15r := h15
       try simp only [nq, nr, nl, rangeI_len] at h15
       refine op_v' (j_unwantV rfl rfl h15r) ?_
       refine op_v' (j_unwantV rfl rfl h15r) ?_
       refine op_v' (j_unwantV rfl rfl h15r) ?_
       refine op_v' (j_pick_f rfl h15r (evo rfl)) ?_
       refine op_nil ?_
       refine a_ff rfl ?_
       refine a_skip ?_
       refine a_seq ?_
       refine a_region (by kernel_rfl) ?_
       refine op_v' (j_move (evo rfl)) ?_
       refine op_v' (j_assign (evo rfl)) ?_
       refine op_nil ?_
       refine a_freezeK 6 ⟨⟨_, _, rfl⟩, ⟨_, _, _, rfl⟩, trivial⟩ rfl rfl rfl ?_
       refine a_ret ?_
       exact ⟨[.sl _], .sl _, [.box 114 [.sl _, .p _], .row 43 5 _], [], [], ⟨rfl, trivial⟩, rfl, rfl, ⟨⟨rfl, rfl⟩, ⟨rfl, rfl⟩, trivial⟩, rfl, rfl, ⟨by unfold someV; rw [hL]; first | (rw [fin_y (by first | omega | (simp only [nr, nl, rangeI_len]; omega)) (by assumption)]; exact congrArg V.sl (by unfold swp; rw [List.map_set, List.map_set]; rfl)) | (rw [fin_n (by first | omega | (simp only [nr, nl, rangeI_len]; omega)) (by assumption)]; done) | (rw [fin_s (by first | omega | (simp only [nr, nl, rangeI_len]; omega))]; done), by unfold someV; rw [hL]; first | rw [fin_y (by first | omega | (simp only [nr, nl, rangeI_len]; omega)) (by assumption)] | rw [fin_n (by first | omega | (simp only [nr, nl, rangeI_len]; omega)) (by assumption)] | rw [fin_s (by first | omega | (simp only [nr, nl, rangeI_len]; omega))], rfl⟩⟩
  ·
   have h3r := h3
   try simp only [nq, nr, nl, rangeI_len] at h3
   refine op_v' (j_unwantV rfl rfl h3r) ?_
   refine op_v' (j_unwantV rfl rfl h3r) ?_
   refine op_v' (j_unwantV rfl rfl h3r) ?_
   refine op_v' (j_unwantV rfl rfl h3r) ?_
   refine op_v' (j_unwantV rfl rfl h3r) ?_
   refine op_v' (j_pick_f rfl h3r (evo rfl)) ?_
   refine op_nil ?_
   refine a_ff rfl ?_
   refine a_exit ?_
   refine a_seq ?_
   refine a_seq ?_
   refine a_region (by kernel_rfl) ?_
   refine op_v' (j_move (evo rfl)) ?_
   refine op_v' (j_len_own_map Try.underlying23 rfl rfl) ?_
   refine op_v' (j_move (evo rfl)) ?_
   refine op_v' (j_lt rfl rfl) ?_
   refine op_v' (j_move (evo rfl)) ?_
   refine op_split' 61 rfl (fun h17 => ?_) (fun h17 => ?_)
   ·
    have h17r := h17
    try simp only [nq, nr, nl, rangeI_len] at h17
    refine op_v' (j_unwantV rfl rfl h17r) ?_
    refine op_v' (j_unwantV rfl rfl h17r) ?_
    refine op_v' (j_unwantV rfl rfl h17r) ?_
    refine op_v' (j_pick_t rfl h17r (evo rfl)) ?_
    refine op_nil ?_
    refine a_tt rfl ?_
    refine a_seq ?_
    refine a_region (by kernel_rfl) ?_
    refine op_n' (fun ver => j_buildSlice (parts := []) (es := []) slt23 elt3 rfl rfl (by decide) (by decide) rfl rfl (by simp) rfl) fun v66x15 => ?_
    refine op_v' (j_assign (evo rfl)) ?_
    refine op_nil ?_
    refine a_seq ?_
    refine a_region (by kernel_rfl) ?_
    refine op_v' (j_assign (evo rfl)) ?_
    refine op_nil ?_
    refine a_block ?_
    refine a_loopF' (ι := Nat × Nat) (fun x => x.1 ≤ least) (fun x r => (10, .p (.int .i64 ((x.1 : Nat)))) :: (7, .own 66 x.2) :: r) (fun x r => (66, some (x.2, .row 3 1 ((rangeI x.1).map dI))) :: r) (fun x => least - x.1) (fun _ _ => rfl) (fun _ _ => rfl) (0, v66x15) (by first | exact (Nat.zero_le _) | (dsimp only; exact (Nat.zero_le _))) ⟨⟨rfl, rfl⟩, ⟨rfl, rfl, trivial⟩, ⟨rfl, trivial⟩, ⟨rfl, rfl⟩, ⟨rfl, rfl⟩⟩ ?_
    rintro ⟨t, v⟩ ht; dsimp only at ht ⊢
    refine a_seq ?_
    refine a_seq ?_
    refine a_region (by kernel_rfl) ?_
    refine op_v' (j_move (evo rfl)) ?_
    refine op_v' (j_move (evo rfl)) ?_
    refine op_v' (j_lt rfl rfl) ?_
    refine op_nil ?_
    refine a_cond rfl (fun h18 => ?_) (fun h18 => ?_)
    ·
     have h18r := h18
     try simp only [nq, nr, nl, rangeI_len] at h18
     refine a_skip ?_
     refine a_seq ?_
     refine a_block ?_
     refine a_region (by kernel_rfl) ?_
     refine op_v' (j_move (evo rfl)) ?_
     refine op_v' (j_move (evo rfl)) ?_
     refine op_n' (fun ver => j_buildSlice (parts := [(0, .tmp 73)]) (es := [[_]]) slt23 elt3 rfl rfl (by decide) (by decide) rfl rfl (by simp) rfl) fun v74x16 => ?_
     refine op_n' (fun ver => j_append_own slt23 elt3 rfl rfl rfl rfl rfl rfl (by rw [maxLen_eq]; first | omega | (simp only [nr, nl, rangeI_len]; omega)) (by first | omega | (simp only [nr, nl, rangeI_len]; omega))) fun v66x17 => ?_
     refine op_v' (j_assign (evo rfl)) ?_
     refine op_nil ?_
     refine a_region (by kernel_rfl) ?_
     refine op_v' (j_move (evo rfl)) ?_
     refine op_v' (j_add rfl rfl (by first | omega | (simp only [nr, nl, rangeI_len]; omega)) (by first | omega | (simp only [nr, nl, rangeI_len]; omega))) ?_
     refine op_v' (j_assign (evo rfl)) ?_
     refine op_nil ?_
     exact ⟨(t + 1, v66x17), (by first | exact (by first | omega | (simp only [nr, nl, rangeI_len]; omega)) | (dsimp only; exact (by first | omega | (simp only [nr, nl, rangeI_len]; omega)))), ⟨⟨rfl, rfl⟩, ⟨rfl, rfl, trivial⟩, ⟨rowEq (by rw [rangeI_next, List.map_append]; rfl), trivial⟩, ⟨rfl, rfl⟩, ⟨rfl, rfl⟩⟩, (by first | exact (by first | omega | (simp only [nr, nl, rangeI_len]; omega)) | (dsimp only; exact (by first | omega | (simp only [nr, nl, rangeI_len]; omega))))⟩
    ·
     have h18r := h18
     try simp only [nq, nr, nl, rangeI_len] at h18
     refine a_exit ?_
     refine a_seq ?_
     refine a_seq ?_
     first | have hL : some3 b p s.length least = rangeI t := (by rw [some3_y ((fill_stop (by omega)).symm.trans hpre2.2.2).symm (by omega)]; congr 1; omega) | have hL : some3 b p s.length least = l2 := some3_n ((fill_stop (by omega)).symm.trans hpre2.2.2).symm (by omega)
     refine a_region (by kernel_rfl) ?_
     refine op_v' (j_move (evo rfl)) ?_
     refine op_v' (j_len_own_map Try.underlying23 rfl rfl) ?_
     refine op_v' (j_gt rfl rfl) ?_
     refine op_v' (j_move (evo rfl)) ?_
     refine op_split' 79 rfl (fun h19 => ?_) (fun h19 => ?_)
     ·
      have h19r := h19
      try simp only [nq, nr, nl, rangeI_len] at h19
      refine op_v' (j_want rfl rfl h19r (j_move (evo rfl))) ?_
      refine op_v0' (j_want rfl rfl h19r (j_call0 (v := .p _) (hp1 := [(0, some (0, .box 114 [.sl _, .p _]))]) [(0, 0)] false [0] ent99 (f_pick b (p + s.length) 3 hb (by omega)) ⟨.inl ⟨rfl, rfl⟩, .inl ⟨rfl, rfl⟩, trivial⟩ ⟨⟨rfl, rfl⟩, trivial⟩ rfl rfl (fun h => by cases h) rfl (List.all_eq_true.1 rfl) (.inl rfl) rfl rfl)) ?_
      refine op_v' (j_want rfl rfl h19r (j_eq rfl rfl)) ?_
      refine op_v' (j_pick_t rfl h19r (evo rfl)) ?_
      refine op_nil ?_
      refine a_cond rfl (fun h20 => ?_) (fun h20 => ?_)
      ·
       have h20r := h20
       try simp only [nq, nr, nl, rangeI_len] at h20
       refine a_seq ?_
       refine a_region (by kernel_rfl) ?_
       refine op_v' (j_move (evo rfl)) ?_
       refine op_v' (j_elem_ownN slt23 rfl rfl rfl rfl (by first | omega | (simp only [nr, nl, rangeI_len]; omega))) ?_
       refine op_v' (j_load_pel leaf3 rfl rfl (at_map (by first | omega | (simp only [nr, nl, rangeI_len]; omega))) rfl) ?_
       refine op_v' (j_assign (evo rfl)) ?_
       refine op_nil ?_
       refine a_seq ?_
       refine a_region (by kernel_rfl) ?_
       refine op_v' (j_move (evo rfl)) ?_
       refine op_v' (j_move (evo rfl)) ?_
       refine op_v' (j_elem_ownN slt23 rfl rfl rfl rfl (by first | omega | (simp only [nr, nl, rangeI_len]; omega))) ?_
       refine op_v' (j_load_pel leaf3 rfl rfl (at_map (by first | omega | (simp only [nr, nl, rangeI_len]; omega))) rfl) ?_
       refine op_v' (j_elem_ownN slt23 rfl rfl rfl rfl (by first | omega | (simp only [nr, nl, rangeI_len]; omega))) ?_
       refine op_s' (j_store_row leaf3 rfl rfl (by first | omega | (simp only [nr, nl, rangeI_len]; omega)) (evo rfl) rfl rfl) ?_
       refine op_nil ?_
       refine a_region (by kernel_rfl) ?_
       refine op_v' (j_move (evo rfl)) ?_
       refine op_v' (j_move (evo rfl)) ?_
       refine op_v' (j_elem_ownN slt23 rfl rfl rfl rfl (by first | omega | (simp only [nr, nl, rangeI_len]; omega))) ?_
       refine op_s' (j_store_row leaf3 rfl rfl (by first | omega | (simp only [nr, nl, rangeI_len]; omega)) (evo rfl) rfl rfl) ?_
       refine op_nil ?_
       refine a_seq ?_
       refine a_region (by kernel_rfl) ?_
       refine op_v' (j_move (evo rfl)) ?_
       refine op_v' (j_assign (evo rfl)) ?_
       refine op_nil ?_
       refine a_freezeK 6 ⟨⟨_, _, rfl⟩, ⟨_, _, _, rfl⟩, trivial⟩ rfl rfl rfl ?_
       refine a_ret ?_
       exact ⟨[.sl _], .sl _, [.box 114 [.sl _, .p _], .row 43 5 _], [], [], ⟨rfl, trivial⟩, rfl, rfl, ⟨⟨rfl, rfl⟩, ⟨rfl, rfl⟩, trivial⟩, rfl, rfl, ⟨by unfold someV; rw [hL]; first | (rw [fin_y (by first | omega | (simp only [nr, nl, rangeI_len]; omega)) (by assumption)]; exact congrArg V.sl (by unfold swp; rw [List.map_set, List.map_set]; rfl)) | (rw [fin_n (by first | omega | (simp only [nr, nl, rangeI_len]; omega)) (by assumption)]; done) | (rw [fin_s (by first | omega | (simp only [nr, nl, rangeI_len]; omega))]; done), by unfold someV; rw [hL]; first | rw [fin_y (by first | omega | (simp only [nr, nl, rangeI_len]; omega)) (by assumption)] | rw [fin_n (by first | omega | (simp only [nr, nl, rangeI_len]; omega)) (by assumption)] | rw [fin_s (by first | omega | (simp only [nr, nl, rangeI_len]; omega))], rfl⟩⟩
      ·
       have h20r := h20
       try simp only [nq, nr, nl, rangeI_len] at h20
       refine a_skip ?_
       refine a_seq ?_
       refine a_region (by kernel_rfl) ?_
       refine op_v' (j_move (evo rfl)) ?_
       refine op_v' (j_assign (evo rfl)) ?_
       refine op_nil ?_
       refine a_freezeK 6 ⟨⟨_, _, rfl⟩, ⟨_, _, _, rfl⟩, trivial⟩ rfl rfl rfl ?_
       refine a_ret ?_
       exact ⟨[.sl _], .sl _, [.box 114 [.sl _, .p _], .row 43 5 _], [], [], ⟨rfl, trivial⟩, rfl, rfl, ⟨⟨rfl, rfl⟩, ⟨rfl, rfl⟩, trivial⟩, rfl, rfl, ⟨by unfold someV; rw [hL]; first | (rw [fin_y (by first | omega | (simp only [nr, nl, rangeI_len]; omega)) (by assumption)]; exact congrArg V.sl (by unfold swp; rw [List.map_set, List.map_set]; rfl)) | (rw [fin_n (by first | omega | (simp only [nr, nl, rangeI_len]; omega)) (by assumption)]; done) | (rw [fin_s (by first | omega | (simp only [nr, nl, rangeI_len]; omega))]; done), by unfold someV; rw [hL]; first | rw [fin_y (by first | omega | (simp only [nr, nl, rangeI_len]; omega)) (by assumption)] | rw [fin_n (by first | omega | (simp only [nr, nl, rangeI_len]; omega)) (by assumption)] | rw [fin_s (by first | omega | (simp only [nr, nl, rangeI_len]; omega))], rfl⟩⟩
     ·
      have h19r := h19
      try simp only [nq, nr, nl, rangeI_len] at h19
      refine op_v' (j_unwantV rfl rfl h19r) ?_
      refine op_v' (j_unwantV rfl rfl h19r) ?_
      refine op_v' (j_unwantV rfl rfl h19r) ?_
      refine op_v' (j_pick_f rfl h19r (evo rfl)) ?_
      refine op_nil ?_
      refine a_ff rfl ?_
      refine a_skip ?_
      refine a_seq ?_
      refine a_region (by kernel_rfl) ?_
      refine op_v' (j_move (evo rfl)) ?_
      refine op_v' (j_assign (evo rfl)) ?_
      refine op_nil ?_
      refine a_freezeK 6 ⟨⟨_, _, rfl⟩, ⟨_, _, _, rfl⟩, trivial⟩ rfl rfl rfl ?_
      refine a_ret ?_
      exact ⟨[.sl _], .sl _, [.box 114 [.sl _, .p _], .row 43 5 _], [], [], ⟨rfl, trivial⟩, rfl, rfl, ⟨⟨rfl, rfl⟩, ⟨rfl, rfl⟩, trivial⟩, rfl, rfl, ⟨by unfold someV; rw [hL]; first | (rw [fin_y (by first | omega | (simp only [nr, nl, rangeI_len]; omega)) (by assumption)]; exact congrArg V.sl (by unfold swp; rw [List.map_set, List.map_set]; rfl)) | (rw [fin_n (by first | omega | (simp only [nr, nl, rangeI_len]; omega)) (by assumption)]; done) | (rw [fin_s (by first | omega | (simp only [nr, nl, rangeI_len]; omega))]; done), by unfold someV; rw [hL]; first | rw [fin_y (by first | omega | (simp only [nr, nl, rangeI_len]; omega)) (by assumption)] | rw [fin_n (by first | omega | (simp only [nr, nl, rangeI_len]; omega)) (by assumption)] | rw [fin_s (by first | omega | (simp only [nr, nl, rangeI_len]; omega))], rfl⟩⟩
   ·
    have h17r := h17
    try simp only [nq, nr, nl, rangeI_len] at h17
    refine op_v' (j_want rfl rfl h17r (j_move (evo rfl))) ?_
    refine op_v' (j_want rfl rfl h17r (j_len_own_map Try.underlying23 rfl rfl)) ?_
    refine op_v' (j_want rfl rfl h17r (j_eq rfl rfl)) ?_
    refine op_v' (j_pick_f rfl h17r (evo rfl)) ?_
    refine op_nil ?_
    refine a_cond rfl (fun h21 => ?_) (fun h21 => ?_)
    ·
     have h21r := h21
     try simp only [nq, nr, nl, rangeI_len] at h21
     refine a_seq ?_
     refine a_region (by kernel_rfl) ?_
     refine op_n' (fun ver => j_buildSlice (parts := []) (es := []) slt23 elt3 rfl rfl (by decide) (by decide) rfl rfl (by simp) rfl) fun v66x18 => ?_
     refine op_v' (j_assign (evo rfl)) ?_
     refine op_nil ?_
     refine a_seq ?_
     refine a_region (by kernel_rfl) ?_
     refine op_v' (j_assign (evo rfl)) ?_
     refine op_nil ?_
     refine a_block ?_
     refine a_loopF' (ι := Nat × Nat) (fun x => x.1 ≤ least) (fun x r => (10, .p (.int .i64 ((x.1 : Nat)))) :: (7, .own 66 x.2) :: r) (fun x r => (66, some (x.2, .row 3 1 ((rangeI x.1).map dI))) :: r) (fun x => least - x.1) (fun _ _ => rfl) (fun _ _ => rfl) (0, v66x18) (by first | exact (Nat.zero_le _) | (dsimp only; exact (Nat.zero_le _))) ⟨⟨rfl, rfl⟩, ⟨rfl, rfl, trivial⟩, ⟨rfl, trivial⟩, ⟨rfl, rfl⟩, ⟨rfl, rfl⟩⟩ ?_
     rintro ⟨t, v⟩ ht; dsimp only at ht ⊢
     refine a_seq ?_
     refine a_seq ?_
     refine a_region (by kernel_rfl) ?_
     refine op_v' (j_move (evo rfl)) ?_
     refine op_v' (j_move (evo rfl)) ?_
     refine op_v' (j_lt rfl rfl) ?_
     refine op_nil ?_
     refine a_cond rfl (fun h22 => ?_) (fun h22 => ?_)
     ·
      have h22r := h22
      try simp only [nq, nr, nl, rangeI_len] at h22
      refine a_skip ?_
      refine a_seq ?_
      refine a_block ?_
      refine a_region (by kernel_rfl) ?_
      refine op_v' (j_move (evo rfl)) ?_
      refine op_v' (j_move (evo rfl)) ?_
      refine op_n' (fun ver => j_buildSlice (parts := [(0, .tmp 73)]) (es := [[_]]) slt23 elt3 rfl rfl (by decide) (by decide) rfl rfl (by simp) rfl) fun v74x19 => ?_
      refine op_n' (fun ver => j_append_own slt23 elt3 rfl rfl rfl rfl rfl rfl (by rw [maxLen_eq]; first | omega | (simp only [nr, nl, rangeI_len]; omega)) (by first | omega | (simp only [nr, nl, rangeI_len]; omega))) fun v66x20 => ?_
      refine op_v' (j_assign (evo rfl)) ?_
      refine op_nil ?_
      refine a_region (by kernel_rfl) ?_
      refine op_v' (j_move (evo rfl)) ?_
      refine op_v' (j_add rfl rfl (by first | omega | (simp only [nr, nl, rangeI_len]; omega)) (by first | omega | (simp only [nr, nl, rangeI_len]; omega))) ?_
      refine op_v' (j_assign (evo rfl)) ?_
      refine op_nil ?_
      exact ⟨(t + 1, v66x20), (by first | exact (by first | omega | (simp only [nr, nl, rangeI_len]; omega)) | (dsimp only; exact (by first | omega | (simp only [nr, nl, rangeI_len]; omega)))), ⟨⟨rfl, rfl⟩, ⟨rfl, rfl, trivial⟩, ⟨rowEq (by rw [rangeI_next, List.map_append]; rfl), trivial⟩, ⟨rfl, rfl⟩, ⟨rfl, rfl⟩⟩, (by first | exact (by first | omega | (simp only [nr, nl, rangeI_len]; omega)) | (dsimp only; exact (by first | omega | (simp only [nr, nl, rangeI_len]; omega))))⟩
     ·
      have h22r := h22
      try simp only [nq, nr, nl, rangeI_len] at h22
      refine a_exit ?_
      refine a_seq ?_
      refine a_seq ?_
      first | have hL : some3 b p s.length least = rangeI t := (by rw [some3_y ((fill_stop (by omega)).symm.trans hpre2.2.2).symm (by omega)]; congr 1; omega) | have hL : some3 b p s.length least = l2 := some3_n ((fill_stop (by omega)).symm.trans hpre2.2.2).symm (by omega)
      refine a_region (by kernel_rfl) ?_
      refine op_v' (j_move (evo rfl)) ?_
      refine op_v' (j_len_own_map Try.underlying23 rfl rfl) ?_
      refine op_v' (j_gt rfl rfl) ?_
      refine op_v' (j_move (evo rfl)) ?_
      refine op_split' 79 rfl (fun h23 => ?_) (fun h23 => ?_)
      ·
       have h23r := h23
       try simp only [nq, nr, nl, rangeI_len] at h23
       refine op_v' (j_want rfl rfl h23r (j_move (evo rfl))) ?_
       refine op_v0' (j_want rfl rfl h23r (j_call0 (v := .p _) (hp1 := [(0, some (0, .box 114 [.sl _, .p _]))]) [(0, 0)] false [0] ent99 (f_pick b (p + s.length) 3 hb (by omega)) ⟨.inl ⟨rfl, rfl⟩, .inl ⟨rfl, rfl⟩, trivial⟩ ⟨⟨rfl, rfl⟩, trivial⟩ rfl rfl (fun h => by cases h) rfl (List.all_eq_true.1 rfl) (.inl rfl) rfl rfl)) ?_
       refine op_v' (j_want rfl rfl h23r (j_eq rfl rfl)) ?_
       refine op_v' (j_pick_t rfl h23r (evo rfl)) ?_
       refine op_nil ?_
       refine a_cond rfl (fun h24 => ?_) (fun h24 => ?_)
       ·
        have h24r := h24
        try simp only [nq, nr, nl, rangeI_len] at h24
        refine a_seq ?_
        refine a_region (by kernel_rfl) ?_
        refine op_v' (j_move (evo rfl)) ?_
        refine op_v' (j_elem_ownN slt23 rfl rfl rfl rfl (by first | omega | (simp only [nr, nl, rangeI_len]; omega))) ?_
        refine op_v' (j_load_pel leaf3 rfl rfl (at_map (by first | omega | (simp only [nr, nl, rangeI_len]; omega))) rfl) ?_
        refine op_v' (j_assign (evo rfl)) ?_
        refine op_nil ?_
        refine a_seq ?_
        refine a_region (by kernel_rfl) ?_
        refine op_v' (j_move (evo rfl)) ?_
        refine op_v' (j_move (evo rfl)) ?_
        refine op_v' (j_elem_ownN slt23 rfl rfl rfl rfl (by first | omega | (simp only [nr, nl, rangeI_len]; omega))) ?_
        refine op_v' (j_load_pel leaf3 rfl rfl (at_map (by first | omega | (simp only [nr, nl, rangeI_len]; omega))) rfl) ?_
        refine op_v' (j_elem_ownN slt23 rfl rfl rfl rfl (by first | omega | (simp only [nr, nl, rangeI_len]; omega))) ?_
        refine op_s' (j_store_row leaf3 rfl rfl (by first | omega | (simp only [nr, nl, rangeI_len]; omega)) (evo rfl) rfl rfl) ?_
        refine op_nil ?_
        refine a_region (by kernel_rfl) ?_
        refine op_v' (j_move (evo rfl)) ?_
        refine op_v' (j_move (evo rfl)) ?_
        refine op_v' (j_elem_ownN slt23 rfl rfl rfl rfl (by first | omega | (simp only [nr, nl, rangeI_len]; omega))) ?_
        refine op_s' (j_store_row leaf3 rfl rfl (by first | omega | (simp only [nr, nl, rangeI_len]; omega)) (evo rfl) rfl rfl) ?_
        refine op_nil ?_
        refine a_seq ?_
        refine a_region (by kernel_rfl) ?_
        refine op_v' (j_move (evo rfl)) ?_
        refine op_v' (j_assign (evo rfl)) ?_
        refine op_nil ?_
        refine a_freezeK 6 ⟨⟨_, _, rfl⟩, ⟨_, _, _, rfl⟩, trivial⟩ rfl rfl rfl ?_
        refine a_ret ?_
        exact ⟨[.sl _], .sl _, [.box 114 [.sl _, .p _], .row 43 5 _], [], [], ⟨rfl, trivial⟩, rfl, rfl, ⟨⟨rfl, rfl⟩, ⟨rfl, rfl⟩, trivial⟩, rfl, rfl, ⟨by unfold someV; rw [hL]; first | (rw [fin_y (by first | omega | (simp only [nr, nl, rangeI_len]; omega)) (by assumption)]; exact congrArg V.sl (by unfold swp; rw [List.map_set, List.map_set]; rfl)) | (rw [fin_n (by first | omega | (simp only [nr, nl, rangeI_len]; omega)) (by assumption)]; done) | (rw [fin_s (by first | omega | (simp only [nr, nl, rangeI_len]; omega))]; done), by unfold someV; rw [hL]; first | rw [fin_y (by first | omega | (simp only [nr, nl, rangeI_len]; omega)) (by assumption)] | rw [fin_n (by first | omega | (simp only [nr, nl, rangeI_len]; omega)) (by assumption)] | rw [fin_s (by first | omega | (simp only [nr, nl, rangeI_len]; omega))], rfl⟩⟩
       ·
        have h24r := h24
        try simp only [nq, nr, nl, rangeI_len] at h24
        refine a_skip ?_
        refine a_seq ?_
        refine a_region (by kernel_rfl) ?_
        refine op_v' (j_move (evo rfl)) ?_
        refine op_v' (j_assign (evo rfl)) ?_
        refine op_nil ?_
        refine a_freezeK 6 ⟨⟨_, _, rfl⟩, ⟨_, _, _, rfl⟩, trivial⟩ rfl rfl rfl ?_
        refine a_ret ?_
        exact ⟨[.sl _], .sl _, [.box 114 [.sl _, .p _], .row 43 5 _], [], [], ⟨rfl, trivial⟩, rfl, rfl, ⟨⟨rfl, rfl⟩, ⟨rfl, rfl⟩, trivial⟩, rfl, rfl, ⟨by unfold someV; rw [hL]; first | (rw [fin_y (by first | omega | (simp only [nr, nl, rangeI_len]; omega)) (by assumption)]; exact congrArg V.sl (by unfold swp; rw [List.map_set, List.map_set]; rfl)) | (rw [fin_n (by first | omega | (simp only [nr, nl, rangeI_len]; omega)) (by assumption)]; done) | (rw [fin_s (by first | omega | (simp only [nr, nl, rangeI_len]; omega))]; done), by unfold someV; rw [hL]; first | rw [fin_y (by first | omega | (simp only [nr, nl, rangeI_len]; omega)) (by assumption)] | rw [fin_n (by first | omega | (simp only [nr, nl, rangeI_len]; omega)) (by assumption)] | rw [fin_s (by first | omega | (simp only [nr, nl, rangeI_len]; omega))], rfl⟩⟩
      ·
       have h23r := h23
       try simp only [nq, nr, nl, rangeI_len] at h23
       refine op_v' (j_unwantV rfl rfl h23r) ?_
       refine op_v' (j_unwantV rfl rfl h23r) ?_
       refine op_v' (j_unwantV rfl rfl h23r) ?_
       refine op_v' (j_pick_f rfl h23r (evo rfl)) ?_
       refine op_nil ?_
       refine a_ff rfl ?_
       refine a_skip ?_
       refine a_seq ?_
       refine a_region (by kernel_rfl) ?_
       refine op_v' (j_move (evo rfl)) ?_
       refine op_v' (j_assign (evo rfl)) ?_
       refine op_nil ?_
       refine a_freezeK 6 ⟨⟨_, _, rfl⟩, ⟨_, _, _, rfl⟩, trivial⟩ rfl rfl rfl ?_
       refine a_ret ?_
       exact ⟨[.sl _], .sl _, [.box 114 [.sl _, .p _], .row 43 5 _], [], [], ⟨rfl, trivial⟩, rfl, rfl, ⟨⟨rfl, rfl⟩, ⟨rfl, rfl⟩, trivial⟩, rfl, rfl, ⟨by unfold someV; rw [hL]; first | (rw [fin_y (by first | omega | (simp only [nr, nl, rangeI_len]; omega)) (by assumption)]; exact congrArg V.sl (by unfold swp; rw [List.map_set, List.map_set]; rfl)) | (rw [fin_n (by first | omega | (simp only [nr, nl, rangeI_len]; omega)) (by assumption)]; done) | (rw [fin_s (by first | omega | (simp only [nr, nl, rangeI_len]; omega))]; done), by unfold someV; rw [hL]; first | rw [fin_y (by first | omega | (simp only [nr, nl, rangeI_len]; omega)) (by assumption)] | rw [fin_n (by first | omega | (simp only [nr, nl, rangeI_len]; omega)) (by assumption)] | rw [fin_s (by first | omega | (simp only [nr, nl, rangeI_len]; omega))], rfl⟩⟩
    ·
     have h21r := h21
     try simp only [nq, nr, nl, rangeI_len] at h21
     refine a_skip ?_
     refine a_seq ?_
     refine a_seq ?_
     first | have hL : some3 b p s.length least = rangeI t := (by rw [some3_y ((fill_stop (by omega)).symm.trans hpre2.2.2).symm (by omega)]; congr 1; omega) | have hL : some3 b p s.length least = l2 := some3_n ((fill_stop (by omega)).symm.trans hpre2.2.2).symm (by omega)
     refine a_region (by kernel_rfl) ?_
     refine op_v' (j_move (evo rfl)) ?_
     refine op_v' (j_len_own_map Try.underlying23 rfl rfl) ?_
     refine op_v' (j_gt rfl rfl) ?_
     refine op_v' (j_move (evo rfl)) ?_
     refine op_split' 79 rfl (fun h25 => ?_) (fun h25 => ?_)
     ·
      have h25r := h25
      try simp only [nq, nr, nl, rangeI_len] at h25
      refine op_v' (j_want rfl rfl h25r (j_move (evo rfl))) ?_
      refine op_v0' (j_want rfl rfl h25r (j_call0 (v := .p _) (hp1 := [(0, some (0, .box 114 [.sl _, .p _]))]) [(0, 0)] false [0] ent99 (f_pick b (p + s.length) 3 hb (by omega)) ⟨.inl ⟨rfl, rfl⟩, .inl ⟨rfl, rfl⟩, trivial⟩ ⟨⟨rfl, rfl⟩, trivial⟩ rfl rfl (fun h => by cases h) rfl (List.all_eq_true.1 rfl) (.inl rfl) rfl rfl)) ?_
      refine op_v' (j_want rfl rfl h25r (j_eq rfl rfl)) ?_
      refine op_v' (j_pick_t rfl h25r (evo rfl)) ?_
      refine op_nil ?_
      refine a_cond rfl (fun h26 => ?_) (fun h26 => ?_)
      ·
       have h26r := h26
       try simp only [nq, nr, nl, rangeI_len] at h26
       refine a_seq ?_
       refine a_region (by kernel_rfl) ?_
       refine op_v' (j_move (evo rfl)) ?_
       refine op_v' (j_elem_ownN slt23 rfl rfl rfl rfl (by first | omega | (simp only [nr, nl, rangeI_len]; omega))) ?_
       refine op_v' (j_load_pel leaf3 rfl rfl (at_map (by first | omega | (simp only [nr, nl, rangeI_len]; omega))) rfl) ?_
       refine op_v' (j_assign (evo rfl)) ?_
       refine op_nil ?_
       refine a_seq ?_
       refine a_region (by kernel_rfl) ?_
       refine op_v' (j_move (evo rfl)) ?_
       refine op_v' (j_move (evo rfl)) ?_
       refine op_v' (j_elem_ownN slt23 rfl rfl rfl rfl (by first | omega | (simp only [nr, nl, rangeI_len]; omega))) ?_
       refine op_v' (j_load_pel leaf3 rfl rfl (at_map (by first | omega | (simp only [nr, nl, rangeI_len]; omega))) rfl) ?_
       refine op_v' (j_elem_ownN slt23 rfl rfl rfl rfl (by first | omega | (simp only [nr, nl, rangeI_len]; omega))) ?_
       refine op_s' (j_store_row leaf3 rfl rfl (by first | omega | (simp only [nr, nl, rangeI_len]; omega)) (evo rfl) rfl rfl) ?_
       refine op_nil ?_
       refine a_region (by kernel_rfl) ?_
       refine op_v' (j_move (evo rfl)) ?_
       refine op_v' (j_move (evo rfl)) ?_
       refine op_v' (j_elem_ownN slt23 rfl rfl rfl rfl (by first | omega | (simp only [nr, nl, rangeI_len]; omega))) ?_
       refine op_s' (j_store_row leaf3 rfl rfl (by first | omega | (simp only [nr, nl, rangeI_len]; omega)) (evo rfl) rfl rfl) ?_
       refine op_nil ?_
       refine a_seq ?_
       refine a_region (by kernel_rfl) ?_
       refine op_v' (j_move (evo rfl)) ?_
       refine op_v' (j_assign (evo rfl)) ?_
       refine op_nil ?_
       refine a_freezeK 6 ⟨⟨_, _, rfl⟩, ⟨_, _, _, rfl⟩, trivial⟩ rfl rfl rfl ?_
       refine a_ret ?_
       exact ⟨[.sl _], .sl _, [.box 114 [.sl _, .p _], .row 43 5 _], [], [], ⟨rfl, trivial⟩, rfl, rfl, ⟨⟨rfl, rfl⟩, ⟨rfl, rfl⟩, trivial⟩, rfl, rfl, ⟨by unfold someV; rw [hL]; first | (rw [fin_y (by first | omega | (simp only [nr, nl, rangeI_len]; omega)) (by assumption)]; exact congrArg V.sl (by unfold swp; rw [List.map_set, List.map_set]; rfl)) | (rw [fin_n (by first | omega | (simp only [nr, nl, rangeI_len]; omega)) (by assumption)]; done) | (rw [fin_s (by first | omega | (simp only [nr, nl, rangeI_len]; omega))]; done), by unfold someV; rw [hL]; first | rw [fin_y (by first | omega | (simp only [nr, nl, rangeI_len]; omega)) (by assumption)] | rw [fin_n (by first | omega | (simp only [nr, nl, rangeI_len]; omega)) (by assumption)] | rw [fin_s (by first | omega | (simp only [nr, nl, rangeI_len]; omega))], rfl⟩⟩
      ·
       have h26r := h26
       try simp only [nq, nr, nl, rangeI_len] at h26
       refine a_skip ?_
       refine a_seq ?_
       refine a_region (by kernel_rfl) ?_
       refine op_v' (j_move (evo rfl)) ?_
       refine op_v' (j_assign (evo rfl)) ?_
       refine op_nil ?_
       refine a_freezeK 6 ⟨⟨_, _, rfl⟩, ⟨_, _, _, rfl⟩, trivial⟩ rfl rfl rfl ?_
       refine a_ret ?_
       exact ⟨[.sl _], .sl _, [.box 114 [.sl _, .p _], .row 43 5 _], [], [], ⟨rfl, trivial⟩, rfl, rfl, ⟨⟨rfl, rfl⟩, ⟨rfl, rfl⟩, trivial⟩, rfl, rfl, ⟨by unfold someV; rw [hL]; first | (rw [fin_y (by first | omega | (simp only [nr, nl, rangeI_len]; omega)) (by assumption)]; exact congrArg V.sl (by unfold swp; rw [List.map_set, List.map_set]; rfl)) | (rw [fin_n (by first | omega | (simp only [nr, nl, rangeI_len]; omega)) (by assumption)]; done) | (rw [fin_s (by first | omega | (simp only [nr, nl, rangeI_len]; omega))]; done), by unfold someV; rw [hL]; first | rw [fin_y (by first | omega | (simp only [nr, nl, rangeI_len]; omega)) (by assumption)] | rw [fin_n (by first | omega | (simp only [nr, nl, rangeI_len]; omega)) (by assumption)] | rw [fin_s (by first | omega | (simp only [nr, nl, rangeI_len]; omega))], rfl⟩⟩
     ·
      have h25r := h25
      try simp only [nq, nr, nl, rangeI_len] at h25
      refine op_v' (j_unwantV rfl rfl h25r) ?_
      refine op_v' (j_unwantV rfl rfl h25r) ?_
      refine op_v' (j_unwantV rfl rfl h25r) ?_
      refine op_v' (j_pick_f rfl h25r (evo rfl)) ?_
      refine op_nil ?_
      refine a_ff rfl ?_
      refine a_skip ?_
      refine a_seq ?_
      refine a_region (by kernel_rfl) ?_
      refine op_v' (j_move (evo rfl)) ?_
      refine op_v' (j_assign (evo rfl)) ?_
      refine op_nil ?_
      refine a_freezeK 6 ⟨⟨_, _, rfl⟩, ⟨_, _, _, rfl⟩, trivial⟩ rfl rfl rfl ?_
      refine a_ret ?_
      exact ⟨[.sl _], .sl _, [.box 114 [.sl _, .p _], .row 43 5 _], [], [], ⟨rfl, trivial⟩, rfl, rfl, ⟨⟨rfl, rfl⟩, ⟨rfl, rfl⟩, trivial⟩, rfl, rfl, ⟨by unfold someV; rw [hL]; first | (rw [fin_y (by first | omega | (simp only [nr, nl, rangeI_len]; omega)) (by assumption)]; exact congrArg V.sl (by unfold swp; rw [List.map_set, List.map_set]; rfl)) | (rw [fin_n (by first | omega | (simp only [nr, nl, rangeI_len]; omega)) (by assumption)]; done) | (rw [fin_s (by first | omega | (simp only [nr, nl, rangeI_len]; omega))]; done), by unfold someV; rw [hL]; first | rw [fin_y (by first | omega | (simp only [nr, nl, rangeI_len]; omega)) (by assumption)] | rw [fin_n (by first | omega | (simp only [nr, nl, rangeI_len]; omega)) (by assumption)] | rw [fin_s (by first | omega | (simp only [nr, nl, rangeI_len]; omega))], rfl⟩⟩


theorem f_l6Draw (b : List Int) (p : Nat) (s : List Int) (l : List Rl) (hb : okB b) (hp : p ≤ 1099511620000) (hs : s.length ≤ 5) : Fn Try.prog 127 [.ptr 0 0 0, .agg [.sl (s.map dI), .own 1 0]] [.box 114 [.sl (b.map dU), .p (.int .i64 ((p : Nat) : Int))], .row 43 5 ((l).map dR)] (fun rr ii nn => rr = .agg [.p (.int .i64 (drawR b p s.length).1.1), .sl ((drawR b p s.length).1.2.1.map dI), .sl ((drawR b p s.length).1.2.2.1.map dI), .p (.int .i64 (drawR b p s.length).1.2.2.2.1), .sl ((drawR b p s.length).1.2.2.2.2.map dL)] ∧ ii = [.box 114 [.sl (b.map dU), .p (.int .i64 (((drawR b p s.length).2 : Nat) : Int))], .row 43 5 ((l).map dR)] ∧ nn = []) := by
 refine fn_of Try.func127 rfl (Nat.le_of_ble_eq_true rfl) fun w X g => ?_
 show AWp _ _ _ ⟨[(0, .ptr 0 0 0), (1, .agg [.sl (s.map dI), .own 1 0])], [(0, some (0, .box 114 [.sl (b.map dU), .p (.int .i64 ((p : Nat) : Int))])), (1, some (0, .row 43 5 ((l).map dR)))]⟩
 have hv1 := someV_ok (b := b) (p := p + 1) (n := s.length) (least := 1)
 have hv2 := someV_ok (b := b) (p := (someV b (p + 1) s.length 1).2) (n := s.length) (least := 2)
 have hz : (0 : Int) ≤ ofV b ((someV b (p + 1) s.length 1).2) ([3, 4, 2, 6, 0, 8] : List Int) ∧ ofV b ((someV b (p + 1) s.length 1).2) ([3, 4, 2, 6, 0, 8] : List Int) ≤ 8 := ofV_in (l := [3, 4, 2, 6, 0, 8]) (lo := 0) (hi := 8) (by decide) (by decide)
 refine a_seq ?_
 refine a_region (by kernel_rfl) ?_
 refine op_n' (fun ver => j_boxa rfl) fun v3x1 => ?_
 refine op_n' (fun ver => j_alloc elt43 rfl) fun v4x2 => ?_
 refine op_nil ?_
 refine a_seq ?_
 refine a_region (by kernel_rfl) ?_
 refine op_v' (j_move (evo rfl)) ?_
 refine op_n' (fun ver => j_buildSlice (parts := [(0, .const (.int .i64 1)), (1, .const (.int .i64 2)), (2, .const (.int .i64 3)), (3, .const (.int .i64 4)), (4, .const (.int .i64 1))]) (es := [[_], [_], [_], [_], [_]]) slt23 elt3 rfl rfl (by decide) (by decide) rfl rfl (by simp) rfl) fun v11x3 => ?_
 refine op_v0' (j_call0 (v := .p _) (hp1 := [(0, some (0, .box 114 [.sl _, .p _])), (11, some (v11x3, .row 3 1 _))]) [(0, 0), (11, v11x3)] false [0, 11] ent77 (f_num b (p) [1, 2, 3, 4, 1] hb (by omega) (by decide) (by decide)) ⟨.inl ⟨rfl, rfl⟩, .inl ⟨rfl, rfl⟩, trivial⟩ ⟨⟨rfl, rfl⟩, ⟨rfl, rfl⟩, trivial⟩ rfl rfl (fun h => by cases h) rfl (List.all_eq_true.1 rfl) (.inl rfl) rfl rfl) ?_
 refine op_v' (j_build (parts := [(0, .tmp 12)]) str43 elt43 rfl rfl) ?_
 refine op_n' (fun ver => j_alloc elt43 rfl) fun v5x4 => ?_
 refine op_s' (j_storea_box0 agg43 rfl rfl rfl rfl rfl rfl) ?_
 refine op_nil ?_
 refine a_adopt_box' 2 1005 3 1 (by decide) (id := 5) rfl rfl fun v1005x5 => ?_
 refine a_adopt_box' 4 1006 23 1 (by decide) (id := 5) rfl rfl fun v1006x6 => ?_
 refine a_seq ?_
 refine a_region (by kernel_rfl) ?_
 refine op_v' (j_move (evo rfl)) ?_
 refine op_v' (j_loada_box (ys := [.sl _, .own 1 0]) agg26 rfl rfl rfl (Nat.le_of_ble_eq_true rfl)) ?_
 refine op_v0' (j_call0 (v := .sl _) (hp1 := [(0, some (0, .box 114 [.sl _, .p _])), (1, some (0, .row 43 5 _))]) [(0, 0), (1, 0)] false [0, 1] ent143 (f_l6Some b (p + 1) s l 1 hb (by omega) (by omega) (by omega)) ⟨.inl ⟨rfl, rfl⟩, .inl ⟨rfl, rfl⟩, .inl ⟨rfl, rfl⟩, trivial⟩ ⟨⟨rfl, rfl⟩, ⟨rfl, rfl⟩, trivial⟩ rfl rfl (fun h => by cases h) rfl (List.all_eq_true.1 rfl) (.inl rfl) rfl rfl) ?_
 refine op_v' (j_fldp fld43f1 rfl rfl) ?_
 refine op_s' (j_store_box leaf23 rfl rfl (Nat.le_of_ble_eq_true rfl) (evo rfl) rfl) ?_
 refine op_nil ?_
 refine a_seq ?_
 refine a_seq ?_
 refine a_region (by kernel_rfl) ?_
 refine op_v' (j_fldp fld43f0 rfl rfl) ?_
 refine op_v' (j_load_box leaf3 rfl rfl rfl) ?_
 refine op_nil ?_
 refine a_block ?_
 refine a_seq ?_
 refine a_region (by kernel_rfl) ?_
 refine op_v' (j_eq rfl rfl) ?_
 refine op_v' (j_assign (evo rfl)) ?_
 refine op_nil ?_
 refine a_cond rfl (fun h1 => ?_) (fun h1 => ?_)
 ·
  have h1r := h1
  try simp only [nq, nr, nl, cfV_len, rowV_len, tabV_len] at h1
  refine a_seq ?_
  refine a_seq ?_
  refine a_region (by kernel_rfl) ?_
  refine op_v' (j_assign (evo rfl)) ?_
  refine op_nil ?_
  refine a_block ?_
  refine a_loopF' (ι := Nat × Nat) (fun x => x.1 ≤ (someV b (p + 1) s.length 1).1.length) (fun x r => (6, .p (.int .i64 ((x.1 : Nat)))) :: r) (fun x r => (0, some (0, .box 114 [.sl (b.map dU), .p (.int .i64 (((someV b (p + 1) s.length 1).2 + x.1 : Nat) : Int))])) :: (5, some (v5x4, .box 43 [.p (.int .i64 (kdV b p)), .sl ((someV b (p + 1) s.length 1).1.map dI), .own 1005 x.2, .p (.int .i64 0), .own 1006 v1006x6])) :: (1005, some (x.2, .row 3 1 ((cfV b (someV b (p + 1) s.length 1).2 x.1).map dI))) :: r) (fun x => (someV b (p + 1) s.length 1).1.length - x.1) (fun _ _ => rfl) (fun _ _ => rfl) (0, v1005x5) (by first | exact (Nat.zero_le _) | (dsimp only; exact (Nat.zero_le _))) ⟨⟨rfl, rfl⟩, ⟨rfl, trivial⟩, ⟨rfl, rfl, rfl, trivial⟩, ⟨rfl, rfl⟩, ⟨rfl, rfl⟩⟩ ?_
  rintro ⟨k, v⟩ hk; dsimp only at hk ⊢
  refine a_seq ?_
  refine a_seq ?_
  refine a_region (by kernel_rfl) ?_
  refine op_v' (j_move (evo rfl)) ?_
  refine op_v' (j_fldp fld43f1 rfl rfl) ?_
  refine op_v' (j_load_box leaf23 rfl rfl rfl) ?_
  refine op_v' (j_len_map Try.underlying23 rfl) ?_
  refine op_v' (j_lt rfl rfl) ?_
  refine op_nil ?_
  refine a_cond rfl (fun h2 => ?_) (fun h2 => ?_)
  ·
   have h2r := h2
   try simp only [nq, nr, nl, cfV_len, rowV_len, tabV_len] at h2
   refine a_skip ?_
   refine a_seq ?_
   refine a_block ?_
   refine a_draw mixed (by kernel_rfl) (by kernel_rfl) fun vf => ?_
   refine d_v' (j_fldp fld43f2 rfl rfl) ?_
   refine d_v' (j_load_box leaf23 rfl rfl rfl) ?_
   refine d_v' (j_move (evo rfl)) ?_
   refine d_n' (fun ver => j_buildSlice (parts := [(0, .const (.int .i64 1)), (1, .const (.int .i64 (-1))), (2, .const (.int .i64 2)), (3, .const (.int .i64 1)), (4, .const (.int .i64 (-2))), (5, .const (.int .i64 3))]) (es := [[_], [_], [_], [_], [_], [_]]) slt23 elt3 rfl rfl (by decide) (by decide) rfl rfl (by simp) rfl) ?_
   refine d_v0' (j_call0 (v := .p _) (hp1 := [(0, some (0, .box 114 [.sl _, .p _])), (32, some ((vf 32), .row 3 1 _))]) [(0, 0), (32, (vf 32))] false [0, 32] ent77 (f_num b ((someV b (p + 1) s.length 1).2 + k) [1, -1, 2, 1, -2, 3] hb (by omega) (by decide) (by decide)) ⟨.inl ⟨rfl, rfl⟩, .inl ⟨rfl, rfl⟩, trivial⟩ ⟨⟨rfl, rfl⟩, ⟨rfl, rfl⟩, trivial⟩ rfl rfl (fun h => by cases h) rfl (List.all_eq_true.1 rfl) (.inl rfl) rfl rfl) ?_
   refine d_n' (fun ver => j_buildSlice (parts := [(0, .tmp 33)]) (es := [[_]]) slt23 elt3 rfl rfl (by decide) (by decide) rfl rfl (by simp) rfl) ?_
   refine d_n' (fun ver => j_append_own slt23 elt3 rfl rfl rfl rfl rfl rfl (by rw [maxLen_eq]; first | omega | (simp only [nr, nl, cfV_len, rowV_len, tabV_len]; omega)) (by first | omega | (simp only [nr, nl, cfV_len, rowV_len, tabV_len]; omega))) ?_
   refine d_v' (j_fldp fld43f2 rfl rfl) ?_
   refine d_s' (j_store_box leaf23 rfl rfl (Nat.le_of_ble_eq_true rfl) (evo rfl) rfl) ?_
   refine d_nil (by kernel_rfl) (by kernel_rfl) ?_
   refine a_region (by kernel_rfl) ?_
   refine op_v' (j_move (evo rfl)) ?_
   refine op_v' (j_add rfl rfl (by first | omega | (simp only [nr, nl, cfV_len, rowV_len, tabV_len]; omega)) (by first | omega | (simp only [nr, nl, cfV_len, rowV_len, tabV_len]; omega))) ?_
   refine op_v' (j_assign (evo rfl)) ?_
   refine op_nil ?_
   exact ⟨(k + 1, (vf 1005)), (by first | exact (by first | omega | (simp only [nr, nl, cfV_len, rowV_len, tabV_len]; omega)) | (dsimp only; exact (by first | omega | (simp only [nr, nl, cfV_len, rowV_len, tabV_len]; omega)))), ⟨⟨rfl, rfl⟩, ⟨rfl, trivial⟩, ⟨rfl, rfl, rowEq (by rw [cfV_next, List.map_append]; rfl), trivial⟩, ⟨rfl, rfl⟩, ⟨rfl, rfl⟩⟩, (by first | exact (by first | omega | (simp only [nr, nl, cfV_len, rowV_len, tabV_len]; omega)) | (dsimp only; exact (by first | omega | (simp only [nr, nl, cfV_len, rowV_len, tabV_len]; omega))))⟩
  ·
   have h2r := h2
   try simp only [nq, nr, nl, cfV_len, rowV_len, tabV_len] at h2
   refine a_exit ?_
   refine a_region (by kernel_rfl) ?_
   refine op_v' (j_move (evo rfl)) ?_
   refine op_n' (fun ver => j_buildSlice (parts := [(0, .const (.int .i64 1)), (1, .const (.int .i64 2)), (2, .const (.int .i64 0)), (3, .const (.int .i64 (-1))), (4, .const (.int .i64 3)), (5, .const (.int .i64 (-3))), (6, .const (.int .i64 4))]) (es := [[_], [_], [_], [_], [_], [_], [_]]) slt23 elt3 rfl rfl (by decide) (by decide) rfl rfl (by simp) rfl) fun v38x7 => ?_
   refine op_v0' (j_call0 (v := .p _) (hp1 := [(0, some (0, .box 114 [.sl _, .p _])), (38, some (v38x7, .row 3 1 _))]) [(0, 0), (38, v38x7)] false [0, 38] ent77 (f_num b ((someV b (p + 1) s.length 1).2 + k) [1, 2, 0, -1, 3, -3, 4] hb (by omega) (by decide) (by decide)) ⟨.inl ⟨rfl, rfl⟩, .inl ⟨rfl, rfl⟩, trivial⟩ ⟨⟨rfl, rfl⟩, ⟨rfl, rfl⟩, trivial⟩ rfl rfl (fun h => by cases h) rfl (List.all_eq_true.1 rfl) (.inl rfl) rfl rfl) ?_
   refine op_v' (j_fldp fld43f3 rfl rfl) ?_
   refine op_s' (j_store_box leaf3 rfl rfl (Nat.le_of_ble_eq_true rfl) (evo rfl) rfl) ?_
   refine op_nil ?_
   refine a_seq ?_
   refine a_freezeboxK 2 5 (by decide) ⟨⟨_, _, rfl⟩, ⟨_, _, _, rfl⟩, trivial⟩ rfl rfl rfl rfl ?_
   try dsimp only [List.set]
   refine a_freezeboxK 4 5 (by decide) ⟨⟨_, _, rfl⟩, ⟨_, _, _, rfl⟩, trivial⟩ rfl rfl rfl rfl ?_
   try dsimp only [List.set]
   first | (have hq := drawR_1 (n := s.length) (show kdV b p = 1 by assumption); rw [show k = (someV b (p + 1) s.length 1).1.length by omega]) | (have hq := drawR_3 (n := s.length) (show kdV b p = 3 by assumption); rw [show i = (ofV b (someV b (p + 1) s.length 1).2 ([3, 4, 2, 6, 0, 8] : List Int)).toNat by omega]) | have hq := drawR_4 (n := s.length) (show kdV b p = 4 by assumption) | have hq := drawR_0 (n := s.length) (b := b) (p := p) (by assumption) (by assumption) (by assumption)
   refine a_region (by kernel_rfl) ?_
   refine op_v' (j_loada_box (ys := [.p _, .sl _, .sl _, .p _, .sl _]) agg43 rfl rfl rfl (Nat.le_of_ble_eq_true rfl)) ?_
   refine op_s' (j_storea_box0 agg43 rfl rfl rfl rfl rfl rfl) ?_
   refine op_nil ?_
   refine a_ret ?_
   exact ⟨[.agg [.p _, .sl _, .sl _, .p _, .sl _]], .agg [.p _, .sl _, .sl _, .p _, .sl _], [.box 114 [.sl _, .p _], .row 43 5 _], [], [], ⟨⟨_, _, _, _, rfl, rfl, agg43, rfl⟩, trivial⟩, rfl, rfl, ⟨⟨rfl, rfl⟩, ⟨rfl, rfl⟩, trivial⟩, rfl, rfl, ⟨by rw [hq]; first | rfl | (rw [← List.map_take]; rfl), by rw [hq], rfl⟩⟩
 ·
  have h1r := h1
  try simp only [nq, nr, nl, cfV_len, rowV_len, tabV_len] at h1
  refine a_seq ?_
  refine a_region (by kernel_rfl) ?_
  refine op_v' (j_eq rfl rfl) ?_
  refine op_v' (j_assign (evo rfl)) ?_
  refine op_nil ?_
  refine a_cond rfl (fun h3 => ?_) (fun h3 => ?_)
  ·
   have h3r := h3
   try simp only [nq, nr, nl, cfV_len, rowV_len, tabV_len] at h3
   refine a_seq ?_
   refine a_region (by kernel_rfl) ?_
   refine op_v' (j_move (evo rfl)) ?_
   refine op_n' (fun ver => j_buildSlice (parts := [(0, .const (.int .i64 3)), (1, .const (.int .i64 4)), (2, .const (.int .i64 2)), (3, .const (.int .i64 6)), (4, .const (.int .i64 0)), (5, .const (.int .i64 8))]) (es := [[_], [_], [_], [_], [_], [_]]) slt23 elt3 rfl rfl (by decide) (by decide) rfl rfl (by simp) rfl) fun v44x8 => ?_
   refine op_v0' (j_call0 (v := .p _) (hp1 := [(0, some (0, .box 114 [.sl _, .p _])), (44, some (v44x8, .row 3 1 _))]) [(0, 0), (44, v44x8)] false [0, 44] ent77 (f_num b ((someV b (p + 1) s.length 1).2) [3, 4, 2, 6, 0, 8] hb (by omega) (by decide) (by decide)) ⟨.inl ⟨rfl, rfl⟩, .inl ⟨rfl, rfl⟩, trivial⟩ ⟨⟨rfl, rfl⟩, ⟨rfl, rfl⟩, trivial⟩ rfl rfl (fun h => by cases h) rfl (List.all_eq_true.1 rfl) (.inl rfl) rfl rfl) ?_
   refine op_v' (j_assign (evo rfl)) ?_
   refine op_nil ?_
   refine a_block ?_
   refine a_loopF' (ι := Nat × Nat) (fun x => (x.1 : Int) ≤ (ofV b (someV b (p + 1) s.length 1).2 ([3, 4, 2, 6, 0, 8] : List Int)) ∧ x.1 * (someV b (p + 1) s.length 1).1.length ≤ 8 * 11) (fun x r => (7, .p (.int .i64 ((ofV b (someV b (p + 1) s.length 1).2 ([3, 4, 2, 6, 0, 8] : List Int)) - (x.1 : Nat)))) :: r) (fun x r => (0, some (0, .box 114 [.sl (b.map dU), .p (.int .i64 (((someV b (p + 1) s.length 1).2 + 1 + x.1 * (someV b (p + 1) s.length 1).1.length : Nat) : Int))])) :: (5, some (v5x4, .box 43 [.p (.int .i64 (kdV b p)), .sl ((someV b (p + 1) s.length 1).1.map dI), .own 1005 v1005x5, .p (.int .i64 0), .own 1006 x.2])) :: (1006, some (x.2, .row 23 1 ((tabV b ((someV b (p + 1) s.length 1).2 + 1) (someV b (p + 1) s.length 1).1.length x.1).map dL))) :: r) (fun x => ((ofV b (someV b (p + 1) s.length 1).2 ([3, 4, 2, 6, 0, 8] : List Int)) - (x.1 : Nat)).toNat) (fun _ _ => rfl) (fun _ _ => rfl) (0, v1006x6) (by first | exact ⟨by omega, by omega⟩ | (dsimp only; exact ⟨by omega, by omega⟩)) ⟨⟨rfl, rfl⟩, ⟨intEq (by omega), trivial⟩, ⟨boxP (by simp), rfl, rfl, trivial⟩, ⟨rfl, rfl⟩, ⟨rfl, rfl⟩⟩ ?_
   rintro ⟨i, v⟩ hi; dsimp only at hi ⊢
   refine a_seq ?_
   refine a_seq ?_
   refine a_region (by kernel_rfl) ?_
   refine op_v' (j_move (evo rfl)) ?_
   refine op_v' (j_gt rfl rfl) ?_
   refine op_nil ?_
   refine a_cond rfl (fun h4 => ?_) (fun h4 => ?_)
   ·
    have h4r := h4
    try simp only [nq, nr, nl, cfV_len, rowV_len, tabV_len] at h4
    refine a_skip ?_
    refine a_seq ?_
    refine a_block ?_
    refine a_seq ?_
    refine a_region (by kernel_rfl) ?_
    refine op_n' (fun ver => j_buildSlice (parts := []) (es := []) slt23 elt3 rfl rfl (by decide) (by decide) rfl rfl (by simp) rfl) fun v50x9 => ?_
    refine op_v' (j_assign (evo rfl)) ?_
    refine op_nil ?_
    refine a_seq ?_
    refine a_seq ?_
    refine a_region (by kernel_rfl) ?_
    refine op_v' (j_assign (evo rfl)) ?_
    refine op_nil ?_
    refine a_block ?_
    refine a_loopF' (ι := Nat × Nat) (fun x => x.1 ≤ (someV b (p + 1) s.length 1).1.length) (fun x r => (9, .p (.int .i64 ((x.1 : Nat)))) :: (8, .own 50 x.2) :: r) (fun x r => (0, some (0, .box 114 [.sl (b.map dU), .p (.int .i64 (((someV b (p + 1) s.length 1).2 + 1 + i * (someV b (p + 1) s.length 1).1.length + x.1 : Nat) : Int))])) :: (50, some (x.2, .row 3 1 ((rowV b ((someV b (p + 1) s.length 1).2 + 1 + i * (someV b (p + 1) s.length 1).1.length) x.1).map dI))) :: r) (fun x => (someV b (p + 1) s.length 1).1.length - x.1) (fun _ _ => rfl) (fun _ _ => rfl) (0, v50x9) (by first | exact (Nat.zero_le _) | (dsimp only; exact (Nat.zero_le _))) ⟨⟨rfl, rfl⟩, ⟨rfl, rfl, trivial⟩, ⟨rfl, rfl, trivial⟩, ⟨rfl, rfl⟩, ⟨rfl, rfl⟩⟩ ?_
    rintro ⟨j, w⟩ hj; dsimp only at hj ⊢
    refine a_seq ?_
    refine a_seq ?_
    refine a_region (by kernel_rfl) ?_
    refine op_v' (j_move (evo rfl)) ?_
    refine op_v' (j_fldp fld43f1 rfl rfl) ?_
    refine op_v' (j_load_box leaf23 rfl rfl rfl) ?_
    refine op_v' (j_len_map Try.underlying23 rfl) ?_
    refine op_v' (j_lt rfl rfl) ?_
    refine op_nil ?_
    refine a_cond rfl (fun h5 => ?_) (fun h5 => ?_)
    ·
     have h5r := h5
     try simp only [nq, nr, nl, cfV_len, rowV_len, tabV_len] at h5
     refine a_skip ?_
     refine a_seq ?_
     refine a_block ?_
     refine a_region (by kernel_rfl) ?_
     refine op_v' (j_move (evo rfl)) ?_
     refine op_v' (j_move (evo rfl)) ?_
     refine op_v0' (j_call0 (v := .p _) (hp1 := [(0, some (0, .box 114 [.sl _, .p _]))]) [(0, 0)] false [0] ent99 (f_pick b ((someV b (p + 1) s.length 1).2 + 1 + i * (someV b (p + 1) s.length 1).1.length + j) 4 hb (by omega)) ⟨.inl ⟨rfl, rfl⟩, .inl ⟨rfl, rfl⟩, trivial⟩ ⟨⟨rfl, rfl⟩, trivial⟩ rfl rfl (fun h => by cases h) rfl (List.all_eq_true.1 rfl) (.inl rfl) rfl rfl) ?_
     refine op_n' (fun ver => j_buildSlice (parts := [(0, .tmp 60)]) (es := [[_]]) slt23 elt3 rfl rfl (by decide) (by decide) rfl rfl (by simp) rfl) fun v61x10 => ?_
     refine op_n' (fun ver => j_append_own slt23 elt3 rfl rfl rfl rfl rfl rfl (by rw [maxLen_eq]; first | omega | (simp only [nr, nl, cfV_len, rowV_len, tabV_len]; omega)) (by first | omega | (simp only [nr, nl, cfV_len, rowV_len, tabV_len]; omega))) fun v50x11 => ?_
     refine op_v' (j_assign (evo rfl)) ?_
     refine op_nil ?_
     refine a_region (by kernel_rfl) ?_
     refine op_v' (j_move (evo rfl)) ?_
     refine op_v' (j_add rfl rfl (by first | omega | (simp only [nr, nl, cfV_len, rowV_len, tabV_len]; omega)) (by first | omega | (simp only [nr, nl, cfV_len, rowV_len, tabV_len]; omega))) ?_
     refine op_v' (j_assign (evo rfl)) ?_
     refine op_nil ?_
     exact ⟨(j + 1, v50x11), (by first | exact (by first | omega | (simp only [nr, nl, cfV_len, rowV_len, tabV_len]; omega)) | (dsimp only; exact (by first | omega | (simp only [nr, nl, cfV_len, rowV_len, tabV_len]; omega)))), ⟨⟨rfl, rfl⟩, ⟨rfl, rfl, trivial⟩, ⟨rfl, rowEq (by rw [rowV_next, List.map_append]; rfl), trivial⟩, ⟨rfl, rfl⟩, ⟨rfl, rfl⟩⟩, (by first | exact (by first | omega | (simp only [nr, nl, cfV_len, rowV_len, tabV_len]; omega)) | (dsimp only; exact (by first | omega | (simp only [nr, nl, cfV_len, rowV_len, tabV_len]; omega))))⟩
    ·
     have h5r := h5
     try simp only [nq, nr, nl, cfV_len, rowV_len, tabV_len] at h5
     refine a_exit ?_
     refine a_freezeK 8 ⟨⟨_, _, rfl⟩, ⟨_, _, _, rfl⟩, trivial⟩ rfl rfl rfl ?_
     refine a_region (by kernel_rfl) ?_
     refine op_v' (j_fldp fld43f4 rfl rfl) ?_
     refine op_v' (j_load_box leaf41 rfl rfl rfl) ?_
     refine op_v' (j_move (evo rfl)) ?_
     refine op_n' (fun ver => j_buildSlice (parts := [(0, .tmp 65)]) (es := [[_]]) slt41 elt23 rfl rfl (by decide) (by decide) rfl rfl (by simp) rfl) fun v66x12 => ?_
     refine op_n' (fun ver => j_append_own slt41 elt23 rfl rfl rfl rfl rfl rfl (by rw [maxLen_eq]; first | omega | (simp only [nr, nl, cfV_len, rowV_len, tabV_len]; omega)) (by first | omega | (simp only [nr, nl, cfV_len, rowV_len, tabV_len]; omega))) fun v1006x13 => ?_
     refine op_v' (j_fldp fld43f4 rfl rfl) ?_
     refine op_s' (j_store_box leaf41 rfl rfl (Nat.le_of_ble_eq_true rfl) (evo rfl) rfl) ?_
     refine op_nil ?_
     refine a_region (by kernel_rfl) ?_
     refine op_v' (j_move (evo rfl)) ?_
     refine op_v' (j_sub rfl rfl (by first | omega | (simp only [nr, nl, cfV_len, rowV_len, tabV_len]; omega)) (by first | omega | (simp only [nr, nl, cfV_len, rowV_len, tabV_len]; omega))) ?_
     refine op_v' (j_assign (evo rfl)) ?_
     refine op_nil ?_
     exact ⟨(i + 1, v1006x13), (by first | exact ⟨by dsimp only; omega, Nat.mul_le_mul (by dsimp only; omega) (by omega)⟩ | (dsimp only; exact ⟨by dsimp only; omega, Nat.mul_le_mul (by dsimp only; omega) (by omega)⟩)), ⟨⟨rfl, rfl⟩, ⟨intEq (by omega), trivial⟩, ⟨boxP (by rw [Nat.add_mul, Nat.one_mul]; omega), rfl, rowEq (by rw [show j = (someV b (p + 1) s.length 1).1.length by omega, tabV_next, List.map_append]; rfl), trivial⟩, ⟨rfl, rfl⟩, ⟨rfl, rfl⟩⟩, (by first | exact (by omega) | (dsimp only; exact (by omega)))⟩
   ·
    have h4r := h4
    try simp only [nq, nr, nl, cfV_len, rowV_len, tabV_len] at h4
    refine a_exit ?_
    refine a_seq ?_
    refine a_freezeboxK 2 5 (by decide) ⟨⟨_, _, rfl⟩, ⟨_, _, _, rfl⟩, trivial⟩ rfl rfl rfl rfl ?_
    try dsimp only [List.set]
    refine a_freezeboxK 4 5 (by decide) ⟨⟨_, _, rfl⟩, ⟨_, _, _, rfl⟩, trivial⟩ rfl rfl rfl rfl ?_
    try dsimp only [List.set]
    first | (have hq := drawR_1 (n := s.length) (show kdV b p = 1 by assumption); rw [show k = (someV b (p + 1) s.length 1).1.length by omega]) | (have hq := drawR_3 (n := s.length) (show kdV b p = 3 by assumption); rw [show i = (ofV b (someV b (p + 1) s.length 1).2 ([3, 4, 2, 6, 0, 8] : List Int)).toNat by omega]) | have hq := drawR_4 (n := s.length) (show kdV b p = 4 by assumption) | have hq := drawR_0 (n := s.length) (b := b) (p := p) (by assumption) (by assumption) (by assumption)
    refine a_region (by kernel_rfl) ?_
    refine op_v' (j_loada_box (ys := [.p _, .sl _, .sl _, .p _, .sl _]) agg43 rfl rfl rfl (Nat.le_of_ble_eq_true rfl)) ?_
    refine op_s' (j_storea_box0 agg43 rfl rfl rfl rfl rfl rfl) ?_
    refine op_nil ?_
    refine a_ret ?_
    exact ⟨[.agg [.p _, .sl _, .sl _, .p _, .sl _]], .agg [.p _, .sl _, .sl _, .p _, .sl _], [.box 114 [.sl _, .p _], .row 43 5 _], [], [], ⟨⟨_, _, _, _, rfl, rfl, agg43, rfl⟩, trivial⟩, rfl, rfl, ⟨⟨rfl, rfl⟩, ⟨rfl, rfl⟩, trivial⟩, rfl, rfl, ⟨by rw [hq]; first | rfl | (rw [← List.map_take]; rfl), by rw [hq], rfl⟩⟩
  ·
   have h3r := h3
   try simp only [nq, nr, nl, cfV_len, rowV_len, tabV_len] at h3
   refine a_seq ?_
   refine a_region (by kernel_rfl) ?_
   refine op_v' (j_eq rfl rfl) ?_
   refine op_v' (j_assign (evo rfl)) ?_
   refine op_nil ?_
   refine a_cond rfl (fun h6 => ?_) (fun h6 => ?_)
   ·
    have h6r := h6
    try simp only [nq, nr, nl, cfV_len, rowV_len, tabV_len] at h6
    refine a_region (by kernel_rfl) ?_
    refine op_v' (j_move (evo rfl)) ?_
    refine op_v' (j_loada_box (ys := [.sl _, .own 1 0]) agg26 rfl rfl rfl (Nat.le_of_ble_eq_true rfl)) ?_
    refine op_v0' (j_call0 (v := .sl _) (hp1 := [(0, some (0, .box 114 [.sl _, .p _])), (1, some (0, .row 43 5 _))]) [(0, 0), (1, 0)] false [0, 1] ent143 (f_l6Some b (someV b (p + 1) s.length 1).2 s l 2 hb (by omega) (by omega) (by omega)) ⟨.inl ⟨rfl, rfl⟩, .inl ⟨rfl, rfl⟩, .inl ⟨rfl, rfl⟩, trivial⟩ ⟨⟨rfl, rfl⟩, ⟨rfl, rfl⟩, trivial⟩ rfl rfl (fun h => by cases h) rfl (List.all_eq_true.1 rfl) (.inl rfl) rfl rfl) ?_
    refine op_v' (j_cut slt23 rfl (fun y hy => by obtain ⟨t, _, rfl⟩ := List.mem_map.1 hy; rfl) Bd.none (Bd.some rfl rfl) (by first | omega | (simp only [nr, nl, cfV_len, rowV_len, tabV_len]; omega)) (by first | omega | (simp only [nr, nl, cfV_len, rowV_len, tabV_len]; omega))) ?_
    refine op_v' (j_fldp fld43f1 rfl rfl) ?_
    refine op_s' (j_store_box leaf23 rfl rfl (Nat.le_of_ble_eq_true rfl) (evo rfl) rfl) ?_
    refine op_nil ?_
    refine a_seq ?_
    refine a_freezeboxK 2 5 (by decide) ⟨⟨_, _, rfl⟩, ⟨_, _, _, rfl⟩, trivial⟩ rfl rfl rfl rfl ?_
    try dsimp only [List.set]
    refine a_freezeboxK 4 5 (by decide) ⟨⟨_, _, rfl⟩, ⟨_, _, _, rfl⟩, trivial⟩ rfl rfl rfl rfl ?_
    try dsimp only [List.set]
    first | (have hq := drawR_1 (n := s.length) (show kdV b p = 1 by assumption); rw [show k = (someV b (p + 1) s.length 1).1.length by omega]) | (have hq := drawR_3 (n := s.length) (show kdV b p = 3 by assumption); rw [show i = (ofV b (someV b (p + 1) s.length 1).2 ([3, 4, 2, 6, 0, 8] : List Int)).toNat by omega]) | have hq := drawR_4 (n := s.length) (show kdV b p = 4 by assumption) | have hq := drawR_0 (n := s.length) (b := b) (p := p) (by assumption) (by assumption) (by assumption)
    refine a_region (by kernel_rfl) ?_
    refine op_v' (j_loada_box (ys := [.p _, .sl _, .sl _, .p _, .sl _]) agg43 rfl rfl rfl (Nat.le_of_ble_eq_true rfl)) ?_
    refine op_s' (j_storea_box0 agg43 rfl rfl rfl rfl rfl rfl) ?_
    refine op_nil ?_
    refine a_ret ?_
    exact ⟨[.agg [.p _, .sl _, .sl _, .p _, .sl _]], .agg [.p _, .sl _, .sl _, .p _, .sl _], [.box 114 [.sl _, .p _], .row 43 5 _], [], [], ⟨⟨_, _, _, _, rfl, rfl, agg43, rfl⟩, trivial⟩, rfl, rfl, ⟨⟨rfl, rfl⟩, ⟨rfl, rfl⟩, trivial⟩, rfl, rfl, ⟨by rw [hq]; first | rfl | (rw [← List.map_take]; rfl), by rw [hq], rfl⟩⟩
   ·
    have h6r := h6
    try simp only [nq, nr, nl, cfV_len, rowV_len, tabV_len] at h6
    refine a_skip ?_
    refine a_seq ?_
    refine a_freezeboxK 2 5 (by decide) ⟨⟨_, _, rfl⟩, ⟨_, _, _, rfl⟩, trivial⟩ rfl rfl rfl rfl ?_
    try dsimp only [List.set]
    refine a_freezeboxK 4 5 (by decide) ⟨⟨_, _, rfl⟩, ⟨_, _, _, rfl⟩, trivial⟩ rfl rfl rfl rfl ?_
    try dsimp only [List.set]
    first | (have hq := drawR_1 (n := s.length) (show kdV b p = 1 by assumption); rw [show k = (someV b (p + 1) s.length 1).1.length by omega]) | (have hq := drawR_3 (n := s.length) (show kdV b p = 3 by assumption); rw [show i = (ofV b (someV b (p + 1) s.length 1).2 ([3, 4, 2, 6, 0, 8] : List Int)).toNat by omega]) | have hq := drawR_4 (n := s.length) (show kdV b p = 4 by assumption) | have hq := drawR_0 (n := s.length) (b := b) (p := p) (by assumption) (by assumption) (by assumption)
    refine a_region (by kernel_rfl) ?_
    refine op_v' (j_loada_box (ys := [.p _, .sl _, .sl _, .p _, .sl _]) agg43 rfl rfl rfl (Nat.le_of_ble_eq_true rfl)) ?_
    refine op_s' (j_storea_box0 agg43 rfl rfl rfl rfl rfl rfl) ?_
    refine op_nil ?_
    refine a_ret ?_
    exact ⟨[.agg [.p _, .sl _, .sl _, .p _, .sl _]], .agg [.p _, .sl _, .sl _, .p _, .sl _], [.box 114 [.sl _, .p _], .row 43 5 _], [], [], ⟨⟨_, _, _, _, rfl, rfl, agg43, rfl⟩, trivial⟩, rfl, rfl, ⟨⟨rfl, rfl⟩, ⟨rfl, rfl⟩, trivial⟩, rfl, rfl, ⟨by rw [hq]; first | rfl | (rw [← List.map_take]; rfl), by rw [hq], rfl⟩⟩


theorem f_l6Model (b : List Int) (p : Nat) (hb : okB b) (hp : p ≤ 1099511600000) : Fn Try.prog 75 [.ptr 0 0 0] [.box 114 [.sl (b.map dU), .p (.int .i64 ((p : Nat) : Int))]] (fun rr ii nn => ∃ x : Md × Nat, (wM x.1 ≤ 2000 ∧ x.1.1.length ≤ 4 ∧ x.1.2.length ≤ 4 ∧ p ≤ x.2 ∧ x.2 ≤ p + 2000) ∧ rr = .agg [.sl (x.1.1.map dI), .sl (x.1.2.map dR)] ∧ ii = [.box 114 [.sl (b.map dU), .p (.int .i64 ((x.2 : Nat) : Int))]] ∧ nn = []) := by
 refine fn_of Try.func75 rfl (Nat.le_of_ble_eq_true rfl) fun w X g => ?_
 show AWp _ _ _ ⟨[(0, .ptr 0 0 0)], [(0, some (0, .box 114 [.sl (b.map dU), .p (.int .i64 ((p : Nat) : Int))]))]⟩
 have hk : (2 : Int) ≤ ofV b (p) ([3, 2, 4, 3] : List Int) ∧ ofV b (p) ([3, 2, 4, 3] : List Int) ≤ 4 := ofV_in (l := [3, 2, 4, 3]) (lo := 2) (hi := 4) (by decide) (by decide)
 refine a_seq ?_
 refine a_region (by kernel_rfl) ?_
 refine op_n' (fun ver => j_alloc elt26 rfl) fun v2x1 => ?_
 refine op_nil ?_
 refine a_seq ?_
 refine a_region (by kernel_rfl) ?_
 refine op_v' (j_build (parts := []) str26 elt26 rfl rfl) ?_
 refine op_n' (fun ver => j_alloc elt26 rfl) fun v3x2 => ?_
 refine op_s' (j_storea_box0 agg26 rfl rfl rfl rfl rfl rfl) ?_
 refine op_nil ?_
 refine a_adopt_box' 0 1003 3 1 (by decide) (id := 3) rfl rfl fun v1003x3 => ?_
 refine a_adopt_box' 1 1004 43 5 (by decide) (id := 3) rfl rfl fun v1004x4 => ?_
 refine a_seq ?_
 refine a_seq ?_
 refine a_region (by kernel_rfl) ?_
 refine op_v' (j_move (evo rfl)) ?_
 refine op_n' (fun ver => j_buildSlice (parts := [(0, .const (.int .i64 3)), (1, .const (.int .i64 2)), (2, .const (.int .i64 4)), (3, .const (.int .i64 3))]) (es := [[_], [_], [_], [_]]) slt23 elt3 rfl rfl (by decide) (by decide) rfl rfl (by simp) rfl) fun v10x5 => ?_
 refine op_v0' (j_call0 (v := .p _) (hp1 := [(0, some (0, .box 114 [.sl _, .p _])), (10, some (v10x5, .row 3 1 _))]) [(0, 0), (10, v10x5)] false [0, 10] ent77 (f_num b (p) [3, 2, 4, 3] hb (by omega) (by decide) (by decide)) ⟨.inl ⟨rfl, rfl⟩, .inl ⟨rfl, rfl⟩, trivial⟩ ⟨⟨rfl, rfl⟩, ⟨rfl, rfl⟩, trivial⟩ rfl rfl (fun h => by cases h) rfl (List.all_eq_true.1 rfl) (.inl rfl) rfl rfl) ?_
 refine op_v' (j_assign (evo rfl)) ?_
 refine op_nil ?_
 refine a_block ?_
 refine a_loopF' (ι := List Int × Nat) (fun x => (x.1.length : Int) ≤ (ofV b p ([3, 2, 4, 3] : List Int)) ∧ x.1.all (fun s => decide (0 ≤ s ∧ s ≤ 3)) = true) (fun x r => (4, .p (.int .i64 ((ofV b p ([3, 2, 4, 3] : List Int)) - (x.1.length : Nat)))) :: r) (fun x r => (0, some (0, .box 114 [.sl (b.map dU), .p (.int .i64 ((p + 1 + x.1.length : Nat) : Int))])) :: (3, some (v3x2, .box 26 [.own 1003 x.2, .own 1004 v1004x4])) :: (1003, some (x.2, .row 3 1 ((x.1).map dI))) :: r) (fun x => ((ofV b p ([3, 2, 4, 3] : List Int)) - (x.1.length : Nat)).toNat) (fun _ _ => rfl) (fun _ _ => rfl) ([], v1003x3) (by first | exact ⟨by simp; omega, rfl⟩ | (dsimp only; exact ⟨by simp; omega, rfl⟩)) ⟨⟨rfl, rfl⟩, ⟨intEq (by simp), trivial⟩, ⟨rfl, rfl, rfl, trivial⟩, ⟨rfl, rfl⟩, ⟨rfl, rfl⟩⟩ ?_
 rintro ⟨s, v⟩ hs; dsimp only at hs ⊢
 refine a_seq ?_
 refine a_seq ?_
 refine a_region (by kernel_rfl) ?_
 refine op_v' (j_move (evo rfl)) ?_
 refine op_v' (j_gt rfl rfl) ?_
 refine op_nil ?_
 refine a_cond rfl (fun h1 => ?_) (fun h1 => ?_)
 ·
  have h1r := h1
  try simp only [nq, nr, nl] at h1
  refine a_skip ?_
  refine a_seq ?_
  refine a_block ?_
  have hsz : (0 : Int) ≤ ofV b (p + 1 + s.length) ([2, 1, 3, 2, 0] : List Int) ∧ ofV b (p + 1 + s.length) ([2, 1, 3, 2, 0] : List Int) ≤ 3 := ofV_in (l := [2, 1, 3, 2, 0]) (lo := 0) (hi := 3) (by decide) (by decide)
  refine a_draw mixed (by kernel_rfl) (by kernel_rfl) fun vf => ?_
  refine d_v' (j_fldp fld26f0 rfl rfl) ?_
  refine d_v' (j_load_box leaf23 rfl rfl rfl) ?_
  refine d_v' (j_move (evo rfl)) ?_
  refine d_n' (fun ver => j_buildSlice (parts := [(0, .const (.int .i64 2)), (1, .const (.int .i64 1)), (2, .const (.int .i64 3)), (3, .const (.int .i64 2)), (4, .const (.int .i64 0))]) (es := [[_], [_], [_], [_], [_]]) slt23 elt3 rfl rfl (by decide) (by decide) rfl rfl (by simp) rfl) ?_
  refine d_v0' (j_call0 (v := .p _) (hp1 := [(0, some (0, .box 114 [.sl _, .p _])), (19, some ((vf 19), .row 3 1 _))]) [(0, 0), (19, (vf 19))] false [0, 19] ent77 (f_num b (p + 1 + s.length) [2, 1, 3, 2, 0] hb (by omega) (by decide) (by decide)) ⟨.inl ⟨rfl, rfl⟩, .inl ⟨rfl, rfl⟩, trivial⟩ ⟨⟨rfl, rfl⟩, ⟨rfl, rfl⟩, trivial⟩ rfl rfl (fun h => by cases h) rfl (List.all_eq_true.1 rfl) (.inl rfl) rfl rfl) ?_
  refine d_n' (fun ver => j_buildSlice (parts := [(0, .tmp 20)]) (es := [[_]]) slt23 elt3 rfl rfl (by decide) (by decide) rfl rfl (by simp) rfl) ?_
  refine d_n' (fun ver => j_append_own slt23 elt3 rfl rfl rfl rfl rfl rfl (by rw [maxLen_eq]; first | omega | (simp only [nr, nl]; omega)) (by first | omega | (simp only [nr, nl]; omega))) ?_
  refine d_v' (j_fldp fld26f0 rfl rfl) ?_
  refine d_s' (j_store_box leaf23 rfl rfl (Nat.le_of_ble_eq_true rfl) (evo rfl) rfl) ?_
  refine d_nil (by kernel_rfl) (by kernel_rfl) ?_
  refine a_region (by kernel_rfl) ?_
  refine op_v' (j_move (evo rfl)) ?_
  refine op_v' (j_sub rfl rfl (by first | omega | (simp only [nr, nl]; omega)) (by first | omega | (simp only [nr, nl]; omega))) ?_
  refine op_v' (j_assign (evo rfl)) ?_
  refine op_nil ?_
  exact ⟨(s ++ [ofV b (p + 1 + s.length) ([2, 1, 3, 2, 0] : List Int)], (vf 1003)), (by first | exact ⟨by first | omega | (simp only [nr, nl]; omega), all_snoc hs.2 (decide_eq_true hsz)⟩ | (dsimp only; exact ⟨by first | omega | (simp only [nr, nl]; omega), all_snoc hs.2 (decide_eq_true hsz)⟩)), ⟨⟨rfl, rfl⟩, ⟨intEq (by simp only [List.length_append, List.length_cons, List.length_nil]; omega), trivial⟩, ⟨boxP (by simp only [List.length_append, List.length_cons, List.length_nil]; omega), rfl, rowEq (by rw [List.map_append]; rfl), trivial⟩, ⟨rfl, rfl⟩, ⟨rfl, rfl⟩⟩, (by first | exact (by first | omega | (simp only [nr, nl]; omega)) | (dsimp only; exact (by first | omega | (simp only [nr, nl]; omega))))⟩
 ·
  have h1r := h1
  try simp only [nq, nr, nl] at h1
  refine a_exit ?_
  refine a_seq ?_
  refine a_seq ?_
  refine a_freezeboxK 0 3 (by decide) ⟨⟨_, _, rfl⟩, trivial⟩ rfl rfl rfl rfl ?_
  try dsimp only [List.set]
  refine a_region (by kernel_rfl) ?_
  refine op_v' (j_assign (evo rfl)) ?_
  refine op_nil ?_
  refine a_block ?_
  refine a_loopF' (ι := List Int × Int) (fun x => 2 ≤ x.1.length ∧ x.1.length ≤ 4 ∧ x.1.all (fun s => decide (0 ≤ s ∧ s ≤ 3)) = true ∧ 0 ≤ x.2) (fun x r => (5, .p (.int .i64 (x.2))) :: r) (fun x r => (3, some (v3x2, .box 26 [.sl (x.1.map dI), .own 1004 v1004x4])) :: r) (fun x => (if x.2 = 0 then x.1.length + 1 else 0)) (fun _ _ => rfl) (fun _ _ => rfl) (s, 0) (by first | exact ⟨by dsimp only; omega, by dsimp only; omega, hs.2, Int.le_refl _⟩ | (dsimp only; exact ⟨by dsimp only; omega, by dsimp only; omega, hs.2, Int.le_refl _⟩)) ⟨⟨rfl, rfl⟩, ⟨rfl, trivial⟩, ⟨rfl, trivial⟩, ⟨rfl, rfl⟩, ⟨rfl, rfl⟩⟩ ?_
  rintro ⟨t, n⟩ ht; dsimp only at ht ⊢
  refine a_seq ?_
  refine a_seq ?_
  refine a_region (by kernel_rfl) ?_
  refine op_v' (j_move (evo rfl)) ?_
  refine op_v' (j_eq rfl rfl) ?_
  refine op_nil ?_
  refine a_cond rfl (fun h2 => ?_) (fun h2 => ?_)
  ·
   have h2r := h2
   try simp only [nq, nr, nl] at h2
   refine a_skip ?_
   refine a_block ?_
   refine a_seq ?_
   refine a_seq ?_
   refine a_region (by kernel_rfl) ?_
   refine op_v' (j_assign (evo rfl)) ?_
   refine op_nil ?_
   refine a_block ?_
   refine a_loopF' (ι := Nat) (fun k => k ≤ t.length) (fun k r => (6, .p (.int .i64 ((k : Nat)))) :: (5, .p (.int .i64 (szSum (t.take k)))) :: r) (fun k r => r) (fun k => t.length - k) (fun _ _ => rfl) (fun _ _ => rfl) 0 (Nat.zero_le _) ⟨⟨rfl, rfl⟩, ⟨rfl, intEq (by rw [show n = 0 by assumption]; rfl), trivial⟩, trivial, ⟨rfl, rfl⟩, ⟨rfl, rfl⟩⟩ ?_
   intro k hk2
   refine a_seq ?_
   refine a_seq ?_
   refine a_region (by kernel_rfl) ?_
   refine op_v' (j_move (evo rfl)) ?_
   refine op_v' (j_fldp fld26f0 rfl rfl) ?_
   refine op_v' (j_load_box leaf23 rfl rfl rfl) ?_
   refine op_v' (j_len_map Try.underlying23 rfl) ?_
   refine op_v' (j_lt rfl rfl) ?_
   refine op_nil ?_
   refine a_cond rfl (fun h3 => ?_) (fun h3 => ?_)
   ·
    have h3r := h3
    try simp only [nq, nr, nl] at h3
    refine a_skip ?_
    refine a_seq ?_
    refine a_block ?_
    have hsr := szSum_rng (xs := t) (k := k) (by omega) (all_take ht.2.2.1)
    have hsk := all_at (d := default) ht.2.2.1 (show k < t.length by omega)
    rw [decide_eq_true_eq] at hsk
    refine a_region (by kernel_rfl) ?_
    refine op_v' (j_move (evo rfl)) ?_
    refine op_v' (j_fldp fld26f0 rfl rfl) ?_
    refine op_v' (j_load_box leaf23 rfl rfl rfl) ?_
    refine op_v' (j_move (evo rfl)) ?_
    refine op_v' (j_elemN slt23 rfl rfl rfl (at_map (by first | omega | (simp only [nr, nl]; omega))) rfl) ?_
    refine op_v' (j_load_el leaf3 rfl (at_map (by first | omega | (simp only [nr, nl]; omega))) rfl) ?_
    refine op_v' (j_add rfl rfl (by first | omega | (simp only [nr, nl]; omega)) (by first | omega | (simp only [nr, nl]; omega))) ?_
    refine op_v' (j_add rfl rfl (by first | omega | (simp only [nr, nl]; omega)) (by first | omega | (simp only [nr, nl]; omega))) ?_
    refine op_v' (j_assign (evo rfl)) ?_
    refine op_nil ?_
    refine a_region (by kernel_rfl) ?_
    refine op_v' (j_move (evo rfl)) ?_
    refine op_v' (j_add rfl rfl (by first | omega | (simp only [nr, nl]; omega)) (by first | omega | (simp only [nr, nl]; omega))) ?_
    refine op_v' (j_assign (evo rfl)) ?_
    refine op_nil ?_
    exact ⟨k + 1, (by first | omega | (simp only [nr, nl]; omega)), ⟨⟨rfl, rfl⟩, ⟨rfl, intEq (by rw [szSum_next (by omega)]; omega), trivial⟩, trivial, ⟨rfl, rfl⟩, ⟨rfl, rfl⟩⟩, (by first | omega | (simp only [nr, nl]; omega))⟩
   ·
    have h3r := h3
    try simp only [nq, nr, nl] at h3
    refine a_exit ?_
    refine a_seq ?_
    obtain rfl : k = t.length := by omega
    rw [List.take_length]
    have hsr := szSum_rng (xs := t) (k := t.length) (Nat.le_refl _) (all_take ht.2.2.1)
    rw [List.take_length] at hsr
    refine a_region (by kernel_rfl) ?_
    refine op_v' (j_move (evo rfl)) ?_
    refine op_v' (j_gt rfl rfl) ?_
    refine op_nil ?_
    refine a_cond rfl (fun h4 => ?_) (fun h4 => ?_)
    ·
     have h4r := h4
     try simp only [nq, nr, nl] at h4
     refine a_seq ?_
     refine a_region (by kernel_rfl) ?_
     refine op_v' (j_fldp fld26f0 rfl rfl) ?_
     refine op_v' (j_load_box leaf23 rfl rfl rfl) ?_
     refine op_v' (j_fldp fld26f0 rfl rfl) ?_
     refine op_v' (j_load_box leaf23 rfl rfl rfl) ?_
     refine op_v' (j_len_map Try.underlying23 rfl) ?_
     refine op_v' (j_sub rfl rfl (by first | omega | (simp only [nr, nl]; omega)) (by first | omega | (simp only [nr, nl]; omega))) ?_
     refine op_v' (j_cut slt23 rfl (fun y hy => by obtain ⟨t, _, rfl⟩ := List.mem_map.1 hy; rfl) Bd.none (Bd.some rfl (show (t.length : Int) - 1 = ((t.length - 1 : Nat) : Int) by omega)) (by first | omega | (simp only [nr, nl]; omega)) (by first | omega | (simp only [nr, nl]; omega))) ?_
     refine op_v' (j_fldp fld26f0 rfl rfl) ?_
     refine op_s' (j_store_box leaf23 rfl rfl (Nat.le_of_ble_eq_true rfl) (evo rfl) rfl) ?_
     refine op_nil ?_
     refine a_region (by kernel_rfl) ?_
     refine op_v' (j_assign (evo rfl)) ?_
     refine op_nil ?_
     exact ⟨(t.take (t.length - 1), 0), (by first | exact ⟨by first | omega | (simp only [nr, nl]; omega), by first | omega | (simp only [nr, nl]; omega), all_take ht.2.2.1, Int.le_refl _⟩ | (dsimp only; exact ⟨by first | omega | (simp only [nr, nl]; omega), by first | omega | (simp only [nr, nl]; omega), all_take ht.2.2.1, Int.le_refl _⟩)), ⟨⟨rfl, rfl⟩, ⟨rfl, trivial⟩, ⟨boxS (by rw [List.map_take]; rfl), trivial⟩, ⟨rfl, rfl⟩, ⟨rfl, rfl⟩⟩, (by first | exact (by rw [if_pos rfl, if_pos (by assumption)]; first | omega | (simp only [nr, nl]; omega)) | (dsimp only; exact (by rw [if_pos rfl, if_pos (by assumption)]; first | omega | (simp only [nr, nl]; omega))))⟩
    ·
     have h4r := h4
     try simp only [nq, nr, nl] at h4
     refine a_skip ?_
     exact ⟨(t, szSum t), (by first | exact ⟨ht.1, ht.2.1, ht.2.2.1, by first | omega | (simp only [nr, nl]; omega)⟩ | (dsimp only; exact ⟨ht.1, ht.2.1, ht.2.2.1, by first | omega | (simp only [nr, nl]; omega)⟩)), ⟨⟨rfl, rfl⟩, ⟨rfl, trivial⟩, ⟨rfl, trivial⟩, ⟨rfl, rfl⟩, ⟨rfl, rfl⟩⟩, (by first | exact (by rw [if_neg (by omega), if_pos (by assumption)]; omega) | (dsimp only; exact (by rw [if_neg (by omega), if_pos (by assumption)]; omega)))⟩
  ·
   have h2r := h2
   try simp only [nq, nr, nl] at h2
   refine a_exit ?_
   refine a_seq ?_
   refine a_seq ?_
   have hr : (0 : Int) ≤ ofV b (p + 1 + s.length) ([2, 3, 1, 4, 0] : List Int) ∧ ofV b (p + 1 + s.length) ([2, 3, 1, 4, 0] : List Int) ≤ 4 := ofV_in (l := [2, 3, 1, 4, 0]) (lo := 0) (hi := 4) (by decide) (by decide)
   refine a_region (by kernel_rfl) ?_
   refine op_v' (j_move (evo rfl)) ?_
   refine op_n' (fun ver => j_buildSlice (parts := [(0, .const (.int .i64 2)), (1, .const (.int .i64 3)), (2, .const (.int .i64 1)), (3, .const (.int .i64 4)), (4, .const (.int .i64 0))]) (es := [[_], [_], [_], [_], [_]]) slt23 elt3 rfl rfl (by decide) (by decide) rfl rfl (by simp) rfl) fun v52x6 => ?_
   refine op_v0' (j_call0 (v := .p _) (hp1 := [(0, some (0, .box 114 [.sl _, .p _])), (52, some (v52x6, .row 3 1 _))]) [(0, 0), (52, v52x6)] false [0, 52] ent77 (f_num b (p + 1 + s.length) [2, 3, 1, 4, 0] hb (by omega) (by decide) (by decide)) ⟨.inl ⟨rfl, rfl⟩, .inl ⟨rfl, rfl⟩, trivial⟩ ⟨⟨rfl, rfl⟩, ⟨rfl, rfl⟩, trivial⟩ rfl rfl (fun h => by cases h) rfl (List.all_eq_true.1 rfl) (.inl rfl) rfl rfl) ?_
   refine op_v' (j_assign (evo rfl)) ?_
   refine op_nil ?_
   refine a_block ?_
   refine a_loopF' (ι := List Rl × Nat × Nat) (fun x => (x.1.length : Int) ≤ (ofV b (p + 1 + s.length) ([2, 3, 1, 4, 0] : List Int)) ∧ wRS x.1 ≤ 201 * x.1.length ∧ p ≤ x.2.1 ∧ x.2.1 ≤ p + 6 + 200 * x.1.length) (fun x r => (7, .p (.int .i64 ((ofV b (p + 1 + s.length) ([2, 3, 1, 4, 0] : List Int)) - (x.1.length : Nat)))) :: r) (fun x r => (0, some (0, .box 114 [.sl (b.map dU), .p (.int .i64 ((x.2.1 : Nat) : Int))])) :: (3, some (v3x2, .box 26 [.sl (t.map dI), .own 1004 x.2.2])) :: (1004, some (x.2.2, .row 43 5 ((x.1).map dR))) :: r) (fun x => ((ofV b (p + 1 + s.length) ([2, 3, 1, 4, 0] : List Int)) - (x.1.length : Nat)).toNat) (fun _ _ => rfl) (fun _ _ => rfl) ([], p + 1 + s.length + 1, v1004x4) (by first | exact ⟨by simp; omega, by simp [wRS, sumW], by dsimp only; omega, by dsimp only; omega⟩ | (dsimp only; exact ⟨by simp; omega, by simp [wRS, sumW], by dsimp only; omega, by dsimp only; omega⟩)) ⟨⟨rfl, rfl⟩, ⟨intEq (by simp), trivial⟩, ⟨rfl, rfl, rfl, trivial⟩, ⟨rfl, rfl⟩, ⟨rfl, rfl⟩⟩ ?_
   rintro ⟨l, q, v⟩ hl; dsimp only at hl ⊢
   refine a_seq ?_
   refine a_seq ?_
   refine a_region (by kernel_rfl) ?_
   refine op_v' (j_move (evo rfl)) ?_
   refine op_v' (j_gt rfl rfl) ?_
   refine op_nil ?_
   refine a_cond rfl (fun h5 => ?_) (fun h5 => ?_)
   ·
    have h5r := h5
    try simp only [nq, nr, nl] at h5
    refine a_skip ?_
    refine a_seq ?_
    refine a_block ?_
    have hdr := drawR_ok (b := b) (p := q) (n := t.length) (by omega)
    refine a_draw mixed (by kernel_rfl) (by kernel_rfl) fun vf => ?_
    refine d_v' (j_fldp fld26f1 rfl rfl) ?_
    refine d_v' (j_load_box leaf24 rfl rfl rfl) ?_
    refine d_v' (j_move (evo rfl)) ?_
    refine d_v' (j_loada_box (ys := [.sl _, .own 1004 v]) agg26 rfl rfl rfl (Nat.le_of_ble_eq_true rfl)) ?_
    refine d_v0' (j_call0 (v := .agg [.p _, .sl _, .sl _, .p _, .sl _]) (hp1 := [(0, some (0, .box 114 [.sl _, .p _])), (1004, some (v, .row 43 5 _))]) [(0, 0), (1004, v)] false [0, 1004] ent127 (f_l6Draw b q t l hb (by omega) (by omega)) ⟨.inl ⟨rfl, rfl⟩, .inl ⟨rfl, rfl⟩, trivial⟩ ⟨⟨rfl, rfl⟩, ⟨rfl, rfl⟩, trivial⟩ rfl rfl (fun h => by cases h) rfl (List.all_eq_true.1 rfl) (.inl rfl) rfl rfl) ?_
    refine d_n' (fun ver => j_buildSlice (parts := [(0, .tmp 62)]) (es := [[_, _, _, _, _]]) slt24 elt43 rfl rfl (by decide) (by decide) rfl rfl (by simp) rfl) ?_
    refine d_n' (fun ver => j_append_own slt24 elt43 rfl rfl rfl rfl rfl rfl (by rw [maxLen_eq]; first | omega | (simp only [nr, nl]; omega)) (by first | omega | (simp only [nr, nl]; omega))) ?_
    refine d_v' (j_fldp fld26f1 rfl rfl) ?_
    refine d_s' (j_store_box leaf24 rfl rfl (Nat.le_of_ble_eq_true rfl) (evo rfl) rfl) ?_
    refine d_nil (by kernel_rfl) (by kernel_rfl) ?_
    refine a_region (by kernel_rfl) ?_
    refine op_v' (j_move (evo rfl)) ?_
    refine op_v' (j_sub rfl rfl (by first | omega | (simp only [nr, nl]; omega)) (by first | omega | (simp only [nr, nl]; omega))) ?_
    refine op_v' (j_assign (evo rfl)) ?_
    refine op_nil ?_
    exact ⟨(l ++ [(drawR b q t.length).1], (drawR b q t.length).2, (vf 1004)), (by first | exact ⟨by first | omega | (simp only [nr, nl]; omega), by rw [wRS_snoc]; first | omega | (simp only [nr, nl]; omega), by first | omega | (simp only [nr, nl]; omega), by first | omega | (simp only [nr, nl]; omega)⟩ | (dsimp only; exact ⟨by first | omega | (simp only [nr, nl]; omega), by rw [wRS_snoc]; first | omega | (simp only [nr, nl]; omega), by first | omega | (simp only [nr, nl]; omega), by first | omega | (simp only [nr, nl]; omega)⟩)), ⟨⟨rfl, rfl⟩, ⟨intEq (by simp only [List.length_append, List.length_cons, List.length_nil]; omega), trivial⟩, ⟨rfl, rfl, rowEq (by rw [List.map_append]; rfl), trivial⟩, ⟨rfl, rfl⟩, ⟨rfl, rfl⟩⟩, (by first | exact (by first | omega | (simp only [nr, nl]; omega)) | (dsimp only; exact (by first | omega | (simp only [nr, nl]; omega))))⟩
   ·
    have h5r := h5
    try simp only [nq, nr, nl] at h5
    refine a_exit ?_
    refine a_seq ?_
    refine a_freezeboxK 1 3 (by decide) ⟨⟨_, _, rfl⟩, trivial⟩ rfl rfl rfl rfl ?_
    try dsimp only [List.set]
    refine a_region (by kernel_rfl) ?_
    refine op_v' (j_loada_box (ys := [.sl _, .sl _]) agg26 rfl rfl rfl (Nat.le_of_ble_eq_true rfl)) ?_
    refine op_s' (j_storea_box0 agg26 rfl rfl rfl rfl rfl rfl) ?_
    refine op_nil ?_
    refine a_ret ?_
    exact ⟨[.agg [.sl _, .sl _]], .agg [.sl _, .sl _], [.box 114 [.sl _, .p _]], [], [], ⟨⟨_, _, _, _, rfl, rfl, agg26, rfl⟩, trivial⟩, rfl, rfl, ⟨⟨rfl, rfl⟩, trivial⟩, rfl, rfl, ⟨((t, l), q), ⟨by unfold wM; dsimp only; omega, by dsimp only; omega, by dsimp only; omega, by dsimp only; omega, by dsimp only; omega⟩, rfl, rfl, rfl⟩⟩


theorem f_l6Copy (m : Md) (hm : wM m ≤ 1048576) : Fn Try.prog 126 [.agg [.sl (m.1.map dI), .sl (m.2.map dR)]] [] (fun rr ii nn => rr = .agg [.own 0 0, .own 1 0] ∧ ii = [] ∧ nn = [.row 3 1 ((m.1).map dI), .deep (.mk 43 5 [(1, .mk 3 1 []), (2, .mk 3 1 []), (4, (.mk 23 1 [(0, .mk 3 1 [])]))]) ((m.2).map dR) none]) := by
 refine fn_of Try.func126 rfl (Nat.le_of_ble_eq_true rfl) fun w X g => ?_
 show AWp _ _ _ ⟨[(0, .agg [.sl (m.1.map dI), .sl (m.2.map dR)])], []⟩
 have hw : wM m = m.1.length + wRS m.2 := rfl
 have hw2 : wRS m.2 = m.2.length + sumW wR m.2 := rfl
 refine a_seq ?_
 refine a_region (by kernel_rfl) ?_
 refine op_n' (fun ver => j_boxa rfl) fun v1x1 => ?_
 refine op_n' (fun ver => j_alloc elt26 rfl) fun v2x2 => ?_
 refine op_nil ?_
 refine a_seq ?_
 refine a_region (by kernel_rfl) ?_
 refine op_n' (fun ver => j_buildSlice (parts := []) (es := []) slt23 elt3 rfl rfl (by decide) (by decide) rfl rfl (by simp) rfl) fun v8x3 => ?_
 refine op_v' (j_fldp fld26f0 rfl rfl) ?_
 refine op_v' (j_load_box leaf23 rfl rfl rfl) ?_
 refine op_n' (fun ver => j_append_sl slt23 elt3 rfl rfl rfl rfl (by simp [dI]) lf_ints (by rw [maxLen_eq]; first | omega | (simp only [nr, nl]; omega)) (by first | omega | (simp only [nr, nl]; omega))) fun v8x4 => ?_
 refine op_v' (j_build (parts := [(0, .tmp 11)]) str26 elt26 rfl rfl) ?_
 refine op_n' (fun ver => j_alloc elt26 rfl) fun v3x5 => ?_
 refine op_s' (j_storea_box0 agg26 rfl rfl rfl rfl rfl rfl) ?_
 refine op_nil ?_
 refine a_adopt_box' 1 1003 43 5 (by decide) (id := 3) rfl rfl fun v1003x6 => ?_
 refine a_todeep 1003 0 (.mk 43 5 [(1, (.mk 3 1 [])), (2, (.mk 3 1 [])), (4, (.mk 23 1 [(0, (.mk 3 1 []))]))]) (zs := []) (zs' := []) rfl rfl rfl rfl eat_end rfl ?_
 refine a_seq ?_
 refine a_seq ?_
 refine a_region (by kernel_rfl) ?_
 refine op_v' (j_assign (evo rfl)) ?_
 refine op_nil ?_
 refine a_block ?_
 refine a_loopF' (ι := Nat × Nat) (fun x => x.1 ≤ m.2.length) (fun x r => (4, .p (.int .i64 ((x.1 : Nat)))) :: r) (fun x r => (3, some (v3x5, .box 26 [.own 8 v8x4, .own 1003 x.2])) :: (1003, some (x.2, .deep (.mk 43 5 [(1, .mk 3 1 []), (2, .mk 3 1 []), (4, (.mk 23 1 [(0, .mk 3 1 [])]))]) ((m.2.take x.1).map dR) none)) :: r) (fun x => m.2.length - x.1) (fun _ _ => rfl) (fun _ _ => rfl) (0, v1003x6) (by first | exact (Nat.zero_le _) | (dsimp only; exact (Nat.zero_le _))) ⟨⟨rfl, rfl⟩, ⟨rfl, trivial⟩, ⟨rfl, rfl, trivial⟩, ⟨rfl, rfl⟩, ⟨rfl, rfl⟩⟩ ?_
 rintro ⟨k, v⟩ hk; dsimp only at hk ⊢
 refine a_seq ?_
 refine a_seq ?_
 refine a_region (by kernel_rfl) ?_
 refine op_v' (j_move (evo rfl)) ?_
 refine op_v' (j_fldp fld26f1 rfl rfl) ?_
 refine op_v' (j_load_box leaf24 rfl rfl rfl) ?_
 refine op_v' (j_len_map Try.underlying24 rfl) ?_
 refine op_v' (j_lt rfl rfl) ?_
 refine op_nil ?_
 refine a_cond rfl (fun h1 => ?_) (fun h1 => ?_)
 ·
  have h1r := h1
  try simp only [nq, nr, nl] at h1
  refine a_skip ?_
  refine a_seq ?_
  refine a_block ?_
  refine a_seq ?_
  refine a_region (by kernel_rfl) ?_
  refine op_v' (j_fldp fld26f1 rfl rfl) ?_
  refine op_v' (j_load_box leaf24 rfl rfl rfl) ?_
  refine op_v' (j_move (evo rfl)) ?_
  refine op_v' (j_elemN slt24 rfl rfl rfl (at_map (by first | omega | (simp only [nr, nl]; omega))) rfl) ?_
  refine op_v' (j_loada_el (ys := [.p _, .sl _, .sl _, .p _, .sl _]) agg43 rfl (at_map (by first | omega | (simp only [nr, nl]; omega))) rfl (Nat.le_refl _)) ?_
  refine op_n' (fun ver => j_alloc elt43 rfl) fun v5x7 => ?_
  refine op_s' (j_storea_box0 agg43 rfl rfl rfl rfl rfl rfl) ?_
  refine op_nil ?_
  refine a_seq ?_
  have hwr := sumW_at (w := wR) (l := m.2) (k := k) (by omega)
  generalize hr : m.2.getD k default = u at hwr ⊢
  have hwd : wR u = u.2.1.length + u.2.2.1.length + (u.2.2.2.2.length + sumW List.length u.2.2.2.2) := rfl
  refine a_draw mixed (by kernel_rfl) (by kernel_rfl) fun vf => ?_
  refine d_v' (j_fldp fld43f0 rfl rfl) ?_
  refine d_v' (j_load_box leaf3 rfl rfl rfl) ?_
  refine d_n' (fun ver => j_buildSlice (parts := []) (es := []) slt23 elt3 rfl rfl (by decide) (by decide) rfl rfl (by simp) rfl) ?_
  refine d_v' (j_fldp fld43f1 rfl rfl) ?_
  refine d_v' (j_load_box leaf23 rfl rfl rfl) ?_
  refine d_n1' (fun ver => j_append_slN (by decide) slt23 elt3 rfl rfl rfl rfl (by simp [dI]) lf_ints (by rw [maxLen_eq]; first | omega | (simp only [nr, nl]; omega)) (by first | omega | (simp only [nr, nl]; omega))) ?_
  refine d_n' (fun ver => j_buildSlice (parts := []) (es := []) slt23 elt3 rfl rfl (by decide) (by decide) rfl rfl (by simp) rfl) ?_
  refine d_v' (j_fldp fld43f2 rfl rfl) ?_
  refine d_v' (j_load_box leaf23 rfl rfl rfl) ?_
  refine d_n1' (fun ver => j_append_slN (by decide) slt23 elt3 rfl rfl rfl rfl (by simp [dI]) lf_ints (by rw [maxLen_eq]; first | omega | (simp only [nr, nl]; omega)) (by first | omega | (simp only [nr, nl]; omega))) ?_
  refine d_v' (j_fldp fld43f3 rfl rfl) ?_
  refine d_v' (j_load_box leaf3 rfl rfl rfl) ?_
  refine d_v' (j_build (parts := [(0, .tmp 26), (1, .tmp 30), (2, .tmp 34), (3, .tmp 36)]) str43 elt43 rfl rfl) ?_
  refine d_n' (fun ver => j_alloc elt43 rfl) ?_
  refine d_s' (j_storea_box0 agg43 rfl rfl rfl rfl rfl rfl) ?_
  refine d_nil (by kernel_rfl) (by kernel_rfl) ?_
  refine a_adopt_box' 4 1006 23 1 (by decide) (id := 6) rfl rfl fun v1006x8 => ?_
  refine a_todeep 1006 0 (.mk 23 1 [(0, (.mk 3 1 []))]) (zs := []) (zs' := []) rfl rfl rfl rfl eat_end rfl ?_
  refine a_seq ?_
  refine a_seq ?_
  refine a_region (by kernel_rfl) ?_
  refine op_v' (j_assign (evo rfl)) ?_
  refine op_nil ?_
  refine a_block ?_
  refine a_loopF' (ι := Nat × Nat) (fun x => x.1 ≤ u.2.2.2.2.length) (fun x r => (7, .p (.int .i64 ((x.1 : Nat)))) :: r) (fun x r => (6, some ((vf 6), .box 43 [.p (.int .i64 u.1), .own 30 (vf 30), .own 34 (vf 34), .p (.int .i64 u.2.2.2.1), .own 1006 x.2])) :: (1006, some (x.2, .deep (.mk 23 1 [(0, .mk 3 1 [])]) ((u.2.2.2.2.take x.1).map dL) none)) :: r) (fun x => u.2.2.2.2.length - x.1) (fun _ _ => rfl) (fun _ _ => rfl) (0, v1006x8) (by first | exact (Nat.zero_le _) | (dsimp only; exact (Nat.zero_le _))) ⟨⟨rfl, rfl⟩, ⟨rfl, trivial⟩, ⟨rfl, rfl, trivial⟩, ⟨rfl, rfl⟩, ⟨rfl, rfl⟩⟩ ?_
  rintro ⟨j, w⟩ hj; dsimp only at hj ⊢
  refine a_seq ?_
  refine a_seq ?_
  refine a_region (by kernel_rfl) ?_
  refine op_v' (j_move (evo rfl)) ?_
  refine op_v' (j_fldp fld43f4 rfl rfl) ?_
  refine op_v' (j_load_box leaf41 rfl rfl rfl) ?_
  refine op_v' (j_len_map Try.underlying41 rfl) ?_
  refine op_v' (j_lt rfl rfl) ?_
  refine op_nil ?_
  refine a_cond rfl (fun h2 => ?_) (fun h2 => ?_)
  ·
   have h2r := h2
   try simp only [nq, nr, nl] at h2
   refine a_skip ?_
   refine a_seq ?_
   refine a_block ?_
   have hwx := sumW_at (w := List.length) (l := u.2.2.2.2) (k := j) (by omega)
   refine a_draw mixed (by kernel_rfl) (by kernel_rfl) fun vf => ?_
   refine d_v' (j_fldp fld43f4 rfl rfl) ?_
   refine d_v' (j_load_box leaf41 rfl rfl rfl) ?_
   refine d_n' (fun ver => j_buildSlice (parts := []) (es := []) slt23 elt3 rfl rfl (by decide) (by decide) rfl rfl (by simp) rfl) ?_
   refine d_v' (j_fldp fld43f4 rfl rfl) ?_
   refine d_v' (j_load_box leaf41 rfl rfl rfl) ?_
   refine d_v' (j_move (evo rfl)) ?_
   refine d_v' (j_elemN slt41 rfl rfl rfl (at_map (by first | omega | (simp only [nr, nl]; omega))) rfl) ?_
   refine d_v' (j_load_el leaf23 rfl (at_map (by first | omega | (simp only [nr, nl]; omega))) rfl) ?_
   refine d_n1' (fun ver => j_append_slN (by decide) slt23 elt3 rfl rfl rfl rfl (by simp [dI]) lf_ints (by rw [maxLen_eq]; first | omega | (simp only [nr, nl]; omega)) (by first | omega | (simp only [nr, nl]; omega))) ?_
   refine d_n1' (fun ver => j_buildSlice_deep (x := .tmp 53) (t := (.mk 23 1 [(0, (.mk 3 1 []))])) slt41 elt23 rfl rfl rfl (by decide) (by decide) rfl rfl rfl (eat_own rfl rfl rfl eat_end) rfl rfl) ?_
   refine d_n1' (fun ver => j_append_deep (by decide) slt41 elt23 rfl rfl rfl rfl rfl rfl rfl rfl (Nat.le_of_ble_eq_true rfl) (by rw [maxLen_eq]; first | omega | (simp only [nr, nl]; omega)) (by first | omega | (simp only [nr, nl]; omega))) ?_
   refine d_v' (j_fldp fld43f4 rfl rfl) ?_
   refine d_s' (j_store_box leaf41 rfl rfl (Nat.le_of_ble_eq_true rfl) (evo rfl) rfl) ?_
   refine d_nil (by kernel_rfl) (by kernel_rfl) ?_
   refine a_region (by kernel_rfl) ?_
   refine op_v' (j_move (evo rfl)) ?_
   refine op_v' (j_add rfl rfl (by first | omega | (simp only [nr, nl]; omega)) (by first | omega | (simp only [nr, nl]; omega))) ?_
   refine op_v' (j_assign (evo rfl)) ?_
   refine op_nil ?_
   exact ⟨(j + 1, (vf 1006)), (by first | exact (by first | omega | (simp only [nr, nl]; omega)) | (dsimp only; exact (by first | omega | (simp only [nr, nl]; omega)))), ⟨⟨rfl, rfl⟩, ⟨rfl, trivial⟩, ⟨rfl, deepEq (by rw [take_succD (d := default) (by omega), List.map_append]; rfl), trivial⟩, ⟨rfl, rfl⟩, ⟨rfl, rfl⟩⟩, (by first | exact (by first | omega | (simp only [nr, nl]; omega)) | (dsimp only; exact (by first | omega | (simp only [nr, nl]; omega))))⟩
  ·
   have h2r := h2
   try simp only [nq, nr, nl] at h2
   refine a_exit ?_
   refine a_region (by kernel_rfl) ?_
   refine op_v' (j_fldp fld26f1 rfl rfl) ?_
   refine op_v' (j_load_box leaf24 rfl rfl rfl) ?_
   refine op_v' (j_loada_box (ys := [.p _, .own 30 (vf 30), .own 34 (vf 34), .p _, .own 1006 w]) agg43 rfl rfl rfl (Nat.le_of_ble_eq_true rfl)) ?_
   refine op_n1' (fun ver => j_buildSlice_deep (x := .tmp 59) (t := (.mk 43 5 [(1, (.mk 3 1 [])), (2, (.mk 3 1 [])), (4, (.mk 23 1 [(0, (.mk 3 1 []))]))])) slt24 elt43 rfl rfl rfl (by decide) (by decide) rfl rfl rfl (eat_leaf rfl rfl rfl (eat_own rfl rfl rfl (eat_own rfl rfl rfl (eat_leaf rfl rfl rfl (eat_own rfl rfl rfl eat_end))))) rfl rfl) fun v60x9 => ?_
   refine op_n1' (fun ver => j_append_deep (by decide) slt24 elt43 rfl rfl rfl rfl rfl rfl rfl rfl (Nat.le_of_ble_eq_true rfl) (by rw [maxLen_eq]; first | omega | (simp only [nr, nl]; omega)) (by first | omega | (simp only [nr, nl]; omega))) fun v1003x10 => ?_
   refine op_v' (j_fldp fld26f1 rfl rfl) ?_
   refine op_s' (j_store_box leaf24 rfl rfl (Nat.le_of_ble_eq_true rfl) (evo rfl) rfl) ?_
   refine op_nil ?_
   refine a_region (by kernel_rfl) ?_
   refine op_v' (j_move (evo rfl)) ?_
   refine op_v' (j_add rfl rfl (by first | omega | (simp only [nr, nl]; omega)) (by first | omega | (simp only [nr, nl]; omega))) ?_
   refine op_v' (j_assign (evo rfl)) ?_
   refine op_nil ?_
   exact ⟨(k + 1, v1003x10), (by first | exact (by first | omega | (simp only [nr, nl]; omega)) | (dsimp only; exact (by first | omega | (simp only [nr, nl]; omega)))), ⟨⟨rfl, rfl⟩, ⟨rfl, trivial⟩, ⟨rfl, deepEq (by rw [take_succD (d := default) (by omega), List.map_append, hr, show u.2.2.2.2.take j = u.2.2.2.2 from List.take_of_length_le (by omega)]; rfl), trivial⟩, ⟨rfl, rfl⟩, ⟨rfl, rfl⟩⟩, (by first | exact (by first | omega | (simp only [nr, nl]; omega)) | (dsimp only; exact (by first | omega | (simp only [nr, nl]; omega))))⟩
 ·
  have h1r := h1
  try simp only [nq, nr, nl] at h1
  refine a_exit ?_
  refine a_seq ?_
  refine a_region (by kernel_rfl) ?_
  refine op_v' (j_loada_box (ys := [.own 8 v8x4, .own 1003 v]) agg26 rfl rfl rfl (Nat.le_of_ble_eq_true rfl)) ?_
  refine op_s' (j_storea_box0 agg26 rfl rfl rfl rfl rfl rfl) ?_
  refine op_nil ?_
  refine a_ret ?_
  exact ⟨[.agg [.own 8 v8x4, .own 1003 v]], .agg [.own 0 0, .own 1 0], [], [.row 3 1 _, .deep (.mk 43 5 [(1, (.mk 3 1 [])), (2, (.mk 3 1 [])), (4, (.mk 23 1 [(0, (.mk 3 1 []))]))]) _ none], [(8, v8x4), (1003, v)], ⟨⟨_, _, _, _, rfl, rfl, agg26, rfl⟩, trivial⟩, rfl, rfl, ⟨⟨rfl, rfl⟩, ⟨rfl, rfl⟩, trivial⟩, rfl, rfl, ⟨rfl, rfl, by rw [List.take_of_length_le (by omega)]; rfl⟩⟩


theorem f_l6Mutate (b : List Int) (p : Nat) (m : Md) (hb : okB b) (hp : p ≤ 1099511610000) (hm : wM m ≤ 2000) : Fn Try.prog 74 [.ptr 0 0 0, .agg [.sl (m.1.map dI), .sl (m.2.map dR)]] [.box 114 [.sl (b.map dU), .p (.int .i64 ((p : Nat) : Int))]] (fun rr ii nn => ∃ x : Md × Nat, (wM x.1 ≤ 3000 ∧ p ≤ x.2 ∧ x.2 ≤ p + 10) ∧ rr = .agg [.sl (x.1.1.map dI), .sl (x.1.2.map dR)] ∧ ii = [.box 114 [.sl (b.map dU), .p (.int .i64 ((x.2 : Nat) : Int))]] ∧ nn = []) := by
 refine fn_of Try.func74 rfl (Nat.le_of_ble_eq_true rfl) fun w X g => ?_
 show AWp _ _ _ ⟨[(0, .ptr 0 0 0), (1, .agg [.sl (m.1.map dI), .sl (m.2.map dR)])], [(0, some (0, .box 114 [.sl (b.map dU), .p (.int .i64 ((p : Nat) : Int))]))]⟩
 have hw : wM m = m.1.length + wRS m.2 := rfl
 have hw2 : wRS m.2 = m.2.length + sumW wR m.2 := rfl
 refine a_seq ?_
 refine a_region (by kernel_rfl) ?_
 refine op_n' (fun ver => j_boxa rfl) fun v3x1 => ?_
 refine op_n' (fun ver => j_alloc elt26 rfl) fun v4x2 => ?_
 refine op_nil ?_
 refine a_seq ?_
 refine a_region (by kernel_rfl) ?_
 refine op_v' (j_loada_box (ys := [.sl _, .sl _]) agg26 rfl rfl rfl (Nat.le_of_ble_eq_true rfl)) ?_
 refine op_call2 (v := fun ver ver2 => .agg [.own 8 ver, .own 100008 ver2]) (hp1 := fun ver ver2 => [(8, some (ver, .row 3 1 _)), (100008, some (ver2, .deep (.mk 43 5 [(1, (.mk 3 1 [])), (2, (.mk 3 1 [])), (4, (.mk 23 1 [(0, (.mk 3 1 []))]))]) _ none))]) [] false ent126 (f_l6Copy m (by omega)) ⟨.inl ⟨rfl, rfl⟩, trivial⟩ trivial rfl rfl rfl rfl (.inl rfl) (fun _ _ => rfl) (fun _ _ => rfl) ?_
 rintro  v8x3 v100008x3
 dsimp only [List.cons_append, List.nil_append]
 refine op_n' (fun ver => j_alloc elt26 rfl) fun v5x4 => ?_
 refine op_s' (j_storea_box0 agg26 rfl rfl rfl rfl rfl rfl) ?_
 refine op_nil ?_
 refine a_seq ?_
 refine a_region (by kernel_rfl) ?_
 refine op_v' (j_fldp fld26f1 rfl rfl) ?_
 refine op_v' (j_load_box leaf24 rfl rfl rfl) ?_
 refine op_v' (j_len_deep_map Try.underlying24 rfl rfl) ?_
 refine op_v' (j_assign (evo rfl)) ?_
 refine op_nil ?_
 refine a_seq ?_
 refine a_seq ?_
 refine a_region (by kernel_rfl) ?_
 refine op_v' (j_move (evo rfl)) ?_
 refine op_v0' (j_call0 (v := .p _) (hp1 := [(0, some (0, .box 114 [.sl _, .p _]))]) [(0, 0)] false [0] ent99 (f_pick b (p) 50 hb (by omega)) ⟨.inl ⟨rfl, rfl⟩, .inl ⟨rfl, rfl⟩, trivial⟩ ⟨⟨rfl, rfl⟩, trivial⟩ rfl rfl (fun h => by cases h) rfl (List.all_eq_true.1 rfl) (.inl rfl) rfl rfl) ?_
 refine op_nil ?_
 refine a_block ?_
 refine a_seq ?_
 refine a_region (by kernel_rfl) ?_
 refine op_v' (j_eq rfl rfl) ?_
 refine op_v' (j_assign (evo rfl)) ?_
 refine op_nil ?_
 refine a_cond rfl (fun h1 => ?_) (fun h1 => ?_)
 ·
  have h1r := h1
  try simp only [nq, nr, nl] at h1
  refine a_seq ?_
  refine a_region (by kernel_rfl) ?_
  refine op_v' (j_fldp fld26f0 rfl rfl) ?_
  refine op_v' (j_load_box leaf23 rfl rfl rfl) ?_
  refine op_v' (j_len_own_map Try.underlying23 rfl rfl) ?_
  refine op_v' (j_gt rfl rfl) ?_
  refine op_nil ?_
  refine a_cond rfl (fun h2 => ?_) (fun h2 => ?_)
  ·
   have h2r := h2
   try simp only [nq, nr, nl] at h2
   refine a_draw mixed (by kernel_rfl) (by kernel_rfl) fun vf => ?_
   refine d_v' (j_fldp fld26f0 rfl rfl) ?_
   refine d_v' (j_load_box leaf23 rfl rfl rfl) ?_
   refine d_v' (j_move (evo rfl)) ?_
   refine d_n' (fun ver => j_buildSlice (parts := [(0, .const (.int .i64 (-1))), (1, .const (.int .i64 4)), (2, .const (.int .i64 3)), (3, .const (.int .i64 9223372036854775807))]) (es := [[_], [_], [_], [_]]) slt23 elt3 rfl rfl (by decide) (by decide) rfl rfl (by simp) rfl) ?_
   refine d_v0' (j_call0 (v := .p _) (hp1 := [(0, some (0, .box 114 [.sl _, .p _])), (23, some ((vf 23), .row 3 1 _))]) [(0, 0), (23, (vf 23))] false [0, 23] ent77 (f_num b (p + 1) [-1, 4, 3, 9223372036854775807] hb (by omega) (by decide) (by decide)) ⟨.inl ⟨rfl, rfl⟩, .inl ⟨rfl, rfl⟩, trivial⟩ ⟨⟨rfl, rfl⟩, ⟨rfl, rfl⟩, trivial⟩ rfl rfl (fun h => by cases h) rfl (List.all_eq_true.1 rfl) (.inl rfl) rfl rfl) ?_
   refine d_v' (j_elem_ownN slt23 rfl rfl rfl rfl (by first | omega | (simp only [nr, nl]; omega))) ?_
   refine d_s' (j_store_row leaf3 rfl rfl (by first | omega | (simp only [nr, nl]; omega)) (evo rfl) rfl rfl) ?_
   refine d_nil (by kernel_rfl) (by kernel_rfl) ?_
   refine a_seq ?_
   refine a_freezeboxK 0 5 (by decide) ⟨⟨_, _, rfl⟩, trivial⟩ rfl rfl rfl rfl ?_
   try dsimp only [List.set]
   refine a_freezeboxG 1 5 (by decide) ⟨⟨_, _, rfl⟩, trivial⟩ rfl rfl rfl rfl rfl ?_
   try dsimp only [List.set]
   refine a_region (by kernel_rfl) ?_
   refine op_v' (j_loada_box (ys := [.sl _, .sl _]) agg26 rfl rfl rfl (Nat.le_of_ble_eq_true rfl)) ?_
   refine op_s' (j_storea_box0 agg26 rfl rfl rfl rfl rfl rfl) ?_
   refine op_nil ?_
   refine a_ret ?_
   exact ⟨[.agg [.sl _, .sl _]], .agg [.sl _, .sl _], [.box 114 [.sl _, .p _]], [], [], ⟨⟨_, _, _, _, rfl, rfl, agg26, rfl⟩, trivial⟩, rfl, rfl, ⟨⟨rfl, rfl⟩, trivial⟩, rfl, rfl, ⟨((m.1.set 0 (ofV b (p + 1) ([-1, 4, 3, 9223372036854775807] : List Int)), m.2), p + 2), ⟨by unfold wM at *; dsimp only; rw [List.length_set]; omega, by dsimp only; omega, by dsimp only; omega⟩, aggS1 (by rw [List.map_set]; rfl), rfl, rfl⟩⟩
  ·
   have h2r := h2
   try simp only [nq, nr, nl] at h2
   refine a_skip ?_
   refine a_seq ?_
   refine a_freezeboxK 0 5 (by decide) ⟨⟨_, _, rfl⟩, trivial⟩ rfl rfl rfl rfl ?_
   try dsimp only [List.set]
   refine a_freezeboxG 1 5 (by decide) ⟨⟨_, _, rfl⟩, trivial⟩ rfl rfl rfl rfl rfl ?_
   try dsimp only [List.set]
   refine a_region (by kernel_rfl) ?_
   refine op_v' (j_loada_box (ys := [.sl _, .sl _]) agg26 rfl rfl rfl (Nat.le_of_ble_eq_true rfl)) ?_
   refine op_s' (j_storea_box0 agg26 rfl rfl rfl rfl rfl rfl) ?_
   refine op_nil ?_
   refine a_ret ?_
   exact ⟨[.agg [.sl _, .sl _]], .agg [.sl _, .sl _], [.box 114 [.sl _, .p _]], [], [], ⟨⟨_, _, _, _, rfl, rfl, agg26, rfl⟩, trivial⟩, rfl, rfl, ⟨⟨rfl, rfl⟩, trivial⟩, rfl, rfl, ⟨(m, p + 1), ⟨by dsimp only; omega, by dsimp only; omega, by dsimp only; omega⟩, rfl, rfl, rfl⟩⟩
 ·
  have h1r := h1
  try simp only [nq, nr, nl] at h1
  refine a_seq ?_
  refine a_region (by kernel_rfl) ?_
  refine op_v' (j_eq rfl rfl) ?_
  refine op_v' (j_assign (evo rfl)) ?_
  refine op_nil ?_
  refine a_cond rfl (fun h3 => ?_) (fun h3 => ?_)
  ·
   have h3r := h3
   try simp only [nq, nr, nl] at h3
   refine a_block ?_
   refine a_loopF' (ι := List Int × Nat) (fun x => x.1.length ≤ m.1.length + 6) (fun x r => r) (fun x r => (5, some (v5x4, .box 26 [.own 8 x.2, .own 100008 v100008x3])) :: (8, some (x.2, .row 3 1 ((x.1).map dI))) :: r) (fun x => 6 - x.1.length) (fun _ _ => rfl) (fun _ _ => rfl) (m.1, v8x3) (by first | exact (by dsimp only; omega) | (dsimp only; exact (by dsimp only; omega))) ⟨⟨rfl, rfl⟩, trivial, ⟨rfl, rfl, trivial⟩, ⟨rfl, rfl⟩, ⟨rfl, rfl⟩⟩ ?_
   rintro ⟨s, v⟩ hs; dsimp only at hs ⊢
   refine a_seq ?_
   refine a_seq ?_
   refine a_region (by kernel_rfl) ?_
   refine op_v' (j_fldp fld26f0 rfl rfl) ?_
   refine op_v' (j_load_box leaf23 rfl rfl rfl) ?_
   refine op_v' (j_len_own_map Try.underlying23 rfl rfl) ?_
   refine op_v' (j_le rfl rfl) ?_
   refine op_nil ?_
   refine a_cond rfl (fun h4 => ?_) (fun h4 => ?_)
   ·
    have h4r := h4
    try simp only [nq, nr, nl] at h4
    refine a_skip ?_
    refine a_block ?_
    refine a_region (by kernel_rfl) ?_
    refine op_v' (j_fldp fld26f0 rfl rfl) ?_
    refine op_v' (j_load_box leaf23 rfl rfl rfl) ?_
    refine op_n' (fun ver => j_buildSlice (parts := [(0, .const (.int .i64 0))]) (es := [[_]]) slt23 elt3 rfl rfl (by decide) (by decide) rfl rfl (by simp) rfl) fun v34x5 => ?_
    refine op_n' (fun ver => j_append_own slt23 elt3 rfl rfl rfl rfl rfl rfl (by rw [maxLen_eq]; first | omega | (simp only [nr, nl]; omega)) (by first | omega | (simp only [nr, nl]; omega))) fun v8x6 => ?_
    refine op_v' (j_fldp fld26f0 rfl rfl) ?_
    refine op_s' (j_store_box leaf23 rfl rfl (Nat.le_of_ble_eq_true rfl) (evo rfl) rfl) ?_
    refine op_nil ?_
    exact ⟨(s ++ [0], v8x6), (by first | exact (by first | omega | (simp only [nr, nl]; omega)) | (dsimp only; exact (by first | omega | (simp only [nr, nl]; omega)))), ⟨⟨rfl, rfl⟩, trivial, ⟨rfl, rowEq (by rw [List.map_append]; rfl), trivial⟩, ⟨rfl, rfl⟩, ⟨rfl, rfl⟩⟩, (by first | exact (by first | omega | (simp only [nr, nl]; omega)) | (dsimp only; exact (by first | omega | (simp only [nr, nl]; omega))))⟩
   ·
    have h4r := h4
    try simp only [nq, nr, nl] at h4
    refine a_exit ?_
    refine a_seq ?_
    refine a_freezeboxK 0 5 (by decide) ⟨⟨_, _, rfl⟩, trivial⟩ rfl rfl rfl rfl ?_
    try dsimp only [List.set]
    refine a_freezeboxG 1 5 (by decide) ⟨⟨_, _, rfl⟩, trivial⟩ rfl rfl rfl rfl rfl ?_
    try dsimp only [List.set]
    refine a_region (by kernel_rfl) ?_
    refine op_v' (j_loada_box (ys := [.sl _, .sl _]) agg26 rfl rfl rfl (Nat.le_of_ble_eq_true rfl)) ?_
    refine op_s' (j_storea_box0 agg26 rfl rfl rfl rfl rfl rfl) ?_
    refine op_nil ?_
    refine a_ret ?_
    exact ⟨[.agg [.sl _, .sl _]], .agg [.sl _, .sl _], [.box 114 [.sl _, .p _]], [], [], ⟨⟨_, _, _, _, rfl, rfl, agg26, rfl⟩, trivial⟩, rfl, rfl, ⟨⟨rfl, rfl⟩, trivial⟩, rfl, rfl, ⟨((s, m.2), p + 1), ⟨by unfold wM; dsimp only; omega, by dsimp only; omega, by dsimp only; omega⟩, rfl, rfl, rfl⟩⟩
  ·
   have h3r := h3
   try simp only [nq, nr, nl] at h3
   refine a_seq ?_
   refine a_region (by kernel_rfl) ?_
   refine op_v' (j_eq rfl rfl) ?_
   refine op_v' (j_assign (evo rfl)) ?_
   refine op_nil ?_
   refine a_cond rfl (fun h5 => ?_) (fun h5 => ?_)
   ·
    have h5r := h5
    try simp only [nq, nr, nl] at h5
    refine a_seq ?_
    refine a_region (by kernel_rfl) ?_
    refine op_v' (j_move (evo rfl)) ?_
    refine op_v' (j_gt rfl rfl) ?_
    refine op_nil ?_
    refine a_cond rfl (fun h6 => ?_) (fun h6 => ?_)
    ·
     have h6r := h6
     try simp only [nq, nr, nl] at h6
     refine a_draw mixed (by kernel_rfl) (by kernel_rfl) fun vf => ?_
     refine d_v' (j_fldp fld26f1 rfl rfl) ?_
     refine d_v' (j_load_box leaf24 rfl rfl rfl) ?_
     refine d_v' (j_move (evo rfl)) ?_
     refine d_n' (fun ver => j_buildSlice (parts := [(0, .const (.int .i64 0)), (1, .const (.int .i64 5)), (2, .const (.int .i64 1)), (3, .const (.int .i64 2)), (4, .const (.int .i64 3))]) (es := [[_], [_], [_], [_], [_]]) slt23 elt3 rfl rfl (by decide) (by decide) rfl rfl (by simp) rfl) ?_
     refine d_v0' (j_call0 (v := .p _) (hp1 := [(0, some (0, .box 114 [.sl _, .p _])), (44, some ((vf 44), .row 3 1 _))]) [(0, 0), (44, (vf 44))] false [0, 44] ent77 (f_num b (p + 1) [0, 5, 1, 2, 3] hb (by omega) (by decide) (by decide)) ⟨.inl ⟨rfl, rfl⟩, .inl ⟨rfl, rfl⟩, trivial⟩ ⟨⟨rfl, rfl⟩, ⟨rfl, rfl⟩, trivial⟩ rfl rfl (fun h => by cases h) rfl (List.all_eq_true.1 rfl) (.inl rfl) rfl rfl) ?_
     refine d_v' (j_elem_deepN slt24 rfl rfl rfl rfl rfl (by first | omega | (simp only [nr, nl]; omega))) ?_
     refine d_v' (j_fldpel fld43f0 rfl rfl) ?_
     refine d_s' (j_store_deep leaf3 rfl rfl rfl (at_map (by first | omega | (simp only [nr, nl]; omega))) (Nat.le_of_ble_eq_true rfl) (evo rfl) rfl rfl) ?_
     refine d_nil (by kernel_rfl) (by kernel_rfl) ?_
     refine a_seq ?_
     refine a_freezeboxK 0 5 (by decide) ⟨⟨_, _, rfl⟩, trivial⟩ rfl rfl rfl rfl ?_
     try dsimp only [List.set]
     refine a_freezeboxG 1 5 (by decide) ⟨⟨_, _, rfl⟩, trivial⟩ rfl rfl rfl rfl rfl ?_
     try dsimp only [List.set]
     refine a_region (by kernel_rfl) ?_
     refine op_v' (j_loada_box (ys := [.sl _, .sl _]) agg26 rfl rfl rfl (Nat.le_of_ble_eq_true rfl)) ?_
     refine op_s' (j_storea_box0 agg26 rfl rfl rfl rfl rfl rfl) ?_
     refine op_nil ?_
     refine a_ret ?_
     exact ⟨[.agg [.sl _, .sl _]], .agg [.sl _, .sl _], [.box 114 [.sl _, .p _]], [], [], ⟨⟨_, _, _, _, rfl, rfl, agg26, rfl⟩, trivial⟩, rfl, rfl, ⟨⟨rfl, rfl⟩, trivial⟩, rfl, rfl, ⟨((m.1, m.2.set 0 ((ofV b (p + 1) ([0, 5, 1, 2, 3] : List Int), (m.2.getD 0 default).2) : Rl)), p + 2), ⟨by have hws := wRS_set (l := m.2) (k := 0) (r := ((ofV b (p + 1) ([0, 5, 1, 2, 3] : List Int), (m.2.getD 0 default).2) : Rl)) (by omega) (rfl); unfold wM at *; dsimp only at hws ⊢; omega, by dsimp only; omega, by dsimp only; omega⟩, aggS2 (by rw [List.map_set]; rfl), rfl, rfl⟩⟩
    ·
     have h6r := h6
     try simp only [nq, nr, nl] at h6
     refine a_skip ?_
     refine a_seq ?_
     refine a_freezeboxK 0 5 (by decide) ⟨⟨_, _, rfl⟩, trivial⟩ rfl rfl rfl rfl ?_
     try dsimp only [List.set]
     refine a_freezeboxG 1 5 (by decide) ⟨⟨_, _, rfl⟩, trivial⟩ rfl rfl rfl rfl rfl ?_
     try dsimp only [List.set]
     refine a_region (by kernel_rfl) ?_
     refine op_v' (j_loada_box (ys := [.sl _, .sl _]) agg26 rfl rfl rfl (Nat.le_of_ble_eq_true rfl)) ?_
     refine op_s' (j_storea_box0 agg26 rfl rfl rfl rfl rfl rfl) ?_
     refine op_nil ?_
     refine a_ret ?_
     exact ⟨[.agg [.sl _, .sl _]], .agg [.sl _, .sl _], [.box 114 [.sl _, .p _]], [], [], ⟨⟨_, _, _, _, rfl, rfl, agg26, rfl⟩, trivial⟩, rfl, rfl, ⟨⟨rfl, rfl⟩, trivial⟩, rfl, rfl, ⟨(m, p + 1), ⟨by dsimp only; omega, by dsimp only; omega, by dsimp only; omega⟩, rfl, rfl, rfl⟩⟩
   ·
    have h5r := h5
    try simp only [nq, nr, nl] at h5
    refine a_seq ?_
    refine a_region (by kernel_rfl) ?_
    refine op_v' (j_eq rfl rfl) ?_
    refine op_v' (j_assign (evo rfl)) ?_
    refine op_nil ?_
    refine a_cond rfl (fun h7 => ?_) (fun h7 => ?_)
    ·
     have h7r := h7
     try simp only [nq, nr, nl] at h7
     refine a_seq ?_
     refine a_region (by kernel_rfl) ?_
     refine op_v' (j_move (evo rfl)) ?_
     refine op_v' (j_gt rfl rfl) ?_
     refine op_v' (j_move (evo rfl)) ?_
     refine op_split' 52 rfl (fun h8 => ?_) (fun h8 => ?_)
     ·
      have h8r := h8
      try simp only [nq, nr, nl] at h8
      refine op_v' (j_want rfl rfl h8r (j_fldp fld26f1 rfl rfl)) ?_
      refine op_v' (j_want rfl rfl h8r (j_load_box leaf24 rfl rfl rfl)) ?_
      refine op_v' (j_want rfl rfl h8r (j_move (evo rfl))) ?_
      refine op_v' (j_want rfl rfl h8r (j_sub rfl rfl (by first | omega | (simp only [nr, nl]; omega)) (by first | omega | (simp only [nr, nl]; omega)))) ?_
      refine op_v' (j_want rfl rfl h8r (j_elem_deepN (n := (m.2.length - 1)) slt24 rfl rfl rfl rfl (by first | omega | (simp only [nr, nl]; omega)) (by first | omega | (simp only [nr, nl]; omega)))) ?_
      refine op_v' (j_want rfl rfl h8r (j_fldpel fld43f1 rfl rfl)) ?_
      refine op_n1' (fun ver => j_want rfl rfl h8r (j_out leaf23 (by decide) rfl rfl rfl (at_map (by first | omega | (simp only [nr, nl]; omega))) rfl rfl)) fun v59x7 => ?_
      refine op_v' (j_want rfl rfl h8r (j_len_own_map Try.underlying23 rfl rfl)) ?_
      refine op_v' (j_want rfl rfl h8r (j_gt rfl rfl)) ?_
      refine op_v' (j_pick_t rfl h8r (evo rfl)) ?_
      refine op_nil ?_
      refine a_back 100008 59 (by decide) rfl rfl rfl rfl (at_map (by first | omega | (simp only [nr, nl]; omega))) (set_same dR m.2 (m.2.length - 1)) ?_
      refine a_cond rfl (fun h9 => ?_) (fun h9 => ?_)
      ·
       have h9r := h9
       try simp only [nq, nr, nl] at h9
       refine a_draw mixed (by kernel_rfl) (by kernel_rfl) fun vf => ?_
       refine d_v' (j_fldp fld26f1 rfl rfl) ?_
       refine d_v' (j_load_box leaf24 rfl rfl rfl) ?_
       refine d_v' (j_move (evo rfl)) ?_
       refine d_v' (j_sub rfl rfl (by first | omega | (simp only [nr, nl]; omega)) (by first | omega | (simp only [nr, nl]; omega))) ?_
       refine d_v' (j_elem_deepN (n := (m.2.length - 1)) slt24 rfl rfl rfl rfl (by first | omega | (simp only [nr, nl]; omega)) (by first | omega | (simp only [nr, nl]; omega))) ?_
       refine d_v' (j_fldpel fld43f1 rfl rfl) ?_
       refine d_n1' (fun ver => j_out leaf23 (by decide) rfl rfl rfl (at_map (by first | omega | (simp only [nr, nl]; omega))) rfl rfl) ?_
       refine d_v' (j_move (evo rfl)) ?_
       refine d_n' (fun ver => j_buildSlice (parts := [(0, .const (.int .i64 (-1))), (1, .const (.int .i64 5)), (2, .const (.int .i64 1)), (3, .const (.int .i64 0))]) (es := [[_], [_], [_], [_]]) slt23 elt3 rfl rfl (by decide) (by decide) rfl rfl (by simp) rfl) ?_
       refine d_v0' (j_call0 (v := .p _) (hp1 := [(0, some (0, .box 114 [.sl _, .p _])), (71, some ((vf 71), .row 3 1 _))]) [(0, 0), (71, (vf 71))] false [0, 71] ent77 (f_num b (p + 1) [-1, 5, 1, 0] hb (by omega) (by decide) (by decide)) ⟨.inl ⟨rfl, rfl⟩, .inl ⟨rfl, rfl⟩, trivial⟩ ⟨⟨rfl, rfl⟩, ⟨rfl, rfl⟩, trivial⟩ rfl rfl (fun h => by cases h) rfl (List.all_eq_true.1 rfl) (.inl rfl) rfl rfl) ?_
       refine d_v' (j_elem_ownN slt23 rfl rfl rfl rfl (by first | omega | (simp only [nr, nl]; omega))) ?_
       refine d_s' (j_store_row leaf3 rfl rfl (by first | omega | (simp only [nr, nl]; omega)) (evo rfl) rfl rfl) ?_
       refine d_nil (by kernel_rfl) (by kernel_rfl) ?_
       refine a_back 100008 69 (by decide) rfl rfl rfl rfl (at_map (by first | omega | (simp only [nr, nl]; omega))) rfl ?_
       refine a_seq ?_
       refine a_freezeboxK 0 5 (by decide) ⟨⟨_, _, rfl⟩, trivial⟩ rfl rfl rfl rfl ?_
       try dsimp only [List.set]
       refine a_freezeboxG 1 5 (by decide) ⟨⟨_, _, rfl⟩, trivial⟩ rfl rfl rfl rfl rfl ?_
       try dsimp only [List.set]
       refine a_region (by kernel_rfl) ?_
       refine op_v' (j_loada_box (ys := [.sl _, .sl _]) agg26 rfl rfl rfl (Nat.le_of_ble_eq_true rfl)) ?_
       refine op_s' (j_storea_box0 agg26 rfl rfl rfl rfl rfl rfl) ?_
       refine op_nil ?_
       refine a_ret ?_
       exact ⟨[.agg [.sl _, .sl _]], .agg [.sl _, .sl _], [.box 114 [.sl _, .p _]], [], [], ⟨⟨_, _, _, _, rfl, rfl, agg26, rfl⟩, trivial⟩, rfl, rfl, ⟨⟨rfl, rfl⟩, trivial⟩, rfl, rfl, ⟨((m.1, m.2.set (m.2.length - 1) (((m.2.getD (m.2.length - 1) default).1, (m.2.getD (m.2.length - 1) default).2.1.set 0 (ofV b (p + 1) ([-1, 5, 1, 0] : List Int)), (m.2.getD (m.2.length - 1) default).2.2) : Rl)), p + 2), ⟨by have hws := wRS_set (l := m.2) (k := m.2.length - 1) (r := (((m.2.getD (m.2.length - 1) default).1, (m.2.getD (m.2.length - 1) default).2.1.set 0 (ofV b (p + 1) ([-1, 5, 1, 0] : List Int)), (m.2.getD (m.2.length - 1) default).2.2) : Rl)) (by omega) (by simp only [wR, List.length_set]); unfold wM at *; dsimp only at hws ⊢; omega, by dsimp only; omega, by dsimp only; omega⟩, aggS2 (by rw [List.map_set]; congr 1; simp only [dR, List.map_set]; rfl), rfl, rfl⟩⟩
      ·
       have h9r := h9
       try simp only [nq, nr, nl] at h9
       refine a_skip ?_
       refine a_seq ?_
       refine a_freezeboxK 0 5 (by decide) ⟨⟨_, _, rfl⟩, trivial⟩ rfl rfl rfl rfl ?_
       try dsimp only [List.set]
       refine a_freezeboxG 1 5 (by decide) ⟨⟨_, _, rfl⟩, trivial⟩ rfl rfl rfl rfl rfl ?_
       try dsimp only [List.set]
       refine a_region (by kernel_rfl) ?_
       refine op_v' (j_loada_box (ys := [.sl _, .sl _]) agg26 rfl rfl rfl (Nat.le_of_ble_eq_true rfl)) ?_
       refine op_s' (j_storea_box0 agg26 rfl rfl rfl rfl rfl rfl) ?_
       refine op_nil ?_
       refine a_ret ?_
       exact ⟨[.agg [.sl _, .sl _]], .agg [.sl _, .sl _], [.box 114 [.sl _, .p _]], [], [], ⟨⟨_, _, _, _, rfl, rfl, agg26, rfl⟩, trivial⟩, rfl, rfl, ⟨⟨rfl, rfl⟩, trivial⟩, rfl, rfl, ⟨(m, p + 1), ⟨by dsimp only; omega, by dsimp only; omega, by dsimp only; omega⟩, rfl, rfl, rfl⟩⟩
     ·
      have h8r := h8
      try simp only [nq, nr, nl] at h8
      refine op_v' (j_unwantV rfl rfl h8r) ?_
      refine op_v' (j_unwantV rfl rfl h8r) ?_
      refine op_v' (j_unwantV rfl rfl h8r) ?_
      refine op_v' (j_unwantV rfl rfl h8r) ?_
      refine op_v' (j_unwantV rfl rfl h8r) ?_
      refine op_v' (j_unwantV rfl rfl h8r) ?_
      refine op_v' (j_unwantV rfl rfl h8r) ?_
      refine op_v' (j_unwantV rfl rfl h8r) ?_
      refine op_v' (j_unwantV rfl rfl h8r) ?_
      refine op_v' (j_pick_f rfl h8r (evo rfl)) ?_
      refine op_nil ?_
      refine a_ff rfl ?_
      refine a_skip ?_
      refine a_seq ?_
      refine a_freezeboxK 0 5 (by decide) ⟨⟨_, _, rfl⟩, trivial⟩ rfl rfl rfl rfl ?_
      try dsimp only [List.set]
      refine a_freezeboxG 1 5 (by decide) ⟨⟨_, _, rfl⟩, trivial⟩ rfl rfl rfl rfl rfl ?_
      try dsimp only [List.set]
      refine a_region (by kernel_rfl) ?_
      refine op_v' (j_loada_box (ys := [.sl _, .sl _]) agg26 rfl rfl rfl (Nat.le_of_ble_eq_true rfl)) ?_
      refine op_s' (j_storea_box0 agg26 rfl rfl rfl rfl rfl rfl) ?_
      refine op_nil ?_
      refine a_ret ?_
      exact ⟨[.agg [.sl _, .sl _]], .agg [.sl _, .sl _], [.box 114 [.sl _, .p _]], [], [], ⟨⟨_, _, _, _, rfl, rfl, agg26, rfl⟩, trivial⟩, rfl, rfl, ⟨⟨rfl, rfl⟩, trivial⟩, rfl, rfl, ⟨(m, p + 1), ⟨by dsimp only; omega, by dsimp only; omega, by dsimp only; omega⟩, rfl, rfl, rfl⟩⟩
    ·
     have h7r := h7
     try simp only [nq, nr, nl] at h7
     refine a_seq ?_
     refine a_region (by kernel_rfl) ?_
     refine op_v' (j_eq rfl rfl) ?_
     refine op_v' (j_assign (evo rfl)) ?_
     refine op_nil ?_
     refine a_cond rfl (fun h10 => ?_) (fun h10 => ?_)
     ·
      have h10r := h10
      try simp only [nq, nr, nl] at h10
      refine a_seq ?_
      refine a_region (by kernel_rfl) ?_
      refine op_v' (j_move (evo rfl)) ?_
      refine op_v' (j_gt rfl rfl) ?_
      refine op_nil ?_
      refine a_cond rfl (fun h11 => ?_) (fun h11 => ?_)
      ·
       have h11r := h11
       try simp only [nq, nr, nl] at h11
       refine a_draw mixed (by kernel_rfl) (by kernel_rfl) fun vf => ?_
       refine d_v' (j_fldp fld26f1 rfl rfl) ?_
       refine d_v' (j_load_box leaf24 rfl rfl rfl) ?_
       refine d_v' (j_move (evo rfl)) ?_
       refine d_n' (fun ver => j_buildSlice (parts := [(0, .const (.int .i64 1001)), (1, .const (.int .i64 (-1001))), (2, .const (.int .i64 1000))]) (es := [[_], [_], [_]]) slt23 elt3 rfl rfl (by decide) (by decide) rfl rfl (by simp) rfl) ?_
       refine d_v0' (j_call0 (v := .p _) (hp1 := [(0, some (0, .box 114 [.sl _, .p _])), (81, some ((vf 81), .row 3 1 _))]) [(0, 0), (81, (vf 81))] false [0, 81] ent77 (f_num b (p + 1) [1001, -1001, 1000] hb (by omega) (by decide) (by decide)) ⟨.inl ⟨rfl, rfl⟩, .inl ⟨rfl, rfl⟩, trivial⟩ ⟨⟨rfl, rfl⟩, ⟨rfl, rfl⟩, trivial⟩ rfl rfl (fun h => by cases h) rfl (List.all_eq_true.1 rfl) (.inl rfl) rfl rfl) ?_
       refine d_v' (j_elem_deepN slt24 rfl rfl rfl rfl rfl (by first | omega | (simp only [nr, nl]; omega))) ?_
       refine d_v' (j_fldpel fld43f3 rfl rfl) ?_
       refine d_s' (j_store_deep leaf3 rfl rfl rfl (at_map (by first | omega | (simp only [nr, nl]; omega))) (Nat.le_of_ble_eq_true rfl) (evo rfl) rfl rfl) ?_
       refine d_nil (by kernel_rfl) (by kernel_rfl) ?_
       refine a_seq ?_
       refine a_freezeboxK 0 5 (by decide) ⟨⟨_, _, rfl⟩, trivial⟩ rfl rfl rfl rfl ?_
       try dsimp only [List.set]
       refine a_freezeboxG 1 5 (by decide) ⟨⟨_, _, rfl⟩, trivial⟩ rfl rfl rfl rfl rfl ?_
       try dsimp only [List.set]
       refine a_region (by kernel_rfl) ?_
       refine op_v' (j_loada_box (ys := [.sl _, .sl _]) agg26 rfl rfl rfl (Nat.le_of_ble_eq_true rfl)) ?_
       refine op_s' (j_storea_box0 agg26 rfl rfl rfl rfl rfl rfl) ?_
       refine op_nil ?_
       refine a_ret ?_
       exact ⟨[.agg [.sl _, .sl _]], .agg [.sl _, .sl _], [.box 114 [.sl _, .p _]], [], [], ⟨⟨_, _, _, _, rfl, rfl, agg26, rfl⟩, trivial⟩, rfl, rfl, ⟨⟨rfl, rfl⟩, trivial⟩, rfl, rfl, ⟨((m.1, m.2.set 0 (((m.2.getD 0 default).1, (m.2.getD 0 default).2.1, (m.2.getD 0 default).2.2.1, ofV b (p + 1) ([1001, -1001, 1000] : List Int), (m.2.getD 0 default).2.2.2.2) : Rl)), p + 2), ⟨by have hws := wRS_set (l := m.2) (k := 0) (r := (((m.2.getD 0 default).1, (m.2.getD 0 default).2.1, (m.2.getD 0 default).2.2.1, ofV b (p + 1) ([1001, -1001, 1000] : List Int), (m.2.getD 0 default).2.2.2.2) : Rl)) (by omega) (rfl); unfold wM at *; dsimp only at hws ⊢; omega, by dsimp only; omega, by dsimp only; omega⟩, aggS2 (by rw [List.map_set]; rfl), rfl, rfl⟩⟩
      ·
       have h11r := h11
       try simp only [nq, nr, nl] at h11
       refine a_skip ?_
       refine a_seq ?_
       refine a_freezeboxK 0 5 (by decide) ⟨⟨_, _, rfl⟩, trivial⟩ rfl rfl rfl rfl ?_
       try dsimp only [List.set]
       refine a_freezeboxG 1 5 (by decide) ⟨⟨_, _, rfl⟩, trivial⟩ rfl rfl rfl rfl rfl ?_
       try dsimp only [List.set]
       refine a_region (by kernel_rfl) ?_
       refine op_v' (j_loada_box (ys := [.sl _, .sl _]) agg26 rfl rfl rfl (Nat.le_of_ble_eq_true rfl)) ?_
       refine op_s' (j_storea_box0 agg26 rfl rfl rfl rfl rfl rfl) ?_
       refine op_nil ?_
       refine a_ret ?_
       exact ⟨[.agg [.sl _, .sl _]], .agg [.sl _, .sl _], [.box 114 [.sl _, .p _]], [], [], ⟨⟨_, _, _, _, rfl, rfl, agg26, rfl⟩, trivial⟩, rfl, rfl, ⟨⟨rfl, rfl⟩, trivial⟩, rfl, rfl, ⟨(m, p + 1), ⟨by dsimp only; omega, by dsimp only; omega, by dsimp only; omega⟩, rfl, rfl, rfl⟩⟩
     ·
      have h10r := h10
      try simp only [nq, nr, nl] at h10
      refine a_seq ?_
      refine a_region (by kernel_rfl) ?_
      refine op_v' (j_eq rfl rfl) ?_
      refine op_v' (j_assign (evo rfl)) ?_
      refine op_nil ?_
      refine a_cond rfl (fun h12 => ?_) (fun h12 => ?_)
      ·
       have h12r := h12
       try simp only [nq, nr, nl] at h12
       refine a_seq ?_
       refine a_region (by kernel_rfl) ?_
       refine op_v' (j_build (parts := []) str26 elt26 rfl rfl) ?_
       refine op_s' (j_storea_box0 agg26 rfl rfl rfl rfl rfl rfl) ?_
       refine op_nil ?_
       refine a_adopt_box' 0 1003 3 1 (by decide) (id := 4) rfl rfl fun v1003x8 => ?_
       refine a_adopt_box' 1 1004 43 5 (by decide) (id := 4) rfl rfl fun v1004x9 => ?_
       refine a_freezeboxK 0 4 (by decide) ⟨⟨_, _, rfl⟩, trivial⟩ rfl rfl rfl rfl ?_
       try dsimp only [List.set]
       refine a_freezeboxK 1 4 (by decide) ⟨⟨_, _, rfl⟩, trivial⟩ rfl rfl rfl rfl ?_
       try dsimp only [List.set]
       refine a_ret ?_
       exact ⟨[.agg [.sl _, .sl _]], .agg [.sl _, .sl _], [.box 114 [.sl _, .p _]], [], [], ⟨⟨_, _, _, _, rfl, rfl, agg26, rfl⟩, trivial⟩, rfl, rfl, ⟨⟨rfl, rfl⟩, trivial⟩, rfl, rfl, ⟨(([], []), p + 1), ⟨by simp [wM, wRS, sumW], by dsimp only; omega, by dsimp only; omega⟩, rfl, rfl, rfl⟩⟩
      ·
       have h12r := h12
       try simp only [nq, nr, nl] at h12
       refine a_skip ?_
       refine a_seq ?_
       refine a_freezeboxK 0 5 (by decide) ⟨⟨_, _, rfl⟩, trivial⟩ rfl rfl rfl rfl ?_
       try dsimp only [List.set]
       refine a_freezeboxG 1 5 (by decide) ⟨⟨_, _, rfl⟩, trivial⟩ rfl rfl rfl rfl rfl ?_
       try dsimp only [List.set]
       refine a_region (by kernel_rfl) ?_
       refine op_v' (j_loada_box (ys := [.sl _, .sl _]) agg26 rfl rfl rfl (Nat.le_of_ble_eq_true rfl)) ?_
       refine op_s' (j_storea_box0 agg26 rfl rfl rfl rfl rfl rfl) ?_
       refine op_nil ?_
       refine a_ret ?_
       exact ⟨[.agg [.sl _, .sl _]], .agg [.sl _, .sl _], [.box 114 [.sl _, .p _]], [], [], ⟨⟨_, _, _, _, rfl, rfl, agg26, rfl⟩, trivial⟩, rfl, rfl, ⟨⟨rfl, rfl⟩, trivial⟩, rfl, rfl, ⟨(m, p + 1), ⟨by dsimp only; omega, by dsimp only; omega, by dsimp only; omega⟩, rfl, rfl, rfl⟩⟩


end Go.Ab

/- Walks. -/
import Derived.Test.YtikknnpdiahnoaaBase
import Derived.Test.YtikknnpdiahnoaaMt
import Derived.Test.YtikknnpdiahnoaaWsmod
import Derived.Test.YtikknnpdiahnoaaVals
namespace Go.Ab
open Go.Proofs
set_option maxRecDepth 100000
set_option maxHeartbeats 8000000
set_option linter.unusedSimpArgs false
set_option linter.unusedVariables false
theorem f_l6Vars (m : Md) (vs : List Int) (hm : m.1.length ≤ 1000) : Fn Try.prog 137 [.agg [.sl (m.1.map dI), .sl (m.2.map dR)], .sl (vs.map dI)] [] (fun rr ii nn => rr = .p (.bool (vsN m.1.length vs vs.length && decide (vs.length ≠ 0))) ∧ ii = [] ∧ nn = []) := by
 refine fn_of Try.func137 rfl (Nat.le_of_ble_eq_true rfl) fun w X g => ?_
 show AWp _ _ _ ⟨[(0, .agg [.sl (m.1.map dI), .sl (m.2.map dR)]), (1, .sl (vs.map dI))], []⟩
 refine a_len_map 1 rfl fun hlv => ?_
 refine a_seq ?_
 refine a_region (by kernel_rfl) ?_
 refine op_n' (fun ver => j_boxa rfl) fun v2x1 => ?_
 refine op_v' (j_assign (evo rfl)) ?_
 refine op_nil ?_
 refine a_seq ?_
 refine a_seq ?_
 refine a_region (by kernel_rfl) ?_
 refine op_v' (j_assign (evo rfl)) ?_
 refine op_nil ?_
 refine a_block ?_
 refine a_loopF' (ι := Nat) (fun k => k ≤ vs.length ∧ vsN m.1.length vs k = true) (fun k r => (5, .p (.int .i64 ((k : Nat)))) :: r) (fun k r => r) (fun k => vs.length - k) (fun _ _ => rfl) (fun _ _ => rfl) 0 ⟨Nat.zero_le _, rfl⟩ ⟨⟨rfl, rfl⟩, ⟨rfl, trivial⟩, trivial, ⟨rfl, rfl⟩, ⟨rfl, rfl⟩⟩ ?_
 intro k hk
 refine a_seq ?_
 refine a_seq ?_
 refine a_region (by kernel_rfl) ?_
 refine op_v' (j_move (evo rfl)) ?_
 refine op_v' (j_move (evo rfl)) ?_
 refine op_v' (j_len_map Try.underlying23 rfl) ?_
 refine op_v' (j_lt rfl rfl) ?_
 refine op_nil ?_
 refine a_cond rfl (fun h1 => ?_) (fun h1 => ?_)
 ·
  have h1r := h1
  try simp only [nq, nr] at h1
  refine a_skip ?_
  refine a_seq ?_
  refine a_block ?_
  refine a_seq ?_
  refine a_seq ?_
  refine a_draw mixed (by kernel_rfl) (by kernel_rfl) fun vf => ?_
  refine d_v' (j_move (evo rfl)) ?_
  refine d_v' (j_move (evo rfl)) ?_
  refine d_v' (j_elemN slt23 rfl rfl rfl (at_map (by first | omega | (simp only [nr]; omega))) rfl) ?_
  refine d_v' (j_load_el leaf3 rfl (at_map (by first | omega | (simp only [nr]; omega))) rfl) ?_
  refine d_v' (j_lt rfl rfl) ?_
  refine d_v' (j_move (evo rfl)) ?_
  refine d_split' 18 rfl (fun h2 => ?_) (fun h2 => ?_)
  ·
   have h2r := h2
   try simp only [nq, nr] at h2
   refine d_v' (j_unwantV rfl rfl h2r) ?_
   refine d_v' (j_unwantV rfl rfl h2r) ?_
   refine d_v' (j_unwantV rfl rfl h2r) ?_
   refine d_v' (j_unwantV rfl rfl h2r) ?_
   refine d_v' (j_unwantV rfl rfl h2r) ?_
   refine d_v' (j_unwantV rfl rfl h2r) ?_
   refine d_v' (j_unwantV rfl rfl h2r) ?_
   refine d_v' (j_unwantV rfl rfl h2r) ?_
   refine d_v' (j_pick_t rfl h2r (evo rfl)) ?_
   refine d_nil (by kernel_rfl) (by kernel_rfl) ?_
   refine a_tt rfl ?_
   refine a_seq ?_
   refine a_region (by kernel_rfl) ?_
   refine op_v' (j_assign (evo rfl)) ?_
   refine op_nil ?_
   refine a_ret ?_
   exact ⟨[.p _], .p _, [], [], [], ⟨rfl, trivial⟩, rfl, rfl, trivial, rfl, rfl, ⟨boolEq (by rw [vsN_bad (k := k) (by omega) (.inl (by omega))]; rfl), rfl, rfl⟩⟩
  ·
   have h2r := h2
   try simp only [nq, nr] at h2
   refine d_v' (j_want rfl rfl h2r (j_move (evo rfl))) ?_
   refine d_v' (j_want rfl rfl h2r (j_move (evo rfl))) ?_
   refine d_v' (j_want rfl rfl h2r (j_elemN slt23 rfl rfl rfl (at_map (by first | omega | (simp only [nr]; omega))) rfl)) ?_
   refine d_v' (j_want rfl rfl h2r (j_load_el leaf3 rfl (at_map (by first | omega | (simp only [nr]; omega))) rfl)) ?_
   refine d_v' (j_want rfl rfl h2r (j_fldp fld26f0 rfl rfl)) ?_
   refine d_v' (j_want rfl rfl h2r (j_load_box leaf23 rfl rfl rfl)) ?_
   refine d_v' (j_want rfl rfl h2r (j_len_map Try.underlying23 rfl)) ?_
   refine d_v' (j_want rfl rfl h2r (j_ge rfl rfl)) ?_
   refine d_v' (j_pick_f rfl h2r (evo rfl)) ?_
   refine d_nil (by kernel_rfl) (by kernel_rfl) ?_
   refine a_cond rfl (fun h3 => ?_) (fun h3 => ?_)
   ·
    have h3r := h3
    try simp only [nq, nr] at h3
    refine a_seq ?_
    refine a_region (by kernel_rfl) ?_
    refine op_v' (j_assign (evo rfl)) ?_
    refine op_nil ?_
    refine a_ret ?_
    exact ⟨[.p _], .p _, [], [], [], ⟨rfl, trivial⟩, rfl, rfl, trivial, rfl, rfl, ⟨boolEq (by rw [vsN_bad (k := k) (by omega) (.inl (by omega))]; rfl), rfl, rfl⟩⟩
   ·
    have h3r := h3
    try simp only [nq, nr] at h3
    refine a_skip ?_
    refine a_seq ?_
    refine a_region (by kernel_rfl) ?_
    refine op_v' (j_assign (evo rfl)) ?_
    refine op_nil ?_
    refine a_block ?_
    refine a_loopF' (ι := Nat) (fun j => j ≤ k ∧ (vs.getD k default) ∉ vs.take j) (fun j r => (6, .p (.int .i64 ((j : Nat)))) :: r) (fun j r => r) (fun j => k - j) (fun _ _ => rfl) (fun _ _ => rfl) 0 ⟨Nat.zero_le _, by simp⟩ ⟨⟨rfl, rfl⟩, ⟨rfl, trivial⟩, trivial, ⟨rfl, rfl⟩, ⟨rfl, rfl⟩⟩ ?_
    intro j hj
    refine a_seq ?_
    refine a_seq ?_
    refine a_region (by kernel_rfl) ?_
    refine op_v' (j_move (evo rfl)) ?_
    refine op_v' (j_move (evo rfl)) ?_
    refine op_v' (j_lt rfl rfl) ?_
    refine op_nil ?_
    refine a_cond rfl (fun h4 => ?_) (fun h4 => ?_)
    ·
     have h4r := h4
     try simp only [nq, nr] at h4
     refine a_skip ?_
     refine a_seq ?_
     refine a_block ?_
     refine a_seq ?_
     refine a_draw mixed (by kernel_rfl) (by kernel_rfl) fun vf => ?_
     refine d_v' (j_move (evo rfl)) ?_
     refine d_v' (j_move (evo rfl)) ?_
     refine d_v' (j_elemN slt23 rfl rfl rfl (at_map (by first | omega | (simp only [nr]; omega))) rfl) ?_
     refine d_v' (j_load_el leaf3 rfl (at_map (by first | omega | (simp only [nr]; omega))) rfl) ?_
     refine d_v' (j_move (evo rfl)) ?_
     refine d_v' (j_move (evo rfl)) ?_
     refine d_v' (j_elemN slt23 rfl rfl rfl (at_map (by first | omega | (simp only [nr]; omega))) rfl) ?_
     refine d_v' (j_load_el leaf3 rfl (at_map (by first | omega | (simp only [nr]; omega))) rfl) ?_
     refine d_v' (j_eq rfl rfl) ?_
     refine d_nil (by kernel_rfl) (by kernel_rfl) ?_
     refine a_cond rfl (fun h5 => ?_) (fun h5 => ?_)
     ·
      have h5r := h5
      try simp only [nq, nr] at h5
      refine a_seq ?_
      refine a_region (by kernel_rfl) ?_
      refine op_v' (j_assign (evo rfl)) ?_
      refine op_nil ?_
      refine a_ret ?_
      exact ⟨[.p _], .p _, [], [], [], ⟨rfl, trivial⟩, rfl, rfl, trivial, rfl, rfl, ⟨boolEq (by rw [vsN_bad (k := k) (by omega) (.inr (by rw [← show vs.getD j default = vs.getD k default by assumption]; exact vs_in (by omega) (by omega)))]; rfl), rfl, rfl⟩⟩
     ·
      have h5r := h5
      try simp only [nq, nr] at h5
      refine a_skip ?_
      refine a_region (by kernel_rfl) ?_
      refine op_v' (j_move (evo rfl)) ?_
      refine op_v' (j_add rfl rfl (by first | omega | (simp only [nr]; omega)) (by first | omega | (simp only [nr]; omega))) ?_
      refine op_v' (j_assign (evo rfl)) ?_
      refine op_nil ?_
      exact ⟨j + 1, ⟨by omega, vs_no (k := k) hj.2 (by omega) (by assumption)⟩, ⟨⟨rfl, rfl⟩, ⟨rfl, trivial⟩, trivial, ⟨rfl, rfl⟩, ⟨rfl, rfl⟩⟩, (by first | omega | (simp only [nr]; omega))⟩
    ·
     have h4r := h4
     try simp only [nq, nr] at h4
     refine a_exit ?_
     refine a_region (by kernel_rfl) ?_
     refine op_v' (j_move (evo rfl)) ?_
     refine op_v' (j_add rfl rfl (by first | omega | (simp only [nr]; omega)) (by first | omega | (simp only [nr]; omega))) ?_
     refine op_v' (j_assign (evo rfl)) ?_
     refine op_nil ?_
     exact ⟨k + 1, ⟨by omega, vsN_next hk.2 (by omega) (by rw [← show j = k by omega]; rw [← show j = k by omega] at hj; exact hj.2)⟩, ⟨⟨rfl, rfl⟩, ⟨rfl, trivial⟩, trivial, ⟨rfl, rfl⟩, ⟨rfl, rfl⟩⟩, (by first | omega | (simp only [nr]; omega))⟩
 ·
  have h1r := h1
  try simp only [nq, nr] at h1
  refine a_exit ?_
  refine a_seq ?_
  have hv : vsN m.1.length vs vs.length = true := by rw [show vs.length = k by omega]; exact hk.2
  refine a_region (by kernel_rfl) ?_
  refine op_v' (j_move (evo rfl)) ?_
  refine op_v' (j_len_map Try.underlying23 rfl) ?_
  refine op_v' (j_ge rfl rfl) ?_
  refine op_v' (j_assign (evo rfl)) ?_
  refine op_nil ?_
  refine a_ret ?_
  exact ⟨[.p _], .p _, [], [], [], ⟨rfl, trivial⟩, rfl, rfl, trivial, rfl, rfl, ⟨boolEq (by rw [hv, Bool.true_and]; exact decide_eq_decide.2 (by omega)), rfl, rfl⟩⟩


theorem f_l6Lin (r : Rl) : Fn Try.prog 138 [.agg [.p (.int .i64 r.1), .sl (r.2.1.map dI), .sl (r.2.2.1.map dI), .p (.int .i64 r.2.2.2.1), .sl (r.2.2.2.2.map dL)]] [] (fun rr ii nn => rr = .p (.bool (linOk r)) ∧ ii = [] ∧ nn = []) := by
 refine fn_of Try.func138 rfl (Nat.le_of_ble_eq_true rfl) fun w X g => ?_
 show AWp _ _ _ ⟨[(0, .agg [.p (.int .i64 r.1), .sl (r.2.1.map dI), .sl (r.2.2.1.map dI), .p (.int .i64 r.2.2.2.1), .sl (r.2.2.2.2.map dL)])], []⟩
 refine a_len_rule2 0 rfl fun hlc => ?_
 refine a_seq ?_
 refine a_region (by kernel_rfl) ?_
 refine op_n' (fun ver => j_boxa rfl) fun v1x1 => ?_
 refine op_v' (j_assign (evo rfl)) ?_
 refine op_nil ?_
 refine a_seq ?_
 refine a_seq ?_
 refine a_region (by kernel_rfl) ?_
 refine op_v' (j_assign (evo rfl)) ?_
 refine op_nil ?_
 refine a_block ?_
 refine a_loopF' (ι := Nat) (fun k => k ≤ r.2.2.1.length ∧ (r.2.2.1.take k).all (fun a => decide (a ≠ 0 ∧ -9 ≤ a ∧ a ≤ 9)) = true) (fun k r => (3, .p (.int .i64 ((k : Nat)))) :: r) (fun k r => r) (fun k => r.2.2.1.length - k) (fun _ _ => rfl) (fun _ _ => rfl) 0 ⟨Nat.zero_le _, rfl⟩ ⟨⟨rfl, rfl⟩, ⟨rfl, trivial⟩, trivial, ⟨rfl, rfl⟩, ⟨rfl, rfl⟩⟩ ?_
 intro k hk
 refine a_seq ?_
 refine a_seq ?_
 refine a_region (by kernel_rfl) ?_
 refine op_v' (j_move (evo rfl)) ?_
 refine op_v' (j_fldp fld43f2 rfl rfl) ?_
 refine op_v' (j_load_box leaf23 rfl rfl rfl) ?_
 refine op_v' (j_len_map Try.underlying23 rfl) ?_
 refine op_v' (j_lt rfl rfl) ?_
 refine op_nil ?_
 refine a_cond rfl (fun h1 => ?_) (fun h1 => ?_)
 ·
  have h1r := h1
  try simp only [nq, nr] at h1
  refine a_skip ?_
  refine a_seq ?_
  refine a_block ?_
  refine a_seq ?_
  refine a_region (by kernel_rfl) ?_
  refine op_v' (j_fldp fld43f2 rfl rfl) ?_
  refine op_v' (j_load_box leaf23 rfl rfl rfl) ?_
  refine op_v' (j_move (evo rfl)) ?_
  refine op_v' (j_elemN slt23 rfl rfl rfl (at_map (by first | omega | (simp only [nr]; omega))) rfl) ?_
  refine op_v' (j_load_el leaf3 rfl (at_map (by first | omega | (simp only [nr]; omega))) rfl) ?_
  refine op_v' (j_lt rfl rfl) ?_
  refine op_v' (j_move (evo rfl)) ?_
  refine op_split' 17 rfl (fun h2 => ?_) (fun h2 => ?_)
  ·
   have h2r := h2
   try simp only [nq, nr] at h2
   refine op_v' (j_unwantV rfl rfl h2r) ?_
   refine op_v' (j_unwantV rfl rfl h2r) ?_
   refine op_v' (j_unwantV rfl rfl h2r) ?_
   refine op_v' (j_unwantV rfl rfl h2r) ?_
   refine op_v' (j_unwantV rfl rfl h2r) ?_
   refine op_v' (j_unwantV rfl rfl h2r) ?_
   refine op_v' (j_pick_t rfl h2r (evo rfl)) ?_
   refine op_v' (j_move (evo rfl)) ?_
   refine op_v' (j_unwantV rfl rfl rfl) ?_
   refine op_v' (j_unwantV rfl rfl rfl) ?_
   refine op_v' (j_unwantV rfl rfl rfl) ?_
   refine op_v' (j_unwantV rfl rfl rfl) ?_
   refine op_v' (j_unwantV rfl rfl rfl) ?_
   refine op_v' (j_unwantV rfl rfl rfl) ?_
   refine op_v' (j_pick_t rfl rfl (evo rfl)) ?_
   refine op_nil ?_
   refine a_tt rfl ?_
   refine a_seq ?_
   refine a_region (by kernel_rfl) ?_
   refine op_v' (j_assign (evo rfl)) ?_
   refine op_nil ?_
   refine a_ret ?_
   exact ⟨[.p _], .p _, [], [], [], ⟨rfl, trivial⟩, rfl, rfl, trivial, rfl, rfl, ⟨boolEq (by unfold linOk; rw [all_no (p := (fun a => decide (a ≠ 0 ∧ -9 ≤ a ∧ a ≤ 9))) (d := default) (k := k) (by omega) (decide_eq_false (by omega))]; simp), rfl, rfl⟩⟩
  ·
   have h2r := h2
   try simp only [nq, nr] at h2
   refine op_v' (j_want rfl rfl h2r (j_fldp fld43f2 rfl rfl)) ?_
   refine op_v' (j_want rfl rfl h2r (j_load_box leaf23 rfl rfl rfl)) ?_
   refine op_v' (j_want rfl rfl h2r (j_move (evo rfl))) ?_
   refine op_v' (j_want rfl rfl h2r (j_elemN slt23 rfl rfl rfl (at_map (by first | omega | (simp only [nr]; omega))) rfl)) ?_
   refine op_v' (j_want rfl rfl h2r (j_load_el leaf3 rfl (at_map (by first | omega | (simp only [nr]; omega))) rfl)) ?_
   refine op_v' (j_want rfl rfl h2r (j_gt rfl rfl)) ?_
   refine op_v' (j_pick_f rfl h2r (evo rfl)) ?_
   refine op_v' (j_move (evo rfl)) ?_
   refine op_split' 25 rfl (fun h3 => ?_) (fun h3 => ?_)
   ·
    have h3r := h3
    try simp only [nq, nr] at h3
    refine op_v' (j_unwantV rfl rfl h3r) ?_
    refine op_v' (j_unwantV rfl rfl h3r) ?_
    refine op_v' (j_unwantV rfl rfl h3r) ?_
    refine op_v' (j_unwantV rfl rfl h3r) ?_
    refine op_v' (j_unwantV rfl rfl h3r) ?_
    refine op_v' (j_unwantV rfl rfl h3r) ?_
    refine op_v' (j_pick_t rfl h3r (evo rfl)) ?_
    refine op_nil ?_
    refine a_tt rfl ?_
    refine a_seq ?_
    refine a_region (by kernel_rfl) ?_
    refine op_v' (j_assign (evo rfl)) ?_
    refine op_nil ?_
    refine a_ret ?_
    exact ⟨[.p _], .p _, [], [], [], ⟨rfl, trivial⟩, rfl, rfl, trivial, rfl, rfl, ⟨boolEq (by unfold linOk; rw [all_no (p := (fun a => decide (a ≠ 0 ∧ -9 ≤ a ∧ a ≤ 9))) (d := default) (k := k) (by omega) (decide_eq_false (by omega))]; simp), rfl, rfl⟩⟩
   ·
    have h3r := h3
    try simp only [nq, nr] at h3
    refine op_v' (j_want rfl rfl h3r (j_fldp fld43f2 rfl rfl)) ?_
    refine op_v' (j_want rfl rfl h3r (j_load_box leaf23 rfl rfl rfl)) ?_
    refine op_v' (j_want rfl rfl h3r (j_move (evo rfl))) ?_
    refine op_v' (j_want rfl rfl h3r (j_elemN slt23 rfl rfl rfl (at_map (by first | omega | (simp only [nr]; omega))) rfl)) ?_
    refine op_v' (j_want rfl rfl h3r (j_load_el leaf3 rfl (at_map (by first | omega | (simp only [nr]; omega))) rfl)) ?_
    refine op_v' (j_want rfl rfl h3r (j_eq rfl rfl)) ?_
    refine op_v' (j_pick_f rfl h3r (evo rfl)) ?_
    refine op_nil ?_
    refine a_cond rfl (fun h4 => ?_) (fun h4 => ?_)
    ·
     have h4r := h4
     try simp only [nq, nr] at h4
     refine a_seq ?_
     refine a_region (by kernel_rfl) ?_
     refine op_v' (j_assign (evo rfl)) ?_
     refine op_nil ?_
     refine a_ret ?_
     exact ⟨[.p _], .p _, [], [], [], ⟨rfl, trivial⟩, rfl, rfl, trivial, rfl, rfl, ⟨boolEq (by unfold linOk; rw [all_no (p := (fun a => decide (a ≠ 0 ∧ -9 ≤ a ∧ a ≤ 9))) (d := default) (k := k) (by omega) (decide_eq_false (by omega))]; simp), rfl, rfl⟩⟩
    ·
     have h4r := h4
     try simp only [nq, nr] at h4
     refine a_skip ?_
     refine a_region (by kernel_rfl) ?_
     refine op_v' (j_move (evo rfl)) ?_
     refine op_v' (j_add rfl rfl (by first | omega | (simp only [nr]; omega)) (by first | omega | (simp only [nr]; omega))) ?_
     refine op_v' (j_assign (evo rfl)) ?_
     refine op_nil ?_
     exact ⟨k + 1, ⟨by omega, all_next (d := default) hk.2 (by omega) (decide_eq_true (by omega))⟩, ⟨⟨rfl, rfl⟩, ⟨rfl, trivial⟩, trivial, ⟨rfl, rfl⟩, ⟨rfl, rfl⟩⟩, (by first | omega | (simp only [nr]; omega))⟩
 ·
  have h1r := h1
  try simp only [nq, nr] at h1
  refine a_exit ?_
  refine a_seq ?_
  have hal := all_full hk.2 (by omega)
  refine a_region (by kernel_rfl) ?_
  refine op_v' (j_fldp fld43f2 rfl rfl) ?_
  refine op_v' (j_load_box leaf23 rfl rfl rfl) ?_
  refine op_v' (j_len_map Try.underlying23 rfl) ?_
  refine op_v' (j_fldp fld43f1 rfl rfl) ?_
  refine op_v' (j_load_box leaf23 rfl rfl rfl) ?_
  refine op_v' (j_len_map Try.underlying23 rfl) ?_
  refine op_v' (j_eq rfl rfl) ?_
  refine op_v' (j_move (evo rfl)) ?_
  refine op_split' 40 rfl (fun h5 => ?_) (fun h5 => ?_)
  ·
   have h5r := h5
   try simp only [nq, nr] at h5
   refine op_v' (j_want rfl rfl h5r (j_fldp fld43f3 rfl rfl)) ?_
   refine op_v' (j_want rfl rfl h5r (j_load_box leaf3 rfl rfl rfl)) ?_
   refine op_v' (j_want rfl rfl h5r (j_ge rfl rfl)) ?_
   refine op_v' (j_pick_t rfl h5r (evo rfl)) ?_
   refine op_v' (j_move (evo rfl)) ?_
   refine op_split' 45 rfl (fun h6 => ?_) (fun h6 => ?_)
   ·
    have h6r := h6
    try simp only [nq, nr] at h6
    refine op_v' (j_want rfl rfl h6r (j_fldp fld43f3 rfl rfl)) ?_
    refine op_v' (j_want rfl rfl h6r (j_load_box leaf3 rfl rfl rfl)) ?_
    refine op_v' (j_want rfl rfl h6r (j_le rfl rfl)) ?_
    refine op_v' (j_pick_t rfl h6r (evo rfl)) ?_
    refine op_v' (j_assign (evo rfl)) ?_
    refine op_nil ?_
    refine a_ret ?_
    exact ⟨[.p _], .p _, [], [], [], ⟨rfl, trivial⟩, rfl, rfl, trivial, rfl, rfl, ⟨boolEq (by unfold linOk; first | (rw [decide_eq_true (show r.2.2.1.length = r.2.1.length by omega), decide_eq_true (show -1000 ≤ r.2.2.2.1 ∧ r.2.2.2.1 ≤ 1000 by omega), hal]; rfl) | (rw [decide_eq_false (show ¬ (-1000 ≤ r.2.2.2.1 ∧ r.2.2.2.1 ≤ 1000) by omega)]; simp; done) | (rw [decide_eq_false (show ¬ r.2.2.1.length = r.2.1.length by omega)]; rfl) | (rw [decide_eq_true (show r.2.2.1.length = r.2.1.length by omega), hal, Bool.true_and, Bool.and_true]; exact decide_eq_decide.2 (by omega))), rfl, rfl⟩⟩
   ·
    have h6r := h6
    try simp only [nq, nr] at h6
    refine op_v' (j_unwantV rfl rfl h6r) ?_
    refine op_v' (j_unwantV rfl rfl h6r) ?_
    refine op_v' (j_unwantV rfl rfl h6r) ?_
    refine op_v' (j_pick_f rfl h6r (evo rfl)) ?_
    refine op_v' (j_assign (evo rfl)) ?_
    refine op_nil ?_
    refine a_ret ?_
    exact ⟨[.p _], .p _, [], [], [], ⟨rfl, trivial⟩, rfl, rfl, trivial, rfl, rfl, ⟨boolEq (by unfold linOk; first | (rw [decide_eq_true (show r.2.2.1.length = r.2.1.length by omega), decide_eq_true (show -1000 ≤ r.2.2.2.1 ∧ r.2.2.2.1 ≤ 1000 by omega), hal]; rfl) | (rw [decide_eq_false (show ¬ (-1000 ≤ r.2.2.2.1 ∧ r.2.2.2.1 ≤ 1000) by omega)]; simp; done) | (rw [decide_eq_false (show ¬ r.2.2.1.length = r.2.1.length by omega)]; rfl) | (rw [decide_eq_true (show r.2.2.1.length = r.2.1.length by omega), hal, Bool.true_and, Bool.and_true]; exact decide_eq_decide.2 (by omega))), rfl, rfl⟩⟩
  ·
   have h5r := h5
   try simp only [nq, nr] at h5
   refine op_v' (j_unwantV rfl rfl h5r) ?_
   refine op_v' (j_unwantV rfl rfl h5r) ?_
   refine op_v' (j_unwantV rfl rfl h5r) ?_
   refine op_v' (j_pick_f rfl h5r (evo rfl)) ?_
   refine op_v' (j_move (evo rfl)) ?_
   refine op_v' (j_unwantV rfl rfl rfl) ?_
   refine op_v' (j_unwantV rfl rfl rfl) ?_
   refine op_v' (j_unwantV rfl rfl rfl) ?_
   refine op_v' (j_pick_f rfl rfl (evo rfl)) ?_
   refine op_v' (j_assign (evo rfl)) ?_
   refine op_nil ?_
   refine a_ret ?_
   exact ⟨[.p _], .p _, [], [], [], ⟨rfl, trivial⟩, rfl, rfl, trivial, rfl, rfl, ⟨boolEq (by unfold linOk; first | (rw [decide_eq_true (show r.2.2.1.length = r.2.1.length by omega), decide_eq_true (show -1000 ≤ r.2.2.2.1 ∧ r.2.2.2.1 ≤ 1000 by omega), hal]; rfl) | (rw [decide_eq_false (show ¬ (-1000 ≤ r.2.2.2.1 ∧ r.2.2.2.1 ≤ 1000) by omega)]; simp; done) | (rw [decide_eq_false (show ¬ r.2.2.1.length = r.2.1.length by omega)]; rfl) | (rw [decide_eq_true (show r.2.2.1.length = r.2.1.length by omega), hal, Bool.true_and, Bool.and_true]; exact decide_eq_decide.2 (by omega))), rfl, rfl⟩⟩


theorem f_l6Tab (r : Rl) : Fn Try.prog 139 [.agg [.p (.int .i64 r.1), .sl (r.2.1.map dI), .sl (r.2.2.1.map dI), .p (.int .i64 r.2.2.2.1), .sl (r.2.2.2.2.map dL)]] [] (fun rr ii nn => rr = .p (.bool (tabOk r)) ∧ ii = [] ∧ nn = []) := by
 refine fn_of Try.func139 rfl (Nat.le_of_ble_eq_true rfl) fun w X g => ?_
 show AWp _ _ _ ⟨[(0, .agg [.p (.int .i64 r.1), .sl (r.2.1.map dI), .sl (r.2.2.1.map dI), .p (.int .i64 r.2.2.2.1), .sl (r.2.2.2.2.map dL)])], []⟩
 refine a_len_rule3 0 rfl fun hlr => ?_
 refine a_len_rule 0 rfl fun hlv => ?_
 refine a_seq ?_
 refine a_region (by kernel_rfl) ?_
 refine op_n' (fun ver => j_boxa rfl) fun v1x1 => ?_
 refine op_v' (j_assign (evo rfl)) ?_
 refine op_nil ?_
 refine a_seq ?_
 refine a_seq ?_
 refine a_region (by kernel_rfl) ?_
 refine op_v' (j_assign (evo rfl)) ?_
 refine op_nil ?_
 refine a_block ?_
 refine a_loopF' (ι := Nat) (fun k => k ≤ r.2.2.2.2.length ∧ (r.2.2.2.2.take k).all (rowOk r) = true) (fun k r => (3, .p (.int .i64 ((k : Nat)))) :: r) (fun k r => r) (fun k => r.2.2.2.2.length - k) (fun _ _ => rfl) (fun _ _ => rfl) 0 ⟨Nat.zero_le _, rfl⟩ ⟨⟨rfl, rfl⟩, ⟨rfl, trivial⟩, trivial, ⟨rfl, rfl⟩, ⟨rfl, rfl⟩⟩ ?_
 intro k hk
 refine a_seq ?_
 refine a_seq ?_
 refine a_region (by kernel_rfl) ?_
 refine op_v' (j_move (evo rfl)) ?_
 refine op_v' (j_fldp fld43f4 rfl rfl) ?_
 refine op_v' (j_load_box leaf41 rfl rfl rfl) ?_
 refine op_v' (j_len_map Try.underlying41 rfl) ?_
 refine op_v' (j_lt rfl rfl) ?_
 refine op_nil ?_
 refine a_cond rfl (fun h1 => ?_) (fun h1 => ?_)
 ·
  have h1r := h1
  try simp only [nq, nr] at h1
  refine a_skip ?_
  refine a_seq ?_
  refine a_block ?_
  refine a_seq ?_
  refine a_seq ?_
  have hlx : (r.2.2.2.2.getD k default).length ≤ 9223372036854775807 ∨ True := .inr trivial
  refine a_draw mixed (by kernel_rfl) (by kernel_rfl) fun vf => ?_
  refine d_v' (j_fldp fld43f4 rfl rfl) ?_
  refine d_v' (j_load_box leaf41 rfl rfl rfl) ?_
  refine d_v' (j_move (evo rfl)) ?_
  refine d_v' (j_elemN slt41 rfl rfl rfl (at_map (by first | omega | (simp only [nr]; omega))) rfl) ?_
  refine d_v' (j_load_el leaf23 rfl (at_map (by first | omega | (simp only [nr]; omega))) rfl) ?_
  refine d_v' (j_len_map Try.underlying23 rfl) ?_
  refine d_v' (j_fldp fld43f1 rfl rfl) ?_
  refine d_v' (j_load_box leaf23 rfl rfl rfl) ?_
  refine d_v' (j_len_map Try.underlying23 rfl) ?_
  refine d_v' (j_ne rfl rfl) ?_
  refine d_nil (by kernel_rfl) (by kernel_rfl) ?_
  refine a_cond rfl (fun h2 => ?_) (fun h2 => ?_)
  ·
   have h2r := h2
   try simp only [nq, nr] at h2
   refine a_seq ?_
   refine a_region (by kernel_rfl) ?_
   refine op_v' (j_assign (evo rfl)) ?_
   refine op_nil ?_
   refine a_ret ?_
   exact ⟨[.p _], .p _, [], [], [], ⟨rfl, trivial⟩, rfl, rfl, trivial, rfl, rfl, ⟨boolEq (by unfold tabOk; rw [all_no (p := rowOk r) (d := default) (k := k) (by omega) (by unfold rowOk; rw [decide_eq_false (by omega)]; rfl)]; simp), rfl, rfl⟩⟩
  ·
   have h2r := h2
   try simp only [nq, nr] at h2
   refine a_skip ?_
   refine a_seq ?_
   refine a_region (by kernel_rfl) ?_
   refine op_v' (j_assign (evo rfl)) ?_
   refine op_nil ?_
   refine a_block ?_
   refine a_loopF' (ι := Nat) (fun j => j ≤ (r.2.2.2.2.getD k default).length ∧ ((r.2.2.2.2.getD k default).take j).all (fun a => decide (0 ≤ a ∧ a ≤ 3)) = true) (fun j r => (4, .p (.int .i64 ((j : Nat)))) :: r) (fun j r => r) (fun j => (r.2.2.2.2.getD k default).length - j) (fun _ _ => rfl) (fun _ _ => rfl) 0 ⟨Nat.zero_le _, rfl⟩ ⟨⟨rfl, rfl⟩, ⟨rfl, trivial⟩, trivial, ⟨rfl, rfl⟩, ⟨rfl, rfl⟩⟩ ?_
   intro j hj
   refine a_seq ?_
   refine a_seq ?_
   refine a_region (by kernel_rfl) ?_
   refine op_v' (j_move (evo rfl)) ?_
   refine op_v' (j_fldp fld43f4 rfl rfl) ?_
   refine op_v' (j_load_box leaf41 rfl rfl rfl) ?_
   refine op_v' (j_move (evo rfl)) ?_
   refine op_v' (j_elemN slt41 rfl rfl rfl (at_map (by first | omega | (simp only [nr]; omega))) rfl) ?_
   refine op_v' (j_load_el leaf23 rfl (at_map (by first | omega | (simp only [nr]; omega))) rfl) ?_
   refine op_v' (j_len_map Try.underlying23 rfl) ?_
   refine op_v' (j_lt rfl rfl) ?_
   refine op_nil ?_
   refine a_cond rfl (fun h3 => ?_) (fun h3 => ?_)
   ·
    have h3r := h3
    try simp only [nq, nr] at h3
    refine a_skip ?_
    refine a_seq ?_
    refine a_block ?_
    refine a_seq ?_
    refine a_region (by kernel_rfl) ?_
    refine op_v' (j_fldp fld43f4 rfl rfl) ?_
    refine op_v' (j_load_box leaf41 rfl rfl rfl) ?_
    refine op_v' (j_move (evo rfl)) ?_
    refine op_v' (j_elemN slt41 rfl rfl rfl (at_map (by first | omega | (simp only [nr]; omega))) rfl) ?_
    refine op_v' (j_load_el leaf23 rfl (at_map (by first | omega | (simp only [nr]; omega))) rfl) ?_
    refine op_v' (j_move (evo rfl)) ?_
    refine op_v' (j_elemN slt23 rfl rfl rfl (at_map (by first | omega | (simp only [nr]; omega))) rfl) ?_
    refine op_v' (j_load_el leaf3 rfl (at_map (by first | omega | (simp only [nr]; omega))) rfl) ?_
    refine op_v' (j_lt rfl rfl) ?_
    refine op_v' (j_move (evo rfl)) ?_
    refine op_split' 41 rfl (fun h4 => ?_) (fun h4 => ?_)
    ·
     have h4r := h4
     try simp only [nq, nr] at h4
     refine op_v' (j_unwantV rfl rfl h4r) ?_
     refine op_v' (j_unwantV rfl rfl h4r) ?_
     refine op_v' (j_unwantV rfl rfl h4r) ?_
     refine op_v' (j_unwantV rfl rfl h4r) ?_
     refine op_v' (j_unwantV rfl rfl h4r) ?_
     refine op_v' (j_unwantV rfl rfl h4r) ?_
     refine op_v' (j_unwantV rfl rfl h4r) ?_
     refine op_v' (j_unwantV rfl rfl h4r) ?_
     refine op_v' (j_unwantV rfl rfl h4r) ?_
     refine op_v' (j_pick_t rfl h4r (evo rfl)) ?_
     refine op_nil ?_
     refine a_tt rfl ?_
     refine a_seq ?_
     refine a_region (by kernel_rfl) ?_
     refine op_v' (j_assign (evo rfl)) ?_
     refine op_nil ?_
     refine a_ret ?_
     exact ⟨[.p _], .p _, [], [], [], ⟨rfl, trivial⟩, rfl, rfl, trivial, rfl, rfl, ⟨boolEq (by unfold tabOk; rw [all_no (p := rowOk r) (d := default) (k := k) (by omega) (by unfold rowOk; rw [all_no (p := fun a => decide (0 ≤ a ∧ a ≤ 3)) (d := default) (k := j) (by omega) (decide_eq_false (by omega)), Bool.and_false])]; simp), rfl, rfl⟩⟩
    ·
     have h4r := h4
     try simp only [nq, nr] at h4
     refine op_v' (j_want rfl rfl h4r (j_fldp fld43f4 rfl rfl)) ?_
     refine op_v' (j_want rfl rfl h4r (j_load_box leaf41 rfl rfl rfl)) ?_
     refine op_v' (j_want rfl rfl h4r (j_move (evo rfl))) ?_
     refine op_v' (j_want rfl rfl h4r (j_elemN slt41 rfl rfl rfl (at_map (by first | omega | (simp only [nr]; omega))) rfl)) ?_
     refine op_v' (j_want rfl rfl h4r (j_load_el leaf23 rfl (at_map (by first | omega | (simp only [nr]; omega))) rfl)) ?_
     refine op_v' (j_want rfl rfl h4r (j_move (evo rfl))) ?_
     refine op_v' (j_want rfl rfl h4r (j_elemN slt23 rfl rfl rfl (at_map (by first | omega | (simp only [nr]; omega))) rfl)) ?_
     refine op_v' (j_want rfl rfl h4r (j_load_el leaf3 rfl (at_map (by first | omega | (simp only [nr]; omega))) rfl)) ?_
     refine op_v' (j_want rfl rfl h4r (j_gt rfl rfl)) ?_
     refine op_v' (j_pick_f rfl h4r (evo rfl)) ?_
     refine op_nil ?_
     refine a_cond rfl (fun h5 => ?_) (fun h5 => ?_)
     ·
      have h5r := h5
      try simp only [nq, nr] at h5
      refine a_seq ?_
      refine a_region (by kernel_rfl) ?_
      refine op_v' (j_assign (evo rfl)) ?_
      refine op_nil ?_
      refine a_ret ?_
      exact ⟨[.p _], .p _, [], [], [], ⟨rfl, trivial⟩, rfl, rfl, trivial, rfl, rfl, ⟨boolEq (by unfold tabOk; rw [all_no (p := rowOk r) (d := default) (k := k) (by omega) (by unfold rowOk; rw [all_no (p := fun a => decide (0 ≤ a ∧ a ≤ 3)) (d := default) (k := j) (by omega) (decide_eq_false (by omega)), Bool.and_false])]; simp), rfl, rfl⟩⟩
     ·
      have h5r := h5
      try simp only [nq, nr] at h5
      refine a_skip ?_
      refine a_region (by kernel_rfl) ?_
      refine op_v' (j_move (evo rfl)) ?_
      refine op_v' (j_add rfl rfl (by first | omega | (simp only [nr]; omega)) (by first | omega | (simp only [nr]; omega))) ?_
      refine op_v' (j_assign (evo rfl)) ?_
      refine op_nil ?_
      exact ⟨j + 1, ⟨by omega, all_next (d := default) hj.2 (by omega) (decide_eq_true (by omega))⟩, ⟨⟨rfl, rfl⟩, ⟨rfl, trivial⟩, trivial, ⟨rfl, rfl⟩, ⟨rfl, rfl⟩⟩, (by first | omega | (simp only [nr]; omega))⟩
   ·
    have h3r := h3
    try simp only [nq, nr] at h3
    refine a_exit ?_
    refine a_region (by kernel_rfl) ?_
    refine op_v' (j_move (evo rfl)) ?_
    refine op_v' (j_add rfl rfl (by first | omega | (simp only [nr]; omega)) (by first | omega | (simp only [nr]; omega))) ?_
    refine op_v' (j_assign (evo rfl)) ?_
    refine op_nil ?_
    exact ⟨k + 1, ⟨by omega, all_next (d := default) hk.2 (by omega) (by unfold rowOk; rw [decide_eq_true (by omega), Bool.true_and]; exact all_full hj.2 (by omega))⟩, ⟨⟨rfl, rfl⟩, ⟨rfl, trivial⟩, trivial, ⟨rfl, rfl⟩, ⟨rfl, rfl⟩⟩, (by first | omega | (simp only [nr]; omega))⟩
 ·
  have h1r := h1
  try simp only [nq, nr] at h1
  refine a_exit ?_
  refine a_seq ?_
  have hal := all_full hk.2 (by omega)
  refine a_region (by kernel_rfl) ?_
  refine op_v' (j_fldp fld43f4 rfl rfl) ?_
  refine op_v' (j_load_box leaf41 rfl rfl rfl) ?_
  refine op_v' (j_len_map Try.underlying41 rfl) ?_
  refine op_v' (j_le rfl rfl) ?_
  refine op_v' (j_assign (evo rfl)) ?_
  refine op_nil ?_
  refine a_ret ?_
  exact ⟨[.p _], .p _, [], [], [], ⟨rfl, trivial⟩, rfl, rfl, trivial, rfl, rfl, ⟨boolEq (by unfold tabOk; rw [hal, Bool.and_true]; exact decide_eq_decide.2 (by omega)), rfl, rfl⟩⟩


theorem f_l6Rule (m : Md) (r : Rl) (hm : m.1.length ≤ 1000) : Fn Try.prog 113 [.agg [.sl (m.1.map dI), .sl (m.2.map dR)], .agg [.p (.int .i64 r.1), .sl (r.2.1.map dI), .sl (r.2.2.1.map dI), .p (.int .i64 r.2.2.2.1), .sl (r.2.2.2.2.map dL)]] [] (fun rr ii nn => rr = .p (.bool (rOk m.1.length r)) ∧ ii = [] ∧ nn = []) := by
 refine fn_of Try.func113 rfl (Nat.le_of_ble_eq_true rfl) fun w X g => ?_
 show AWp _ _ _ ⟨[(0, .agg [.sl (m.1.map dI), .sl (m.2.map dR)]), (1, .agg [.p (.int .i64 r.1), .sl (r.2.1.map dI), .sl (r.2.2.1.map dI), .p (.int .i64 r.2.2.2.1), .sl (r.2.2.2.2.map dL)])], []⟩
 refine a_seq ?_
 refine a_region (by kernel_rfl) ?_
 refine op_n' (fun ver => j_boxa rfl) fun v2x1 => ?_
 refine op_n' (fun ver => j_boxa rfl) fun v3x2 => ?_
 refine op_v' (j_assign (evo rfl)) ?_
 refine op_nil ?_
 refine a_seq ?_
 refine a_seq ?_
 refine a_region (by kernel_rfl) ?_
 refine op_v' (j_loada_box (ys := [.sl _, .sl _]) agg26 rfl rfl rfl (Nat.le_of_ble_eq_true rfl)) ?_
 refine op_v' (j_fldp fld43f1 rfl rfl) ?_
 refine op_v' (j_load_box leaf23 rfl rfl rfl) ?_
 refine op_v0' (j_call0 (v := .p _) (hp1 := []) [] false [] ent137 (f_l6Vars m r.2.1 hm) ⟨.inl ⟨rfl, rfl⟩, .inl ⟨rfl, rfl⟩, trivial⟩ trivial rfl rfl (fun h => by cases h) rfl (fun _ h => by cases h) (.inl rfl) rfl rfl) ?_
 refine op_v' (j_not rfl) ?_
 refine op_v' (j_move (evo rfl)) ?_
 refine op_split' 10 rfl (fun h1 => ?_) (fun h1 => ?_)
 ·
  have h1r := h1
  try simp only [nq, nr] at h1
  refine op_v' (j_unwantV rfl rfl h1r) ?_
  refine op_v' (j_unwantV rfl rfl h1r) ?_
  refine op_v' (j_unwantV rfl rfl h1r) ?_
  refine op_v' (j_unwantV rfl rfl h1r) ?_
  refine op_v' (j_unwantU rfl rfl) ?_
  refine op_v' (j_unwantU rfl rfl) ?_
  refine op_v' (j_unwantU rfl rfl) ?_
  refine op_v' (j_unwantU rfl rfl) ?_
  refine op_v' (j_unwantU rfl rfl) ?_
  refine op_v' (j_unwantU rfl rfl) ?_
  refine op_v' (j_unwantU rfl rfl) ?_
  refine op_v' (j_unwantU rfl rfl) ?_
  refine op_v' (j_unwantU rfl rfl) ?_
  refine op_v' (j_unwantV rfl rfl h1r) ?_
  refine op_v' (j_pick_t rfl h1r (evo rfl)) ?_
  refine op_v' (j_move (evo rfl)) ?_
  refine op_v' (j_unwantV rfl rfl rfl) ?_
  refine op_v' (j_unwantV rfl rfl rfl) ?_
  refine op_v' (j_unwantV rfl rfl rfl) ?_
  refine op_v' (j_unwantV rfl rfl rfl) ?_
  refine op_v' (j_unwantU rfl rfl) ?_
  refine op_v' (j_unwantU rfl rfl) ?_
  refine op_v' (j_unwantU rfl rfl) ?_
  refine op_v' (j_unwantU rfl rfl) ?_
  refine op_v' (j_unwantV rfl rfl rfl) ?_
  refine op_v' (j_pick_t rfl rfl (evo rfl)) ?_
  refine op_nil ?_
  refine a_tt rfl ?_
  refine a_seq ?_
  refine a_region (by kernel_rfl) ?_
  refine op_v' (j_assign (evo rfl)) ?_
  refine op_nil ?_
  refine a_ret ?_
  exact ⟨[.p _], .p _, [], [], [], ⟨rfl, trivial⟩, rfl, rfl, trivial, rfl, rfl, ⟨boolEq (by symm; first | exact rOk_h (by unfold rHead; omega) | exact rOk_v2 (by assumption)), rfl, rfl⟩⟩
 ·
  have h1r := h1
  try simp only [nq, nr] at h1
  refine op_v' (j_want rfl rfl h1r (j_fldp fld43f0 rfl rfl)) ?_
  refine op_v' (j_want rfl rfl h1r (j_load_box leaf3 rfl rfl rfl)) ?_
  refine op_v' (j_want rfl rfl h1r (j_ne rfl rfl)) ?_
  refine op_v' (j_want rfl rfl h1r (j_move (evo rfl))) ?_
  refine op_split' 14 rfl (fun h2 => ?_) (fun h2 => ?_)
  ·
   have h2r := h2
   try simp only [nq, nr] at h2
   refine op_v' (j_want rfl rfl h2r (j_fldp fld43f2 rfl rfl)) ?_
   refine op_v' (j_want rfl rfl h2r (j_load_box leaf23 rfl rfl rfl)) ?_
   refine op_v' (j_want rfl rfl h2r (j_len_map Try.underlying23 rfl)) ?_
   refine op_v' (j_want rfl rfl h2r (j_ne rfl rfl)) ?_
   refine op_v' (j_want rfl rfl h2r (j_move (evo rfl))) ?_
   refine op_split' 19 rfl (fun h3 => ?_) (fun h3 => ?_)
   ·
    have h3r := h3
    try simp only [nq, nr] at h3
    refine op_v' (j_unwantV rfl rfl h3r) ?_
    refine op_v' (j_unwantV rfl rfl h3r) ?_
    refine op_v' (j_unwantV rfl rfl h3r) ?_
    refine op_v' (j_want rfl rfl h2r (j_pick_t rfl h3r (evo rfl))) ?_
    refine op_v' (j_want rfl rfl h1r (j_pick_t rfl h2r (evo rfl))) ?_
    refine op_v' (j_pick_f rfl h1r (evo rfl)) ?_
    refine op_v' (j_move (evo rfl)) ?_
    refine op_v' (j_unwantV rfl rfl rfl) ?_
    refine op_v' (j_unwantV rfl rfl rfl) ?_
    refine op_v' (j_unwantV rfl rfl rfl) ?_
    refine op_v' (j_unwantV rfl rfl rfl) ?_
    refine op_v' (j_unwantU rfl rfl) ?_
    refine op_v' (j_unwantU rfl rfl) ?_
    refine op_v' (j_unwantU rfl rfl) ?_
    refine op_v' (j_unwantU rfl rfl) ?_
    refine op_v' (j_unwantV rfl rfl rfl) ?_
    refine op_v' (j_pick_t rfl rfl (evo rfl)) ?_
    refine op_nil ?_
    refine a_tt rfl ?_
    refine a_seq ?_
    refine a_region (by kernel_rfl) ?_
    refine op_v' (j_assign (evo rfl)) ?_
    refine op_nil ?_
    refine a_ret ?_
    exact ⟨[.p _], .p _, [], [], [], ⟨rfl, trivial⟩, rfl, rfl, trivial, rfl, rfl, ⟨boolEq (by symm; first | exact rOk_h (by unfold rHead; omega) | exact rOk_v2 (by assumption)), rfl, rfl⟩⟩
   ·
    have h3r := h3
    try simp only [nq, nr] at h3
    refine op_v' (j_want rfl rfl h3r (j_fldp fld43f3 rfl rfl)) ?_
    refine op_v' (j_want rfl rfl h3r (j_load_box leaf3 rfl rfl rfl)) ?_
    refine op_v' (j_want rfl rfl h3r (j_ne rfl rfl)) ?_
    refine op_v' (j_want rfl rfl h2r (j_pick_f rfl h3r (evo rfl))) ?_
    refine op_v' (j_want rfl rfl h1r (j_pick_t rfl h2r (evo rfl))) ?_
    refine op_v' (j_pick_f rfl h1r (evo rfl)) ?_
    refine op_v' (j_move (evo rfl)) ?_
    refine op_split' 26 rfl (fun h4 => ?_) (fun h4 => ?_)
    ·
     have h4r := h4
     try simp only [nq, nr] at h4
     refine op_v' (j_unwantV rfl rfl h4r) ?_
     refine op_v' (j_unwantV rfl rfl h4r) ?_
     refine op_v' (j_unwantV rfl rfl h4r) ?_
     refine op_v' (j_unwantV rfl rfl h4r) ?_
     refine op_v' (j_unwantU rfl rfl) ?_
     refine op_v' (j_unwantU rfl rfl) ?_
     refine op_v' (j_unwantU rfl rfl) ?_
     refine op_v' (j_unwantU rfl rfl) ?_
     refine op_v' (j_unwantV rfl rfl h4r) ?_
     refine op_v' (j_pick_t rfl h4r (evo rfl)) ?_
     refine op_nil ?_
     refine a_tt rfl ?_
     refine a_seq ?_
     refine a_region (by kernel_rfl) ?_
     refine op_v' (j_assign (evo rfl)) ?_
     refine op_nil ?_
     refine a_ret ?_
     exact ⟨[.p _], .p _, [], [], [], ⟨rfl, trivial⟩, rfl, rfl, trivial, rfl, rfl, ⟨boolEq (by symm; first | exact rOk_h (by unfold rHead; omega) | exact rOk_v2 (by assumption)), rfl, rfl⟩⟩
    ·
     have h4r := h4
     try simp only [nq, nr] at h4
     refine op_v' (j_want rfl rfl h4r (j_fldp fld43f0 rfl rfl)) ?_
     refine op_v' (j_want rfl rfl h4r (j_load_box leaf3 rfl rfl rfl)) ?_
     refine op_v' (j_want rfl rfl h4r (j_ne rfl rfl)) ?_
     refine op_v' (j_want rfl rfl h4r (j_move (evo rfl))) ?_
     refine op_split' 30 rfl (fun h5 => ?_) (fun h5 => ?_)
     ·
      have h5r := h5
      try simp only [nq, nr] at h5
      refine op_v' (j_want rfl rfl h5r (j_fldp fld43f4 rfl rfl)) ?_
      refine op_v' (j_want rfl rfl h5r (j_load_box leaf41 rfl rfl rfl)) ?_
      refine op_v' (j_want rfl rfl h5r (j_len_map Try.underlying41 rfl)) ?_
      refine op_v' (j_want rfl rfl h5r (j_ne rfl rfl)) ?_
      refine op_v' (j_want rfl rfl h4r (j_pick_t rfl h5r (evo rfl))) ?_
      refine op_v' (j_pick_f rfl h4r (evo rfl)) ?_
      refine op_nil ?_
      refine a_cond rfl (fun h6 => ?_) (fun h6 => ?_)
      ·
       have h6r := h6
       try simp only [nq, nr] at h6
       refine a_seq ?_
       refine a_region (by kernel_rfl) ?_
       refine op_v' (j_assign (evo rfl)) ?_
       refine op_nil ?_
       refine a_ret ?_
       exact ⟨[.p _], .p _, [], [], [], ⟨rfl, trivial⟩, rfl, rfl, trivial, rfl, rfl, ⟨boolEq (by symm; first | exact rOk_h (by unfold rHead; omega) | exact rOk_v2 (by assumption)), rfl, rfl⟩⟩
      ·
       have h6r := h6
       try simp only [nq, nr] at h6
       refine a_skip ?_
       refine a_seq ?_
       refine a_seq ?_
       have hvv : (vsN (m.1.length : Int) r.2.1 r.2.1.length && decide (r.2.1.length ≠ 0)) = true := by assumption
       have hv : vsN (m.1.length : Int) r.2.1 r.2.1.length = true := (Bool.and_eq_true_iff.1 hvv).1
       have hl0 : r.2.1.length ≠ 0 := of_decide_eq_true (Bool.and_eq_true_iff.1 hvv).2
       have hh : rHead r := by unfold rHead; omega
       refine a_region (by kernel_rfl) ?_
       refine op_v' (j_fldp fld43f0 rfl rfl) ?_
       refine op_v' (j_load_box leaf3 rfl rfl rfl) ?_
       refine op_nil ?_
       refine a_block ?_
       refine a_seq ?_
       refine a_region (by kernel_rfl) ?_
       refine op_v' (j_eq rfl rfl) ?_
       refine op_v' (j_assign (evo rfl)) ?_
       refine op_nil ?_
       refine a_cond rfl (fun h7 => ?_) (fun h7 => ?_)
       ·
        have h7r := h7
        try simp only [nq, nr] at h7
        refine a_seq ?_
        refine a_region (by kernel_rfl) ?_
        refine op_v' (j_loada_box (ys := [.p _, .sl _, .sl _, .p _, .sl _]) agg43 rfl rfl rfl (Nat.le_of_ble_eq_true rfl)) ?_
        refine op_v0' (j_call0 (v := .p _) (hp1 := []) [] false [] ent138 (f_l6Lin r) ⟨.inl ⟨rfl, rfl⟩, trivial⟩ trivial rfl rfl (fun h => by cases h) rfl (fun _ h => by cases h) (.inl rfl) rfl rfl) ?_
        refine op_v' (j_assign (evo rfl)) ?_
        refine op_nil ?_
        refine a_ret ?_
        exact ⟨[.p _], .p _, [], [], [], ⟨rfl, trivial⟩, rfl, rfl, trivial, rfl, rfl, ⟨boolEq (by rw [rOk_t hv hh, rTail_1 (by omega)]), rfl, rfl⟩⟩
       ·
        have h7r := h7
        try simp only [nq, nr] at h7
        refine a_seq ?_
        refine a_region (by kernel_rfl) ?_
        refine op_v' (j_eq rfl rfl) ?_
        refine op_v' (j_assign (evo rfl)) ?_
        refine op_nil ?_
        refine a_cond rfl (fun h8 => ?_) (fun h8 => ?_)
        ·
         have h8r := h8
         try simp only [nq, nr] at h8
         refine a_seq ?_
         refine a_region (by kernel_rfl) ?_
         refine op_v' (j_assign (evo rfl)) ?_
         refine op_nil ?_
         refine a_ret ?_
         exact ⟨[.p _], .p _, [], [], [], ⟨rfl, trivial⟩, rfl, rfl, trivial, rfl, rfl, ⟨boolEq (by rw [rOk_t hv hh, rTail_0 (by omega) (by omega) (by omega)]; symm; exact decide_eq_true (by omega)), rfl, rfl⟩⟩
        ·
         have h8r := h8
         try simp only [nq, nr] at h8
         refine a_seq ?_
         refine a_region (by kernel_rfl) ?_
         refine op_v' (j_eq rfl rfl) ?_
         refine op_v' (j_assign (evo rfl)) ?_
         refine op_nil ?_
         refine a_cond rfl (fun h9 => ?_) (fun h9 => ?_)
         ·
          have h9r := h9
          try simp only [nq, nr] at h9
          refine a_seq ?_
          refine a_region (by kernel_rfl) ?_
          refine op_v' (j_loada_box (ys := [.p _, .sl _, .sl _, .p _, .sl _]) agg43 rfl rfl rfl (Nat.le_of_ble_eq_true rfl)) ?_
          refine op_v0' (j_call0 (v := .p _) (hp1 := []) [] false [] ent139 (f_l6Tab r) ⟨.inl ⟨rfl, rfl⟩, trivial⟩ trivial rfl rfl (fun h => by cases h) rfl (fun _ h => by cases h) (.inl rfl) rfl rfl) ?_
          refine op_v' (j_assign (evo rfl)) ?_
          refine op_nil ?_
          refine a_ret ?_
          exact ⟨[.p _], .p _, [], [], [], ⟨rfl, trivial⟩, rfl, rfl, trivial, rfl, rfl, ⟨boolEq (by rw [rOk_t hv hh, rTail_3 (by omega)]), rfl, rfl⟩⟩
         ·
          have h9r := h9
          try simp only [nq, nr] at h9
          refine a_seq ?_
          refine a_region (by kernel_rfl) ?_
          refine op_v' (j_eq rfl rfl) ?_
          refine op_v' (j_assign (evo rfl)) ?_
          refine op_nil ?_
          refine a_cond rfl (fun h10 => ?_) (fun h10 => ?_)
          ·
           have h10r := h10
           try simp only [nq, nr] at h10
           refine a_seq ?_
           refine a_region (by kernel_rfl) ?_
           refine op_v' (j_fldp fld43f1 rfl rfl) ?_
           refine op_v' (j_load_box leaf23 rfl rfl rfl) ?_
           refine op_v' (j_len_map Try.underlying23 rfl) ?_
           refine op_v' (j_eq rfl rfl) ?_
           refine op_v' (j_assign (evo rfl)) ?_
           refine op_nil ?_
           refine a_ret ?_
           exact ⟨[.p _], .p _, [], [], [], ⟨rfl, trivial⟩, rfl, rfl, trivial, rfl, rfl, ⟨boolEq (by rw [rOk_t hv hh, rTail_4 (by omega)]; exact decide_eq_decide.2 (by omega)), rfl, rfl⟩⟩
          ·
           have h10r := h10
           try simp only [nq, nr] at h10
           refine a_skip ?_
           refine a_seq ?_
           refine a_region (by kernel_rfl) ?_
           refine op_v' (j_assign (evo rfl)) ?_
           refine op_nil ?_
           refine a_ret ?_
           exact ⟨[.p _], .p _, [], [], [], ⟨rfl, trivial⟩, rfl, rfl, trivial, rfl, rfl, ⟨boolEq (by rw [rOk_t hv hh, rTail_0 (by omega) (by omega) (by omega)]; symm; exact decide_eq_false (by omega)), rfl, rfl⟩⟩
     ·
      have h5r := h5
      try simp only [nq, nr] at h5
      refine op_v' (j_unwantV rfl rfl h5r) ?_
      refine op_v' (j_unwantV rfl rfl h5r) ?_
      refine op_v' (j_unwantV rfl rfl h5r) ?_
      refine op_v' (j_unwantV rfl rfl h5r) ?_
      refine op_v' (j_want rfl rfl h4r (j_pick_f rfl h5r (evo rfl))) ?_
      refine op_v' (j_pick_f rfl h4r (evo rfl)) ?_
      refine op_nil ?_
      refine a_ff rfl ?_
      refine a_skip ?_
      refine a_seq ?_
      refine a_seq ?_
      have hvv : (vsN (m.1.length : Int) r.2.1 r.2.1.length && decide (r.2.1.length ≠ 0)) = true := by assumption
      have hv : vsN (m.1.length : Int) r.2.1 r.2.1.length = true := (Bool.and_eq_true_iff.1 hvv).1
      have hl0 : r.2.1.length ≠ 0 := of_decide_eq_true (Bool.and_eq_true_iff.1 hvv).2
      have hh : rHead r := by unfold rHead; omega
      refine a_region (by kernel_rfl) ?_
      refine op_v' (j_fldp fld43f0 rfl rfl) ?_
      refine op_v' (j_load_box leaf3 rfl rfl rfl) ?_
      refine op_nil ?_
      refine a_block ?_
      refine a_seq ?_
      refine a_region (by kernel_rfl) ?_
      refine op_v' (j_eq rfl rfl) ?_
      refine op_v' (j_assign (evo rfl)) ?_
      refine op_nil ?_
      refine a_cond rfl (fun h11 => ?_) (fun h11 => ?_)
      ·
       have h11r := h11
       try simp only [nq, nr] at h11
       refine a_seq ?_
       refine a_region (by kernel_rfl) ?_
       refine op_v' (j_loada_box (ys := [.p _, .sl _, .sl _, .p _, .sl _]) agg43 rfl rfl rfl (Nat.le_of_ble_eq_true rfl)) ?_
       refine op_v0' (j_call0 (v := .p _) (hp1 := []) [] false [] ent138 (f_l6Lin r) ⟨.inl ⟨rfl, rfl⟩, trivial⟩ trivial rfl rfl (fun h => by cases h) rfl (fun _ h => by cases h) (.inl rfl) rfl rfl) ?_
       refine op_v' (j_assign (evo rfl)) ?_
       refine op_nil ?_
       refine a_ret ?_
       exact ⟨[.p _], .p _, [], [], [], ⟨rfl, trivial⟩, rfl, rfl, trivial, rfl, rfl, ⟨boolEq (by rw [rOk_t hv hh, rTail_1 (by omega)]), rfl, rfl⟩⟩
      ·
       have h11r := h11
       try simp only [nq, nr] at h11
       refine a_seq ?_
       refine a_region (by kernel_rfl) ?_
       refine op_v' (j_eq rfl rfl) ?_
       refine op_v' (j_assign (evo rfl)) ?_
       refine op_nil ?_
       refine a_cond rfl (fun h12 => ?_) (fun h12 => ?_)
       ·
        have h12r := h12
        try simp only [nq, nr] at h12
        refine a_seq ?_
        refine a_region (by kernel_rfl) ?_
        refine op_v' (j_assign (evo rfl)) ?_
        refine op_nil ?_
        refine a_ret ?_
        exact ⟨[.p _], .p _, [], [], [], ⟨rfl, trivial⟩, rfl, rfl, trivial, rfl, rfl, ⟨boolEq (by rw [rOk_t hv hh, rTail_0 (by omega) (by omega) (by omega)]; symm; exact decide_eq_true (by omega)), rfl, rfl⟩⟩
       ·
        have h12r := h12
        try simp only [nq, nr] at h12
        refine a_seq ?_
        refine a_region (by kernel_rfl) ?_
        refine op_v' (j_eq rfl rfl) ?_
        refine op_v' (j_assign (evo rfl)) ?_
        refine op_nil ?_
        refine a_cond rfl (fun h13 => ?_) (fun h13 => ?_)
        ·
         have h13r := h13
         try simp only [nq, nr] at h13
         refine a_seq ?_
         refine a_region (by kernel_rfl) ?_
         refine op_v' (j_loada_box (ys := [.p _, .sl _, .sl _, .p _, .sl _]) agg43 rfl rfl rfl (Nat.le_of_ble_eq_true rfl)) ?_
         refine op_v0' (j_call0 (v := .p _) (hp1 := []) [] false [] ent139 (f_l6Tab r) ⟨.inl ⟨rfl, rfl⟩, trivial⟩ trivial rfl rfl (fun h => by cases h) rfl (fun _ h => by cases h) (.inl rfl) rfl rfl) ?_
         refine op_v' (j_assign (evo rfl)) ?_
         refine op_nil ?_
         refine a_ret ?_
         exact ⟨[.p _], .p _, [], [], [], ⟨rfl, trivial⟩, rfl, rfl, trivial, rfl, rfl, ⟨boolEq (by rw [rOk_t hv hh, rTail_3 (by omega)]), rfl, rfl⟩⟩
        ·
         have h13r := h13
         try simp only [nq, nr] at h13
         refine a_seq ?_
         refine a_region (by kernel_rfl) ?_
         refine op_v' (j_eq rfl rfl) ?_
         refine op_v' (j_assign (evo rfl)) ?_
         refine op_nil ?_
         refine a_cond rfl (fun h14 => ?_) (fun h14 => ?_)
         ·
          have h14r := h14
          try simp only [nq, nr] at h14
          refine a_seq ?_
          refine a_region (by kernel_rfl) ?_
          refine op_v' (j_fldp fld43f1 rfl rfl) ?_
          refine op_v' (j_load_box leaf23 rfl rfl rfl) ?_
          refine op_v' (j_len_map Try.underlying23 rfl) ?_
          refine op_v' (j_eq rfl rfl) ?_
          refine op_v' (j_assign (evo rfl)) ?_
          refine op_nil ?_
          refine a_ret ?_
          exact ⟨[.p _], .p _, [], [], [], ⟨rfl, trivial⟩, rfl, rfl, trivial, rfl, rfl, ⟨boolEq (by rw [rOk_t hv hh, rTail_4 (by omega)]; exact decide_eq_decide.2 (by omega)), rfl, rfl⟩⟩
         ·
          have h14r := h14
          try simp only [nq, nr] at h14
          refine a_skip ?_
          refine a_seq ?_
          refine a_region (by kernel_rfl) ?_
          refine op_v' (j_assign (evo rfl)) ?_
          refine op_nil ?_
          refine a_ret ?_
          exact ⟨[.p _], .p _, [], [], [], ⟨rfl, trivial⟩, rfl, rfl, trivial, rfl, rfl, ⟨boolEq (by rw [rOk_t hv hh, rTail_0 (by omega) (by omega) (by omega)]; symm; exact decide_eq_false (by omega)), rfl, rfl⟩⟩
  ·
   have h2r := h2
   try simp only [nq, nr] at h2
   refine op_v' (j_unwantV rfl rfl h2r) ?_
   refine op_v' (j_unwantV rfl rfl h2r) ?_
   refine op_v' (j_unwantV rfl rfl h2r) ?_
   refine op_v' (j_unwantV rfl rfl h2r) ?_
   refine op_v' (j_unwantV rfl rfl h2r) ?_
   refine op_v' (j_unwantU rfl rfl) ?_
   refine op_v' (j_unwantU rfl rfl) ?_
   refine op_v' (j_unwantU rfl rfl) ?_
   refine op_v' (j_unwantV rfl rfl h2r) ?_
   refine op_v' (j_want rfl rfl h1r (j_pick_f rfl h2r (evo rfl))) ?_
   refine op_v' (j_pick_f rfl h1r (evo rfl)) ?_
   refine op_v' (j_move (evo rfl)) ?_
   refine op_v' (j_want rfl rfl rfl (j_fldp fld43f0 rfl rfl)) ?_
   refine op_v' (j_want rfl rfl rfl (j_load_box leaf3 rfl rfl rfl)) ?_
   refine op_v' (j_want rfl rfl rfl (j_ne rfl rfl)) ?_
   refine op_v' (j_want rfl rfl rfl (j_move (evo rfl))) ?_
   refine op_split' 30 rfl (fun h15 => ?_) (fun h15 => ?_)
   ·
    have h15r := h15
    try simp only [nq, nr] at h15
    refine op_v' (j_want rfl rfl h15r (j_fldp fld43f4 rfl rfl)) ?_
    refine op_v' (j_want rfl rfl h15r (j_load_box leaf41 rfl rfl rfl)) ?_
    refine op_v' (j_want rfl rfl h15r (j_len_map Try.underlying41 rfl)) ?_
    refine op_v' (j_want rfl rfl h15r (j_ne rfl rfl)) ?_
    refine op_v' (j_want rfl rfl rfl (j_pick_t rfl h15r (evo rfl))) ?_
    refine op_v' (j_pick_f rfl rfl (evo rfl)) ?_
    refine op_nil ?_
    refine a_cond rfl (fun h16 => ?_) (fun h16 => ?_)
    ·
     have h16r := h16
     try simp only [nq, nr] at h16
     refine a_seq ?_
     refine a_region (by kernel_rfl) ?_
     refine op_v' (j_assign (evo rfl)) ?_
     refine op_nil ?_
     refine a_ret ?_
     exact ⟨[.p _], .p _, [], [], [], ⟨rfl, trivial⟩, rfl, rfl, trivial, rfl, rfl, ⟨boolEq (by symm; first | exact rOk_h (by unfold rHead; omega) | exact rOk_v2 (by assumption)), rfl, rfl⟩⟩
    ·
     have h16r := h16
     try simp only [nq, nr] at h16
     refine a_skip ?_
     refine a_seq ?_
     refine a_seq ?_
     have hvv : (vsN (m.1.length : Int) r.2.1 r.2.1.length && decide (r.2.1.length ≠ 0)) = true := by assumption
     have hv : vsN (m.1.length : Int) r.2.1 r.2.1.length = true := (Bool.and_eq_true_iff.1 hvv).1
     have hl0 : r.2.1.length ≠ 0 := of_decide_eq_true (Bool.and_eq_true_iff.1 hvv).2
     have hh : rHead r := by unfold rHead; omega
     refine a_region (by kernel_rfl) ?_
     refine op_v' (j_fldp fld43f0 rfl rfl) ?_
     refine op_v' (j_load_box leaf3 rfl rfl rfl) ?_
     refine op_nil ?_
     refine a_block ?_
     refine a_seq ?_
     refine a_region (by kernel_rfl) ?_
     refine op_v' (j_eq rfl rfl) ?_
     refine op_v' (j_assign (evo rfl)) ?_
     refine op_nil ?_
     refine a_cond rfl (fun h17 => ?_) (fun h17 => ?_)
     ·
      have h17r := h17
      try simp only [nq, nr] at h17
      refine a_seq ?_
      refine a_region (by kernel_rfl) ?_
      refine op_v' (j_loada_box (ys := [.p _, .sl _, .sl _, .p _, .sl _]) agg43 rfl rfl rfl (Nat.le_of_ble_eq_true rfl)) ?_
      refine op_v0' (j_call0 (v := .p _) (hp1 := []) [] false [] ent138 (f_l6Lin r) ⟨.inl ⟨rfl, rfl⟩, trivial⟩ trivial rfl rfl (fun h => by cases h) rfl (fun _ h => by cases h) (.inl rfl) rfl rfl) ?_
      refine op_v' (j_assign (evo rfl)) ?_
      refine op_nil ?_
      refine a_ret ?_
      exact ⟨[.p _], .p _, [], [], [], ⟨rfl, trivial⟩, rfl, rfl, trivial, rfl, rfl, ⟨boolEq (by rw [rOk_t hv hh, rTail_1 (by omega)]), rfl, rfl⟩⟩
     ·
      have h17r := h17
      try simp only [nq, nr] at h17
      refine a_seq ?_
      refine a_region (by kernel_rfl) ?_
      refine op_v' (j_eq rfl rfl) ?_
      refine op_v' (j_assign (evo rfl)) ?_
      refine op_nil ?_
      refine a_cond rfl (fun h18 => ?_) (fun h18 => ?_)
      ·
       have h18r := h18
       try simp only [nq, nr] at h18
       refine a_seq ?_
       refine a_region (by kernel_rfl) ?_
       refine op_v' (j_assign (evo rfl)) ?_
       refine op_nil ?_
       refine a_ret ?_
       exact ⟨[.p _], .p _, [], [], [], ⟨rfl, trivial⟩, rfl, rfl, trivial, rfl, rfl, ⟨boolEq (by rw [rOk_t hv hh, rTail_0 (by omega) (by omega) (by omega)]; symm; exact decide_eq_true (by omega)), rfl, rfl⟩⟩
      ·
       have h18r := h18
       try simp only [nq, nr] at h18
       refine a_seq ?_
       refine a_region (by kernel_rfl) ?_
       refine op_v' (j_eq rfl rfl) ?_
       refine op_v' (j_assign (evo rfl)) ?_
       refine op_nil ?_
       refine a_cond rfl (fun h19 => ?_) (fun h19 => ?_)
       ·
        have h19r := h19
        try simp only [nq, nr] at h19
        refine a_seq ?_
        refine a_region (by kernel_rfl) ?_
        refine op_v' (j_loada_box (ys := [.p _, .sl _, .sl _, .p _, .sl _]) agg43 rfl rfl rfl (Nat.le_of_ble_eq_true rfl)) ?_
        refine op_v0' (j_call0 (v := .p _) (hp1 := []) [] false [] ent139 (f_l6Tab r) ⟨.inl ⟨rfl, rfl⟩, trivial⟩ trivial rfl rfl (fun h => by cases h) rfl (fun _ h => by cases h) (.inl rfl) rfl rfl) ?_
        refine op_v' (j_assign (evo rfl)) ?_
        refine op_nil ?_
        refine a_ret ?_
        exact ⟨[.p _], .p _, [], [], [], ⟨rfl, trivial⟩, rfl, rfl, trivial, rfl, rfl, ⟨boolEq (by rw [rOk_t hv hh, rTail_3 (by omega)]), rfl, rfl⟩⟩
       ·
        have h19r := h19
        try simp only [nq, nr] at h19
        refine a_seq ?_
        refine a_region (by kernel_rfl) ?_
        refine op_v' (j_eq rfl rfl) ?_
        refine op_v' (j_assign (evo rfl)) ?_
        refine op_nil ?_
        refine a_cond rfl (fun h20 => ?_) (fun h20 => ?_)
        ·
         have h20r := h20
         try simp only [nq, nr] at h20
         refine a_seq ?_
         refine a_region (by kernel_rfl) ?_
         refine op_v' (j_fldp fld43f1 rfl rfl) ?_
         refine op_v' (j_load_box leaf23 rfl rfl rfl) ?_
         refine op_v' (j_len_map Try.underlying23 rfl) ?_
         refine op_v' (j_eq rfl rfl) ?_
         refine op_v' (j_assign (evo rfl)) ?_
         refine op_nil ?_
         refine a_ret ?_
         exact ⟨[.p _], .p _, [], [], [], ⟨rfl, trivial⟩, rfl, rfl, trivial, rfl, rfl, ⟨boolEq (by rw [rOk_t hv hh, rTail_4 (by omega)]; exact decide_eq_decide.2 (by omega)), rfl, rfl⟩⟩
        ·
         have h20r := h20
         try simp only [nq, nr] at h20
         refine a_skip ?_
         refine a_seq ?_
         refine a_region (by kernel_rfl) ?_
         refine op_v' (j_assign (evo rfl)) ?_
         refine op_nil ?_
         refine a_ret ?_
         exact ⟨[.p _], .p _, [], [], [], ⟨rfl, trivial⟩, rfl, rfl, trivial, rfl, rfl, ⟨boolEq (by rw [rOk_t hv hh, rTail_0 (by omega) (by omega) (by omega)]; symm; exact decide_eq_false (by omega)), rfl, rfl⟩⟩
   ·
    have h15r := h15
    try simp only [nq, nr] at h15
    refine op_v' (j_unwantV rfl rfl h15r) ?_
    refine op_v' (j_unwantV rfl rfl h15r) ?_
    refine op_v' (j_unwantV rfl rfl h15r) ?_
    refine op_v' (j_unwantV rfl rfl h15r) ?_
    refine op_v' (j_want rfl rfl rfl (j_pick_f rfl h15r (evo rfl))) ?_
    refine op_v' (j_pick_f rfl rfl (evo rfl)) ?_
    refine op_nil ?_
    refine a_ff rfl ?_
    refine a_skip ?_
    refine a_seq ?_
    refine a_seq ?_
    have hvv : (vsN (m.1.length : Int) r.2.1 r.2.1.length && decide (r.2.1.length ≠ 0)) = true := by assumption
    have hv : vsN (m.1.length : Int) r.2.1 r.2.1.length = true := (Bool.and_eq_true_iff.1 hvv).1
    have hl0 : r.2.1.length ≠ 0 := of_decide_eq_true (Bool.and_eq_true_iff.1 hvv).2
    have hh : rHead r := by unfold rHead; omega
    refine a_region (by kernel_rfl) ?_
    refine op_v' (j_fldp fld43f0 rfl rfl) ?_
    refine op_v' (j_load_box leaf3 rfl rfl rfl) ?_
    refine op_nil ?_
    refine a_block ?_
    refine a_seq ?_
    refine a_region (by kernel_rfl) ?_
    refine op_v' (j_eq rfl rfl) ?_
    refine op_v' (j_assign (evo rfl)) ?_
    refine op_nil ?_
    refine a_cond rfl (fun h21 => ?_) (fun h21 => ?_)
    ·
     have h21r := h21
     try simp only [nq, nr] at h21
     refine a_seq ?_
     refine a_region (by kernel_rfl) ?_
     refine op_v' (j_loada_box (ys := [.p _, .sl _, .sl _, .p _, .sl _]) agg43 rfl rfl rfl (Nat.le_of_ble_eq_true rfl)) ?_
     refine op_v0' (j_call0 (v := .p _) (hp1 := []) [] false [] ent138 (f_l6Lin r) ⟨.inl ⟨rfl, rfl⟩, trivial⟩ trivial rfl rfl (fun h => by cases h) rfl (fun _ h => by cases h) (.inl rfl) rfl rfl) ?_
     refine op_v' (j_assign (evo rfl)) ?_
     refine op_nil ?_
     refine a_ret ?_
     exact ⟨[.p _], .p _, [], [], [], ⟨rfl, trivial⟩, rfl, rfl, trivial, rfl, rfl, ⟨boolEq (by rw [rOk_t hv hh, rTail_1 (by omega)]), rfl, rfl⟩⟩
    ·
     have h21r := h21
     try simp only [nq, nr] at h21
     refine a_seq ?_
     refine a_region (by kernel_rfl) ?_
     refine op_v' (j_eq rfl rfl) ?_
     refine op_v' (j_assign (evo rfl)) ?_
     refine op_nil ?_
     refine a_cond rfl (fun h22 => ?_) (fun h22 => ?_)
     ·
      have h22r := h22
      try simp only [nq, nr] at h22
      refine a_seq ?_
      refine a_region (by kernel_rfl) ?_
      refine op_v' (j_assign (evo rfl)) ?_
      refine op_nil ?_
      refine a_ret ?_
      exact ⟨[.p _], .p _, [], [], [], ⟨rfl, trivial⟩, rfl, rfl, trivial, rfl, rfl, ⟨boolEq (by rw [rOk_t hv hh, rTail_0 (by omega) (by omega) (by omega)]; symm; exact decide_eq_true (by omega)), rfl, rfl⟩⟩
     ·
      have h22r := h22
      try simp only [nq, nr] at h22
      refine a_seq ?_
      refine a_region (by kernel_rfl) ?_
      refine op_v' (j_eq rfl rfl) ?_
      refine op_v' (j_assign (evo rfl)) ?_
      refine op_nil ?_
      refine a_cond rfl (fun h23 => ?_) (fun h23 => ?_)
      ·
       have h23r := h23
       try simp only [nq, nr] at h23
       refine a_seq ?_
       refine a_region (by kernel_rfl) ?_
       refine op_v' (j_loada_box (ys := [.p _, .sl _, .sl _, .p _, .sl _]) agg43 rfl rfl rfl (Nat.le_of_ble_eq_true rfl)) ?_
       refine op_v0' (j_call0 (v := .p _) (hp1 := []) [] false [] ent139 (f_l6Tab r) ⟨.inl ⟨rfl, rfl⟩, trivial⟩ trivial rfl rfl (fun h => by cases h) rfl (fun _ h => by cases h) (.inl rfl) rfl rfl) ?_
       refine op_v' (j_assign (evo rfl)) ?_
       refine op_nil ?_
       refine a_ret ?_
       exact ⟨[.p _], .p _, [], [], [], ⟨rfl, trivial⟩, rfl, rfl, trivial, rfl, rfl, ⟨boolEq (by rw [rOk_t hv hh, rTail_3 (by omega)]), rfl, rfl⟩⟩
      ·
       have h23r := h23
       try simp only [nq, nr] at h23
       refine a_seq ?_
       refine a_region (by kernel_rfl) ?_
       refine op_v' (j_eq rfl rfl) ?_
       refine op_v' (j_assign (evo rfl)) ?_
       refine op_nil ?_
       refine a_cond rfl (fun h24 => ?_) (fun h24 => ?_)
       ·
        have h24r := h24
        try simp only [nq, nr] at h24
        refine a_seq ?_
        refine a_region (by kernel_rfl) ?_
        refine op_v' (j_fldp fld43f1 rfl rfl) ?_
        refine op_v' (j_load_box leaf23 rfl rfl rfl) ?_
        refine op_v' (j_len_map Try.underlying23 rfl) ?_
        refine op_v' (j_eq rfl rfl) ?_
        refine op_v' (j_assign (evo rfl)) ?_
        refine op_nil ?_
        refine a_ret ?_
        exact ⟨[.p _], .p _, [], [], [], ⟨rfl, trivial⟩, rfl, rfl, trivial, rfl, rfl, ⟨boolEq (by rw [rOk_t hv hh, rTail_4 (by omega)]; exact decide_eq_decide.2 (by omega)), rfl, rfl⟩⟩
       ·
        have h24r := h24
        try simp only [nq, nr] at h24
        refine a_skip ?_
        refine a_seq ?_
        refine a_region (by kernel_rfl) ?_
        refine op_v' (j_assign (evo rfl)) ?_
        refine op_nil ?_
        refine a_ret ?_
        exact ⟨[.p _], .p _, [], [], [], ⟨rfl, trivial⟩, rfl, rfl, trivial, rfl, rfl, ⟨boolEq (by rw [rOk_t hv hh, rTail_0 (by omega) (by omega) (by omega)]; symm; exact decide_eq_false (by omega)), rfl, rfl⟩⟩


theorem f_mvSpec (m : Md) : Fn Try.prog 56 [.agg [.sl (m.1.map dI), .sl (m.2.map dR)]] [] (fun rr ii nn => rr = .p (.bool (mOk m)) ∧ ii = [] ∧ nn = []) := by
 refine fn_of Try.func56 rfl (Nat.le_of_ble_eq_true rfl) fun w X g => ?_
 show AWp _ _ _ ⟨[(0, .agg [.sl (m.1.map dI), .sl (m.2.map dR)])], []⟩
 refine a_len_map2 0 rfl fun hls => ?_
 refine a_len_rule 0 rfl fun hlr => ?_
 refine a_seq ?_
 refine a_region (by kernel_rfl) ?_
 refine op_n' (fun ver => j_boxa rfl) fun v1x1 => ?_
 refine op_v' (j_assign (evo rfl)) ?_
 refine op_nil ?_
 refine a_seq ?_
 refine a_region (by kernel_rfl) ?_
 refine op_v' (j_assign (evo rfl)) ?_
 refine op_nil ?_
 refine a_seq ?_
 refine a_seq ?_
 refine a_region (by kernel_rfl) ?_
 refine op_v' (j_assign (evo rfl)) ?_
 refine op_nil ?_
 refine a_block ?_
 refine a_loopF' (ι := Nat) (fun k => k ≤ m.1.length ∧ k ≤ 5 ∧ (m.1.take k).all (fun s => decide (0 ≤ s ∧ s ≤ 3)) = true) (fun k r => (4, .p (.int .i64 ((k : Nat)))) :: (3, .p (.int .i64 (szSum (m.1.take k)))) :: r) (fun k r => r) (fun k => m.1.length - k) (fun _ _ => rfl) (fun _ _ => rfl) 0 ⟨Nat.zero_le _, by omega, rfl⟩ ⟨⟨rfl, rfl⟩, ⟨rfl, intEq rfl, trivial⟩, trivial, ⟨rfl, rfl⟩, ⟨rfl, rfl⟩⟩ ?_
 intro k hk
 refine a_seq ?_
 refine a_seq ?_
 refine a_region (by kernel_rfl) ?_
 refine op_v' (j_move (evo rfl)) ?_
 refine op_v' (j_fldp fld26f0 rfl rfl) ?_
 refine op_v' (j_load_box leaf23 rfl rfl rfl) ?_
 refine op_v' (j_len_map Try.underlying23 rfl) ?_
 refine op_v' (j_lt rfl rfl) ?_
 refine op_v' (j_move (evo rfl)) ?_
 refine op_split' 11 rfl (fun h1 => ?_) (fun h1 => ?_)
 ·
  have h1r := h1
  try simp only [nq, nr] at h1
  refine op_v' (j_want rfl rfl h1r (j_move (evo rfl))) ?_
  refine op_v' (j_want rfl rfl h1r (j_lt rfl rfl)) ?_
  refine op_v' (j_pick_t rfl h1r (evo rfl)) ?_
  refine op_nil ?_
  refine a_cond rfl (fun h2 => ?_) (fun h2 => ?_)
  ·
   have h2r := h2
   try simp only [nq, nr] at h2
   refine a_skip ?_
   refine a_seq ?_
   refine a_block ?_
   refine a_seq ?_
   refine a_seq ?_
   refine a_region (by kernel_rfl) ?_
   refine op_v' (j_fldp fld26f0 rfl rfl) ?_
   refine op_v' (j_load_box leaf23 rfl rfl rfl) ?_
   refine op_v' (j_move (evo rfl)) ?_
   refine op_v' (j_elemN slt23 rfl rfl rfl (at_map (by first | omega | (simp only [nr]; omega))) rfl) ?_
   refine op_v' (j_load_el leaf3 rfl (at_map (by first | omega | (simp only [nr]; omega))) rfl) ?_
   refine op_v' (j_lt rfl rfl) ?_
   refine op_v' (j_move (evo rfl)) ?_
   refine op_split' 23 rfl (fun h3 => ?_) (fun h3 => ?_)
   ·
    have h3r := h3
    try simp only [nq, nr] at h3
    refine op_v' (j_unwantV rfl rfl h3r) ?_
    refine op_v' (j_unwantV rfl rfl h3r) ?_
    refine op_v' (j_unwantV rfl rfl h3r) ?_
    refine op_v' (j_unwantV rfl rfl h3r) ?_
    refine op_v' (j_unwantV rfl rfl h3r) ?_
    refine op_v' (j_unwantV rfl rfl h3r) ?_
    refine op_v' (j_pick_t rfl h3r (evo rfl)) ?_
    refine op_nil ?_
    refine a_tt rfl ?_
    refine a_seq ?_
    refine a_region (by kernel_rfl) ?_
    refine op_v' (j_assign (evo rfl)) ?_
    refine op_nil ?_
    refine a_ret ?_
    exact ⟨[.p _], .p _, [], [], [], ⟨rfl, trivial⟩, rfl, rfl, trivial, rfl, rfl, ⟨boolEq (by symm; exact mOk_s (szs_no (.inr (.inl (all_no (d := default) (k := k) (by omega) (decide_eq_false (by omega))))))), rfl, rfl⟩⟩
   ·
    have h3r := h3
    try simp only [nq, nr] at h3
    refine op_v' (j_want rfl rfl h3r (j_fldp fld26f0 rfl rfl)) ?_
    refine op_v' (j_want rfl rfl h3r (j_load_box leaf23 rfl rfl rfl)) ?_
    refine op_v' (j_want rfl rfl h3r (j_move (evo rfl))) ?_
    refine op_v' (j_want rfl rfl h3r (j_elemN slt23 rfl rfl rfl (at_map (by first | omega | (simp only [nr]; omega))) rfl)) ?_
    refine op_v' (j_want rfl rfl h3r (j_load_el leaf3 rfl (at_map (by first | omega | (simp only [nr]; omega))) rfl)) ?_
    refine op_v' (j_want rfl rfl h3r (j_gt rfl rfl)) ?_
    refine op_v' (j_pick_f rfl h3r (evo rfl)) ?_
    refine op_nil ?_
    refine a_cond rfl (fun h4 => ?_) (fun h4 => ?_)
    ·
     have h4r := h4
     try simp only [nq, nr] at h4
     refine a_seq ?_
     refine a_region (by kernel_rfl) ?_
     refine op_v' (j_assign (evo rfl)) ?_
     refine op_nil ?_
     refine a_ret ?_
     exact ⟨[.p _], .p _, [], [], [], ⟨rfl, trivial⟩, rfl, rfl, trivial, rfl, rfl, ⟨boolEq (by symm; exact mOk_s (szs_no (.inr (.inl (all_no (d := default) (k := k) (by omega) (decide_eq_false (by omega))))))), rfl, rfl⟩⟩
    ·
     have h4r := h4
     try simp only [nq, nr] at h4
     refine a_skip ?_
     have hsr := szSum_rng (k := k) (by omega) hk.2.2
     refine a_region (by kernel_rfl) ?_
     refine op_v' (j_move (evo rfl)) ?_
     refine op_v' (j_fldp fld26f0 rfl rfl) ?_
     refine op_v' (j_load_box leaf23 rfl rfl rfl) ?_
     refine op_v' (j_move (evo rfl)) ?_
     refine op_v' (j_elemN slt23 rfl rfl rfl (at_map (by first | omega | (simp only [nr]; omega))) rfl) ?_
     refine op_v' (j_load_el leaf3 rfl (at_map (by first | omega | (simp only [nr]; omega))) rfl) ?_
     refine op_v' (j_add rfl rfl (by first | omega | (simp only [nr]; omega)) (by first | omega | (simp only [nr]; omega))) ?_
     refine op_v' (j_add rfl rfl (by first | omega | (simp only [nr]; omega)) (by first | omega | (simp only [nr]; omega))) ?_
     refine op_v' (j_assign (evo rfl)) ?_
     refine op_nil ?_
     refine a_region (by kernel_rfl) ?_
     refine op_v' (j_move (evo rfl)) ?_
     refine op_v' (j_add rfl rfl (by first | omega | (simp only [nr]; omega)) (by first | omega | (simp only [nr]; omega))) ?_
     refine op_v' (j_assign (evo rfl)) ?_
     refine op_nil ?_
     exact ⟨k + 1, ⟨by omega, by omega, all_next (d := default) hk.2.2 (by omega) (decide_eq_true (by omega))⟩, ⟨⟨rfl, rfl⟩, ⟨rfl, intEq (by rw [szSum_next (by omega)]; omega), trivial⟩, trivial, ⟨rfl, rfl⟩, ⟨rfl, rfl⟩⟩, (by first | omega | (simp only [nr]; omega))⟩
  ·
   have h2r := h2
   try simp only [nq, nr] at h2
   refine a_exit ?_
   refine a_seq ?_
   refine a_seq ?_
   have hsr := szSum_rng (k := k) (by omega) hk.2.2
   refine a_region (by kernel_rfl) ?_
   refine op_v' (j_fldp fld26f0 rfl rfl) ?_
   refine op_v' (j_load_box leaf23 rfl rfl rfl) ?_
   refine op_v' (j_len_map Try.underlying23 rfl) ?_
   refine op_v' (j_lt rfl rfl) ?_
   refine op_v' (j_move (evo rfl)) ?_
   refine op_split' 43 rfl (fun h5 => ?_) (fun h5 => ?_)
   ·
    have h5r := h5
    try simp only [nq, nr] at h5
    refine op_v' (j_unwantV rfl rfl h5r) ?_
    refine op_v' (j_unwantV rfl rfl h5r) ?_
    refine op_v' (j_unwantV rfl rfl h5r) ?_
    refine op_v' (j_unwantV rfl rfl h5r) ?_
    refine op_v' (j_pick_t rfl h5r (evo rfl)) ?_
    refine op_v' (j_move (evo rfl)) ?_
    refine op_v' (j_unwantV rfl rfl rfl) ?_
    refine op_v' (j_unwantV rfl rfl rfl) ?_
    refine op_v' (j_pick_t rfl rfl (evo rfl)) ?_
    refine op_v' (j_move (evo rfl)) ?_
    refine op_v' (j_unwantV rfl rfl rfl) ?_
    refine op_v' (j_unwantV rfl rfl rfl) ?_
    refine op_v' (j_unwantV rfl rfl rfl) ?_
    refine op_v' (j_unwantV rfl rfl rfl) ?_
    refine op_v' (j_pick_t rfl rfl (evo rfl)) ?_
    refine op_nil ?_
    refine a_tt rfl ?_
    refine a_seq ?_
    refine a_region (by kernel_rfl) ?_
    refine op_v' (j_assign (evo rfl)) ?_
    refine op_nil ?_
    refine a_ret ?_
    exact ⟨[.p _], .p _, [], [], [], ⟨rfl, trivial⟩, rfl, rfl, trivial, rfl, rfl, ⟨boolEq (by symm; first | exact mOk_s (szs_no (.inl (by omega))) | exact mOk_l (by omega) | (have hkl : k = m.1.length := (by omega); subst hkl; rw [List.take_length] at *; exact mOk_s (szs_no (.inr (.inr (by omega)))))), rfl, rfl⟩⟩
   ·
    have h5r := h5
    try simp only [nq, nr] at h5
    refine op_v' (j_want rfl rfl h5r (j_fldp fld26f0 rfl rfl)) ?_
    refine op_v' (j_want rfl rfl h5r (j_load_box leaf23 rfl rfl rfl)) ?_
    refine op_v' (j_want rfl rfl h5r (j_len_map Try.underlying23 rfl)) ?_
    refine op_v' (j_want rfl rfl h5r (j_gt rfl rfl)) ?_
    refine op_v' (j_pick_f rfl h5r (evo rfl)) ?_
    refine op_v' (j_move (evo rfl)) ?_
    refine op_split' 49 rfl (fun h6 => ?_) (fun h6 => ?_)
    ·
     have h6r := h6
     try simp only [nq, nr] at h6
     refine op_v' (j_unwantV rfl rfl h6r) ?_
     refine op_v' (j_unwantV rfl rfl h6r) ?_
     refine op_v' (j_pick_t rfl h6r (evo rfl)) ?_
     refine op_v' (j_move (evo rfl)) ?_
     refine op_v' (j_unwantV rfl rfl rfl) ?_
     refine op_v' (j_unwantV rfl rfl rfl) ?_
     refine op_v' (j_unwantV rfl rfl rfl) ?_
     refine op_v' (j_unwantV rfl rfl rfl) ?_
     refine op_v' (j_pick_t rfl rfl (evo rfl)) ?_
     refine op_nil ?_
     refine a_tt rfl ?_
     refine a_seq ?_
     refine a_region (by kernel_rfl) ?_
     refine op_v' (j_assign (evo rfl)) ?_
     refine op_nil ?_
     refine a_ret ?_
     exact ⟨[.p _], .p _, [], [], [], ⟨rfl, trivial⟩, rfl, rfl, trivial, rfl, rfl, ⟨boolEq (by symm; first | exact mOk_s (szs_no (.inl (by omega))) | exact mOk_l (by omega) | (have hkl : k = m.1.length := (by omega); subst hkl; rw [List.take_length] at *; exact mOk_s (szs_no (.inr (.inr (by omega)))))), rfl, rfl⟩⟩
    ·
     have h6r := h6
     try simp only [nq, nr] at h6
     refine op_v' (j_want rfl rfl h6r (j_move (evo rfl))) ?_
     refine op_v' (j_want rfl rfl h6r (j_gt rfl rfl)) ?_
     refine op_v' (j_pick_f rfl h6r (evo rfl)) ?_
     refine op_v' (j_move (evo rfl)) ?_
     refine op_split' 53 rfl (fun h7 => ?_) (fun h7 => ?_)
     ·
      have h7r := h7
      try simp only [nq, nr] at h7
      refine op_v' (j_unwantV rfl rfl h7r) ?_
      refine op_v' (j_unwantV rfl rfl h7r) ?_
      refine op_v' (j_unwantV rfl rfl h7r) ?_
      refine op_v' (j_unwantV rfl rfl h7r) ?_
      refine op_v' (j_pick_t rfl h7r (evo rfl)) ?_
      refine op_nil ?_
      refine a_tt rfl ?_
      refine a_seq ?_
      refine a_region (by kernel_rfl) ?_
      refine op_v' (j_assign (evo rfl)) ?_
      refine op_nil ?_
      refine a_ret ?_
      exact ⟨[.p _], .p _, [], [], [], ⟨rfl, trivial⟩, rfl, rfl, trivial, rfl, rfl, ⟨boolEq (by symm; first | exact mOk_s (szs_no (.inl (by omega))) | exact mOk_l (by omega) | (have hkl : k = m.1.length := (by omega); subst hkl; rw [List.take_length] at *; exact mOk_s (szs_no (.inr (.inr (by omega)))))), rfl, rfl⟩⟩
     ·
      have h7r := h7
      try simp only [nq, nr] at h7
      refine op_v' (j_want rfl rfl h7r (j_fldp fld26f1 rfl rfl)) ?_
      refine op_v' (j_want rfl rfl h7r (j_load_box leaf24 rfl rfl rfl)) ?_
      refine op_v' (j_want rfl rfl h7r (j_len_map Try.underlying24 rfl)) ?_
      refine op_v' (j_want rfl rfl h7r (j_gt rfl rfl)) ?_
      refine op_v' (j_pick_f rfl h7r (evo rfl)) ?_
      refine op_nil ?_
      refine a_cond rfl (fun h8 => ?_) (fun h8 => ?_)
      ·
       have h8r := h8
       try simp only [nq, nr] at h8
       refine a_seq ?_
       refine a_region (by kernel_rfl) ?_
       refine op_v' (j_assign (evo rfl)) ?_
       refine op_nil ?_
       refine a_ret ?_
       exact ⟨[.p _], .p _, [], [], [], ⟨rfl, trivial⟩, rfl, rfl, trivial, rfl, rfl, ⟨boolEq (by symm; first | exact mOk_s (szs_no (.inl (by omega))) | exact mOk_l (by omega) | (have hkl : k = m.1.length := (by omega); subst hkl; rw [List.take_length] at *; exact mOk_s (szs_no (.inr (.inr (by omega)))))), rfl, rfl⟩⟩
      ·
       have h8r := h8
       try simp only [nq, nr] at h8
       refine a_skip ?_
       refine a_seq ?_
       refine a_seq ?_
       obtain rfl : k = m.1.length := by omega
       have hka := hk.2.2
       have htl : szSum (m.1.take m.1.length) = szSum m.1 := by rw [List.take_length]
       rw [List.take_length] at hka
       have hso : szsOk m.1 = true := szs_of (by omega) hka (by omega)
       refine a_region (by kernel_rfl) ?_
       refine op_v' (j_assign (evo rfl)) ?_
       refine op_nil ?_
       refine a_block ?_
       refine a_loopF' (ι := Nat) (fun q => q ≤ m.2.length ∧ (m.2.take q).all (rOk m.1.length) = true) (fun q r => (5, .p (.int .i64 ((q : Nat)))) :: r) (fun q r => r) (fun q => m.2.length - q) (fun _ _ => rfl) (fun _ _ => rfl) 0 ⟨Nat.zero_le _, rfl⟩ ⟨⟨rfl, rfl⟩, ⟨rfl, trivial⟩, trivial, ⟨rfl, rfl⟩, ⟨rfl, rfl⟩⟩ ?_
       intro q hq
       refine a_seq ?_
       refine a_seq ?_
       refine a_region (by kernel_rfl) ?_
       refine op_v' (j_move (evo rfl)) ?_
       refine op_v' (j_fldp fld26f1 rfl rfl) ?_
       refine op_v' (j_load_box leaf24 rfl rfl rfl) ?_
       refine op_v' (j_len_map Try.underlying24 rfl) ?_
       refine op_v' (j_lt rfl rfl) ?_
       refine op_nil ?_
       refine a_cond rfl (fun h9 => ?_) (fun h9 => ?_)
       ·
        have h9r := h9
        try simp only [nq, nr] at h9
        refine a_skip ?_
        refine a_seq ?_
        refine a_block ?_
        refine a_seq ?_
        refine a_draw mixed (by kernel_rfl) (by kernel_rfl) fun vf => ?_
        refine d_v' (j_loada_box (ys := [.sl _, .sl _]) agg26 rfl rfl rfl (Nat.le_of_ble_eq_true rfl)) ?_
        refine d_v' (j_fldp fld26f1 rfl rfl) ?_
        refine d_v' (j_load_box leaf24 rfl rfl rfl) ?_
        refine d_v' (j_move (evo rfl)) ?_
        refine d_v' (j_elemN slt24 rfl rfl rfl (at_map (by first | omega | (simp only [nr]; omega))) rfl) ?_
        refine d_v' (j_loada_el (ys := [.p _, .sl _, .sl _, .p _, .sl _]) agg43 rfl (at_map (by first | omega | (simp only [nr]; omega))) rfl (Nat.le_refl _)) ?_
        refine d_v0' (j_call0 (v := .p _) (hp1 := []) [] false [] ent113 (f_l6Rule m (m.2.getD q default) (by omega)) ⟨.inl ⟨rfl, rfl⟩, .inl ⟨rfl, rfl⟩, trivial⟩ trivial rfl rfl (fun h => by cases h) rfl (fun _ h => by cases h) (.inl rfl) rfl rfl) ?_
        refine d_v' (j_not rfl) ?_
        refine d_nil (by kernel_rfl) (by kernel_rfl) ?_
        refine a_cond rfl (fun h10 => ?_) (fun h10 => ?_)
        ·
         have h10r := h10
         try simp only [nq, nr] at h10
         refine a_seq ?_
         refine a_region (by kernel_rfl) ?_
         refine op_v' (j_assign (evo rfl)) ?_
         refine op_nil ?_
         refine a_ret ?_
         exact ⟨[.p _], .p _, [], [], [], ⟨rfl, trivial⟩, rfl, rfl, trivial, rfl, rfl, ⟨boolEq (by symm; exact mOk_r (all_no (d := default) (k := q) (by omega) (by assumption))), rfl, rfl⟩⟩
        ·
         have h10r := h10
         try simp only [nq, nr] at h10
         refine a_skip ?_
         refine a_region (by kernel_rfl) ?_
         refine op_v' (j_move (evo rfl)) ?_
         refine op_v' (j_add rfl rfl (by first | omega | (simp only [nr]; omega)) (by first | omega | (simp only [nr]; omega))) ?_
         refine op_v' (j_assign (evo rfl)) ?_
         refine op_nil ?_
         exact ⟨q + 1, ⟨by omega, all_next (d := default) hq.2 (by omega) (by assumption)⟩, ⟨⟨rfl, rfl⟩, ⟨rfl, trivial⟩, trivial, ⟨rfl, rfl⟩, ⟨rfl, rfl⟩⟩, (by first | omega | (simp only [nr]; omega))⟩
       ·
        have h9r := h9
        try simp only [nq, nr] at h9
        refine a_exit ?_
        refine a_seq ?_
        refine a_region (by kernel_rfl) ?_
        refine op_v' (j_assign (evo rfl)) ?_
        refine op_nil ?_
        refine a_ret ?_
        exact ⟨[.p _], .p _, [], [], [], ⟨rfl, trivial⟩, rfl, rfl, trivial, rfl, rfl, ⟨boolEq (by rw [mOk_of hso (by omega)]; symm; exact all_full hq.2 (by omega)), rfl, rfl⟩⟩
 ·
  have h1r := h1
  try simp only [nq, nr] at h1
  refine op_v' (j_unwantV rfl rfl h1r) ?_
  refine op_v' (j_unwantV rfl rfl h1r) ?_
  refine op_v' (j_pick_f rfl h1r (evo rfl)) ?_
  refine op_nil ?_
  refine a_ff rfl ?_
  refine a_exit ?_
  refine a_seq ?_
  refine a_seq ?_
  have hsr := szSum_rng (k := k) (by omega) hk.2.2
  refine a_region (by kernel_rfl) ?_
  refine op_v' (j_fldp fld26f0 rfl rfl) ?_
  refine op_v' (j_load_box leaf23 rfl rfl rfl) ?_
  refine op_v' (j_len_map Try.underlying23 rfl) ?_
  refine op_v' (j_lt rfl rfl) ?_
  refine op_v' (j_move (evo rfl)) ?_
  refine op_split' 43 rfl (fun h11 => ?_) (fun h11 => ?_)
  ·
   have h11r := h11
   try simp only [nq, nr] at h11
   refine op_v' (j_unwantV rfl rfl h11r) ?_
   refine op_v' (j_unwantV rfl rfl h11r) ?_
   refine op_v' (j_unwantV rfl rfl h11r) ?_
   refine op_v' (j_unwantV rfl rfl h11r) ?_
   refine op_v' (j_pick_t rfl h11r (evo rfl)) ?_
   refine op_v' (j_move (evo rfl)) ?_
   refine op_v' (j_unwantV rfl rfl rfl) ?_
   refine op_v' (j_unwantV rfl rfl rfl) ?_
   refine op_v' (j_pick_t rfl rfl (evo rfl)) ?_
   refine op_v' (j_move (evo rfl)) ?_
   refine op_v' (j_unwantV rfl rfl rfl) ?_
   refine op_v' (j_unwantV rfl rfl rfl) ?_
   refine op_v' (j_unwantV rfl rfl rfl) ?_
   refine op_v' (j_unwantV rfl rfl rfl) ?_
   refine op_v' (j_pick_t rfl rfl (evo rfl)) ?_
   refine op_nil ?_
   refine a_tt rfl ?_
   refine a_seq ?_
   refine a_region (by kernel_rfl) ?_
   refine op_v' (j_assign (evo rfl)) ?_
   refine op_nil ?_
   refine a_ret ?_
   exact ⟨[.p _], .p _, [], [], [], ⟨rfl, trivial⟩, rfl, rfl, trivial, rfl, rfl, ⟨boolEq (by symm; first | exact mOk_s (szs_no (.inl (by omega))) | exact mOk_l (by omega) | (have hkl : k = m.1.length := (by omega); subst hkl; rw [List.take_length] at *; exact mOk_s (szs_no (.inr (.inr (by omega)))))), rfl, rfl⟩⟩
  ·
   have h11r := h11
   try simp only [nq, nr] at h11
   refine op_v' (j_want rfl rfl h11r (j_fldp fld26f0 rfl rfl)) ?_
   refine op_v' (j_want rfl rfl h11r (j_load_box leaf23 rfl rfl rfl)) ?_
   refine op_v' (j_want rfl rfl h11r (j_len_map Try.underlying23 rfl)) ?_
   refine op_v' (j_want rfl rfl h11r (j_gt rfl rfl)) ?_
   refine op_v' (j_pick_f rfl h11r (evo rfl)) ?_
   refine op_v' (j_move (evo rfl)) ?_
   refine op_split' 49 rfl (fun h12 => ?_) (fun h12 => ?_)
   ·
    have h12r := h12
    try simp only [nq, nr] at h12
    refine op_v' (j_unwantV rfl rfl h12r) ?_
    refine op_v' (j_unwantV rfl rfl h12r) ?_
    refine op_v' (j_pick_t rfl h12r (evo rfl)) ?_
    refine op_v' (j_move (evo rfl)) ?_
    refine op_v' (j_unwantV rfl rfl rfl) ?_
    refine op_v' (j_unwantV rfl rfl rfl) ?_
    refine op_v' (j_unwantV rfl rfl rfl) ?_
    refine op_v' (j_unwantV rfl rfl rfl) ?_
    refine op_v' (j_pick_t rfl rfl (evo rfl)) ?_
    refine op_nil ?_
    refine a_tt rfl ?_
    refine a_seq ?_
    refine a_region (by kernel_rfl) ?_
    refine op_v' (j_assign (evo rfl)) ?_
    refine op_nil ?_
    refine a_ret ?_
    exact ⟨[.p _], .p _, [], [], [], ⟨rfl, trivial⟩, rfl, rfl, trivial, rfl, rfl, ⟨boolEq (by symm; first | exact mOk_s (szs_no (.inl (by omega))) | exact mOk_l (by omega) | (have hkl : k = m.1.length := (by omega); subst hkl; rw [List.take_length] at *; exact mOk_s (szs_no (.inr (.inr (by omega)))))), rfl, rfl⟩⟩
   ·
    have h12r := h12
    try simp only [nq, nr] at h12
    refine op_v' (j_want rfl rfl h12r (j_move (evo rfl))) ?_
    refine op_v' (j_want rfl rfl h12r (j_gt rfl rfl)) ?_
    refine op_v' (j_pick_f rfl h12r (evo rfl)) ?_
    refine op_v' (j_move (evo rfl)) ?_
    refine op_split' 53 rfl (fun h13 => ?_) (fun h13 => ?_)
    ·
     have h13r := h13
     try simp only [nq, nr] at h13
     refine op_v' (j_unwantV rfl rfl h13r) ?_
     refine op_v' (j_unwantV rfl rfl h13r) ?_
     refine op_v' (j_unwantV rfl rfl h13r) ?_
     refine op_v' (j_unwantV rfl rfl h13r) ?_
     refine op_v' (j_pick_t rfl h13r (evo rfl)) ?_
     refine op_nil ?_
     refine a_tt rfl ?_
     refine a_seq ?_
     refine a_region (by kernel_rfl) ?_
     refine op_v' (j_assign (evo rfl)) ?_
     refine op_nil ?_
     refine a_ret ?_
     exact ⟨[.p _], .p _, [], [], [], ⟨rfl, trivial⟩, rfl, rfl, trivial, rfl, rfl, ⟨boolEq (by symm; first | exact mOk_s (szs_no (.inl (by omega))) | exact mOk_l (by omega) | (have hkl : k = m.1.length := (by omega); subst hkl; rw [List.take_length] at *; exact mOk_s (szs_no (.inr (.inr (by omega)))))), rfl, rfl⟩⟩
    ·
     have h13r := h13
     try simp only [nq, nr] at h13
     refine op_v' (j_want rfl rfl h13r (j_fldp fld26f1 rfl rfl)) ?_
     refine op_v' (j_want rfl rfl h13r (j_load_box leaf24 rfl rfl rfl)) ?_
     refine op_v' (j_want rfl rfl h13r (j_len_map Try.underlying24 rfl)) ?_
     refine op_v' (j_want rfl rfl h13r (j_gt rfl rfl)) ?_
     refine op_v' (j_pick_f rfl h13r (evo rfl)) ?_
     refine op_nil ?_
     refine a_cond rfl (fun h14 => ?_) (fun h14 => ?_)
     ·
      have h14r := h14
      try simp only [nq, nr] at h14
      refine a_seq ?_
      refine a_region (by kernel_rfl) ?_
      refine op_v' (j_assign (evo rfl)) ?_
      refine op_nil ?_
      refine a_ret ?_
      exact ⟨[.p _], .p _, [], [], [], ⟨rfl, trivial⟩, rfl, rfl, trivial, rfl, rfl, ⟨boolEq (by symm; first | exact mOk_s (szs_no (.inl (by omega))) | exact mOk_l (by omega) | (have hkl : k = m.1.length := (by omega); subst hkl; rw [List.take_length] at *; exact mOk_s (szs_no (.inr (.inr (by omega)))))), rfl, rfl⟩⟩
     ·
      have h14r := h14
      try simp only [nq, nr] at h14
      refine a_skip ?_
      refine a_seq ?_
      refine a_seq ?_
      obtain rfl : k = m.1.length := by omega
      have hka := hk.2.2
      have htl : szSum (m.1.take m.1.length) = szSum m.1 := by rw [List.take_length]
      rw [List.take_length] at hka
      have hso : szsOk m.1 = true := szs_of (by omega) hka (by omega)
      refine a_region (by kernel_rfl) ?_
      refine op_v' (j_assign (evo rfl)) ?_
      refine op_nil ?_
      refine a_block ?_
      refine a_loopF' (ι := Nat) (fun q => q ≤ m.2.length ∧ (m.2.take q).all (rOk m.1.length) = true) (fun q r => (5, .p (.int .i64 ((q : Nat)))) :: r) (fun q r => r) (fun q => m.2.length - q) (fun _ _ => rfl) (fun _ _ => rfl) 0 ⟨Nat.zero_le _, rfl⟩ ⟨⟨rfl, rfl⟩, ⟨rfl, trivial⟩, trivial, ⟨rfl, rfl⟩, ⟨rfl, rfl⟩⟩ ?_
      intro q hq
      refine a_seq ?_
      refine a_seq ?_
      refine a_region (by kernel_rfl) ?_
      refine op_v' (j_move (evo rfl)) ?_
      refine op_v' (j_fldp fld26f1 rfl rfl) ?_
      refine op_v' (j_load_box leaf24 rfl rfl rfl) ?_
      refine op_v' (j_len_map Try.underlying24 rfl) ?_
      refine op_v' (j_lt rfl rfl) ?_
      refine op_nil ?_
      refine a_cond rfl (fun h15 => ?_) (fun h15 => ?_)
      ·
       have h15r := h15
       try simp only [nq, nr] at h15
       refine a_skip ?_
       refine a_seq ?_
       refine a_block ?_
       refine a_seq ?_
       refine a_draw mixed (by kernel_rfl) (by kernel_rfl) fun vf => ?_
       refine d_v' (j_loada_box (ys := [.sl _, .sl _]) agg26 rfl rfl rfl (Nat.le_of_ble_eq_true rfl)) ?_
       refine d_v' (j_fldp fld26f1 rfl rfl) ?_
       refine d_v' (j_load_box leaf24 rfl rfl rfl) ?_
       refine d_v' (j_move (evo rfl)) ?_
       refine d_v' (j_elemN slt24 rfl rfl rfl (at_map (by first | omega | (simp only [nr]; omega))) rfl) ?_
       refine d_v' (j_loada_el (ys := [.p _, .sl _, .sl _, .p _, .sl _]) agg43 rfl (at_map (by first | omega | (simp only [nr]; omega))) rfl (Nat.le_refl _)) ?_
       refine d_v0' (j_call0 (v := .p _) (hp1 := []) [] false [] ent113 (f_l6Rule m (m.2.getD q default) (by omega)) ⟨.inl ⟨rfl, rfl⟩, .inl ⟨rfl, rfl⟩, trivial⟩ trivial rfl rfl (fun h => by cases h) rfl (fun _ h => by cases h) (.inl rfl) rfl rfl) ?_
       refine d_v' (j_not rfl) ?_
       refine d_nil (by kernel_rfl) (by kernel_rfl) ?_
       refine a_cond rfl (fun h16 => ?_) (fun h16 => ?_)
       ·
        have h16r := h16
        try simp only [nq, nr] at h16
        refine a_seq ?_
        refine a_region (by kernel_rfl) ?_
        refine op_v' (j_assign (evo rfl)) ?_
        refine op_nil ?_
        refine a_ret ?_
        exact ⟨[.p _], .p _, [], [], [], ⟨rfl, trivial⟩, rfl, rfl, trivial, rfl, rfl, ⟨boolEq (by symm; exact mOk_r (all_no (d := default) (k := q) (by omega) (by assumption))), rfl, rfl⟩⟩
       ·
        have h16r := h16
        try simp only [nq, nr] at h16
        refine a_skip ?_
        refine a_region (by kernel_rfl) ?_
        refine op_v' (j_move (evo rfl)) ?_
        refine op_v' (j_add rfl rfl (by first | omega | (simp only [nr]; omega)) (by first | omega | (simp only [nr]; omega))) ?_
        refine op_v' (j_assign (evo rfl)) ?_
        refine op_nil ?_
        exact ⟨q + 1, ⟨by omega, all_next (d := default) hq.2 (by omega) (by assumption)⟩, ⟨⟨rfl, rfl⟩, ⟨rfl, trivial⟩, trivial, ⟨rfl, rfl⟩, ⟨rfl, rfl⟩⟩, (by first | omega | (simp only [nr]; omega))⟩
      ·
       have h15r := h15
       try simp only [nq, nr] at h15
       refine a_exit ?_
       refine a_seq ?_
       refine a_region (by kernel_rfl) ?_
       refine op_v' (j_assign (evo rfl)) ?_
       refine op_nil ?_
       refine a_ret ?_
       exact ⟨[.p _], .p _, [], [], [], ⟨rfl, trivial⟩, rfl, rfl, trivial, rfl, rfl, ⟨boolEq (by rw [mOk_of hso (by omega)]; symm; exact all_full hq.2 (by omega)), rfl, rfl⟩⟩


theorem f_domains (m : Md) (b : Bool) (hs : m.1.length ≤ 5 ∧ ∀ k, k < m.1.length → 0 ≤ m.1.getD k default ∧ m.1.getD k default ≤ 3) : Fn Try.prog 54 [.agg [.sl (m.1.map dI), .sl (m.2.map dR)], .p (.bool (b))] [] (fun rr ii nn => rr = .own 0 0 ∧ ii = [] ∧ nn = [.deep (.mk 34 1 [(0, .mk 4 1 [])]) ((fdL b m.1).map dD) none]) := by
 refine fn_of Try.func54 rfl (Nat.le_of_ble_eq_true rfl) fun w X g => ?_
 show AWp _ _ _ ⟨[(0, .agg [.sl (m.1.map dI), .sl (m.2.map dR)]), (1, .p (.bool (b)))], []⟩
 refine a_seq ?_
 refine a_region (by kernel_rfl) ?_
 refine op_n' (fun ver => j_boxa rfl) fun v2x1 => ?_
 refine op_v' (j_assign (evo rfl)) ?_
 refine op_nil ?_
 refine a_seq ?_
 refine a_region (by kernel_rfl) ?_
 refine op_v' (j_assign (evo rfl)) ?_
 refine op_nil ?_
 refine a_adopt' 5 5 34 1 rfl fun v5 => ?_
 refine a_todeep 5 0 (.mk 34 1 [(0, (.mk 4 1 []))]) (zs := []) (zs' := []) rfl rfl rfl rfl eat_end rfl ?_
 refine a_seq ?_
 refine a_seq ?_
 refine a_region (by kernel_rfl) ?_
 refine op_v' (j_fldp fld26f0 rfl rfl) ?_
 refine op_v' (j_load_box leaf23 rfl rfl rfl) ?_
 refine op_v' (j_len_map Try.underlying23 rfl) ?_
 refine op_v' (j_move (evo rfl)) ?_
 refine op_nil ?_
 refine a_block ?_
 refine a_loopF' (ι := Nat × Nat) (fun x => x.1 ≤ m.1.length) (fun x r => (13, .p (.int .i64 ((x.1 : Nat)))) :: (5, .own 5 x.2) :: r) (fun x r => (5, some (x.2, .deep (.mk 34 1 [(0, .mk 4 1 [])]) ((fdL b (m.1.take x.1)).map dD) none)) :: r) (fun x => m.1.length - x.1) (fun _ _ => rfl) (fun _ _ => rfl) (0, v5) (by first | exact (Nat.zero_le _) | (dsimp only; exact (Nat.zero_le _))) ⟨⟨rfl, rfl⟩, ⟨rfl, rfl, trivial⟩, ⟨rfl, trivial⟩, ⟨rfl, rfl⟩, ⟨rfl, rfl⟩⟩ ?_
 rintro ⟨k, v⟩ hk; dsimp only at hk ⊢
 refine a_seq ?_
 refine a_region (by kernel_rfl) ?_
 refine op_v' (j_lt rfl rfl) ?_
 refine op_nil ?_
 refine a_seq ?_
 refine a_cond rfl (fun h1 => ?_) (fun h1 => ?_)
 ·
  have h1r := h1
  try simp only [nq, nr, nl, List.length_replicate, fdL_len, wr_length] at h1
  refine a_skip ?_
  refine a_seq ?_
  refine a_block ?_
  refine a_seq ?_
  have hsk := hs.2 k (by omega)
  refine a_region (by kernel_rfl) ?_
  refine op_v' (j_elemN slt23 rfl rfl rfl (at_map (by first | omega | (simp only [nr, nl, List.length_replicate, fdL_len, wr_length]; omega))) rfl) ?_
  refine op_v' (j_load_el leaf3 rfl (at_map (by first | omega | (simp only [nr, nl, List.length_replicate, fdL_len, wr_length]; omega))) rfl) ?_
  refine op_v' (j_assign (evo rfl)) ?_
  refine op_nil ?_
  refine a_seq ?_
  refine a_region (by kernel_rfl) ?_
  refine op_v' (j_move (evo rfl)) ?_
  refine op_v' (j_add rfl rfl (by first | omega | (simp only [nr, nl, List.length_replicate, fdL_len, wr_length]; omega)) (by first | omega | (simp only [nr, nl, List.length_replicate, fdL_len, wr_length]; omega))) ?_
  refine op_n' (fun ver => j_make (n := ((m.1.getD k default) + 1).toNat) slt34 elt4 rfl rfl (by decide) rfl rfl (by omega) (by omega) (by first | omega | (simp only [nr, nl, List.length_replicate, fdL_len, wr_length]; omega)) (by rw [maxLen_eq]; first | omega | (simp only [nr, nl, List.length_replicate, fdL_len, wr_length]; omega))) fun v19x2 => ?_
  refine op_v' (j_assign (evo rfl)) ?_
  refine op_nil ?_
  refine a_seq ?_
  refine a_seq ?_
  refine a_region (by kernel_rfl) ?_
  refine op_v' (j_move (evo rfl)) ?_
  refine op_v' (j_len_own Try.underlying34 rfl rfl) ?_
  refine op_v' (j_move (evo rfl)) ?_
  refine op_nil ?_
  refine a_block ?_
  refine a_loopF' (ι := Nat) (fun j => j ≤ ((m.1.getD k default) + 1).toNat) (fun j r => (22, .p (.int .i64 ((j : Nat)))) :: r) (fun j r => (19, some (v19x2, .row 4 1 (wr dB (List.replicate ((m.1.getD k default) + 1).toNat b) j (dB false)))) :: r) (fun j => ((m.1.getD k default) + 1).toNat - j) (fun _ _ => rfl) (fun _ _ => rfl) 0 (Nat.zero_le _) ⟨⟨rfl, rfl⟩, ⟨rfl, trivial⟩, ⟨rowEq (by rw [wr_zero, List.length_replicate]; rfl), trivial⟩, ⟨rfl, rfl⟩, ⟨rfl, rfl⟩⟩ ?_
  intro j hj
  refine a_seq ?_
  refine a_region (by kernel_rfl) ?_
  refine op_v' (j_lt rfl rfl) ?_
  refine op_nil ?_
  refine a_seq ?_
  refine a_cond rfl (fun h2 => ?_) (fun h2 => ?_)
  ·
   have h2r := h2
   try simp only [nq, nr, nl, List.length_replicate, fdL_len, wr_length] at h2
   refine a_skip ?_
   refine a_seq ?_
   refine a_block ?_
   refine a_seq ?_
   refine a_region (by kernel_rfl) ?_
   refine op_v' (j_move (evo rfl)) ?_
   refine op_v' (j_assign (evo rfl)) ?_
   refine op_nil ?_
   refine a_region (by kernel_rfl) ?_
   refine op_v' (j_move (evo rfl)) ?_
   refine op_v' (j_move (evo rfl)) ?_
   refine op_v' (j_move (evo rfl)) ?_
   refine op_v' (j_elem_ownN slt34 rfl rfl rfl rfl (by first | omega | (simp only [nr, nl, List.length_replicate, fdL_len, wr_length]; omega))) ?_
   refine op_s' (j_store_row leaf4 rfl rfl (by first | omega | (simp only [nr, nl, List.length_replicate, fdL_len, wr_length]; omega)) (evo rfl) rfl rfl) ?_
   refine op_nil ?_
   refine a_region (by kernel_rfl) ?_
   refine op_v' (j_add rfl rfl (by first | omega | (simp only [nr, nl, List.length_replicate, fdL_len, wr_length]; omega)) (by first | omega | (simp only [nr, nl, List.length_replicate, fdL_len, wr_length]; omega))) ?_
   refine op_v' (j_move (evo rfl)) ?_
   refine op_nil ?_
   exact ⟨j + 1, (by first | omega | (simp only [nr, nl, List.length_replicate, fdL_len, wr_length]; omega)), ⟨⟨rfl, rfl⟩, ⟨rfl, trivial⟩, ⟨rowEq (wr_rep (by first | omega | (simp only [nr, nl, List.length_replicate, fdL_len, wr_length]; omega))), trivial⟩, ⟨rfl, rfl⟩, ⟨rfl, rfl⟩⟩, (by first | omega | (simp only [nr, nl, List.length_replicate, fdL_len, wr_length]; omega))⟩
  ·
   have h2r := h2
   try simp only [nq, nr, nl, List.length_replicate, fdL_len, wr_length] at h2
   refine a_exit ?_
   refine a_row 19 (es' := (List.replicate ((m.1.getD k default) + 1).toNat b).map dB) rfl (wr_all (by first | omega | (simp only [nr, nl, List.length_replicate, fdL_len, wr_length]; omega))) ?_
   refine a_region (by kernel_rfl) ?_
   refine op_v' (j_move (evo rfl)) ?_
   refine op_v' (j_move (evo rfl)) ?_
   refine op_n1' (fun ver => j_buildSlice_deep (x := .tmp 31) (t := (.mk 34 1 [(0, (.mk 4 1 []))])) slt28 elt34 rfl rfl rfl (by decide) (by decide) rfl rfl rfl (eat_own rfl rfl rfl eat_end) rfl rfl) fun v32x3 => ?_
   refine op_n1' (fun ver => j_append_deep (by decide) slt28 elt34 rfl rfl rfl rfl rfl rfl rfl rfl (Nat.le_of_ble_eq_true rfl) (by rw [maxLen_eq]; first | omega | (simp only [nr, nl, List.length_replicate, fdL_len, wr_length]; omega)) (by first | omega | (simp only [nr, nl, List.length_replicate, fdL_len, wr_length]; omega))) fun v5x4 => ?_
   refine op_v' (j_assign (evo rfl)) ?_
   refine op_nil ?_
   refine a_region (by kernel_rfl) ?_
   refine op_v' (j_add rfl rfl (by first | omega | (simp only [nr, nl, List.length_replicate, fdL_len, wr_length]; omega)) (by first | omega | (simp only [nr, nl, List.length_replicate, fdL_len, wr_length]; omega))) ?_
   refine op_v' (j_move (evo rfl)) ?_
   refine op_nil ?_
   exact ⟨(k + 1, v5x4), (by first | exact (by first | omega | (simp only [nr, nl, List.length_replicate, fdL_len, wr_length]; omega)) | (dsimp only; exact (by first | omega | (simp only [nr, nl, List.length_replicate, fdL_len, wr_length]; omega)))), ⟨⟨rfl, rfl⟩, ⟨rfl, rfl, trivial⟩, ⟨deepEq (by rw [fdL_next (by omega), List.map_append]; rfl), trivial⟩, ⟨rfl, rfl⟩, ⟨rfl, rfl⟩⟩, (by first | exact (by first | omega | (simp only [nr, nl, List.length_replicate, fdL_len, wr_length]; omega)) | (dsimp only; exact (by first | omega | (simp only [nr, nl, List.length_replicate, fdL_len, wr_length]; omega))))⟩
 ·
  have h1r := h1
  try simp only [nq, nr, nl, List.length_replicate, fdL_len, wr_length] at h1
  refine a_exit ?_
  refine a_seq ?_
  refine a_region (by kernel_rfl) ?_
  refine op_v' (j_move (evo rfl)) ?_
  refine op_v' (j_assign (evo rfl)) ?_
  refine op_nil ?_
  refine a_ret ?_
  exact ⟨[.own 5 v], .own 0 0, [], [.deep (.mk 34 1 [(0, (.mk 4 1 []))]) _ none], [(5, v)], ⟨rfl, trivial⟩, rfl, rfl, ⟨⟨rfl, rfl⟩, trivial⟩, rfl, rfl, ⟨rfl, rfl, by rw [List.take_of_length_le (by omega)]⟩⟩


end Go.Ab

/- Walks. -/
import Derived.Test.YtoodaakcfelaaaaGreatBase
import Derived.Test.YtoodaakcfelaaaaGreatSimp
import Derived.Test.YtoodaakcfelaaaaGreatWscons
import Derived.Test.YtoodaakcfelaaaaGreatVals
namespace Go.Ab
open Go.Proofs
set_option maxRecDepth 100000
set_option maxHeartbeats 8000000
set_option linter.unusedSimpArgs false
set_option linter.unusedVariables false
theorem f_areVars (vs : List Int) : Fn Tryz.prog 70 [.sl (vs.map dI)] [] (fun rr ii nn => rr = .p (.bool (varsFrom 0 vs)) ∧ ii = [] ∧ nn = []) := by
 refine fn_of Tryz.func70 rfl (Nat.le_of_ble_eq_true rfl) fun w X g => ?_
 show AWp _ _ _ ⟨[(0, .sl (vs.map dI))], []⟩
 refine a_len_map 0 rfl fun hlen => ?_
 refine rs ?_
 refine oa rfl ?_
 refine on ?_
 refine a_seq ?_
 refine rs ?_
 refine om rfl ?_
 refine op_v' (j_len_map Tryz.underlying23 rfl) ?_
 refine om rfl ?_
 refine on ?_
 refine a_block ?_
 refine a_loopF' (ι := Nat) (fun k => k ≤ vs.length ∧ varsFrom 0 vs = varsFrom (prevI vs k) (vs.drop k)) (fun k r => (7, .p (.int .i64 ((k : Nat)))) :: r) (fun k r => r) (fun k => vs.length - k) (fun _ _ => rfl) (fun _ _ => rfl) 0 ⟨Nat.zero_le _, rfl⟩ ⟨⟨rfl, rfl⟩, ⟨rfl, trivial⟩, trivial, ⟨rfl, rfl⟩, ⟨rfl, rfl⟩⟩ ?_
 intro k hpre
 refine rs ?_
 refine op_v' (j_lt rfl rfl) ?_
 refine on ?_
 refine a_seq ?_
 refine ac rfl (fun h1 => ?_) fun h1 => ?_
 ·
  have h1r := h1
  try simp only [nq, nr] at h1
  refine a_skip ?_
  refine a_seq ?_
  refine a_block ?_
  refine rs ?_
  refine om rfl ?_
  refine op_v' (j_elemN slt23 rfl rfl rfl (at_map (by omega)) rfl) ?_
  refine op_v' (j_load_el leaf3 rfl (at_map (by omega)) rfl) ?_
  refine oa rfl ?_
  refine oa rfl ?_
  refine on ?_
  refine rs ?_
  refine om rfl ?_
  refine op_v0' (j_call0 (v := .p _) (hp1 := []) [] false [] ent113 (f_within _ _ _) ⟨.inl ⟨rfl, rfl⟩, .inl ⟨rfl, rfl⟩, .inl ⟨rfl, rfl⟩, trivial⟩ trivial rfl rfl (fun h => by cases h) rfl (fun _ h => by cases h) (.inl rfl) rfl rfl) ?_
  refine op_v' (j_not rfl) ?_
  refine om rfl ?_
  refine op_split' 15 rfl (fun h2 => ?_) (fun h2 => ?_)
  ·
   have h2r := h2
   try simp only [nq, nr] at h2
   refine op_v' (j_unwantV rfl rfl h2r) ?_
   refine op_v' (j_unwantV rfl rfl h2r) ?_
   refine op_v' (j_unwantV rfl rfl h2r) ?_
   refine op_v' (j_unwantU rfl rfl) ?_
   refine op_v' (j_unwantU rfl rfl) ?_
   refine op_v' (j_unwantU rfl rfl) ?_
   refine op_v' (j_unwantU rfl rfl) ?_
   refine op_v' (j_unwantU rfl rfl) ?_
   refine op_v' (j_unwantU rfl rfl) ?_
   refine op_v' (j_unwantU rfl rfl) ?_
   refine op_v' (j_unwantV rfl rfl h2r) ?_
   refine op_v' (j_pick_t rfl h2r (evo rfl)) ?_
   refine on ?_
   refine a_tt rfl ?_
   refine rs ?_
   refine oa rfl ?_
   refine on ?_
   refine a_ret ?_
   exact fin_p rfl ⟨boolEq (by symm; rw [hpre.2, drop_getD (d := default) (by omega), (varsFrom_bad (by rintro ⟨a1, a2, a3⟩; first | omega | (rw [prevI_pos (by omega)] at a1; omega)))]), rfl, rfl⟩
  have h2r := h2
  try simp only [nq, nr] at h2
  refine op_v' (j_want rfl rfl h2r (j_move (evo rfl))) ?_
  refine op_v' (j_want rfl rfl h2r (j_gt rfl rfl)) ?_
  refine op_v' (j_want rfl rfl h2r (j_move (evo rfl))) ?_
  refine op_split' 18 rfl (fun h3 => ?_) (fun h3 => ?_)
  ·
   have h3r := h3
   try simp only [nq, nr] at h3
   refine op_v' (j_want rfl rfl h3r (j_move (evo rfl))) ?_
   refine op_v' (j_want rfl rfl h3r (j_move (evo rfl))) ?_
   refine op_v' (j_want rfl rfl h3r (j_sub rfl rfl (by omega) (by omega))) ?_
   refine op_v' (j_want rfl rfl h3r (j_elemN (n := k - 1) slt23 rfl rfl (by omega) (at_map (by omega)) rfl)) ?_
   refine op_v' (j_want rfl rfl h3r (j_load_el leaf3 rfl (at_map (by omega)) rfl)) ?_
   refine op_v' (j_want rfl rfl h3r (j_move (evo rfl))) ?_
   refine op_v' (j_want rfl rfl h3r (j_ge rfl rfl)) ?_
   refine op_v' (j_want rfl rfl h2r (j_pick_t rfl h3r (evo rfl))) ?_
   refine op_v' (j_pick_f rfl h2r (evo rfl)) ?_
   refine on ?_
   refine ac rfl (fun h4 => ?_) fun h4 => ?_
   ·
    have h4r := h4
    try simp only [nq, nr] at h4
    refine rs ?_
    refine oa rfl ?_
    refine on ?_
    refine a_ret ?_
    exact fin_p rfl ⟨boolEq (by symm; rw [hpre.2, drop_getD (d := default) (by omega), (varsFrom_bad (by rintro ⟨a1, a2, a3⟩; first | omega | (rw [prevI_pos (by omega)] at a1; omega)))]), rfl, rfl⟩
   have h4r := h4
   try simp only [nq, nr] at h4
   refine a_skip ?_
   refine ar ?_
   refine op_v' (j_add rfl rfl (by omega) (by omega)) ?_
   refine om rfl ?_
   refine on ?_
   exact ⟨k + 1, ⟨by omega, by rw [hpre.2, drop_getD (d := default) (by omega), varsFrom_good (by first | (rw [prevI_pos (by omega)]; omega) | (rw [prevI_zero (by omega)]; omega)) (by omega) (by omega), prevI_succ]⟩, ⟨⟨rfl, rfl⟩, ⟨rfl, trivial⟩, trivial, ⟨rfl, rfl⟩, ⟨rfl, rfl⟩⟩, (by omega)⟩
  have h3r := h3
  try simp only [nq, nr] at h3
  refine op_v' (j_unwantV rfl rfl h3r) ?_
  refine op_v' (j_unwantV rfl rfl h3r) ?_
  refine op_v' (j_unwantV rfl rfl h3r) ?_
  refine op_v' (j_unwantV rfl rfl h3r) ?_
  refine op_v' (j_unwantV rfl rfl h3r) ?_
  refine op_v' (j_unwantV rfl rfl h3r) ?_
  refine op_v' (j_unwantV rfl rfl h3r) ?_
  refine op_v' (j_want rfl rfl h2r (j_pick_f rfl h3r (evo rfl))) ?_
  refine op_v' (j_pick_f rfl h2r (evo rfl)) ?_
  refine on ?_
  refine a_ff rfl ?_
  refine a_skip ?_
  refine ar ?_
  refine op_v' (j_add rfl rfl (by omega) (by omega)) ?_
  refine om rfl ?_
  refine on ?_
  exact ⟨k + 1, ⟨by omega, by rw [hpre.2, drop_getD (d := default) (by omega), varsFrom_good (by first | (rw [prevI_pos (by omega)]; omega) | (rw [prevI_zero (by omega)]; omega)) (by omega) (by omega), prevI_succ]⟩, ⟨⟨rfl, rfl⟩, ⟨rfl, trivial⟩, trivial, ⟨rfl, rfl⟩, ⟨rfl, rfl⟩⟩, (by omega)⟩
 have h1r := h1
 try simp only [nq, nr] at h1
 refine a_exit ?_
 refine rs ?_
 refine oa rfl ?_
 refine on ?_
 refine a_ret ?_
 exact fin_p rfl ⟨boolEq (by symm; rw [hpre.2, List.drop_of_length_le (by omega)]; rfl), rfl, rfl⟩
theorem f_l14Vars (vs : List Int) : Fn Tryz.prog 49 [.sl (vs.map dI)] [] (fun rr ii nn => rr = .p (.bool (varsFrom 0 vs)) ∧ ii = [] ∧ nn = []) := by
 refine fn_of Tryz.func49 rfl (Nat.le_of_ble_eq_true rfl) fun w X g => ?_
 show AWp _ _ _ ⟨[(0, .sl (vs.map dI))], []⟩
 refine a_len_map 0 rfl fun hlen => ?_
 refine rs ?_
 refine oa rfl ?_
 refine on ?_
 refine a_seq ?_
 refine rs ?_
 refine oa rfl ?_
 refine on ?_
 refine a_block ?_
 refine a_loopF' (ι := Nat) (fun k => k ≤ vs.length ∧ varsFrom 0 vs = varsFrom (prevI vs k) (vs.drop k)) (fun k r => (3, .p (.int .i64 ((k : Nat)))) :: r) (fun k r => r) (fun k => vs.length - k) (fun _ _ => rfl) (fun _ _ => rfl) 0 ⟨Nat.zero_le _, rfl⟩ ⟨⟨rfl, rfl⟩, ⟨rfl, trivial⟩, trivial, ⟨rfl, rfl⟩, ⟨rfl, rfl⟩⟩ ?_
 intro k hpre
 refine a_seq ?_
 refine rs ?_
 refine om rfl ?_
 refine om rfl ?_
 refine op_v' (j_len_map Tryz.underlying23 rfl) ?_
 refine op_v' (j_lt rfl rfl) ?_
 refine on ?_
 refine ac rfl (fun h1 => ?_) fun h1 => ?_
 ·
  have h1r := h1
  try simp only [nq, nr] at h1
  refine a_skip ?_
  refine a_seq ?_
  refine a_block ?_
  refine a_seq ?_
  refine a_draw mixed (by kernel_rfl) (by kernel_rfl) fun vf => ?_
  refine d_v' (j_move (evo rfl)) ?_
  refine d_v' (j_move (evo rfl)) ?_
  refine d_v' (j_elemN slt23 rfl rfl rfl (at_map (by omega)) rfl) ?_
  refine d_v' (j_load_el leaf3 rfl (at_map (by omega)) rfl) ?_
  refine d_v' (j_lt rfl rfl) ?_
  refine d_v' (j_move (evo rfl)) ?_
  refine d_split' 15 rfl (fun h2 => ?_) (fun h2 => ?_)
  ·
   have h2r := h2
   try simp only [nq, nr] at h2
   refine d_v' (j_unwantV rfl rfl h2r) ?_
   refine d_v' (j_unwantV rfl rfl h2r) ?_
   refine d_v' (j_unwantV rfl rfl h2r) ?_
   refine d_v' (j_unwantV rfl rfl h2r) ?_
   refine d_v' (j_unwantV rfl rfl h2r) ?_
   refine d_v' (j_pick_t rfl h2r (evo rfl)) ?_
   refine d_v' (j_move (evo rfl)) ?_
   refine d_v' (j_unwantV rfl rfl rfl) ?_
   refine d_v' (j_unwantV rfl rfl rfl) ?_
   refine d_v' (j_unwantV rfl rfl rfl) ?_
   refine d_v' (j_unwantU rfl rfl) ?_
   refine d_v' (j_unwantU rfl rfl) ?_
   refine d_v' (j_unwantU rfl rfl) ?_
   refine d_v' (j_unwantU rfl rfl) ?_
   refine d_v' (j_unwantU rfl rfl) ?_
   refine d_v' (j_unwantU rfl rfl) ?_
   refine d_v' (j_unwantU rfl rfl) ?_
   refine d_v' (j_unwantU rfl rfl) ?_
   refine d_v' (j_unwantU rfl rfl) ?_
   refine d_v' (j_unwantU rfl rfl) ?_
   refine d_v' (j_unwantV rfl rfl rfl) ?_
   refine d_v' (j_pick_t rfl rfl (evo rfl)) ?_
   refine d_nil (by kernel_rfl) (by kernel_rfl) ?_
   refine a_tt rfl ?_
   refine rs ?_
   refine oa rfl ?_
   refine on ?_
   refine a_ret ?_
   exact fin_p rfl ⟨boolEq (by symm; rw [hpre.2, drop_getD (d := default) (by omega), (varsFrom_bad (by rintro ⟨a1, a2, a3⟩; first | omega | (rw [prevI_pos (by omega)] at a1; omega)))]), rfl, rfl⟩
  have h2r := h2
  try simp only [nq, nr] at h2
  refine d_v' (j_want rfl rfl h2r (j_move (evo rfl))) ?_
  refine d_v' (j_want rfl rfl h2r (j_move (evo rfl))) ?_
  refine d_v' (j_want rfl rfl h2r (j_elemN slt23 rfl rfl rfl (at_map (by omega)) rfl)) ?_
  refine d_v' (j_want rfl rfl h2r (j_load_el leaf3 rfl (at_map (by omega)) rfl)) ?_
  refine d_v' (j_want rfl rfl h2r (j_gt rfl rfl)) ?_
  refine d_v' (j_pick_f rfl h2r (evo rfl)) ?_
  refine d_v' (j_move (evo rfl)) ?_
  refine d_split' 22 rfl (fun h3 => ?_) (fun h3 => ?_)
  ·
   have h3r := h3
   try simp only [nq, nr] at h3
   refine d_v' (j_unwantV rfl rfl h3r) ?_
   refine d_v' (j_unwantV rfl rfl h3r) ?_
   refine d_v' (j_unwantV rfl rfl h3r) ?_
   refine d_v' (j_unwantU rfl rfl) ?_
   refine d_v' (j_unwantU rfl rfl) ?_
   refine d_v' (j_unwantU rfl rfl) ?_
   refine d_v' (j_unwantU rfl rfl) ?_
   refine d_v' (j_unwantU rfl rfl) ?_
   refine d_v' (j_unwantU rfl rfl) ?_
   refine d_v' (j_unwantU rfl rfl) ?_
   refine d_v' (j_unwantU rfl rfl) ?_
   refine d_v' (j_unwantU rfl rfl) ?_
   refine d_v' (j_unwantU rfl rfl) ?_
   refine d_v' (j_unwantV rfl rfl h3r) ?_
   refine d_v' (j_pick_t rfl h3r (evo rfl)) ?_
   refine d_nil (by kernel_rfl) (by kernel_rfl) ?_
   refine a_tt rfl ?_
   refine rs ?_
   refine oa rfl ?_
   refine on ?_
   refine a_ret ?_
   exact fin_p rfl ⟨boolEq (by symm; rw [hpre.2, drop_getD (d := default) (by omega), (varsFrom_bad (by rintro ⟨a1, a2, a3⟩; first | omega | (rw [prevI_pos (by omega)] at a1; omega)))]), rfl, rfl⟩
  have h3r := h3
  try simp only [nq, nr] at h3
  refine d_v' (j_want rfl rfl h3r (j_move (evo rfl))) ?_
  refine d_v' (j_want rfl rfl h3r (j_gt rfl rfl)) ?_
  refine d_v' (j_want rfl rfl h3r (j_move (evo rfl))) ?_
  refine d_split' 25 rfl (fun h4 => ?_) (fun h4 => ?_)
  ·
   have h4r := h4
   try simp only [nq, nr] at h4
   refine d_v' (j_want rfl rfl h4r (j_move (evo rfl))) ?_
   refine d_v' (j_want rfl rfl h4r (j_move (evo rfl))) ?_
   refine d_v' (j_want rfl rfl h4r (j_sub rfl rfl (by omega) (by omega))) ?_
   refine d_v' (j_want rfl rfl h4r (j_elemN (n := k - 1) slt23 rfl rfl (by omega) (at_map (by omega)) rfl)) ?_
   refine d_v' (j_want rfl rfl h4r (j_load_el leaf3 rfl (at_map (by omega)) rfl)) ?_
   refine d_v' (j_want rfl rfl h4r (j_move (evo rfl))) ?_
   refine d_v' (j_want rfl rfl h4r (j_move (evo rfl))) ?_
   refine d_v' (j_want rfl rfl h4r (j_elemN slt23 rfl rfl rfl (at_map (by omega)) rfl)) ?_
   refine d_v' (j_want rfl rfl h4r (j_load_el leaf3 rfl (at_map (by omega)) rfl)) ?_
   refine d_v' (j_want rfl rfl h4r (j_ge rfl rfl)) ?_
   refine d_v' (j_want rfl rfl h3r (j_pick_t rfl h4r (evo rfl))) ?_
   refine d_v' (j_pick_f rfl h3r (evo rfl)) ?_
   refine d_nil (by kernel_rfl) (by kernel_rfl) ?_
   refine ac rfl (fun h5 => ?_) fun h5 => ?_
   ·
    have h5r := h5
    try simp only [nq, nr] at h5
    refine rs ?_
    refine oa rfl ?_
    refine on ?_
    refine a_ret ?_
    exact fin_p rfl ⟨boolEq (by symm; rw [hpre.2, drop_getD (d := default) (by omega), (varsFrom_bad (by rintro ⟨a1, a2, a3⟩; first | omega | (rw [prevI_pos (by omega)] at a1; omega)))]), rfl, rfl⟩
   have h5r := h5
   try simp only [nq, nr] at h5
   refine a_skip ?_
   refine ar ?_
   refine om rfl ?_
   refine op_v' (j_add rfl rfl (by omega) (by omega)) ?_
   refine oa rfl ?_
   refine on ?_
   exact ⟨k + 1, ⟨by omega, by rw [hpre.2, drop_getD (d := default) (by omega), varsFrom_good (by first | (rw [prevI_pos (by omega)]; omega) | (rw [prevI_zero (by omega)]; omega)) (by omega) (by omega), prevI_succ]⟩, ⟨⟨rfl, rfl⟩, ⟨rfl, trivial⟩, trivial, ⟨rfl, rfl⟩, ⟨rfl, rfl⟩⟩, (by omega)⟩
  have h4r := h4
  try simp only [nq, nr] at h4
  refine d_v' (j_unwantV rfl rfl h4r) ?_
  refine d_v' (j_unwantV rfl rfl h4r) ?_
  refine d_v' (j_unwantV rfl rfl h4r) ?_
  refine d_v' (j_unwantV rfl rfl h4r) ?_
  refine d_v' (j_unwantV rfl rfl h4r) ?_
  refine d_v' (j_unwantV rfl rfl h4r) ?_
  refine d_v' (j_unwantV rfl rfl h4r) ?_
  refine d_v' (j_unwantV rfl rfl h4r) ?_
  refine d_v' (j_unwantV rfl rfl h4r) ?_
  refine d_v' (j_unwantV rfl rfl h4r) ?_
  refine d_v' (j_want rfl rfl h3r (j_pick_f rfl h4r (evo rfl))) ?_
  refine d_v' (j_pick_f rfl h3r (evo rfl)) ?_
  refine d_nil (by kernel_rfl) (by kernel_rfl) ?_
  refine a_ff rfl ?_
  refine a_skip ?_
  refine ar ?_
  refine om rfl ?_
  refine op_v' (j_add rfl rfl (by omega) (by omega)) ?_
  refine oa rfl ?_
  refine on ?_
  exact ⟨k + 1, ⟨by omega, by rw [hpre.2, drop_getD (d := default) (by omega), varsFrom_good (by first | (rw [prevI_pos (by omega)]; omega) | (rw [prevI_zero (by omega)]; omega)) (by omega) (by omega), prevI_succ]⟩, ⟨⟨rfl, rfl⟩, ⟨rfl, trivial⟩, trivial, ⟨rfl, rfl⟩, ⟨rfl, rfl⟩⟩, (by omega)⟩
 have h1r := h1
 try simp only [nq, nr] at h1
 refine a_exit ?_
 refine rs ?_
 refine oa rfl ?_
 refine on ?_
 refine a_ret ?_
 exact fin_p rfl ⟨boolEq (by symm; rw [hpre.2, List.drop_of_length_le (by omega)]; rfl), rfl, rfl⟩
end Go.Ab

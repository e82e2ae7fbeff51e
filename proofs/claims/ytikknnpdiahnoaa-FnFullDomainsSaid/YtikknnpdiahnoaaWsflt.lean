/- Walks. -/
import Derived.Test.YtikknnpdiahnoaaBase
import Derived.Test.YtikknnpdiahnoaaFlt4
import Derived.Test.YtikknnpdiahnoaaFlt3
import Derived.Test.YtikknnpdiahnoaaFlt2
import Derived.Test.YtikknnpdiahnoaaFlt
import Derived.Test.YtikknnpdiahnoaaMod3
import Derived.Test.YtikknnpdiahnoaaWsmod2
import Derived.Test.YtikknnpdiahnoaaCons
import Derived.Test.YtikknnpdiahnoaaWscons
import Derived.Test.YtikknnpdiahnoaaVals
namespace Go.Ab
open Go.Proofs
set_option maxRecDepth 100000
set_option maxHeartbeats 8000000
set_option linter.unusedSimpArgs false
set_option linter.unusedVariables false
theorem f_dvImpl (m : Md) (d : List (List Bool)) : Fn Try.prog 25 [.agg [.sl (m.1.map dI), .sl (m.2.map dR)], .sl (d.map dD)] [] (fun rr ii nn => rr = .p (.bool (dmB m d)) ∧ ii = [] ∧ nn = []) := by
 refine fn_of Try.func25 rfl (Nat.le_of_ble_eq_true rfl) fun w X g => ?_
 show AWp _ _ _ ⟨[(0, .agg [.sl (m.1.map dI), .sl (m.2.map dR)]), (1, .sl (d.map dD))], []⟩
 refine a_len_map 1 rfl fun hld => ?_
 refine a_seq ?_
 refine a_region (by kernel_rfl) ?_
 refine op_n' (fun ver => j_boxa rfl) fun v2x1 => ?_
 refine op_v' (j_assign (evo rfl)) ?_
 refine op_nil ?_
 refine a_seq ?_
 refine a_seq ?_
 refine a_region (by kernel_rfl) ?_
 refine op_v' (j_loada_box (ys := [.sl _, .sl _]) agg26 rfl rfl rfl (Nat.le_of_ble_eq_true rfl)) ?_
 refine op_v0' (j_call0 (v := .p _) (hp1 := []) [] false [] ent18 (f_mvImpl m) ⟨.inl ⟨rfl, rfl⟩, trivial⟩ trivial rfl rfl (fun h => by cases h) rfl (fun _ h => by cases h) (.inl rfl) rfl rfl) ?_
 refine op_v' (j_not rfl) ?_
 refine op_v' (j_move (evo rfl)) ?_
 refine op_split' 10 rfl (fun h1 => ?_) (fun h1 => ?_)
 ·
  have h1r := h1
  try simp only [nq, nr] at h1
  refine op_v' (j_unwantV rfl rfl h1r) ?_
  refine op_v' (j_unwantV rfl rfl h1r) ?_
  refine op_v' (j_unwantV rfl rfl h1r) ?_
  refine op_v' (j_unwantV rfl rfl h1r) ?_
  refine op_v' (j_unwantV rfl rfl h1r) ?_
  refine op_v' (j_unwantV rfl rfl h1r) ?_
  refine op_v' (j_pick_t rfl h1r (evo rfl)) ?_
  refine op_nil ?_
  refine a_tt rfl ?_
  refine a_seq ?_
  refine a_region (by kernel_rfl) ?_
  refine op_v' (j_assign (evo rfl)) ?_
  refine op_nil ?_
  refine a_ret ?_
  exact ⟨[.p _], .p _, [], [], [], ⟨rfl, trivial⟩, rfl, rfl, trivial, rfl, rfl, ⟨boolEq (by symm; unfold dmB; first | (rw [show mOk m = false by assumption]; rfl) | (rw [fits_l (by omega), Bool.and_false])), rfl, rfl⟩⟩
 ·
  have h1r := h1
  try simp only [nq, nr] at h1
  refine op_v' (j_want rfl rfl h1r (j_move (evo rfl))) ?_
  refine op_v' (j_want rfl rfl h1r (j_len_map Try.underlying28 rfl)) ?_
  refine op_v' (j_want rfl rfl h1r (j_fldp fld26f0 rfl rfl)) ?_
  refine op_v' (j_want rfl rfl h1r (j_load_box leaf23 rfl rfl rfl)) ?_
  refine op_v' (j_want rfl rfl h1r (j_len_map Try.underlying23 rfl)) ?_
  refine op_v' (j_want rfl rfl h1r (j_ne rfl rfl)) ?_
  refine op_v' (j_pick_f rfl h1r (evo rfl)) ?_
  refine op_nil ?_
  refine a_cond rfl (fun h2 => ?_) (fun h2 => ?_)
  ·
   have h2r := h2
   try simp only [nq, nr] at h2
   refine a_seq ?_
   refine a_region (by kernel_rfl) ?_
   refine op_v' (j_assign (evo rfl)) ?_
   refine op_nil ?_
   refine a_ret ?_
   exact ⟨[.p _], .p _, [], [], [], ⟨rfl, trivial⟩, rfl, rfl, trivial, rfl, rfl, ⟨boolEq (by symm; unfold dmB; first | (rw [show mOk m = false by assumption]; rfl) | (rw [fits_l (by omega), Bool.and_false])), rfl, rfl⟩⟩
  ·
   have h2r := h2
   try simp only [nq, nr] at h2
   refine a_skip ?_
   refine a_seq ?_
   refine a_seq ?_
   refine a_region (by kernel_rfl) ?_
   refine op_v' (j_fldp fld26f0 rfl rfl) ?_
   refine op_v' (j_load_box leaf23 rfl rfl rfl) ?_
   refine op_v' (j_len_map Try.underlying23 rfl) ?_
   refine op_v' (j_move (evo rfl)) ?_
   refine op_nil ?_
   refine a_block ?_
   refine a_loopF' (ι := Nat) (fun k => k ≤ m.1.length ∧ (List.range k).all (fun k => decide (((d.getD k default).length : Int) = m.1.getD k default + 1)) = true) (fun k r => (21, .p (.int .i64 ((k : Nat)))) :: r) (fun k r => r) (fun k => m.1.length - k) (fun _ _ => rfl) (fun _ _ => rfl) 0 ⟨Nat.zero_le _, rfl⟩ ⟨⟨rfl, rfl⟩, ⟨rfl, trivial⟩, trivial, ⟨rfl, rfl⟩, ⟨rfl, rfl⟩⟩ ?_
   intro k hk
   refine a_seq ?_
   refine a_region (by kernel_rfl) ?_
   refine op_v' (j_lt rfl rfl) ?_
   refine op_nil ?_
   refine a_seq ?_
   refine a_cond rfl (fun h3 => ?_) (fun h3 => ?_)
   ·
    have h3r := h3
    try simp only [nq, nr] at h3
    refine a_skip ?_
    refine a_seq ?_
    refine a_block ?_
    refine a_seq ?_
    refine a_region (by kernel_rfl) ?_
    refine op_v' (j_move (evo rfl)) ?_
    refine op_v' (j_elemN slt23 rfl rfl rfl (at_map (by first | omega | (simp only [nr]; omega))) rfl) ?_
    refine op_v' (j_load_el leaf3 rfl (at_map (by first | omega | (simp only [nr]; omega))) rfl) ?_
    refine op_v' (j_assign (evo rfl)) ?_
    refine op_v' (j_assign (evo rfl)) ?_
    refine op_nil ?_
    refine a_seq ?_
    have hsk := (mOk_sz (m := m) (by assumption)).2 k (by omega)
    refine a_region (by kernel_rfl) ?_
    refine op_v' (j_move (evo rfl)) ?_
    refine op_v' (j_move (evo rfl)) ?_
    refine op_v' (j_elemN slt28 rfl rfl rfl (at_map (by first | omega | (simp only [nr]; omega))) rfl) ?_
    refine op_v' (j_load_el leaf34 rfl (at_map (by first | omega | (simp only [nr]; omega))) rfl) ?_
    refine op_v' (j_len_map Try.underlying34 rfl) ?_
    refine op_v' (j_move (evo rfl)) ?_
    refine op_v' (j_add rfl rfl (by first | omega | (simp only [nr]; omega)) (by first | omega | (simp only [nr]; omega))) ?_
    refine op_v' (j_ne rfl rfl) ?_
    refine op_nil ?_
    refine a_cond rfl (fun h4 => ?_) (fun h4 => ?_)
    ·
     have h4r := h4
     try simp only [nq, nr] at h4
     refine a_seq ?_
     refine a_region (by kernel_rfl) ?_
     refine op_v' (j_assign (evo rfl)) ?_
     refine op_nil ?_
     refine a_ret ?_
     exact ⟨[.p _], .p _, [], [], [], ⟨rfl, trivial⟩, rfl, rfl, trivial, rfl, rfl, ⟨boolEq (by symm; unfold dmB; rw [fits_no (k := k) (by omega) (by omega), Bool.and_false]), rfl, rfl⟩⟩
    ·
     have h4r := h4
     try simp only [nq, nr] at h4
     refine a_skip ?_
     refine a_region (by kernel_rfl) ?_
     refine op_v' (j_add rfl rfl (by first | omega | (simp only [nr]; omega)) (by first | omega | (simp only [nr]; omega))) ?_
     refine op_v' (j_move (evo rfl)) ?_
     refine op_nil ?_
     exact ⟨k + 1, ⟨by omega, rng_next hk.2 (decide_eq_true (by omega))⟩, ⟨⟨rfl, rfl⟩, ⟨rfl, trivial⟩, trivial, ⟨rfl, rfl⟩, ⟨rfl, rfl⟩⟩, (by first | omega | (simp only [nr]; omega))⟩
   ·
    have h3r := h3
    try simp only [nq, nr] at h3
    refine a_exit ?_
    refine a_seq ?_
    refine a_region (by kernel_rfl) ?_
    refine op_v' (j_assign (evo rfl)) ?_
    refine op_nil ?_
    refine a_ret ?_
    exact ⟨[.p _], .p _, [], [], [], ⟨rfl, trivial⟩, rfl, rfl, trivial, rfl, rfl, ⟨boolEq (by symm; unfold dmB; rw [show mOk m = true by assumption, fits_yes (by omega) (by rw [show d.length = k by omega]; exact hk.2)]; rfl), rfl, rfl⟩⟩


theorem f_cellsV (m : Md) (c : List Int) : Fn Try.prog 62 [.agg [.sl (m.1.map dI), .sl (m.2.map dR)], .sl (c.map dI)] [] (fun rr ii nn => rr = .p (.bool (cvB m c)) ∧ ii = [] ∧ nn = []) := by
 refine fn_of Try.func62 rfl (Nat.le_of_ble_eq_true rfl) fun w X g => ?_
 show AWp _ _ _ ⟨[(0, .agg [.sl (m.1.map dI), .sl (m.2.map dR)]), (1, .sl (c.map dI))], []⟩
 refine a_len_map 1 rfl fun hld => ?_
 refine a_seq ?_
 refine a_region (by kernel_rfl) ?_
 refine op_n' (fun ver => j_boxa rfl) fun v2x1 => ?_
 refine op_v' (j_assign (evo rfl)) ?_
 refine op_nil ?_
 refine a_seq ?_
 refine a_seq ?_
 refine a_region (by kernel_rfl) ?_
 refine op_v' (j_loada_box (ys := [.sl _, .sl _]) agg26 rfl rfl rfl (Nat.le_of_ble_eq_true rfl)) ?_
 refine op_v0' (j_call0 (v := .p _) (hp1 := []) [] false [] ent18 (f_mvImpl m) ⟨.inl ⟨rfl, rfl⟩, trivial⟩ trivial rfl rfl (fun h => by cases h) rfl (fun _ h => by cases h) (.inl rfl) rfl rfl) ?_
 refine op_v' (j_not rfl) ?_
 refine op_v' (j_move (evo rfl)) ?_
 refine op_split' 10 rfl (fun h1 => ?_) (fun h1 => ?_)
 ·
  have h1r := h1
  try simp only [nq, nr] at h1
  refine op_v' (j_unwantV rfl rfl h1r) ?_
  refine op_v' (j_unwantV rfl rfl h1r) ?_
  refine op_v' (j_unwantV rfl rfl h1r) ?_
  refine op_v' (j_unwantV rfl rfl h1r) ?_
  refine op_v' (j_unwantV rfl rfl h1r) ?_
  refine op_v' (j_unwantV rfl rfl h1r) ?_
  refine op_v' (j_pick_t rfl h1r (evo rfl)) ?_
  refine op_nil ?_
  refine a_tt rfl ?_
  refine a_seq ?_
  refine a_region (by kernel_rfl) ?_
  refine op_v' (j_assign (evo rfl)) ?_
  refine op_nil ?_
  refine a_ret ?_
  exact ⟨[.p _], .p _, [], [], [], ⟨rfl, trivial⟩, rfl, rfl, trivial, rfl, rfl, ⟨boolEq (by symm; unfold cvB; first | (rw [show mOk m = false by assumption]; rfl) | (rw [cv_l (by omega), Bool.and_false])), rfl, rfl⟩⟩
 ·
  have h1r := h1
  try simp only [nq, nr] at h1
  refine op_v' (j_want rfl rfl h1r (j_move (evo rfl))) ?_
  refine op_v' (j_want rfl rfl h1r (j_len_map Try.underlying23 rfl)) ?_
  refine op_v' (j_want rfl rfl h1r (j_fldp fld26f0 rfl rfl)) ?_
  refine op_v' (j_want rfl rfl h1r (j_load_box leaf23 rfl rfl rfl)) ?_
  refine op_v' (j_want rfl rfl h1r (j_len_map Try.underlying23 rfl)) ?_
  refine op_v' (j_want rfl rfl h1r (j_ne rfl rfl)) ?_
  refine op_v' (j_pick_f rfl h1r (evo rfl)) ?_
  refine op_nil ?_
  refine a_cond rfl (fun h2 => ?_) (fun h2 => ?_)
  ·
   have h2r := h2
   try simp only [nq, nr] at h2
   refine a_seq ?_
   refine a_region (by kernel_rfl) ?_
   refine op_v' (j_assign (evo rfl)) ?_
   refine op_nil ?_
   refine a_ret ?_
   exact ⟨[.p _], .p _, [], [], [], ⟨rfl, trivial⟩, rfl, rfl, trivial, rfl, rfl, ⟨boolEq (by symm; unfold cvB; first | (rw [show mOk m = false by assumption]; rfl) | (rw [cv_l (by omega), Bool.and_false])), rfl, rfl⟩⟩
  ·
   have h2r := h2
   try simp only [nq, nr] at h2
   refine a_skip ?_
   refine a_seq ?_
   refine a_seq ?_
   refine a_region (by kernel_rfl) ?_
   refine op_v' (j_move (evo rfl)) ?_
   refine op_v' (j_len_map Try.underlying23 rfl) ?_
   refine op_v' (j_move (evo rfl)) ?_
   refine op_nil ?_
   refine a_block ?_
   refine a_loopF' (ι := Nat) (fun k => k ≤ c.length ∧ (List.range k).all (fun k => decide (0 ≤ c.getD k default ∧ c.getD k default ≤ m.1.getD k default)) = true) (fun k r => (20, .p (.int .i64 ((k : Nat)))) :: r) (fun k r => r) (fun k => c.length - k) (fun _ _ => rfl) (fun _ _ => rfl) 0 ⟨Nat.zero_le _, rfl⟩ ⟨⟨rfl, rfl⟩, ⟨rfl, trivial⟩, trivial, ⟨rfl, rfl⟩, ⟨rfl, rfl⟩⟩ ?_
   intro k hk
   refine a_seq ?_
   refine a_region (by kernel_rfl) ?_
   refine op_v' (j_lt rfl rfl) ?_
   refine op_nil ?_
   refine a_seq ?_
   refine a_cond rfl (fun h3 => ?_) (fun h3 => ?_)
   ·
    have h3r := h3
    try simp only [nq, nr] at h3
    refine a_skip ?_
    refine a_seq ?_
    refine a_block ?_
    refine a_seq ?_
    refine a_region (by kernel_rfl) ?_
    refine op_v' (j_move (evo rfl)) ?_
    refine op_v' (j_elemN slt23 rfl rfl rfl (at_map (by first | omega | (simp only [nr]; omega))) rfl) ?_
    refine op_v' (j_load_el leaf3 rfl (at_map (by first | omega | (simp only [nr]; omega))) rfl) ?_
    refine op_v' (j_assign (evo rfl)) ?_
    refine op_v' (j_assign (evo rfl)) ?_
    refine op_nil ?_
    refine a_seq ?_
    refine a_region (by kernel_rfl) ?_
    refine op_v' (j_move (evo rfl)) ?_
    refine op_v' (j_fldp fld26f0 rfl rfl) ?_
    refine op_v' (j_load_box leaf23 rfl rfl rfl) ?_
    refine op_v' (j_move (evo rfl)) ?_
    refine op_v' (j_elemN slt23 rfl rfl rfl (at_map (by first | omega | (simp only [nr]; omega))) rfl) ?_
    refine op_v' (j_load_el leaf3 rfl (at_map (by first | omega | (simp only [nr]; omega))) rfl) ?_
    refine op_v0' (j_call0 (v := .p _) (hp1 := []) [] false [] ent58 (f_within (c.getD k default) 0 (m.1.getD k default)) ⟨.inl ⟨rfl, rfl⟩, .inl ⟨rfl, rfl⟩, .inl ⟨rfl, rfl⟩, trivial⟩ trivial rfl rfl (fun h => by cases h) rfl (fun _ h => by cases h) (.inl rfl) rfl rfl) ?_
    refine op_v' (j_not rfl) ?_
    refine op_nil ?_
    refine a_cond rfl (fun h4 => ?_) (fun h4 => ?_)
    ·
     have h4r := h4
     try simp only [nq, nr] at h4
     refine a_seq ?_
     refine a_region (by kernel_rfl) ?_
     refine op_v' (j_assign (evo rfl)) ?_
     refine op_nil ?_
     refine a_ret ?_
     exact ⟨[.p _], .p _, [], [], [], ⟨rfl, trivial⟩, rfl, rfl, trivial, rfl, rfl, ⟨boolEq (by symm; unfold cvB; rw [cv_no (k := k) (by omega) (by first | assumption | omega), Bool.and_false]), rfl, rfl⟩⟩
    ·
     have h4r := h4
     try simp only [nq, nr] at h4
     refine a_skip ?_
     refine a_region (by kernel_rfl) ?_
     refine op_v' (j_add rfl rfl (by first | omega | (simp only [nr]; omega)) (by first | omega | (simp only [nr]; omega))) ?_
     refine op_v' (j_move (evo rfl)) ?_
     refine op_nil ?_
     exact ⟨k + 1, ⟨by omega, rng_next hk.2 (decide_eq_true (by first | assumption | omega))⟩, ⟨⟨rfl, rfl⟩, ⟨rfl, trivial⟩, trivial, ⟨rfl, rfl⟩, ⟨rfl, rfl⟩⟩, (by first | omega | (simp only [nr]; omega))⟩
   ·
    have h3r := h3
    try simp only [nq, nr] at h3
    refine a_exit ?_
    refine a_seq ?_
    refine a_region (by kernel_rfl) ?_
    refine op_v' (j_assign (evo rfl)) ?_
    refine op_nil ?_
    refine a_ret ?_
    exact ⟨[.p _], .p _, [], [], [], ⟨rfl, trivial⟩, rfl, rfl, trivial, rfl, rfl, ⟨boolEq (by symm; unfold cvB; rw [show mOk m = true by assumption, cv_yes (by omega) (by rw [show c.length = k by omega]; exact hk.2)]; rfl), rfl, rfl⟩⟩


theorem f_inside (d : List (List Bool)) (c : List Int) (hd : c.length ≤ d.length) (hc : ∀ k, k < c.length → 0 ≤ c.getD k default ∧ c.getD k default < ((d.getD k default).length : Int)) : Fn Try.prog 63 [.sl (d.map dD), .sl (c.map dI)] [] (fun rr ii nn => rr = .p (.bool (inB d c)) ∧ ii = [] ∧ nn = []) := by
 refine fn_of Try.func63 rfl (Nat.le_of_ble_eq_true rfl) fun w X g => ?_
 show AWp _ _ _ ⟨[(0, .sl (d.map dD)), (1, .sl (c.map dI))], []⟩
 refine a_len_map 1 rfl fun hld => ?_
 refine a_seq ?_
 refine a_region (by kernel_rfl) ?_
 refine op_v' (j_assign (evo rfl)) ?_
 refine op_nil ?_
 refine a_seq ?_
 refine a_seq ?_
 refine a_region (by kernel_rfl) ?_
 refine op_v' (j_move (evo rfl)) ?_
 refine op_v' (j_len_map Try.underlying23 rfl) ?_
 refine op_v' (j_move (evo rfl)) ?_
 refine op_nil ?_
 refine a_block ?_
 refine a_loopF' (ι := Nat) (fun k => k ≤ c.length ∧ (List.range k).all (cellD d c) = true) (fun k r => (9, .p (.int .i64 ((k : Nat)))) :: r) (fun k r => r) (fun k => c.length - k) (fun _ _ => rfl) (fun _ _ => rfl) 0 ⟨Nat.zero_le _, rfl⟩ ⟨⟨rfl, rfl⟩, ⟨rfl, trivial⟩, trivial, ⟨rfl, rfl⟩, ⟨rfl, rfl⟩⟩ ?_
 intro k hk
 refine a_seq ?_
 refine a_region (by kernel_rfl) ?_
 refine op_v' (j_lt rfl rfl) ?_
 refine op_nil ?_
 refine a_seq ?_
 refine a_cond rfl (fun h1 => ?_) (fun h1 => ?_)
 ·
  have h1r := h1
  try simp only [nq, nr] at h1
  refine a_skip ?_
  refine a_seq ?_
  refine a_block ?_
  refine a_seq ?_
  refine a_region (by kernel_rfl) ?_
  refine op_v' (j_move (evo rfl)) ?_
  refine op_v' (j_elemN slt23 rfl rfl rfl (at_map (by first | omega | (simp only [nr]; omega))) rfl) ?_
  refine op_v' (j_load_el leaf3 rfl (at_map (by first | omega | (simp only [nr]; omega))) rfl) ?_
  refine op_v' (j_assign (evo rfl)) ?_
  refine op_v' (j_assign (evo rfl)) ?_
  refine op_nil ?_
  refine a_seq ?_
  have hck := hc k (by omega)
  refine a_region (by kernel_rfl) ?_
  refine op_v' (j_move (evo rfl)) ?_
  refine op_v' (j_move (evo rfl)) ?_
  refine op_v' (j_elemN slt28 rfl rfl rfl (at_map (by first | omega | (simp only [nr]; omega))) rfl) ?_
  refine op_v' (j_load_el leaf34 rfl (at_map (by first | omega | (simp only [nr]; omega))) rfl) ?_
  refine op_v' (j_move (evo rfl)) ?_
  refine op_v' (j_elemN (n := (c.getD k default).toNat) slt34 rfl rfl (by omega) (at_map (by first | omega | (simp only [nr]; omega))) rfl) ?_
  refine op_v' (j_load_el leaf4 rfl (at_map (by first | omega | (simp only [nr]; omega))) rfl) ?_
  refine op_v' (j_not rfl) ?_
  refine op_nil ?_
  refine a_cond rfl (fun h2 => ?_) (fun h2 => ?_)
  ·
   have h2r := h2
   try simp only [nq, nr] at h2
   refine a_seq ?_
   refine a_region (by kernel_rfl) ?_
   refine op_v' (j_assign (evo rfl)) ?_
   refine op_nil ?_
   refine a_ret ?_
   exact ⟨[.p _], .p _, [], [], [], ⟨rfl, trivial⟩, rfl, rfl, trivial, rfl, rfl, ⟨boolEq (by symm; exact rng_no (k := k) (by omega) (by unfold cellD; assumption)), rfl, rfl⟩⟩
  ·
   have h2r := h2
   try simp only [nq, nr] at h2
   refine a_skip ?_
   refine a_region (by kernel_rfl) ?_
   refine op_v' (j_add rfl rfl (by first | omega | (simp only [nr]; omega)) (by first | omega | (simp only [nr]; omega))) ?_
   refine op_v' (j_move (evo rfl)) ?_
   refine op_nil ?_
   exact ⟨k + 1, ⟨by omega, rng_next hk.2 (by unfold cellD; assumption)⟩, ⟨⟨rfl, rfl⟩, ⟨rfl, trivial⟩, trivial, ⟨rfl, rfl⟩, ⟨rfl, rfl⟩⟩, (by first | omega | (simp only [nr]; omega))⟩
 ·
  have h1r := h1
  try simp only [nq, nr] at h1
  refine a_exit ?_
  refine a_seq ?_
  refine a_region (by kernel_rfl) ?_
  refine op_v' (j_assign (evo rfl)) ?_
  refine op_nil ?_
  refine a_ret ?_
  exact ⟨[.p _], .p _, [], [], [], ⟨rfl, trivial⟩, rfl, rfl, trivial, rfl, rfl, ⟨boolEq (by symm; unfold inB; rw [show c.length = k by omega]; exact hk.2), rfl, rfl⟩⟩


end Go.Ab

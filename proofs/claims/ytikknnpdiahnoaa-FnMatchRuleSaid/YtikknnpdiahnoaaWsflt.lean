/- Walks. -/
import Derived.Test.YtikknnpdiahnoaaBase
import Derived.Test.YtikknnpdiahnoaaMt
import Derived.Test.YtikknnpdiahnoaaWsmod2
import Derived.Test.YtikknnpdiahnoaaSimp
import Derived.Test.YtikknnpdiahnoaaWscons
import Derived.Test.YtikknnpdiahnoaaVals
namespace Go.Ab
open Go.Proofs
set_option maxRecDepth 100000
set_option maxHeartbeats 8000000
set_option linter.unusedSimpArgs false
set_option linter.unusedVariables false
theorem f_idx_LI_sl (e : Nat) (es : List (List V)) (F : Nat) (l : List (List Int)) (p : List Int → Bool) (hE : Ent' Try.prog F) (hF : ∀ a ∈ l, Fn Try.prog F [.sl (a.map dI), .ptr 0 0 0] [.box e [.sl es]] (fun r i n => r = .p (.bool (p a)) ∧ i = [.box e [.sl es]] ∧ n = [])) : Fn Try.prog 141 [.sl (l.map dL), .fn F [.ptr 0 0 0]] [.box e [.sl es]] (fun rr ii nn => rr = .p (.int .i64 (idxF p l 0)) ∧ ii = [.box e [.sl es]] ∧ nn = []) := by
 refine fn_of Try.func141 rfl (Nat.le_of_ble_eq_true rfl) fun w X g => ?_
 show AWp _ _ _ ⟨[(0, .sl (l.map dL)), (1, .fn F [.ptr 0 0 0])], [(0, some (0, .box e [.sl es]))]⟩
 refine a_len_map 0 rfl fun hlen => ?_
 refine a_seq ?_
 refine a_region (by kernel_rfl) ?_
 refine op_v' (j_assign (evo rfl)) ?_
 refine op_nil ?_
 refine a_seq ?_
 refine a_seq ?_
 refine a_region (by kernel_rfl) ?_
 refine op_v' (j_move (evo rfl)) ?_
 refine op_v' (j_len_map Try.underlying41 rfl) ?_
 refine op_v' (j_move (evo rfl)) ?_
 refine op_nil ?_
 refine a_block ?_
 refine a_loopF' (ι := Nat) (fun k => k ≤ l.length ∧ idxF p l 0 = idxF p (l.drop k) (k : Int)) (fun k r => (8, .p (.int .i64 ((k : Nat)))) :: r) (fun k r => (0, some (0, .box e [.sl es])) :: r) (fun k => l.length - k) (fun _ _ => rfl) (fun _ _ => rfl) 0 ⟨Nat.zero_le _, rfl⟩ ⟨⟨rfl, rfl⟩, ⟨rfl, trivial⟩, ⟨rfl, trivial⟩, ⟨rfl, rfl⟩, ⟨rfl, rfl⟩⟩ ?_
 intro k hpre
 refine a_seq ?_
 refine a_region (by kernel_rfl) ?_
 refine op_v' (j_lt rfl rfl) ?_
 refine op_nil ?_
 refine a_seq ?_
 refine a_cond rfl (fun h1 => ?_) (fun h1 => ?_)
 ·
  have h1r := h1
  try simp only [nq, nr] at h1
  refine a_skip ?_
  refine a_seq ?_
  refine a_block ?_
  refine a_seq ?_
  refine a_region (by kernel_rfl) ?_
  refine op_v' (j_move (evo rfl)) ?_
  refine op_v' (j_assign (evo rfl)) ?_
  refine op_nil ?_
  refine a_seq ?_
  refine a_region (by kernel_rfl) ?_
  refine op_v' (j_move (evo rfl)) ?_
  refine op_v' (j_move (evo rfl)) ?_
  refine op_v' (j_move (evo rfl)) ?_
  refine op_v' (j_elemN slt41 rfl rfl rfl (at_map (by omega)) rfl) ?_
  refine op_v' (j_load_el leaf23 rfl (at_map (by omega)) rfl) ?_
  refine op_v0' (j_callF0 (v := .p _) (hp1 := [(0, some (0, .box e [.sl _]))]) [(0, 0)] false [0] rfl hE (hF (l.getD k default) (getD_mem (by omega))) ⟨.inl ⟨rfl, rfl⟩, .inl ⟨rfl, rfl⟩, trivial⟩ ⟨⟨rfl, rfl⟩, trivial⟩ rfl rfl (fun h => by cases h) rfl (List.all_eq_true.1 rfl) (.inl rfl) rfl rfl) ?_
  refine op_nil ?_
  refine a_cond rfl (fun h2 => ?_) (fun h2 => ?_)
  ·
   have h2r := h2
   try simp only [nq, nr] at h2
   refine a_seq ?_
   refine a_region (by kernel_rfl) ?_
   refine op_v' (j_move (evo rfl)) ?_
   refine op_v' (j_assign (evo rfl)) ?_
   refine op_nil ?_
   refine a_ret ?_
   exact ⟨[.p _], .p _, [.box e [.sl _]], [], [], ⟨rfl, trivial⟩, rfl, rfl, ⟨⟨rfl, rfl⟩, trivial⟩, rfl, rfl, ⟨intEq (by rw [hpre.2, idxF_hit (d := default) (by omega) (by assumption)]), rfl, rfl⟩⟩
  ·
   have h2r := h2
   try simp only [nq, nr] at h2
   refine a_skip ?_
   refine a_region (by kernel_rfl) ?_
   refine op_v' (j_add rfl rfl (by omega) (by omega)) ?_
   refine op_v' (j_move (evo rfl)) ?_
   refine op_nil ?_
   exact ⟨k + 1, ⟨by omega, by rw [hpre.2, idxF_skip (d := default) (by omega) (by assumption)]⟩, ⟨⟨rfl, rfl⟩, ⟨rfl, trivial⟩, ⟨rfl, trivial⟩, ⟨rfl, rfl⟩, ⟨rfl, rfl⟩⟩, (by omega)⟩
 ·
  have h1r := h1
  try simp only [nq, nr] at h1
  refine a_exit ?_
  refine a_seq ?_
  refine a_region (by kernel_rfl) ?_
  refine op_v' (j_assign (evo rfl)) ?_
  refine op_nil ?_
  refine a_ret ?_
  exact ⟨[.p _], .p _, [.box e [.sl _]], [], [], ⟨rfl, trivial⟩, rfl, rfl, ⟨⟨rfl, rfl⟩, trivial⟩, rfl, rfl, ⟨intEq (by rw [hpre.2, idxF_end (by omega)]), rfl, rfl⟩⟩


theorem f_ctf_LI_sl (e : Nat) (es : List (List V)) (F : Nat) (l : List (List Int)) (p : List Int → Bool) (hE : Ent' Try.prog F) (hF : ∀ a ∈ l, Fn Try.prog F [.sl (a.map dI), .ptr 0 0 0] [.box e [.sl es]] (fun r i n => r = .p (.bool (p a)) ∧ i = [.box e [.sl es]] ∧ n = [])) : Fn Try.prog 117 [.sl (l.map dL), .fn F [.ptr 0 0 0]] [.box e [.sl es]] (fun rr ii nn => rr = .p (.bool (l.any p)) ∧ ii = [.box e [.sl es]] ∧ nn = []) := by
 refine fn_of Try.func117 rfl (Nat.le_of_ble_eq_true rfl) fun w X g => ?_
 show AWp _ _ _ ⟨[(0, .sl (l.map dL)), (1, .fn F [.ptr 0 0 0])], [(0, some (0, .box e [.sl es]))]⟩
 refine a_seq ?_
 refine a_region (by kernel_rfl) ?_
 refine op_v' (j_assign (evo rfl)) ?_
 refine op_nil ?_
 refine a_seq ?_
 refine a_region (by kernel_rfl) ?_
 refine op_v' (j_move (evo rfl)) ?_
 refine op_v' (j_move (evo rfl)) ?_
 refine op_v0' (j_call0 (v := .p _) (hp1 := [(0, some (0, .box e [.sl _]))]) [(0, 0)] false [0] ent141 (f_idx_LI_sl e es F l p hE hF) ⟨.inl ⟨rfl, rfl⟩, .inl ⟨rfl, rfl⟩, trivial⟩ ⟨⟨rfl, rfl⟩, trivial⟩ rfl rfl (fun h => by cases h) rfl (List.all_eq_true.1 rfl) (.inl rfl) rfl rfl) ?_
 refine op_v' (j_ge rfl rfl) ?_
 refine op_v' (j_assign (evo rfl)) ?_
 refine op_nil ?_
 refine a_ret ?_
 exact ⟨[.p _], .p _, [.box e [.sl _]], [], [], ⟨rfl, trivial⟩, rfl, rfl, ⟨⟨rfl, rfl⟩, trivial⟩, rfl, rfl, ⟨boolEq (idxF_any (Int.le_refl 0)), rfl, rfl⟩⟩


theorem f_dvImpl (m : Md) (d : List (List Bool)) : Fn Try.prog 25 [.agg [.sl (m.1.map dI), .sl (m.2.map dR)], .sl (d.map dD)] [] (fun rr ii nn => rr = .p (.bool (dmB m d)) ∧ ii = [] ∧ nn = []) := by
 refine fn_of Try.func25 rfl (Nat.le_of_ble_eq_true rfl) fun w X g => ?_
 show AWp _ _ _ ⟨[(0, .agg [.sl (m.1.map dI), .sl (m.2.map dR)]), (1, .sl (d.map dD))], []⟩
 refine a_len_map 1 rfl fun hld => ?_
 refine a_seq ?_
 refine a_region (by kernel_rfl) ?_
 refine op_n' (fun ver => j_boxa rfl) fun v2x1 => ?_
 refine op_v' (j_assign (evo rfl)) ?_
 refine op_nil ?_
 refine a_seq ?_
 refine a_seq ?_
 refine a_region (by kernel_rfl) ?_
 refine op_v' (j_loada_box (ys := [.sl _, .sl _]) agg26 rfl rfl rfl (Nat.le_of_ble_eq_true rfl)) ?_
 refine op_v0' (j_call0 (v := .p _) (hp1 := []) [] false [] ent18 (f_mvImpl m) ⟨.inl ⟨rfl, rfl⟩, trivial⟩ trivial rfl rfl (fun h => by cases h) rfl (fun _ h => by cases h) (.inl rfl) rfl rfl) ?_
 refine op_v' (j_not rfl) ?_
 refine op_v' (j_move (evo rfl)) ?_
 refine op_split' 10 rfl (fun h1 => ?_) (fun h1 => ?_)
 ·
  have h1r := h1
  try simp only [nq, nr] at h1
  refine op_v' (j_unwantV rfl rfl h1r) ?_
  refine op_v' (j_unwantV rfl rfl h1r) ?_
  refine op_v' (j_unwantV rfl rfl h1r) ?_
  refine op_v' (j_unwantV rfl rfl h1r) ?_
  refine op_v' (j_unwantV rfl rfl h1r) ?_
  refine op_v' (j_unwantV rfl rfl h1r) ?_
  refine op_v' (j_pick_t rfl h1r (evo rfl)) ?_
  refine op_nil ?_
  refine a_tt rfl ?_
  refine a_seq ?_
  refine a_region (by kernel_rfl) ?_
  refine op_v' (j_assign (evo rfl)) ?_
  refine op_nil ?_
  refine a_ret ?_
  exact ⟨[.p _], .p _, [], [], [], ⟨rfl, trivial⟩, rfl, rfl, trivial, rfl, rfl, ⟨boolEq (by symm; unfold dmB; first | (rw [show mOk m = false by assumption]; rfl) | (rw [fits_l (by omega), Bool.and_false])), rfl, rfl⟩⟩
 ·
  have h1r := h1
  try simp only [nq, nr] at h1
  refine op_v' (j_want rfl rfl h1r (j_move (evo rfl))) ?_
  refine op_v' (j_want rfl rfl h1r (j_len_map Try.underlying28 rfl)) ?_
  refine op_v' (j_want rfl rfl h1r (j_fldp fld26f0 rfl rfl)) ?_
  refine op_v' (j_want rfl rfl h1r (j_load_box leaf23 rfl rfl rfl)) ?_
  refine op_v' (j_want rfl rfl h1r (j_len_map Try.underlying23 rfl)) ?_
  refine op_v' (j_want rfl rfl h1r (j_ne rfl rfl)) ?_
  refine op_v' (j_pick_f rfl h1r (evo rfl)) ?_
  refine op_nil ?_
  refine a_cond rfl (fun h2 => ?_) (fun h2 => ?_)
  ·
   have h2r := h2
   try simp only [nq, nr] at h2
   refine a_seq ?_
   refine a_region (by kernel_rfl) ?_
   refine op_v' (j_assign (evo rfl)) ?_
   refine op_nil ?_
   refine a_ret ?_
   exact ⟨[.p _], .p _, [], [], [], ⟨rfl, trivial⟩, rfl, rfl, trivial, rfl, rfl, ⟨boolEq (by symm; unfold dmB; first | (rw [show mOk m = false by assumption]; rfl) | (rw [fits_l (by omega), Bool.and_false])), rfl, rfl⟩⟩
  ·
   have h2r := h2
   try simp only [nq, nr] at h2
   refine a_skip ?_
   refine a_seq ?_
   refine a_seq ?_
   refine a_region (by kernel_rfl) ?_
   refine op_v' (j_fldp fld26f0 rfl rfl) ?_
   refine op_v' (j_load_box leaf23 rfl rfl rfl) ?_
   refine op_v' (j_len_map Try.underlying23 rfl) ?_
   refine op_v' (j_move (evo rfl)) ?_
   refine op_nil ?_
   refine a_block ?_
   refine a_loopF' (ι := Nat) (fun k => k ≤ m.1.length ∧ (List.range k).all (fun k => decide (((d.getD k default).length : Int) = m.1.getD k default + 1)) = true) (fun k r => (21, .p (.int .i64 ((k : Nat)))) :: r) (fun k r => r) (fun k => m.1.length - k) (fun _ _ => rfl) (fun _ _ => rfl) 0 ⟨Nat.zero_le _, rfl⟩ ⟨⟨rfl, rfl⟩, ⟨rfl, trivial⟩, trivial, ⟨rfl, rfl⟩, ⟨rfl, rfl⟩⟩ ?_
   intro k hk
   refine a_seq ?_
   refine a_region (by kernel_rfl) ?_
   refine op_v' (j_lt rfl rfl) ?_
   refine op_nil ?_
   refine a_seq ?_
   refine a_cond rfl (fun h3 => ?_) (fun h3 => ?_)
   ·
    have h3r := h3
    try simp only [nq, nr] at h3
    refine a_skip ?_
    refine a_seq ?_
    refine a_block ?_
    refine a_seq ?_
    refine a_region (by kernel_rfl) ?_
    refine op_v' (j_move (evo rfl)) ?_
    refine op_v' (j_elemN slt23 rfl rfl rfl (at_map (by first | omega | (simp only [nr]; omega))) rfl) ?_
    refine op_v' (j_load_el leaf3 rfl (at_map (by first | omega | (simp only [nr]; omega))) rfl) ?_
    refine op_v' (j_assign (evo rfl)) ?_
    refine op_v' (j_assign (evo rfl)) ?_
    refine op_nil ?_
    refine a_seq ?_
    have hsk := (mOk_sz (m := m) (by assumption)).2 k (by omega)
    refine a_region (by kernel_rfl) ?_
    refine op_v' (j_move (evo rfl)) ?_
    refine op_v' (j_move (evo rfl)) ?_
    refine op_v' (j_elemN slt28 rfl rfl rfl (at_map (by first | omega | (simp only [nr]; omega))) rfl) ?_
    refine op_v' (j_load_el leaf34 rfl (at_map (by first | omega | (simp only [nr]; omega))) rfl) ?_
    refine op_v' (j_len_map Try.underlying34 rfl) ?_
    refine op_v' (j_move (evo rfl)) ?_
    refine op_v' (j_add rfl rfl (by first | omega | (simp only [nr]; omega)) (by first | omega | (simp only [nr]; omega))) ?_
    refine op_v' (j_ne rfl rfl) ?_
    refine op_nil ?_
    refine a_cond rfl (fun h4 => ?_) (fun h4 => ?_)
    ·
     have h4r := h4
     try simp only [nq, nr] at h4
     refine a_seq ?_
     refine a_region (by kernel_rfl) ?_
     refine op_v' (j_assign (evo rfl)) ?_
     refine op_nil ?_
     refine a_ret ?_
     exact ⟨[.p _], .p _, [], [], [], ⟨rfl, trivial⟩, rfl, rfl, trivial, rfl, rfl, ⟨boolEq (by symm; unfold dmB; rw [fits_no (k := k) (by omega) (by omega), Bool.and_false]), rfl, rfl⟩⟩
    ·
     have h4r := h4
     try simp only [nq, nr] at h4
     refine a_skip ?_
     refine a_region (by kernel_rfl) ?_
     refine op_v' (j_add rfl rfl (by first | omega | (simp only [nr]; omega)) (by first | omega | (simp only [nr]; omega))) ?_
     refine op_v' (j_move (evo rfl)) ?_
     refine op_nil ?_
     exact ⟨k + 1, ⟨by omega, rng_next hk.2 (decide_eq_true (by omega))⟩, ⟨⟨rfl, rfl⟩, ⟨rfl, trivial⟩, trivial, ⟨rfl, rfl⟩, ⟨rfl, rfl⟩⟩, (by first | omega | (simp only [nr]; omega))⟩
   ·
    have h3r := h3
    try simp only [nq, nr] at h3
    refine a_exit ?_
    refine a_seq ?_
    refine a_region (by kernel_rfl) ?_
    refine op_v' (j_assign (evo rfl)) ?_
    refine op_nil ?_
    refine a_ret ?_
    exact ⟨[.p _], .p _, [], [], [], ⟨rfl, trivial⟩, rfl, rfl, trivial, rfl, rfl, ⟨boolEq (by symm; unfold dmB; rw [show mOk m = true by assumption, fits_yes (by omega) (by rw [show d.length = k by omega]; exact hk.2)]; rfl), rfl, rfl⟩⟩


theorem f_l8Fits (m : Md) (d : List (List Bool)) (hm : mOk m = true) : Fn Try.prog 123 [.agg [.sl (m.1.map dI), .sl (m.2.map dR)], .sl (d.map dD)] [] (fun rr ii nn => rr = .p (.bool (fitsB m.1 d)) ∧ ii = [] ∧ nn = []) := by
 refine fn_of Try.func123 rfl (Nat.le_of_ble_eq_true rfl) fun w X g => ?_
 show AWp _ _ _ ⟨[(0, .agg [.sl (m.1.map dI), .sl (m.2.map dR)]), (1, .sl (d.map dD))], []⟩
 refine a_len_map 1 rfl fun hld => ?_
 refine a_seq ?_
 refine a_region (by kernel_rfl) ?_
 refine op_n' (fun ver => j_boxa rfl) fun v2x1 => ?_
 refine op_v' (j_assign (evo rfl)) ?_
 refine op_nil ?_
 refine a_seq ?_
 refine a_seq ?_
 refine a_region (by kernel_rfl) ?_
 refine op_v' (j_move (evo rfl)) ?_
 refine op_v' (j_len_map Try.underlying28 rfl) ?_
 refine op_v' (j_fldp fld26f0 rfl rfl) ?_
 refine op_v' (j_load_box leaf23 rfl rfl rfl) ?_
 refine op_v' (j_len_map Try.underlying23 rfl) ?_
 refine op_v' (j_ne rfl rfl) ?_
 refine op_nil ?_
 refine a_cond rfl (fun h1 => ?_) (fun h1 => ?_)
 ·
  have h1r := h1
  try simp only [nq, nr] at h1
  refine a_seq ?_
  refine a_region (by kernel_rfl) ?_
  refine op_v' (j_assign (evo rfl)) ?_
  refine op_nil ?_
  refine a_ret ?_
  exact ⟨[.p _], .p _, [], [], [], ⟨rfl, trivial⟩, rfl, rfl, trivial, rfl, rfl, ⟨boolEq (by symm; exact fits_l (by omega)), rfl, rfl⟩⟩
 ·
  have h1r := h1
  try simp only [nq, nr] at h1
  refine a_skip ?_
  refine a_seq ?_
  refine a_seq ?_
  refine a_region (by kernel_rfl) ?_
  refine op_v' (j_assign (evo rfl)) ?_
  refine op_nil ?_
  refine a_block ?_
  refine a_loopF' (ι := Nat) (fun k => k ≤ d.length ∧ (List.range k).all (fun k => decide (((d.getD k default).length : Int) = m.1.getD k default + 1)) = true) (fun k r => (5, .p (.int .i64 ((k : Nat)))) :: r) (fun k r => r) (fun k => d.length - k) (fun _ _ => rfl) (fun _ _ => rfl) 0 ⟨Nat.zero_le _, rfl⟩ ⟨⟨rfl, rfl⟩, ⟨rfl, trivial⟩, trivial, ⟨rfl, rfl⟩, ⟨rfl, rfl⟩⟩ ?_
  intro k hk
  refine a_seq ?_
  refine a_seq ?_
  refine a_region (by kernel_rfl) ?_
  refine op_v' (j_move (evo rfl)) ?_
  refine op_v' (j_move (evo rfl)) ?_
  refine op_v' (j_len_map Try.underlying28 rfl) ?_
  refine op_v' (j_lt rfl rfl) ?_
  refine op_nil ?_
  refine a_cond rfl (fun h2 => ?_) (fun h2 => ?_)
  ·
   have h2r := h2
   try simp only [nq, nr] at h2
   refine a_skip ?_
   refine a_seq ?_
   refine a_block ?_
   refine a_seq ?_
   have hsk := (mOk_sz (m := m) (by assumption)).2 k (by omega)
   refine a_draw mixed (by kernel_rfl) (by kernel_rfl) fun vf => ?_
   refine d_v' (j_move (evo rfl)) ?_
   refine d_v' (j_move (evo rfl)) ?_
   refine d_v' (j_elemN slt28 rfl rfl rfl (at_map (by first | omega | (simp only [nr]; omega))) rfl) ?_
   refine d_v' (j_load_el leaf34 rfl (at_map (by first | omega | (simp only [nr]; omega))) rfl) ?_
   refine d_v' (j_len_map Try.underlying34 rfl) ?_
   refine d_v' (j_fldp fld26f0 rfl rfl) ?_
   refine d_v' (j_load_box leaf23 rfl rfl rfl) ?_
   refine d_v' (j_move (evo rfl)) ?_
   refine d_v' (j_elemN slt23 rfl rfl rfl (at_map (by first | omega | (simp only [nr]; omega))) rfl) ?_
   refine d_v' (j_load_el leaf3 rfl (at_map (by first | omega | (simp only [nr]; omega))) rfl) ?_
   refine d_v' (j_add rfl rfl (by first | omega | (simp only [nr]; omega)) (by first | omega | (simp only [nr]; omega))) ?_
   refine d_v' (j_ne rfl rfl) ?_
   refine d_nil (by kernel_rfl) (by kernel_rfl) ?_
   refine a_cond rfl (fun h3 => ?_) (fun h3 => ?_)
   ·
    have h3r := h3
    try simp only [nq, nr] at h3
    refine a_seq ?_
    refine a_region (by kernel_rfl) ?_
    refine op_v' (j_assign (evo rfl)) ?_
    refine op_nil ?_
    refine a_ret ?_
    exact ⟨[.p _], .p _, [], [], [], ⟨rfl, trivial⟩, rfl, rfl, trivial, rfl, rfl, ⟨boolEq (by symm; exact fits_no (k := k) (by omega) (by omega)), rfl, rfl⟩⟩
   ·
    have h3r := h3
    try simp only [nq, nr] at h3
    refine a_skip ?_
    refine a_region (by kernel_rfl) ?_
    refine op_v' (j_move (evo rfl)) ?_
    refine op_v' (j_add rfl rfl (by first | omega | (simp only [nr]; omega)) (by first | omega | (simp only [nr]; omega))) ?_
    refine op_v' (j_assign (evo rfl)) ?_
    refine op_nil ?_
    exact ⟨k + 1, ⟨by omega, rng_next hk.2 (decide_eq_true (by omega))⟩, ⟨⟨rfl, rfl⟩, ⟨rfl, trivial⟩, trivial, ⟨rfl, rfl⟩, ⟨rfl, rfl⟩⟩, (by first | omega | (simp only [nr]; omega))⟩
  ·
   have h2r := h2
   try simp only [nq, nr] at h2
   refine a_exit ?_
   refine a_seq ?_
   refine a_region (by kernel_rfl) ?_
   refine op_v' (j_assign (evo rfl)) ?_
   refine op_nil ?_
   refine a_ret ?_
   exact ⟨[.p _], .p _, [], [], [], ⟨rfl, trivial⟩, rfl, rfl, trivial, rfl, rfl, ⟨boolEq (by symm; exact fits_yes (by omega) (by rw [show d.length = k by omega]; exact hk.2)), rfl, rfl⟩⟩


theorem f_dvSpec (m : Md) (d : List (List Bool)) : Fn Try.prog 70 [.agg [.sl (m.1.map dI), .sl (m.2.map dR)], .sl (d.map dD)] [] (fun rr ii nn => rr = .p (.bool (dmB m d)) ∧ ii = [] ∧ nn = []) := by
 refine fn_of Try.func70 rfl (Nat.le_of_ble_eq_true rfl) fun w X g => ?_
 show AWp _ _ _ ⟨[(0, .agg [.sl (m.1.map dI), .sl (m.2.map dR)]), (1, .sl (d.map dD))], []⟩
 refine a_seq ?_
 refine a_region (by kernel_rfl) ?_
 refine op_n' (fun ver => j_boxa rfl) fun v2x1 => ?_
 refine op_v' (j_assign (evo rfl)) ?_
 refine op_nil ?_
 refine a_seq ?_
 refine a_region (by kernel_rfl) ?_
 refine op_v' (j_loada_box (ys := [.sl _, .sl _]) agg26 rfl rfl rfl (Nat.le_of_ble_eq_true rfl)) ?_
 refine op_v0' (j_call0 (v := .p _) (hp1 := []) [] false [] ent56 (f_mvSpec m) ⟨.inl ⟨rfl, rfl⟩, trivial⟩ trivial rfl rfl (fun h => by cases h) rfl (fun _ h => by cases h) (.inl rfl) rfl rfl) ?_
 refine op_v' (j_move (evo rfl)) ?_
 refine op_split' 7 rfl (fun h1 => ?_) (fun h1 => ?_)
 ·
  have h1r := h1
  try simp only [nq, nr] at h1
  refine op_v' (j_want rfl rfl h1r (j_loada_box (ys := [.sl _, .sl _]) agg26 rfl rfl rfl (Nat.le_of_ble_eq_true rfl))) ?_
  refine op_v' (j_want rfl rfl h1r (j_move (evo rfl))) ?_
  refine op_v0' (j_want rfl rfl h1r (j_call0 (v := .p _) (hp1 := []) [] false [] ent123 (f_l8Fits m d (by assumption)) ⟨.inl ⟨rfl, rfl⟩, .inl ⟨rfl, rfl⟩, trivial⟩ trivial rfl rfl (fun h => by cases h) rfl (fun _ h => by cases h) (.inl rfl) rfl rfl)) ?_
  refine op_v' (j_pick_t rfl h1r (evo rfl)) ?_
  refine op_v' (j_assign (evo rfl)) ?_
  refine op_nil ?_
  refine a_ret ?_
  exact ⟨[.p _], .p _, [], [], [], ⟨rfl, trivial⟩, rfl, rfl, trivial, rfl, rfl, ⟨boolEq (by symm; unfold dmB; simp_all), rfl, rfl⟩⟩
 ·
  have h1r := h1
  try simp only [nq, nr] at h1
  refine op_v' (j_unwantV rfl rfl h1r) ?_
  refine op_v' (j_unwantV rfl rfl h1r) ?_
  refine op_v' (j_unwantV rfl rfl h1r) ?_
  refine op_v' (j_pick_f rfl h1r (evo rfl)) ?_
  refine op_v' (j_assign (evo rfl)) ?_
  refine op_nil ?_
  refine a_ret ?_
  exact ⟨[.p _], .p _, [], [], [], ⟨rfl, trivial⟩, rfl, rfl, trivial, rfl, rfl, ⟨boolEq (by symm; unfold dmB; simp_all), rfl, rfl⟩⟩


theorem f_isRule (m : Md) (i : Int) : Fn Try.prog 67 [.agg [.sl (m.1.map dI), .sl (m.2.map dR)], .p (.int .i64 (i))] [] (fun rr ii nn => rr = .p (.bool (decide (0 ≤ i ∧ i < m.2.length))) ∧ ii = [] ∧ nn = []) := by
 refine fn_of Try.func67 rfl (Nat.le_of_ble_eq_true rfl) fun w X g => ?_
 show AWp _ _ _ ⟨[(0, .agg [.sl (m.1.map dI), .sl (m.2.map dR)]), (1, .p (.int .i64 (i)))], []⟩
 refine a_len_rule 0 rfl fun hlr => ?_
 refine a_seq ?_
 refine a_region (by kernel_rfl) ?_
 refine op_n' (fun ver => j_boxa rfl) fun v2x1 => ?_
 refine op_v' (j_assign (evo rfl)) ?_
 refine op_nil ?_
 refine a_seq ?_
 refine a_region (by kernel_rfl) ?_
 refine op_v' (j_move (evo rfl)) ?_
 refine op_v' (j_fldp fld26f1 rfl rfl) ?_
 refine op_v' (j_load_box leaf24 rfl rfl rfl) ?_
 refine op_v' (j_len_map Try.underlying24 rfl) ?_
 refine op_v' (j_sub rfl rfl (by first | omega | (simp only [nr]; omega)) (by first | omega | (simp only [nr]; omega))) ?_
 refine op_v0' (j_call0 (v := .p _) (hp1 := []) [] false [] ent58 (f_within i 0 ((m.2.length : Int) - 1)) ⟨.inl ⟨rfl, rfl⟩, .inl ⟨rfl, rfl⟩, .inl ⟨rfl, rfl⟩, trivial⟩ trivial rfl rfl (fun h => by cases h) rfl (fun _ h => by cases h) (.inl rfl) rfl rfl) ?_
 refine op_v' (j_assign (evo rfl)) ?_
 refine op_nil ?_
 refine a_ret ?_
 exact ⟨[.p _], .p _, [], [], [], ⟨rfl, trivial⟩, rfl, rfl, trivial, rfl, rfl, ⟨boolEq (decide_eq_decide.2 (by omega)), rfl, rfl⟩⟩


theorem f_inside (d : List (List Bool)) (c : List Int) (hd : c.length ≤ d.length) (hc : ∀ k, k < c.length → 0 ≤ c.getD k default ∧ c.getD k default < ((d.getD k default).length : Int)) : Fn Try.prog 63 [.sl (d.map dD), .sl (c.map dI)] [] (fun rr ii nn => rr = .p (.bool (inB d c)) ∧ ii = [] ∧ nn = []) := by
 refine fn_of Try.func63 rfl (Nat.le_of_ble_eq_true rfl) fun w X g => ?_
 show AWp _ _ _ ⟨[(0, .sl (d.map dD)), (1, .sl (c.map dI))], []⟩
 refine a_len_map 1 rfl fun hld => ?_
 refine a_seq ?_
 refine a_region (by kernel_rfl) ?_
 refine op_v' (j_assign (evo rfl)) ?_
 refine op_nil ?_
 refine a_seq ?_
 refine a_seq ?_
 refine a_region (by kernel_rfl) ?_
 refine op_v' (j_move (evo rfl)) ?_
 refine op_v' (j_len_map Try.underlying23 rfl) ?_
 refine op_v' (j_move (evo rfl)) ?_
 refine op_nil ?_
 refine a_block ?_
 refine a_loopF' (ι := Nat) (fun k => k ≤ c.length ∧ (List.range k).all (cellD d c) = true) (fun k r => (9, .p (.int .i64 ((k : Nat)))) :: r) (fun k r => r) (fun k => c.length - k) (fun _ _ => rfl) (fun _ _ => rfl) 0 ⟨Nat.zero_le _, rfl⟩ ⟨⟨rfl, rfl⟩, ⟨rfl, trivial⟩, trivial, ⟨rfl, rfl⟩, ⟨rfl, rfl⟩⟩ ?_
 intro k hk
 refine a_seq ?_
 refine a_region (by kernel_rfl) ?_
 refine op_v' (j_lt rfl rfl) ?_
 refine op_nil ?_
 refine a_seq ?_
 refine a_cond rfl (fun h1 => ?_) (fun h1 => ?_)
 ·
  have h1r := h1
  try simp only [nq, nr] at h1
  refine a_skip ?_
  refine a_seq ?_
  refine a_block ?_
  refine a_seq ?_
  refine a_region (by kernel_rfl) ?_
  refine op_v' (j_move (evo rfl)) ?_
  refine op_v' (j_elemN slt23 rfl rfl rfl (at_map (by first | omega | (simp only [nr]; omega))) rfl) ?_
  refine op_v' (j_load_el leaf3 rfl (at_map (by first | omega | (simp only [nr]; omega))) rfl) ?_
  refine op_v' (j_assign (evo rfl)) ?_
  refine op_v' (j_assign (evo rfl)) ?_
  refine op_nil ?_
  refine a_seq ?_
  have hck := hc k (by omega)
  refine a_region (by kernel_rfl) ?_
  refine op_v' (j_move (evo rfl)) ?_
  refine op_v' (j_move (evo rfl)) ?_
  refine op_v' (j_elemN slt28 rfl rfl rfl (at_map (by first | omega | (simp only [nr]; omega))) rfl) ?_
  refine op_v' (j_load_el leaf34 rfl (at_map (by first | omega | (simp only [nr]; omega))) rfl) ?_
  refine op_v' (j_move (evo rfl)) ?_
  refine op_v' (j_elemN (n := (c.getD k default).toNat) slt34 rfl rfl (by omega) (at_map (by first | omega | (simp only [nr]; omega))) rfl) ?_
  refine op_v' (j_load_el leaf4 rfl (at_map (by first | omega | (simp only [nr]; omega))) rfl) ?_
  refine op_v' (j_not rfl) ?_
  refine op_nil ?_
  refine a_cond rfl (fun h2 => ?_) (fun h2 => ?_)
  ·
   have h2r := h2
   try simp only [nq, nr] at h2
   refine a_seq ?_
   refine a_region (by kernel_rfl) ?_
   refine op_v' (j_assign (evo rfl)) ?_
   refine op_nil ?_
   refine a_ret ?_
   exact ⟨[.p _], .p _, [], [], [], ⟨rfl, trivial⟩, rfl, rfl, trivial, rfl, rfl, ⟨boolEq (by symm; exact rng_no (k := k) (by omega) (by unfold cellD; assumption)), rfl, rfl⟩⟩
  ·
   have h2r := h2
   try simp only [nq, nr] at h2
   refine a_skip ?_
   refine a_region (by kernel_rfl) ?_
   refine op_v' (j_add rfl rfl (by first | omega | (simp only [nr]; omega)) (by first | omega | (simp only [nr]; omega))) ?_
   refine op_v' (j_move (evo rfl)) ?_
   refine op_nil ?_
   exact ⟨k + 1, ⟨by omega, rng_next hk.2 (by unfold cellD; assumption)⟩, ⟨⟨rfl, rfl⟩, ⟨rfl, trivial⟩, trivial, ⟨rfl, rfl⟩, ⟨rfl, rfl⟩⟩, (by first | omega | (simp only [nr]; omega))⟩
 ·
  have h1r := h1
  try simp only [nq, nr] at h1
  refine a_exit ?_
  refine a_seq ?_
  refine a_region (by kernel_rfl) ?_
  refine op_v' (j_assign (evo rfl)) ?_
  refine op_nil ?_
  refine a_ret ?_
  exact ⟨[.p _], .p _, [], [], [], ⟨rfl, trivial⟩, rfl, rfl, trivial, rfl, rfl, ⟨boolEq (by symm; unfold inB; rw [show c.length = k by omega]; exact hk.2), rfl, rfl⟩⟩


theorem f_equalI (a b : List Int) : Fn Try.prog 149 [.sl (a.map dI), .sl (b.map dI)] [] (fun rr ii nn => rr = .p (.bool (decide (a = b))) ∧ ii = [] ∧ nn = []) := by
 refine fn_of Try.func149 rfl (Nat.le_of_ble_eq_true rfl) fun w X g => ?_
 show AWp _ _ _ ⟨[(0, .sl (a.map dI)), (1, .sl (b.map dI))], []⟩
 refine a_len_map 0 rfl fun hla => ?_
 refine a_seq ?_
 refine a_region (by kernel_rfl) ?_
 refine op_v' (j_assign (evo rfl)) ?_
 refine op_nil ?_
 refine a_seq ?_
 refine a_seq ?_
 refine a_region (by kernel_rfl) ?_
 refine op_v' (j_move (evo rfl)) ?_
 refine op_v' (j_len_map Try.underlying23 rfl) ?_
 refine op_v' (j_move (evo rfl)) ?_
 refine op_v' (j_len_map Try.underlying23 rfl) ?_
 refine op_v' (j_ne rfl rfl) ?_
 refine op_nil ?_
 refine a_cond rfl (fun h1 => ?_) (fun h1 => ?_)
 ·
  have h1r := h1
  try simp only [nq, nr] at h1
  refine a_seq ?_
  refine a_region (by kernel_rfl) ?_
  refine op_v' (j_assign (evo rfl)) ?_
  refine op_nil ?_
  refine a_ret ?_
  exact ⟨[.p _], .p _, [], [], [], ⟨rfl, trivial⟩, rfl, rfl, trivial, rfl, rfl, ⟨boolEq (by symm; rw [decide_eq_false_iff_not]; rintro rfl; exact h1 rfl), rfl, rfl⟩⟩
 ·
  have h1r := h1
  try simp only [nq, nr] at h1
  refine a_skip ?_
  refine a_seq ?_
  refine a_seq ?_
  refine a_region (by kernel_rfl) ?_
  refine op_v' (j_move (evo rfl)) ?_
  refine op_v' (j_len_map Try.underlying23 rfl) ?_
  refine op_v' (j_move (evo rfl)) ?_
  refine op_nil ?_
  refine a_block ?_
  refine a_loopF' (ι := Nat) (fun k => k ≤ a.length ∧ a.take k = b.take k) (fun k r => (13, .p (.int .i64 ((k : Nat)))) :: r) (fun k r => r) (fun k => a.length - k) (fun _ _ => rfl) (fun _ _ => rfl) 0 ⟨Nat.zero_le _, rfl⟩ ⟨⟨rfl, rfl⟩, ⟨rfl, trivial⟩, trivial, ⟨rfl, rfl⟩, ⟨rfl, rfl⟩⟩ ?_
  intro k hpre0
  refine a_seq ?_
  refine a_region (by kernel_rfl) ?_
  refine op_v' (j_lt rfl rfl) ?_
  refine op_nil ?_
  refine a_seq ?_
  refine a_cond rfl (fun h2 => ?_) (fun h2 => ?_)
  ·
   have h2r := h2
   try simp only [nq, nr] at h2
   refine a_skip ?_
   refine a_seq ?_
   refine a_block ?_
   refine a_seq ?_
   refine a_region (by kernel_rfl) ?_
   refine op_v' (j_move (evo rfl)) ?_
   refine op_v' (j_assign (evo rfl)) ?_
   refine op_nil ?_
   refine a_seq ?_
   refine a_draw mixed (by kernel_rfl) (by kernel_rfl) fun vf => ?_
   refine d_v' (j_move (evo rfl)) ?_
   refine d_v' (j_move (evo rfl)) ?_
   refine d_v' (j_elemN slt23 rfl rfl rfl (at_map (by omega)) rfl) ?_
   refine d_v' (j_load_el leaf3 rfl (at_map (by omega)) rfl) ?_
   refine d_v' (j_move (evo rfl)) ?_
   refine d_v' (j_move (evo rfl)) ?_
   refine d_v' (j_elemN slt23 rfl rfl rfl (at_map (by omega)) rfl) ?_
   refine d_v' (j_load_el leaf3 rfl (at_map (by omega)) rfl) ?_
   refine d_v' (j_ne rfl rfl) ?_
   refine d_nil (by kernel_rfl) (by kernel_rfl) ?_
   refine a_cond rfl (fun h3 => ?_) (fun h3 => ?_)
   ·
    have h3r := h3
    try simp only [nq, nr] at h3
    refine a_seq ?_
    refine a_region (by kernel_rfl) ?_
    refine op_v' (j_assign (evo rfl)) ?_
    refine op_nil ?_
    refine a_ret ?_
    exact ⟨[.p _], .p _, [], [], [], ⟨rfl, trivial⟩, rfl, rfl, trivial, rfl, rfl, ⟨boolEq (by symm; rw [decide_eq_false_iff_not]; rintro rfl; exact h3 rfl), rfl, rfl⟩⟩
   ·
    have h3r := h3
    try simp only [nq, nr] at h3
    refine a_skip ?_
    refine a_region (by kernel_rfl) ?_
    refine op_v' (j_add rfl rfl (by omega) (by omega)) ?_
    refine op_v' (j_move (evo rfl)) ?_
    refine op_nil ?_
    exact ⟨k + 1, ⟨(by omega), take_next hpre0.2 (by omega) (by omega) h3⟩, ⟨⟨rfl, rfl⟩, ⟨rfl, trivial⟩, trivial, ⟨rfl, rfl⟩, ⟨rfl, rfl⟩⟩, (by omega)⟩
  ·
   have h2r := h2
   try simp only [nq, nr] at h2
   refine a_exit ?_
   refine a_seq ?_
   refine a_region (by kernel_rfl) ?_
   refine op_v' (j_assign (evo rfl)) ?_
   refine op_nil ?_
   refine a_ret ?_
   exact ⟨[.p _], .p _, [], [], [], ⟨rfl, trivial⟩, rfl, rfl, trivial, rfl, rfl, ⟨boolEq (by symm; rw [decide_eq_true_eq]; exact take_eq hpre0.2 (by omega) (by omega)), rfl, rfl⟩⟩


theorem f_holds1 (a x : List Int) : Fn Try.prog 148 [.sl (a.map dI), .ptr 0 0 0] [.box 23 [.sl (x.map dI)]] (fun rr ii nn => rr = .p (.bool (decide (a = x))) ∧ ii = [.box 23 [.sl (x.map dI)]] ∧ nn = []) := by
 refine fn_of Try.func148 rfl (Nat.le_of_ble_eq_true rfl) fun w X g => ?_
 show AWp _ _ _ ⟨[(0, .sl (a.map dI)), (1, .ptr 0 0 0)], [(0, some (0, .box 23 [.sl (x.map dI)]))]⟩
 refine a_seq ?_
 refine a_region (by kernel_rfl) ?_
 refine op_v' (j_assign (evo rfl)) ?_
 refine op_nil ?_
 refine a_seq ?_
 refine a_region (by kernel_rfl) ?_
 refine op_v' (j_move (evo rfl)) ?_
 refine op_v' (j_load_box leaf23 rfl rfl rfl) ?_
 refine op_v0' (j_call0 (v := .p _) (hp1 := []) [] false [] ent149 (f_equalI a x) ⟨.inl ⟨rfl, rfl⟩, .inl ⟨rfl, rfl⟩, trivial⟩ trivial rfl rfl (fun h => by cases h) rfl (fun _ h => by cases h) (.inl rfl) rfl rfl) ?_
 refine op_v' (j_assign (evo rfl)) ?_
 refine op_nil ?_
 refine a_ret ?_
 exact ⟨[.p _], .p _, [.box 23 [.sl _]], [], [], ⟨rfl, trivial⟩, rfl, rfl, ⟨⟨rfl, rfl⟩, trivial⟩, rfl, rfl, ⟨rfl, rfl, rfl⟩⟩


theorem f_holds (n : Int) (q : Rl) (x : List Int) (hr : rOk n q = true) (hx : x.length = q.2.1.length ∧ ∀ k, k < x.length → 0 ≤ x.getD k default ∧ x.getD k default ≤ 3) (hl : x.length ≤ 1048576) : Fn Try.prog 142 [.agg [.p (.int .i64 q.1), .sl (q.2.1.map dI), .sl (q.2.2.1.map dI), .p (.int .i64 q.2.2.2.1), .sl (q.2.2.2.2.map dL)], .sl (x.map dI)] [] (fun rr ii nn => rr = .p (.bool (holdB q x)) ∧ ii = [] ∧ nn = []) := by
 refine fn_of Try.func142 rfl (Nat.le_of_ble_eq_true rfl) fun w X g => ?_
 show AWp _ _ _ ⟨[(0, .agg [.p (.int .i64 q.1), .sl (q.2.1.map dI), .sl (q.2.2.1.map dI), .p (.int .i64 q.2.2.2.1), .sl (q.2.2.2.2.map dL)]), (1, .sl (x.map dI))], []⟩
 have hkd := rOk_kind hr
 refine a_seq ?_
 refine a_region (by kernel_rfl) ?_
 refine op_n' (fun ver => j_boxa rfl) fun v2x1 => ?_
 refine op_n' (fun ver => j_box (evo rfl) rfl) fun v3x2 => ?_
 refine op_v' (j_assign (evo rfl)) ?_
 refine op_nil ?_
 refine a_seq ?_
 refine a_seq ?_
 refine a_region (by kernel_rfl) ?_
 refine op_v' (j_fldp fld43f0 rfl rfl) ?_
 refine op_v' (j_load_box leaf3 rfl rfl rfl) ?_
 refine op_nil ?_
 refine a_block ?_
 refine a_seq ?_
 refine a_region (by kernel_rfl) ?_
 refine op_v' (j_eq rfl rfl) ?_
 refine op_v' (j_assign (evo rfl)) ?_
 refine op_nil ?_
 refine a_cond rfl (fun h1 => ?_) (fun h1 => ?_)
 ·
  have h1r := h1
  try simp only [nq, nr] at h1
  refine a_seq ?_
  refine a_region (by kernel_rfl) ?_
  refine op_v' (j_assign (evo rfl)) ?_
  refine op_nil ?_
  refine a_seq ?_
  refine a_seq ?_
  refine a_region (by kernel_rfl) ?_
  refine op_v' (j_load_box leaf23 rfl rfl rfl) ?_
  refine op_v' (j_len_map Try.underlying23 rfl) ?_
  refine op_v' (j_move (evo rfl)) ?_
  refine op_nil ?_
  refine a_block ?_
  refine a_loopF' (ι := Nat) (fun k => k ≤ x.length) (fun k r => (16, .p (.int .i64 ((k : Nat)))) :: (5, .p (.int .i64 (dotC q.2.2.1 x k))) :: r) (fun k r => r) (fun k => x.length - k) (fun _ _ => rfl) (fun _ _ => rfl) 0 (Nat.zero_le _) ⟨⟨rfl, rfl⟩, ⟨rfl, intEq rfl, trivial⟩, trivial, ⟨rfl, rfl⟩, ⟨rfl, rfl⟩⟩ ?_
  intro k hk
  refine a_seq ?_
  refine a_region (by kernel_rfl) ?_
  refine op_v' (j_lt rfl rfl) ?_
  refine op_nil ?_
  refine a_seq ?_
  refine a_cond rfl (fun h2 => ?_) (fun h2 => ?_)
  ·
   have h2r := h2
   try simp only [nq, nr] at h2
   refine a_skip ?_
   refine a_seq ?_
   refine a_block ?_
   refine a_seq ?_
   refine a_region (by kernel_rfl) ?_
   refine op_v' (j_move (evo rfl)) ?_
   refine op_v' (j_elemN slt23 rfl rfl rfl (at_map (by first | omega | (simp only [nr]; omega))) rfl) ?_
   refine op_v' (j_load_el leaf3 rfl (at_map (by first | omega | (simp only [nr]; omega))) rfl) ?_
   refine op_v' (j_assign (evo rfl)) ?_
   refine op_v' (j_assign (evo rfl)) ?_
   refine op_nil ?_
   have hln := rOk_lin hr (by omega)
   have hdr := dot_rng (a := q.2.2.1) (x := x) (k := k) (fun i hi => hln.2.2 i (by omega)) (fun i hi => hx.2 i (by omega))
   have hmr := mulR39 (hln.2.2 k (by omega)) (hx.2 k (by omega))
   have hxl : x.length ≤ 9223372036854775807 := by omega
   have hkl : (k : Int) ≤ 1048576 ∨ True := .inr trivial
   refine a_region (by kernel_rfl) ?_
   refine op_v' (j_move (evo rfl)) ?_
   refine op_v' (j_fldp fld43f2 rfl rfl) ?_
   refine op_v' (j_load_box leaf23 rfl rfl rfl) ?_
   refine op_v' (j_move (evo rfl)) ?_
   refine op_v' (j_elemN slt23 rfl rfl rfl (at_map (by first | omega | (simp only [nr]; omega))) rfl) ?_
   refine op_v' (j_load_el leaf3 rfl (at_map (by first | omega | (simp only [nr]; omega))) rfl) ?_
   refine op_v' (j_move (evo rfl)) ?_
   refine op_v' (j_mul rfl rfl (by first | omega | (simp only [nr]; omega)) (by first | omega | (simp only [nr]; omega))) ?_
   refine op_v' (j_add rfl rfl (by first | omega | (simp only [nr]; omega)) (by first | omega | (simp only [nr]; omega))) ?_
   refine op_v' (j_assign (evo rfl)) ?_
   refine op_nil ?_
   refine a_region (by kernel_rfl) ?_
   refine op_v' (j_add rfl rfl (by first | omega | (simp only [nr]; omega)) (by first | omega | (simp only [nr]; omega))) ?_
   refine op_v' (j_move (evo rfl)) ?_
   refine op_nil ?_
   exact ⟨k + 1, (by first | omega | (simp only [nr]; omega)), ⟨⟨rfl, rfl⟩, ⟨rfl, intEq (by rw [dot_next]), trivial⟩, trivial, ⟨rfl, rfl⟩, ⟨rfl, rfl⟩⟩, (by first | omega | (simp only [nr]; omega))⟩
  ·
   have h2r := h2
   try simp only [nq, nr] at h2
   refine a_exit ?_
   refine a_seq ?_
   refine a_region (by kernel_rfl) ?_
   refine op_v' (j_move (evo rfl)) ?_
   refine op_v' (j_fldp fld43f3 rfl rfl) ?_
   refine op_v' (j_load_box leaf3 rfl rfl rfl) ?_
   refine op_v' (j_ge rfl rfl) ?_
   refine op_v' (j_assign (evo rfl)) ?_
   refine op_nil ?_
   refine a_ret ?_
   exact ⟨[.p _], .p _, [], [], [], ⟨rfl, trivial⟩, rfl, rfl, trivial, rfl, rfl, ⟨boolEq (by rw [hold_1 (by omega), show x.length = k by omega]), rfl, rfl⟩⟩
 ·
  have h1r := h1
  try simp only [nq, nr] at h1
  refine a_seq ?_
  refine a_region (by kernel_rfl) ?_
  refine op_v' (j_eq rfl rfl) ?_
  refine op_v' (j_assign (evo rfl)) ?_
  refine op_nil ?_
  refine a_cond rfl (fun h3 => ?_) (fun h3 => ?_)
  ·
   have h3r := h3
   try simp only [nq, nr] at h3
   refine a_seq ?_
   refine a_seq ?_
   refine a_region (by kernel_rfl) ?_
   refine op_v' (j_load_box leaf23 rfl rfl rfl) ?_
   refine op_v' (j_len_map Try.underlying23 rfl) ?_
   refine op_v' (j_move (evo rfl)) ?_
   refine op_nil ?_
   refine a_block ?_
   refine a_loopF' (ι := Nat) (fun k => k ≤ x.length ∧ distB x k = true) (fun k r => (39, .p (.int .i64 ((k : Nat)))) :: r) (fun k r => r) (fun k => x.length - k) (fun _ _ => rfl) (fun _ _ => rfl) 0 ⟨Nat.zero_le _, rfl⟩ ⟨⟨rfl, rfl⟩, ⟨rfl, trivial⟩, trivial, ⟨rfl, rfl⟩, ⟨rfl, rfl⟩⟩ ?_
   intro k hk
   refine a_seq ?_
   refine a_region (by kernel_rfl) ?_
   refine op_v' (j_lt rfl rfl) ?_
   refine op_nil ?_
   refine a_seq ?_
   refine a_cond rfl (fun h4 => ?_) (fun h4 => ?_)
   ·
    have h4r := h4
    try simp only [nq, nr] at h4
    refine a_skip ?_
    refine a_seq ?_
    refine a_block ?_
    refine a_seq ?_
    refine a_region (by kernel_rfl) ?_
    refine op_v' (j_move (evo rfl)) ?_
    refine op_v' (j_elemN slt23 rfl rfl rfl (at_map (by first | omega | (simp only [nr]; omega))) rfl) ?_
    refine op_v' (j_load_el leaf3 rfl (at_map (by first | omega | (simp only [nr]; omega))) rfl) ?_
    refine op_v' (j_assign (evo rfl)) ?_
    refine op_v' (j_assign (evo rfl)) ?_
    refine op_nil ?_
    refine a_seq ?_
    refine a_region (by kernel_rfl) ?_
    refine op_v' (j_load_box leaf23 rfl rfl rfl) ?_
    refine op_v' (j_move (evo rfl)) ?_
    refine op_v' (j_cut slt23 rfl (fun y hy => by obtain ⟨t, _, rfl⟩ := List.mem_map.1 hy; rfl) Bd.none (Bd.some rfl rfl) (by first | omega | (simp only [nr]; omega)) (by first | omega | (simp only [nr]; omega))) ?_
    refine op_v' (j_move (evo rfl)) ?_
    try rw [← List.map_take]
    refine op_v0' (j_call0 (v := .p _) (hp1 := []) [] false [] ent69 (f_containsInt (x.take k) (x.getD k default)) ⟨.inl ⟨rfl, rfl⟩, .inl ⟨rfl, rfl⟩, trivial⟩ trivial rfl rfl (fun h => by cases h) rfl (fun _ h => by cases h) (.inl rfl) rfl rfl) ?_
    refine op_nil ?_
    refine a_cond rfl (fun h5 => ?_) (fun h5 => ?_)
    ·
     have h5r := h5
     try simp only [nq, nr] at h5
     refine a_seq ?_
     refine a_region (by kernel_rfl) ?_
     refine op_v' (j_assign (evo rfl)) ?_
     refine op_nil ?_
     refine a_ret ?_
     exact ⟨[.p _], .p _, [], [], [], ⟨rfl, trivial⟩, rfl, rfl, trivial, rfl, rfl, ⟨boolEq (by symm; rw [hold_2 (by omega)]; exact dist_no (k := k) (by omega) (by assumption)), rfl, rfl⟩⟩
    ·
     have h5r := h5
     try simp only [nq, nr] at h5
     refine a_skip ?_
     refine a_region (by kernel_rfl) ?_
     refine op_v' (j_add rfl rfl (by first | omega | (simp only [nr]; omega)) (by first | omega | (simp only [nr]; omega))) ?_
     refine op_v' (j_move (evo rfl)) ?_
     refine op_nil ?_
     exact ⟨k + 1, ⟨by omega, dist_next hk.2 (by assumption)⟩, ⟨⟨rfl, rfl⟩, ⟨rfl, trivial⟩, trivial, ⟨rfl, rfl⟩, ⟨rfl, rfl⟩⟩, (by first | omega | (simp only [nr]; omega))⟩
   ·
    have h4r := h4
    try simp only [nq, nr] at h4
    refine a_exit ?_
    refine a_seq ?_
    refine a_region (by kernel_rfl) ?_
    refine op_v' (j_assign (evo rfl)) ?_
    refine op_nil ?_
    refine a_ret ?_
    exact ⟨[.p _], .p _, [], [], [], ⟨rfl, trivial⟩, rfl, rfl, trivial, rfl, rfl, ⟨boolEq (by symm; rw [hold_2 (by omega), show x.length = k by omega]; exact hk.2), rfl, rfl⟩⟩
  ·
   have h3r := h3
   try simp only [nq, nr] at h3
   refine a_seq ?_
   refine a_region (by kernel_rfl) ?_
   refine op_v' (j_eq rfl rfl) ?_
   refine op_v' (j_assign (evo rfl)) ?_
   refine op_nil ?_
   refine a_cond rfl (fun h6 => ?_) (fun h6 => ?_)
   ·
    have h6r := h6
    try simp only [nq, nr] at h6
    refine a_seq ?_
    refine a_region (by kernel_rfl) ?_
    refine op_v' (j_fldp fld43f4 rfl rfl) ?_
    refine op_v' (j_load_box leaf41 rfl rfl rfl) ?_
    refine op_v' (j_makeFunc (f := 148) (xs := [.tmp 3]) (caps := [.ptr 3 v3x2 0]) rfl) ?_
    refine op_v0' (j_call0 (v := .p _) (hp1 := [(3, some (v3x2, .box 23 [.sl _]))]) [(3, v3x2)] false [3] ent117 (f_ctf_LI_sl 23 (x.map dI) 148 q.2.2.2.2 (fun a => decide (a = x)) ent148 (fun a _ => f_holds1 a x)) ⟨.inl ⟨rfl, rfl⟩, .inl ⟨rfl, rfl⟩, trivial⟩ ⟨⟨rfl, rfl⟩, trivial⟩ rfl rfl (fun h => by cases h) rfl (List.all_eq_true.1 rfl) (.inl rfl) rfl rfl) ?_
    refine op_v' (j_assign (evo rfl)) ?_
    refine op_nil ?_
    refine a_ret ?_
    exact ⟨[.p _], .p _, [], [], [], ⟨rfl, trivial⟩, rfl, rfl, trivial, rfl, rfl, ⟨boolEq (by rw [hold_3 (by omega), anyEq]; exact decide_eq_decide.2 Iff.rfl), rfl, rfl⟩⟩
   ·
    have h6r := h6
    try simp only [nq, nr] at h6
    refine a_skip ?_
    refine a_seq ?_
    have h4 := rOk_4 hr (by omega)
    refine a_draw mixed (by kernel_rfl) (by kernel_rfl) fun vf => ?_
    refine d_v' (j_load_box leaf23 rfl rfl rfl) ?_
    refine d_v' (j_elemN slt23 rfl rfl rfl (at_map (by first | omega | (simp only [nr]; omega))) rfl) ?_
    refine d_v' (j_load_el leaf3 rfl (at_map (by first | omega | (simp only [nr]; omega))) rfl) ?_
    refine d_v' (j_load_box leaf23 rfl rfl rfl) ?_
    refine d_v' (j_elemN slt23 rfl rfl rfl (at_map (by first | omega | (simp only [nr]; omega))) rfl) ?_
    refine d_v' (j_load_el leaf3 rfl (at_map (by first | omega | (simp only [nr]; omega))) rfl) ?_
    refine d_v' (j_lt rfl rfl) ?_
    refine d_v' (j_assign (evo rfl)) ?_
    refine d_nil (by kernel_rfl) (by kernel_rfl) ?_
    refine a_ret ?_
    exact ⟨[.p _], .p _, [], [], [], ⟨rfl, trivial⟩, rfl, rfl, trivial, rfl, rfl, ⟨boolEq (by rw [hold_4 (by omega)]), rfl, rfl⟩⟩


theorem f_at (n : Int) (q : Rl) (c : List Int) (hr : rOk n q = true) (hc : (c.length : Int) = n ∧ ∀ k, k < c.length → 0 ≤ c.getD k default ∧ c.getD k default ≤ 3) (hl : q.2.1.length ≤ 1048576) : Fn Try.prog 125 [.agg [.p (.int .i64 q.1), .sl (q.2.1.map dI), .sl (q.2.2.1.map dI), .p (.int .i64 q.2.2.2.1), .sl (q.2.2.2.2.map dL)], .sl (c.map dI)] [] (fun rr ii nn => rr = .p (.bool (holdB q (valsC q.2.1 c))) ∧ ii = [] ∧ nn = []) := by
 refine fn_of Try.func125 rfl (Nat.le_of_ble_eq_true rfl) fun w X g => ?_
 show AWp _ _ _ ⟨[(0, .agg [.p (.int .i64 q.1), .sl (q.2.1.map dI), .sl (q.2.2.1.map dI), .p (.int .i64 q.2.2.2.1), .sl (q.2.2.2.2.map dL)]), (1, .sl (c.map dI))], []⟩
 refine a_seq ?_
 refine a_region (by kernel_rfl) ?_
 refine op_n' (fun ver => j_boxa rfl) fun v2x1 => ?_
 refine op_v' (j_assign (evo rfl)) ?_
 refine op_nil ?_
 refine a_seq ?_
 refine a_region (by kernel_rfl) ?_
 refine op_v' (j_assign (evo rfl)) ?_
 refine op_nil ?_
 refine a_adopt' 5 5 3 1 rfl fun v5 => ?_
 refine a_seq ?_
 refine a_seq ?_
 refine a_region (by kernel_rfl) ?_
 refine op_v' (j_fldp fld43f1 rfl rfl) ?_
 refine op_v' (j_load_box leaf23 rfl rfl rfl) ?_
 refine op_v' (j_len_map Try.underlying23 rfl) ?_
 refine op_v' (j_move (evo rfl)) ?_
 refine op_nil ?_
 refine a_block ?_
 refine a_loopF' (ι := Nat × Nat) (fun x => x.1 ≤ q.2.1.length) (fun x r => (11, .p (.int .i64 ((x.1 : Nat)))) :: (5, .own 5 x.2) :: r) (fun x r => (5, some (x.2, .row 3 1 ((valsC (q.2.1.take x.1) c).map dI))) :: r) (fun x => q.2.1.length - x.1) (fun _ _ => rfl) (fun _ _ => rfl) (0, v5) (by first | exact (Nat.zero_le _) | (dsimp only; exact (Nat.zero_le _))) ⟨⟨rfl, rfl⟩, ⟨rfl, rfl, trivial⟩, ⟨rfl, trivial⟩, ⟨rfl, rfl⟩, ⟨rfl, rfl⟩⟩ ?_
 rintro ⟨k, v⟩ hk; dsimp only at hk ⊢
 refine a_seq ?_
 refine a_region (by kernel_rfl) ?_
 refine op_v' (j_lt rfl rfl) ?_
 refine op_nil ?_
 refine a_seq ?_
 refine a_cond rfl (fun h1 => ?_) (fun h1 => ?_)
 ·
  have h1r := h1
  try simp only [nq, nr, nl, vals_len] at h1
  refine a_skip ?_
  refine a_seq ?_
  refine a_block ?_
  refine a_seq ?_
  refine a_region (by kernel_rfl) ?_
  refine op_v' (j_elemN slt23 rfl rfl rfl (at_map (by first | omega | (simp only [nr, nl, vals_len]; omega))) rfl) ?_
  refine op_v' (j_load_el leaf3 rfl (at_map (by first | omega | (simp only [nr, nl, vals_len]; omega))) rfl) ?_
  refine op_v' (j_assign (evo rfl)) ?_
  refine op_nil ?_
  have hvk := rOk_vs hr k (by omega)
  refine a_region (by kernel_rfl) ?_
  refine op_v' (j_move (evo rfl)) ?_
  refine op_v' (j_move (evo rfl)) ?_
  refine op_v' (j_move (evo rfl)) ?_
  refine op_v' (j_elemN (n := (q.2.1.getD k default).toNat) slt23 rfl rfl (by omega) (at_map (by first | omega | (simp only [nr, nl, vals_len]; omega))) rfl) ?_
  refine op_v' (j_load_el leaf3 rfl (at_map (by first | omega | (simp only [nr, nl, vals_len]; omega))) rfl) ?_
  refine op_n' (fun ver => j_buildSlice (parts := [(0, .tmp 19)]) (es := [[_]]) slt23 elt3 rfl rfl (by decide) (by decide) rfl rfl (by simp) rfl) fun v20x2 => ?_
  refine op_n' (fun ver => j_append_own slt23 elt3 rfl rfl rfl rfl rfl rfl (by rw [maxLen_eq]; first | omega | (simp only [nr, nl, vals_len]; omega)) (by first | omega | (simp only [nr, nl, vals_len]; omega))) fun v5x3 => ?_
  refine op_v' (j_assign (evo rfl)) ?_
  refine op_nil ?_
  refine a_region (by kernel_rfl) ?_
  refine op_v' (j_add rfl rfl (by first | omega | (simp only [nr, nl, vals_len]; omega)) (by first | omega | (simp only [nr, nl, vals_len]; omega))) ?_
  refine op_v' (j_move (evo rfl)) ?_
  refine op_nil ?_
  exact ⟨(k + 1, v5x3), (by first | exact (by first | omega | (simp only [nr, nl, vals_len]; omega)) | (dsimp only; exact (by first | omega | (simp only [nr, nl, vals_len]; omega)))), ⟨⟨rfl, rfl⟩, ⟨rfl, rfl, trivial⟩, ⟨rowEq (by rw [vals_next (by omega), List.map_append]; rfl), trivial⟩, ⟨rfl, rfl⟩, ⟨rfl, rfl⟩⟩, (by first | exact (by first | omega | (simp only [nr, nl, vals_len]; omega)) | (dsimp only; exact (by first | omega | (simp only [nr, nl, vals_len]; omega))))⟩
 ·
  have h1r := h1
  try simp only [nq, nr, nl, vals_len] at h1
  refine a_exit ?_
  refine a_seq ?_
  obtain rfl : k = q.2.1.length := by omega
  rw [List.take_length]
  refine a_region (by kernel_rfl) ?_
  refine op_v' (j_loada_box (ys := [.p _, .sl _, .sl _, .p _, .sl _]) agg43 rfl rfl rfl (Nat.le_of_ble_eq_true rfl)) ?_
  refine op_v' (j_move (evo rfl)) ?_
  refine op_v0' (j_call0 (v := .p _) (hp1 := []) [] true [5] ent142 (f_holds n q (valsC q.2.1 c) hr ⟨vals_len, vals_rng hr hc⟩ (by rw [vals_len]; exact hl)) ⟨.inl ⟨rfl, rfl⟩, .inr ⟨rfl, view_own rfl rfl, rfl⟩, trivial⟩ trivial rfl rfl (fun _ => rfl) rfl (fun _ h => by cases h) (.inr ⟨rfl, by first | exact pl_new1 (fun _ => rfl) | exact pl_newC | (simp [plO, plV, plV.plL]; done)⟩) rfl rfl) ?_
  refine op_v' (j_assign (evo rfl)) ?_
  refine op_nil ?_
  refine a_ret ?_
  exact ⟨[.p _], .p _, [], [], [], ⟨rfl, trivial⟩, rfl, rfl, trivial, rfl, rfl, ⟨rfl, rfl, rfl⟩⟩


theorem f_l8MakeD (m : Md) (b : Bool) (hs : m.1.length ≤ 5 ∧ ∀ k, k < m.1.length → 0 ≤ m.1.getD k default ∧ m.1.getD k default ≤ 3) : Fn Try.prog 57 [.agg [.sl (m.1.map dI), .sl (m.2.map dR)], .p (.bool (b))] [] (fun rr ii nn => rr = .own 0 0 ∧ ii = [] ∧ nn = [.deep (.mk 34 1 [(0, .mk 4 1 [])]) ((fdL b m.1).map dD) none]) := by
 refine fn_of Try.func57 rfl (Nat.le_of_ble_eq_true rfl) fun w X g => ?_
 show AWp _ _ _ ⟨[(0, .agg [.sl (m.1.map dI), .sl (m.2.map dR)]), (1, .p (.bool (b)))], []⟩
 refine a_seq ?_
 refine a_region (by kernel_rfl) ?_
 refine op_n' (fun ver => j_boxa rfl) fun v2x1 => ?_
 refine op_v' (j_assign (evo rfl)) ?_
 refine op_nil ?_
 refine a_seq ?_
 refine a_region (by kernel_rfl) ?_
 refine op_n' (fun ver => j_buildSlice (parts := []) (es := []) slt28 elt34 rfl rfl (by decide) (by decide) rfl rfl (by simp) rfl) fun v9x2 => ?_
 refine op_v' (j_assign (evo rfl)) ?_
 refine op_nil ?_
 refine a_todeep 9 0 (.mk 34 1 [(0, (.mk 4 1 []))]) (zs := []) (zs' := []) rfl rfl rfl rfl eat_end rfl ?_
 refine a_seq ?_
 refine a_seq ?_
 refine a_region (by kernel_rfl) ?_
 refine op_v' (j_assign (evo rfl)) ?_
 refine op_nil ?_
 refine a_block ?_
 refine a_loopF' (ι := Nat × Nat) (fun x => x.1 ≤ m.1.length) (fun x r => (6, .p (.int .i64 ((x.1 : Nat)))) :: (5, .own 9 x.2) :: r) (fun x r => (9, some (x.2, .deep (.mk 34 1 [(0, .mk 4 1 [])]) ((fdL b (m.1.take x.1)).map dD) none)) :: r) (fun x => m.1.length - x.1) (fun _ _ => rfl) (fun _ _ => rfl) (0, v9x2) (by first | exact (Nat.zero_le _) | (dsimp only; exact (Nat.zero_le _))) ⟨⟨rfl, rfl⟩, ⟨rfl, rfl, trivial⟩, ⟨rfl, trivial⟩, ⟨rfl, rfl⟩, ⟨rfl, rfl⟩⟩ ?_
 rintro ⟨k, v⟩ hk; dsimp only at hk ⊢
 refine a_seq ?_
 refine a_seq ?_
 refine a_region (by kernel_rfl) ?_
 refine op_v' (j_move (evo rfl)) ?_
 refine op_v' (j_fldp fld26f0 rfl rfl) ?_
 refine op_v' (j_load_box leaf23 rfl rfl rfl) ?_
 refine op_v' (j_len_map Try.underlying23 rfl) ?_
 refine op_v' (j_lt rfl rfl) ?_
 refine op_nil ?_
 refine a_cond rfl (fun h1 => ?_) (fun h1 => ?_)
 ·
  have h1r := h1
  try simp only [nq, nr, nl, List.length_replicate, fdL_len] at h1
  refine a_skip ?_
  refine a_seq ?_
  refine a_block ?_
  refine a_seq ?_
  have hsk := hs.2 k (by omega)
  refine a_region (by kernel_rfl) ?_
  refine op_n' (fun ver => j_buildSlice (parts := []) (es := []) slt34 elt4 rfl rfl (by decide) (by decide) rfl rfl (by simp) rfl) fun v17x3 => ?_
  refine op_v' (j_assign (evo rfl)) ?_
  refine op_nil ?_
  refine a_seq ?_
  refine a_seq ?_
  refine a_region (by kernel_rfl) ?_
  refine op_v' (j_assign (evo rfl)) ?_
  refine op_nil ?_
  refine a_block ?_
  refine a_loopF' (ι := Nat × Nat) (fun x => x.1 ≤ ((m.1.getD k default) + 1).toNat) (fun x r => (8, .p (.int .i64 ((x.1 : Nat)))) :: (7, .own 17 x.2) :: r) (fun x r => (17, some (x.2, .row 4 1 ((List.replicate x.1 b).map dB))) :: r) (fun x => ((m.1.getD k default) + 1).toNat - x.1) (fun _ _ => rfl) (fun _ _ => rfl) (0, v17x3) (by first | exact (Nat.zero_le _) | (dsimp only; exact (Nat.zero_le _))) ⟨⟨rfl, rfl⟩, ⟨rfl, rfl, trivial⟩, ⟨rfl, trivial⟩, ⟨rfl, rfl⟩, ⟨rfl, rfl⟩⟩ ?_
  rintro ⟨j, w⟩ hj; dsimp only at hj ⊢
  refine a_seq ?_
  refine a_seq ?_
  refine a_region (by kernel_rfl) ?_
  refine op_v' (j_move (evo rfl)) ?_
  refine op_v' (j_fldp fld26f0 rfl rfl) ?_
  refine op_v' (j_load_box leaf23 rfl rfl rfl) ?_
  refine op_v' (j_move (evo rfl)) ?_
  refine op_v' (j_elemN slt23 rfl rfl rfl (at_map (by first | omega | (simp only [nr, nl, List.length_replicate, fdL_len]; omega))) rfl) ?_
  refine op_v' (j_load_el leaf3 rfl (at_map (by first | omega | (simp only [nr, nl, List.length_replicate, fdL_len]; omega))) rfl) ?_
  refine op_v' (j_le rfl rfl) ?_
  refine op_nil ?_
  refine a_cond rfl (fun h2 => ?_) (fun h2 => ?_)
  ·
   have h2r := h2
   try simp only [nq, nr, nl, List.length_replicate, fdL_len] at h2
   refine a_skip ?_
   refine a_seq ?_
   refine a_block ?_
   refine a_region (by kernel_rfl) ?_
   refine op_v' (j_move (evo rfl)) ?_
   refine op_v' (j_move (evo rfl)) ?_
   refine op_n' (fun ver => j_buildSlice (parts := [(0, .tmp 28)]) (es := [[_]]) slt34 elt4 rfl rfl (by decide) (by decide) rfl rfl (by simp) rfl) fun v29x4 => ?_
   refine op_n' (fun ver => j_append_own slt34 elt4 rfl rfl rfl rfl rfl rfl (by rw [maxLen_eq]; first | omega | (simp only [nr, nl, List.length_replicate, fdL_len]; omega)) (by first | omega | (simp only [nr, nl, List.length_replicate, fdL_len]; omega))) fun v17x5 => ?_
   refine op_v' (j_assign (evo rfl)) ?_
   refine op_nil ?_
   refine a_region (by kernel_rfl) ?_
   refine op_v' (j_move (evo rfl)) ?_
   refine op_v' (j_add rfl rfl (by first | omega | (simp only [nr, nl, List.length_replicate, fdL_len]; omega)) (by first | omega | (simp only [nr, nl, List.length_replicate, fdL_len]; omega))) ?_
   refine op_v' (j_assign (evo rfl)) ?_
   refine op_nil ?_
   exact ⟨(j + 1, v17x5), (by first | exact (by first | omega | (simp only [nr, nl, List.length_replicate, fdL_len]; omega)) | (dsimp only; exact (by first | omega | (simp only [nr, nl, List.length_replicate, fdL_len]; omega)))), ⟨⟨rfl, rfl⟩, ⟨rfl, rfl, trivial⟩, ⟨rowEq (by rw [← rep_succ, List.map_append]; rfl), trivial⟩, ⟨rfl, rfl⟩, ⟨rfl, rfl⟩⟩, (by first | exact (by first | omega | (simp only [nr, nl, List.length_replicate, fdL_len]; omega)) | (dsimp only; exact (by first | omega | (simp only [nr, nl, List.length_replicate, fdL_len]; omega))))⟩
  ·
   have h2r := h2
   try simp only [nq, nr, nl, List.length_replicate, fdL_len] at h2
   refine a_exit ?_
   refine a_region (by kernel_rfl) ?_
   refine op_v' (j_move (evo rfl)) ?_
   refine op_v' (j_move (evo rfl)) ?_
   refine op_n1' (fun ver => j_buildSlice_deep (x := .tmp 32) (t := (.mk 34 1 [(0, (.mk 4 1 []))])) slt28 elt34 rfl rfl rfl (by decide) (by decide) rfl rfl rfl (eat_own rfl rfl rfl eat_end) rfl rfl) fun v33x6 => ?_
   refine op_n1' (fun ver => j_append_deep (by decide) slt28 elt34 rfl rfl rfl rfl rfl rfl rfl rfl (Nat.le_of_ble_eq_true rfl) (by rw [maxLen_eq]; first | omega | (simp only [nr, nl, List.length_replicate, fdL_len]; omega)) (by first | omega | (simp only [nr, nl, List.length_replicate, fdL_len]; omega))) fun v9x7 => ?_
   refine op_v' (j_assign (evo rfl)) ?_
   refine op_nil ?_
   refine a_region (by kernel_rfl) ?_
   refine op_v' (j_move (evo rfl)) ?_
   refine op_v' (j_add rfl rfl (by first | omega | (simp only [nr, nl, List.length_replicate, fdL_len]; omega)) (by first | omega | (simp only [nr, nl, List.length_replicate, fdL_len]; omega))) ?_
   refine op_v' (j_assign (evo rfl)) ?_
   refine op_nil ?_
   exact ⟨(k + 1, v9x7), (by first | exact (by first | omega | (simp only [nr, nl, List.length_replicate, fdL_len]; omega)) | (dsimp only; exact (by first | omega | (simp only [nr, nl, List.length_replicate, fdL_len]; omega)))), ⟨⟨rfl, rfl⟩, ⟨rfl, rfl, trivial⟩, ⟨deepEq (by rw [fdL_next (by omega), List.map_append, ← show j = (m.1.getD k default + 1).toNat by omega]; rfl), trivial⟩, ⟨rfl, rfl⟩, ⟨rfl, rfl⟩⟩, (by first | exact (by first | omega | (simp only [nr, nl, List.length_replicate, fdL_len]; omega)) | (dsimp only; exact (by first | omega | (simp only [nr, nl, List.length_replicate, fdL_len]; omega))))⟩
 ·
  have h1r := h1
  try simp only [nq, nr, nl, List.length_replicate, fdL_len] at h1
  refine a_exit ?_
  refine a_seq ?_
  refine a_region (by kernel_rfl) ?_
  refine op_v' (j_move (evo rfl)) ?_
  refine op_v' (j_assign (evo rfl)) ?_
  refine op_nil ?_
  refine a_ret ?_
  exact ⟨[.own 9 v], .own 0 0, [], [.deep (.mk 34 1 [(0, (.mk 4 1 []))]) _ none], [(9, v)], ⟨rfl, trivial⟩, rfl, rfl, ⟨⟨rfl, rfl⟩, trivial⟩, rfl, rfl, ⟨rfl, rfl, by rw [List.take_of_length_le (by omega)]⟩⟩


theorem f_filt1 (m : Md) (q : Rl) (d : List (List Bool)) (hm : mOk m = true) (hq : rOk m.1.length q = true) (hd : fitsB m.1 d = true) (hl : q.2.1.length ≤ 1048576) (c : List Int) (o : List (List Bool)) (hc : cvL m.1 c = true) (ho : fitsB m.1 o = true) : Fn Try.prog 124 [.own 4 0, .ptr 0 0 0, .ptr 1 0 0, .ptr 2 0 0] [.box 28 [.sl (d.map dD)], .box 43 [.p (.int .i64 q.1), .sl (q.2.1.map dI), .sl (q.2.2.1.map dI), .p (.int .i64 q.2.2.2.1), .sl (q.2.2.2.2.map dL)], .box 28 [.own 3 0], .deep (.mk 34 1 [(0, .mk 4 1 [])]) ((o).map dD) none, .row 3 1 (c.map dI)] (fun rr ii nn => rr = .p (.bool (true)) ∧ ii = [.box 28 [.sl (d.map dD)], .box 43 [.p (.int .i64 q.1), .sl (q.2.1.map dI), .sl (q.2.2.1.map dI), .p (.int .i64 q.2.2.2.1), .sl (q.2.2.2.2.map dL)], .box 28 [.own 3 0], .deep (.mk 34 1 [(0, .mk 4 1 [])]) (((if okC2 q d c then markN o c c.length else o)).map dD) none, .row 3 1 (c.map dI)] ∧ nn = []) := by
 refine fn_of Try.func124 rfl (Nat.le_of_ble_eq_true rfl) fun w X g => ?_
 show AWp _ _ _ ⟨[(0, .own 4 0), (1, .ptr 0 0 0), (2, .ptr 1 0 0), (3, .ptr 2 0 0)], [(0, some (0, .box 28 [.sl (d.map dD)])), (1, some (0, .box 43 [.p (.int .i64 q.1), .sl (q.2.1.map dI), .sl (q.2.2.1.map dI), .p (.int .i64 q.2.2.2.1), .sl (q.2.2.2.2.map dL)])), (2, some (0, .box 28 [.own 3 0])), (3, some (0, .deep (.mk 34 1 [(0, .mk 4 1 [])]) ((o).map dD) none)), (4, some (0, .row 3 1 (c.map dI)))]⟩
 have hms := mOk_sz hm
 have hfd := fits_at hd
 have hcv := cv_at hc
 have hof := fits_at ho
 have hc3 : ∀ k, k < c.length → 0 ≤ c.getD k default ∧ c.getD k default ≤ 3 := fun k hk2 => by have q1 := hcv.2 k hk2; have q2 := hms.2 k (by omega); omega
 have hin : ∀ k, k < c.length → 0 ≤ c.getD k default ∧ c.getD k default < ((d.getD k default).length : Int) := fun k hk2 => by have q1 := hcv.2 k hk2; have q2 := hfd.2 k (by omega); omega
 refine a_seq ?_
 refine a_region (by kernel_rfl) ?_
 refine op_v' (j_assign (evo rfl)) ?_
 refine op_nil ?_
 refine a_seq ?_
 refine a_seq ?_
 refine a_region (by kernel_rfl) ?_
 refine op_v' (j_load_box leaf28 rfl rfl rfl) ?_
 refine op_v' (j_move (evo rfl)) ?_
 refine op_v0' (j_call0 (v := .p _) (hp1 := []) [] true [4] ent63 (f_inside d c (by omega) hin) ⟨.inl ⟨rfl, rfl⟩, .inr ⟨rfl, view_own rfl rfl, rfl⟩, trivial⟩ trivial rfl rfl (fun _ => rfl) rfl (fun _ h => by cases h) (.inr ⟨rfl, by first | exact pl_new1 (fun _ => rfl) | exact pl_newC | (simp [plO, plV, plV.plL]; done)⟩) rfl rfl) ?_
 refine op_v' (j_move (evo rfl)) ?_
 refine op_split' 11 rfl (fun h1 => ?_) (fun h1 => ?_)
 ·
  have h1r := h1
  try simp only [nq, nr, nl, markN_length] at h1
  refine op_v' (j_want rfl rfl h1r (j_loada_box (ys := [.p _, .sl _, .sl _, .p _, .sl _]) agg43 rfl rfl rfl (Nat.le_of_ble_eq_true rfl))) ?_
  refine op_v' (j_want rfl rfl h1r (j_move (evo rfl))) ?_
  refine op_v0' (j_want rfl rfl h1r (j_call0 (v := .p _) (hp1 := []) [] true [4] ent125 (f_at m.1.length q c hq ⟨by omega, hc3⟩ hl) ⟨.inl ⟨rfl, rfl⟩, .inr ⟨rfl, view_own rfl rfl, rfl⟩, trivial⟩ trivial rfl rfl (fun _ => rfl) rfl (fun _ h => by cases h) (.inr ⟨rfl, by first | exact pl_new1 (fun _ => rfl) | exact pl_newC | (simp [plO, plV, plV.plL]; done)⟩) rfl rfl)) ?_
  refine op_v' (j_pick_t rfl h1r (evo rfl)) ?_
  refine op_nil ?_
  refine a_cond rfl (fun h2 => ?_) (fun h2 => ?_)
  ·
   have h2r := h2
   try simp only [nq, nr, nl, markN_length] at h2
   refine a_seq ?_
   refine a_region (by kernel_rfl) ?_
   refine op_v' (j_move (evo rfl)) ?_
   refine op_v' (j_len_own_map Try.underlying23 rfl rfl) ?_
   refine op_v' (j_move (evo rfl)) ?_
   refine op_nil ?_
   refine a_block ?_
   refine a_loopF' (ι := Nat) (fun i => i ≤ c.length) (fun i r => (18, .p (.int .i64 ((i : Nat)))) :: r) (fun i r => (3, some (0, .deep (.mk 34 1 [(0, .mk 4 1 [])]) ((markN o c i).map dD) none)) :: r) (fun i => c.length - i) (fun _ _ => rfl) (fun _ _ => rfl) 0 (Nat.zero_le _) ⟨⟨rfl, rfl⟩, ⟨rfl, trivial⟩, ⟨rfl, trivial⟩, ⟨rfl, rfl⟩, ⟨rfl, rfl⟩⟩ ?_
   intro i hi
   refine a_seq ?_
   refine a_region (by kernel_rfl) ?_
   refine op_v' (j_lt rfl rfl) ?_
   refine op_nil ?_
   refine a_seq ?_
   refine a_cond rfl (fun h3 => ?_) (fun h3 => ?_)
   ·
    have h3r := h3
    try simp only [nq, nr, nl, markN_length] at h3
    refine a_skip ?_
    refine a_seq ?_
    refine a_block ?_
    refine a_seq ?_
    refine a_region (by kernel_rfl) ?_
    refine op_v' (j_move (evo rfl)) ?_
    refine op_v' (j_elem_ownN slt23 rfl rfl rfl rfl (by first | omega | (simp only [nr, nl, markN_length]; omega))) ?_
    refine op_v' (j_load_pel leaf3 rfl rfl (at_map (by first | omega | (simp only [nr, nl, markN_length]; omega))) rfl) ?_
    refine op_v' (j_assign (evo rfl)) ?_
    refine op_v' (j_assign (evo rfl)) ?_
    refine op_nil ?_
    have hci := hcv.2 i (by omega)
    have hri := (fits_at (fits_mark (c := c) (k := i) ho)).2 i (by rw [markN_length]; omega)
    refine a_region (by kernel_rfl) ?_
    refine op_v' (j_load_box leaf28 rfl rfl rfl) ?_
    refine op_v' (j_move (evo rfl)) ?_
    refine op_v' (j_elem_deepN slt28 rfl rfl rfl rfl rfl (by first | omega | (simp only [nr, nl, markN_length]; omega))) ?_
    refine op_n1' (fun ver => j_out leaf34 (by decide) rfl rfl rfl (at_map (by first | omega | (simp only [nr, nl, markN_length]; omega))) rfl rfl) fun v26x1 => ?_
    refine op_v' (j_move (evo rfl)) ?_
    refine op_v' (j_elem_ownN (n := (c.getD i default).toNat) slt34 rfl rfl rfl (by omega) (by first | omega | (simp only [nr, nl, markN_length]; omega))) ?_
    refine op_s' (j_store_row leaf4 rfl rfl (by first | omega | (simp only [nr, nl, markN_length]; omega)) (evo rfl) rfl rfl) ?_
    refine op_nil ?_
    refine a_back 3 26 (by decide) rfl rfl rfl rfl (at_map (by first | omega | (simp only [nr, nl, markN_length]; omega))) rfl ?_
    refine a_region (by kernel_rfl) ?_
    refine op_v' (j_add rfl rfl (by first | omega | (simp only [nr, nl, markN_length]; omega)) (by first | omega | (simp only [nr, nl, markN_length]; omega))) ?_
    refine op_v' (j_move (evo rfl)) ?_
    refine op_nil ?_
    exact ⟨i + 1, (by first | omega | (simp only [nr, nl, markN_length]; omega)), ⟨⟨rfl, rfl⟩, ⟨rfl, trivial⟩, ⟨deepEq mark_eq, trivial⟩, ⟨rfl, rfl⟩, ⟨rfl, rfl⟩⟩, (by first | omega | (simp only [nr, nl, markN_length]; omega))⟩
   ·
    have h3r := h3
    try simp only [nq, nr, nl, markN_length] at h3
    refine a_exit ?_
    refine a_seq ?_
    try obtain rfl : i = c.length := by omega
    refine a_region (by kernel_rfl) ?_
    refine op_v' (j_assign (evo rfl)) ?_
    refine op_nil ?_
    refine a_ret ?_
    exact ⟨[.p _], .p _, [.box 28 [.sl _], .box 43 [.p _, .sl _, .sl _, .p _, .sl _], .box 28 [.own 3 0], .deep (.mk 34 1 [(0, (.mk 4 1 []))]) _ none, .row 3 1 _], [], [], ⟨rfl, trivial⟩, rfl, rfl, ⟨⟨rfl, rfl⟩, ⟨rfl, rfl⟩, ⟨rfl, rfl⟩, ⟨rfl, rfl⟩, ⟨rfl, rfl⟩, trivial⟩, rfl, rfl, ⟨rfl, by rw [run_yes (show okC2 q d c = true by unfold okC2; simp_all)], rfl⟩⟩
  ·
   have h2r := h2
   try simp only [nq, nr, nl, markN_length] at h2
   refine a_skip ?_
   refine a_seq ?_
   try obtain rfl : i = c.length := by omega
   refine a_region (by kernel_rfl) ?_
   refine op_v' (j_assign (evo rfl)) ?_
   refine op_nil ?_
   refine a_ret ?_
   exact ⟨[.p _], .p _, [.box 28 [.sl _], .box 43 [.p _, .sl _, .sl _, .p _, .sl _], .box 28 [.own 3 0], .deep (.mk 34 1 [(0, (.mk 4 1 []))]) _ none, .row 3 1 _], [], [], ⟨rfl, trivial⟩, rfl, rfl, ⟨⟨rfl, rfl⟩, ⟨rfl, rfl⟩, ⟨rfl, rfl⟩, ⟨rfl, rfl⟩, ⟨rfl, rfl⟩, trivial⟩, rfl, rfl, ⟨rfl, by rw [run_no (show okC2 q d c = false by unfold okC2; simp_all)], rfl⟩⟩
 ·
  have h1r := h1
  try simp only [nq, nr, nl, markN_length] at h1
  refine op_v' (j_unwantV rfl rfl h1r) ?_
  refine op_v' (j_unwantV rfl rfl h1r) ?_
  refine op_v' (j_unwantV rfl rfl h1r) ?_
  refine op_v' (j_pick_f rfl h1r (evo rfl)) ?_
  refine op_nil ?_
  refine a_ff rfl ?_
  refine a_skip ?_
  refine a_seq ?_
  try obtain rfl : i = c.length := by omega
  refine a_region (by kernel_rfl) ?_
  refine op_v' (j_assign (evo rfl)) ?_
  refine op_nil ?_
  refine a_ret ?_
  exact ⟨[.p _], .p _, [.box 28 [.sl _], .box 43 [.p _, .sl _, .sl _, .p _, .sl _], .box 28 [.own 3 0], .deep (.mk 34 1 [(0, (.mk 4 1 []))]) _ none, .row 3 1 _], [], [], ⟨rfl, trivial⟩, rfl, rfl, ⟨⟨rfl, rfl⟩, ⟨rfl, rfl⟩, ⟨rfl, rfl⟩, ⟨rfl, rfl⟩, ⟨rfl, rfl⟩, trivial⟩, rfl, rfl, ⟨rfl, by rw [run_no (show okC2 q d c = false by unfold okC2; simp_all)], rfl⟩⟩


theorem f_cloneI2 (ts : List Int) (hts : ts.length ≤ 1048576) : Fn Try.prog 88 [.sl (ts.map dI)] [] (fun rr ii nn => rr = .own 0 0 ∧ ii = [] ∧ nn = [.row 3 1 (ts.map dI)]) := by
 refine fn_of Try.func88 rfl (Nat.le_of_ble_eq_true rfl) fun w X g => ?_
 show AWp _ _ _ ⟨[(0, .sl (ts.map dI))], []⟩
 refine a_seq ?_
 refine a_region (by kernel_rfl) ?_
 refine op_v' (j_assign (evo rfl)) ?_
 refine op_nil ?_
 refine a_seq ?_
 refine a_seq ?_
 refine a_region (by kernel_rfl) ?_
 refine op_v' (j_move (evo rfl)) ?_
 refine op_eqnil Try.underlying23 rfl fun b1 hb1 => ?_
 refine op_nil ?_
 refine a_cond rfl (fun h2 => ?_) (fun h2 => ?_)
 ·
  have h2r := h2
  try simp only [nq, nr, nl] at h2
  refine a_seq ?_
  refine a_region (by kernel_rfl) ?_
  refine op_v' (j_assign (evo rfl)) ?_
  refine op_nil ?_
  refine a_adopt' 2 2 3 1 rfl fun v2 => ?_
  refine a_ret ?_
  exact ⟨[.own 2 v2], .own 0 0, [], [.row 3 1 _], [(2, v2)], ⟨rfl, trivial⟩, rfl, rfl, ⟨⟨rfl, rfl⟩, trivial⟩, rfl, rfl, ⟨rfl, rfl, by rw [List.eq_nil_of_length_eq_zero (l := ts) (by simp_all)]; rfl⟩⟩
 ·
  have h2r := h2
  try simp only [nq, nr, nl] at h2
  refine a_skip ?_
  refine a_seq ?_
  refine a_region (by kernel_rfl) ?_
  refine op_n' (fun ver => j_buildSlice (parts := []) (es := []) slt23 elt3 rfl rfl (by decide) (by decide) rfl rfl (by simp) rfl) fun v5x1 => ?_
  refine op_v' (j_move (evo rfl)) ?_
  refine op_n' (fun ver => j_append_sl slt23 elt3 rfl rfl rfl rfl (by simp [dI]) lf_ints (by rw [maxLen_eq]; first | omega | (simp only [nr, nl]; omega)) (by first | omega | (simp only [nr, nl]; omega))) fun v5x2 => ?_
  refine op_v' (j_assign (evo rfl)) ?_
  refine op_nil ?_
  refine a_ret ?_
  exact ⟨[.own 5 v5x2], .own 0 0, [], [.row 3 1 _], [(5, v5x2)], ⟨rfl, trivial⟩, rfl, rfl, ⟨⟨rfl, rfl⟩, trivial⟩, rfl, rfl, ⟨rfl, rfl, rfl⟩⟩


theorem f_each (F : Nat) (m : Md) (q : Rl) (d o : List (List Bool)) (hm : mOk m = true) (ho : fitsB m.1 o = true) (hE : Ent' Try.prog F) (hF : ∀ (c : List Int) (o : List (List Bool)), cvL m.1 c = true → fitsB m.1 o = true → Fn Try.prog F [.own 4 0, .ptr 0 0 0, .ptr 1 0 0, .ptr 2 0 0] [.box 28 [.sl (d.map dD)], .box 43 [.p (.int .i64 q.1), .sl (q.2.1.map dI), .sl (q.2.2.1.map dI), .p (.int .i64 q.2.2.2.1), .sl (q.2.2.2.2.map dL)], .box 28 [.own 3 0], .deep (.mk 34 1 [(0, .mk 4 1 [])]) ((o).map dD) none, .row 3 1 (c.map dI)] (fun r i n => r = .p (.bool true) ∧ i = [.box 28 [.sl (d.map dD)], .box 43 [.p (.int .i64 q.1), .sl (q.2.1.map dI), .sl (q.2.2.1.map dI), .p (.int .i64 q.2.2.2.1), .sl (q.2.2.2.2.map dL)], .box 28 [.own 3 0], .deep (.mk 34 1 [(0, .mk 4 1 [])]) ((stepO q d c o).map dD) none, .row 3 1 (c.map dI)] ∧ n = [])) : Fn Try.prog 85 [.sl (m.1.map dI), .own 4 0, .fn F [.ptr 0 0 0, .ptr 1 0 0, .ptr 2 0 0]] [.box 28 [.sl (d.map dD)], .box 43 [.p (.int .i64 q.1), .sl (q.2.1.map dI), .sl (q.2.2.1.map dI), .p (.int .i64 q.2.2.2.1), .sl (q.2.2.2.2.map dL)], .box 28 [.own 3 0], .deep (.mk 34 1 [(0, .mk 4 1 [])]) ((o).map dD) none, .row 3 1 (List.replicate m.1.length [.p (.int .i64 0)])] (fun rr ii nn => rr = .tup [] ∧ ii = [.box 28 [.sl (d.map dD)], .box 43 [.p (.int .i64 q.1), .sl (q.2.1.map dI), .sl (q.2.2.1.map dI), .p (.int .i64 q.2.2.2.1), .sl (q.2.2.2.2.map dL)], .box 28 [.own 3 0], .deep (.mk 34 1 [(0, .mk 4 1 [])]) (((runF m.1 (okC2 q d) (prS m.1) (List.replicate m.1.length (0 : Int)) o)).map dD) none, .row 3 1 ((List.replicate m.1.length (0 : Int)).map dI)] ∧ nn = []) := by
 refine fn_of Try.func85 rfl (Nat.le_of_ble_eq_true rfl) fun w X g => ?_
 show AWp _ _ _ ⟨[(0, .sl (m.1.map dI)), (1, .own 4 0), (2, .fn F [.ptr 0 0 0, .ptr 1 0 0, .ptr 2 0 0])], [(0, some (0, .box 28 [.sl (d.map dD)])), (1, some (0, .box 43 [.p (.int .i64 q.1), .sl (q.2.1.map dI), .sl (q.2.2.1.map dI), .p (.int .i64 q.2.2.2.1), .sl (q.2.2.2.2.map dL)])), (2, some (0, .box 28 [.own 3 0])), (3, some (0, .deep (.mk 34 1 [(0, .mk 4 1 [])]) ((o).map dD) none)), (4, some (0, .row 3 1 (List.replicate m.1.length [.p (.int .i64 0)])))]⟩
 have hms := mOk_sz hm
 refine a_row 4 (es' := (List.replicate m.1.length (0 : Int)).map dI) rfl (by rw [List.map_replicate]; rfl) ?_
 refine a_seq ?_
 refine a_region (by kernel_rfl) ?_
 refine op_v' (j_move (evo rfl)) ?_
 refine op_n1' (fun ver => j_call1 (v := .own 9 ver) (hp1 := [(9, some (ver, .row 3 1 _))]) [] true [4] ent88 (f_cloneI2 (List.replicate m.1.length (0 : Int)) (by rw [List.length_replicate]; omega)) ⟨.inr ⟨rfl, view_own rfl rfl, rfl⟩, trivial⟩ trivial rfl rfl rfl (fun _ => rfl) rfl (List.all_eq_true.1 rfl) (.inr ⟨rfl, by first | exact pl_new1 (fun _ => rfl) | exact pl_newC | (simp [plO, plV, plV.plL]; done)⟩) rfl rfl) fun v9x1 => ?_
 refine op_v' (j_assign (evo rfl)) ?_
 refine op_nil ?_
 refine a_block ?_
 refine a_loopF' (ι := List Int × List (List Bool)) (fun x => cvL m.1 x.1 = true ∧ fitsB m.1 x.2 = true ∧ runF m.1 (okC2 q d) (prS m.1 - vlS m.1 x.1) x.1 x.2 = (runF m.1 (okC2 q d) (prS m.1) (List.replicate m.1.length (0 : Int)) o)) (fun x r => r) (fun x r => (0, some (0, .box 28 [.sl (d.map dD)])) :: (1, some (0, .box 43 [.p (.int .i64 q.1), .sl (q.2.1.map dI), .sl (q.2.2.1.map dI), .p (.int .i64 q.2.2.2.1), .sl (q.2.2.2.2.map dL)])) :: (2, some (0, .box 28 [.own 3 0])) :: (3, some (0, .deep (.mk 34 1 [(0, .mk 4 1 [])]) ((x.2).map dD) none)) :: (9, some (v9x1, .row 3 1 (x.1.map dI))) :: r) (fun x => prS m.1 - vlS m.1 x.1) (fun _ _ => rfl) (fun _ _ => rfl) ((List.replicate m.1.length (0 : Int)), o) (by first | exact ⟨cv_zero (fun k hk => (hms.2 k hk).1), ho, by rw [vl_zero]; rfl⟩ | (dsimp only; exact ⟨cv_zero (fun k hk => (hms.2 k hk).1), ho, by rw [vl_zero]; rfl⟩)) ⟨⟨rfl, rfl⟩, trivial, ⟨rfl, rfl, rfl, rfl, rfl, trivial⟩, ⟨rfl, rfl⟩, ⟨rfl, rfl⟩⟩ ?_
 rintro ⟨c, o1⟩ hk; dsimp only at hk ⊢
 refine a_seq ?_
 refine a_seq ?_
 have hcv := cv_at hk.1
 have hrn := run_next hk.1 hk.2.2
 refine a_region (by kernel_rfl) ?_
 refine op_v' (j_move (evo rfl)) ?_
 refine op_v' (j_move (evo rfl)) ?_
 refine op_v0' (j_callF0 (v := .p _) (hp1 := [(0, some (0, .box 28 [.sl _])), (1, some (0, .box 43 [.p _, .sl _, .sl _, .p _, .sl _])), (2, some (0, .box 28 [.own 3 0])), (3, some (0, .deep (.mk 34 1 [(0, (.mk 4 1 []))]) _ none)), (9, some (v9x1, .row 3 1 _))]) [(0, 0), (1, 0), (2, 0), (3, 0), (9, v9x1)] false [9, 0, 1, 2, 3] rfl hE (hF c o1 hk.1 hk.2.1) ⟨.inl ⟨rfl, rfl⟩, .inl ⟨rfl, rfl⟩, .inl ⟨rfl, rfl⟩, .inl ⟨rfl, rfl⟩, trivial⟩ ⟨⟨rfl, rfl⟩, ⟨rfl, rfl⟩, ⟨rfl, rfl⟩, ⟨rfl, rfl⟩, ⟨rfl, rfl⟩, trivial⟩ rfl rfl (fun h => by cases h) rfl (List.all_eq_true.1 rfl) (.inl rfl) rfl rfl) ?_
 refine op_nil ?_
 refine a_cond rfl (fun h1 => ?_) (fun h1 => ?_)
 ·
  have h1r := h1
  try simp only [nq, nr, nl] at h1
  refine a_skip ?_
  refine a_block ?_
  refine a_seq ?_
  refine a_region (by kernel_rfl) ?_
  refine op_v' (j_move (evo rfl)) ?_
  refine op_v' (j_len_own_map Try.underlying23 rfl rfl) ?_
  refine op_v' (j_sub rfl rfl (by first | omega | (simp only [nr, nl]; omega)) (by first | omega | (simp only [nr, nl]; omega))) ?_
  refine op_v' (j_assign (evo rfl)) ?_
  refine op_nil ?_
  refine a_seq ?_
  refine a_block ?_
  refine a_loopF' (ι := Nat × List Int) (fun x => x.1 ≤ c.length ∧ x.2.length = c.length ∧ (∀ i, i < x.1 → 0 ≤ x.2.getD i default ∧ x.2.getD i default ≤ m.1.getD i default) ∧ nxt m.1 x.2 x.1 = (nxt m.1 c c.length)) (fun x r => (7, .p (.int .i64 ((x.1 : Int) - 1))) :: r) (fun x r => (9, some (v9x1, .row 3 1 (x.2.map dI))) :: r) (fun x => x.1) (fun _ _ => rfl) (fun _ _ => rfl) (c.length, c) (by first | exact ⟨Nat.le_refl _, rfl, (fun i hi => hcv.2 i hi), rfl⟩ | (dsimp only; exact ⟨Nat.le_refl _, rfl, (fun i hi => hcv.2 i hi), rfl⟩)) ⟨⟨rfl, rfl⟩, ⟨intEq (by omega), trivial⟩, ⟨rfl, trivial⟩, ⟨rfl, rfl⟩, ⟨rfl, rfl⟩⟩ ?_
  rintro ⟨k, e⟩ hk2; dsimp only at hk2 ⊢
  refine a_seq ?_
  refine a_seq ?_
  refine a_draw mixed (by kernel_rfl) (by kernel_rfl) fun vf => ?_
  refine d_v' (j_move (evo rfl)) ?_
  refine d_v' (j_ge rfl rfl) ?_
  refine d_v' (j_move (evo rfl)) ?_
  refine d_split' 18 rfl (fun h2 => ?_) (fun h2 => ?_)
  ·
   have h2r := h2
   try simp only [nq, nr, nl] at h2
   refine d_v' (j_want rfl rfl h2r (j_move (evo rfl))) ?_
   refine d_v' (j_want rfl rfl h2r (j_move (evo rfl))) ?_
   refine d_v' (j_want rfl rfl h2r (j_elem_ownN (n := (k - 1)) slt23 rfl rfl rfl (by omega) (by first | omega | (simp only [nr, nl]; omega)))) ?_
   refine d_v' (j_want rfl rfl h2r (j_load_pel leaf3 rfl rfl (at_map (by first | omega | (simp only [nr, nl]; omega))) rfl)) ?_
   refine d_v' (j_want rfl rfl h2r (j_move (evo rfl))) ?_
   refine d_v' (j_want rfl rfl h2r (j_move (evo rfl))) ?_
   refine d_v' (j_want rfl rfl h2r (j_elemN (n := (k - 1)) slt23 rfl rfl (by omega) (at_map (by first | omega | (simp only [nr, nl]; omega))) rfl)) ?_
   refine d_v' (j_want rfl rfl h2r (j_load_el leaf3 rfl (at_map (by first | omega | (simp only [nr, nl]; omega))) rfl)) ?_
   refine d_v' (j_want rfl rfl h2r (j_eq rfl rfl)) ?_
   refine d_v' (j_pick_t rfl h2r (evo rfl)) ?_
   refine d_nil (by kernel_rfl) (by kernel_rfl) ?_
   refine a_cond rfl (fun h3 => ?_) (fun h3 => ?_)
   ·
    have h3r := h3
    try simp only [nq, nr, nl] at h3
    refine a_skip ?_
    refine a_block ?_
    refine a_seq ?_
    refine a_region (by kernel_rfl) ?_
    refine op_v' (j_move (evo rfl)) ?_
    refine op_v' (j_move (evo rfl)) ?_
    refine op_v' (j_elem_ownN (n := (k - 1)) slt23 rfl rfl rfl (by omega) (by first | omega | (simp only [nr, nl]; omega))) ?_
    refine op_s' (j_store_row leaf3 rfl rfl (by first | omega | (simp only [nr, nl]; omega)) (evo rfl) rfl rfl) ?_
    refine op_nil ?_
    refine a_region (by kernel_rfl) ?_
    refine op_v' (j_move (evo rfl)) ?_
    refine op_v' (j_sub rfl rfl (by first | omega | (simp only [nr, nl]; omega)) (by first | omega | (simp only [nr, nl]; omega))) ?_
    refine op_v' (j_assign (evo rfl)) ?_
    refine op_nil ?_
    exact ⟨(k - 1, e.set (k - 1) 0), (by first | exact ⟨by omega, by rw [List.length_set]; exact hk2.2.1, fun i hi => by rw [getD_setne (by omega)]; exact hk2.2.2.1 i (by omega), by rw [← hk2.2.2.2, nxt_at (k := k) (by omega), if_neg (by omega)]⟩ | (dsimp only; exact ⟨by omega, by rw [List.length_set]; exact hk2.2.1, fun i hi => by rw [getD_setne (by omega)]; exact hk2.2.2.1 i (by omega), by rw [← hk2.2.2.2, nxt_at (k := k) (by omega), if_neg (by omega)]⟩)), ⟨⟨rfl, rfl⟩, ⟨intEq (by omega), trivial⟩, ⟨rowEq (List.map_set ..).symm, trivial⟩, ⟨rfl, rfl⟩, ⟨rfl, rfl⟩⟩, (by first | exact (by omega) | (dsimp only; exact (by omega)))⟩
   ·
    have h3r := h3
    try simp only [nq, nr, nl] at h3
    refine a_exit ?_
    refine a_seq ?_
    refine a_seq ?_
    refine a_region (by kernel_rfl) ?_
    refine op_v' (j_move (evo rfl)) ?_
    refine op_v' (j_lt rfl rfl) ?_
    refine op_nil ?_
    refine a_cond rfl (fun h4 => ?_) (fun h4 => ?_)
    ·
     have h4r := h4
     try simp only [nq, nr, nl] at h4
     refine a_ret ?_
     exact ⟨[], .tup [], [.box 28 [.sl _], .box 43 [.p _, .sl _, .sl _, .p _, .sl _], .box 28 [.own 3 0], .deep (.mk 34 1 [(0, (.mk 4 1 []))]) _ none, .row 3 1 _], [], [], trivial, rfl, rfl, ⟨⟨rfl, rfl⟩, ⟨rfl, rfl⟩, ⟨rfl, rfl⟩, ⟨rfl, rfl⟩, ⟨rfl, rfl⟩, trivial⟩, rfl, rfl, ⟨rfl, by have hq : (nxt m.1 c c.length) = (e, false) := (by rw [← hk2.2.2.2, show k = 0 by omega]; rfl); rw [hq] at hrn; rw [← hrn.2.1]; rfl, rfl⟩⟩
    ·
     have h4r := h4
     try simp only [nq, nr, nl] at h4
     refine a_skip ?_
     have hek := hk2.2.2.1 (k - 1) (by omega)
     have hmk := hms.2 (k - 1) (by omega)
     have hq : (nxt m.1 c c.length) = (e.set (k - 1) (e.getD (k - 1) default + 1), true) := by rw [← hk2.2.2.2, nxt_at (by omega), if_pos (by omega)]
     rw [hq] at hrn
     refine a_region (by kernel_rfl) ?_
     refine op_v' (j_move (evo rfl)) ?_
     refine op_v' (j_move (evo rfl)) ?_
     refine op_v' (j_elem_ownN (n := (k - 1)) slt23 rfl rfl rfl (by omega) (by first | omega | (simp only [nr, nl]; omega))) ?_
     refine op_v' (j_load_pel leaf3 rfl rfl (at_map (by first | omega | (simp only [nr, nl]; omega))) rfl) ?_
     refine op_v' (j_add rfl rfl (by first | omega | (simp only [nr, nl]; omega)) (by first | omega | (simp only [nr, nl]; omega))) ?_
     refine op_v' (j_elem_ownN (n := (k - 1)) slt23 rfl rfl rfl (by omega) (by first | omega | (simp only [nr, nl]; omega))) ?_
     refine op_s' (j_store_row leaf3 rfl rfl (by first | omega | (simp only [nr, nl]; omega)) (evo rfl) rfl rfl) ?_
     refine op_nil ?_
     exact ⟨((nxt m.1 c c.length).1, stepO q d c o1), (by first | exact ⟨by rw [hq]; exact hrn.1, fits_step hk.2.1, by rw [hq]; exact hrn.2.1⟩ | (dsimp only; exact ⟨by rw [hq]; exact hrn.1, fits_step hk.2.1, by rw [hq]; exact hrn.2.1⟩)), ⟨⟨rfl, rfl⟩, trivial, ⟨rfl, rfl, rfl, rfl, rowEq (by rw [hq]; exact (List.map_set ..).symm), trivial⟩, ⟨rfl, rfl⟩, ⟨rfl, rfl⟩⟩, (by first | exact (by rw [hq]; exact hrn.2.2) | (dsimp only; exact (by rw [hq]; exact hrn.2.2)))⟩
  ·
   have h2r := h2
   try simp only [nq, nr, nl] at h2
   refine d_v' (j_unwantV rfl rfl h2r) ?_
   refine d_v' (j_unwantV rfl rfl h2r) ?_
   refine d_v' (j_unwantV rfl rfl h2r) ?_
   refine d_v' (j_unwantV rfl rfl h2r) ?_
   refine d_v' (j_unwantV rfl rfl h2r) ?_
   refine d_v' (j_unwantV rfl rfl h2r) ?_
   refine d_v' (j_unwantV rfl rfl h2r) ?_
   refine d_v' (j_unwantV rfl rfl h2r) ?_
   refine d_v' (j_unwantV rfl rfl h2r) ?_
   refine d_v' (j_pick_f rfl h2r (evo rfl)) ?_
   refine d_nil (by kernel_rfl) (by kernel_rfl) ?_
   refine a_ff rfl ?_
   refine a_exit ?_
   refine a_seq ?_
   refine a_seq ?_
   refine a_region (by kernel_rfl) ?_
   refine op_v' (j_move (evo rfl)) ?_
   refine op_v' (j_lt rfl rfl) ?_
   refine op_nil ?_
   refine a_cond rfl (fun h5 => ?_) (fun h5 => ?_)
   ·
    have h5r := h5
    try simp only [nq, nr, nl] at h5
    refine a_ret ?_
    exact ⟨[], .tup [], [.box 28 [.sl _], .box 43 [.p _, .sl _, .sl _, .p _, .sl _], .box 28 [.own 3 0], .deep (.mk 34 1 [(0, (.mk 4 1 []))]) _ none, .row 3 1 _], [], [], trivial, rfl, rfl, ⟨⟨rfl, rfl⟩, ⟨rfl, rfl⟩, ⟨rfl, rfl⟩, ⟨rfl, rfl⟩, ⟨rfl, rfl⟩, trivial⟩, rfl, rfl, ⟨rfl, by have hq : (nxt m.1 c c.length) = (e, false) := (by rw [← hk2.2.2.2, show k = 0 by omega]; rfl); rw [hq] at hrn; rw [← hrn.2.1]; rfl, rfl⟩⟩
   ·
    have h5r := h5
    try simp only [nq, nr, nl] at h5
    refine a_skip ?_
    have hek := hk2.2.2.1 (k - 1) (by omega)
    have hmk := hms.2 (k - 1) (by omega)
    have hq : (nxt m.1 c c.length) = (e.set (k - 1) (e.getD (k - 1) default + 1), true) := by rw [← hk2.2.2.2, nxt_at (by omega), if_pos (by omega)]
    rw [hq] at hrn
    refine a_region (by kernel_rfl) ?_
    refine op_v' (j_move (evo rfl)) ?_
    refine op_v' (j_move (evo rfl)) ?_
    refine op_v' (j_elem_ownN (n := (k - 1)) slt23 rfl rfl rfl (by omega) (by first | omega | (simp only [nr, nl]; omega))) ?_
    refine op_v' (j_load_pel leaf3 rfl rfl (at_map (by first | omega | (simp only [nr, nl]; omega))) rfl) ?_
    refine op_v' (j_add rfl rfl (by first | omega | (simp only [nr, nl]; omega)) (by first | omega | (simp only [nr, nl]; omega))) ?_
    refine op_v' (j_elem_ownN (n := (k - 1)) slt23 rfl rfl rfl (by omega) (by first | omega | (simp only [nr, nl]; omega))) ?_
    refine op_s' (j_store_row leaf3 rfl rfl (by first | omega | (simp only [nr, nl]; omega)) (evo rfl) rfl rfl) ?_
    refine op_nil ?_
    exact ⟨((nxt m.1 c c.length).1, stepO q d c o1), (by first | exact ⟨by rw [hq]; exact hrn.1, fits_step hk.2.1, by rw [hq]; exact hrn.2.1⟩ | (dsimp only; exact ⟨by rw [hq]; exact hrn.1, fits_step hk.2.1, by rw [hq]; exact hrn.2.1⟩)), ⟨⟨rfl, rfl⟩, trivial, ⟨rfl, rfl, rfl, rfl, rowEq (by rw [hq]; exact (List.map_set ..).symm), trivial⟩, ⟨rfl, rfl⟩, ⟨rfl, rfl⟩⟩, (by first | exact (by rw [hq]; exact hrn.2.2) | (dsimp only; exact (by rw [hq]; exact hrn.2.2)))⟩
 ·
  have h1r := h1
  try simp only [nq, nr, nl] at h1
  exact absurd h1r (by simp)


theorem f_filter (m : Md) (q : Rl) (d : List (List Bool)) (hm : mOk m = true) (hq : rOk m.1.length q = true) (hd : fitsB m.1 d = true) (hl : q.2.1.length ≤ 1048576) : Fn Try.prog 72 [.agg [.sl (m.1.map dI), .sl (m.2.map dR)], .agg [.p (.int .i64 q.1), .sl (q.2.1.map dI), .sl (q.2.2.1.map dI), .p (.int .i64 q.2.2.2.1), .sl (q.2.2.2.2.map dL)], .sl (d.map dD)] [] (fun rr ii nn => rr = .own 0 0 ∧ ii = [] ∧ nn = [.deep (.mk 34 1 [(0, .mk 4 1 [])]) ((filtD m q d).map dD) none]) := by
 refine fn_of Try.func72 rfl (Nat.le_of_ble_eq_true rfl) fun w X g => ?_
 show AWp _ _ _ ⟨[(0, .agg [.sl (m.1.map dI), .sl (m.2.map dR)]), (1, .agg [.p (.int .i64 q.1), .sl (q.2.1.map dI), .sl (q.2.2.1.map dI), .p (.int .i64 q.2.2.2.1), .sl (q.2.2.2.2.map dL)]), (2, .sl (d.map dD))], []⟩
 have hms := mOk_sz hm
 refine a_seq ?_
 refine a_region (by kernel_rfl) ?_
 refine op_n' (fun ver => j_boxa rfl) fun v3x1 => ?_
 refine op_n' (fun ver => j_boxa rfl) fun v4x2 => ?_
 refine op_n' (fun ver => j_box (evo rfl) rfl) fun v5x3 => ?_
 refine op_v' (j_assign (evo rfl)) ?_
 refine op_nil ?_
 refine a_seq ?_
 refine a_region (by kernel_rfl) ?_
 refine op_v' (j_loada_box (ys := [.sl _, .sl _]) agg26 rfl rfl rfl (Nat.le_of_ble_eq_true rfl)) ?_
 refine op_n1' (fun ver => j_call1 (v := .own 9 ver) (hp1 := [(9, some (ver, .deep (.mk 34 1 [(0, (.mk 4 1 []))]) _ none))]) [] false [] ent54 (f_domains m false ⟨hms.1.2, hms.2⟩) ⟨.inl ⟨rfl, rfl⟩, .inl ⟨rfl, rfl⟩, trivial⟩ trivial rfl rfl rfl (fun h => by cases h) rfl (List.all_eq_true.1 rfl) (.inl rfl) rfl rfl) fun v9x4 => ?_
 refine op_n' (fun ver => j_alloc elt28 rfl) fun v7x5 => ?_
 refine op_s' (j_store_box leaf28 rfl rfl (Nat.le_of_ble_eq_true rfl) (evo rfl) rfl) ?_
 refine op_nil ?_
 refine a_seq ?_
 refine a_draw mixed (by kernel_rfl) (by kernel_rfl) fun vf => ?_
 refine d_v' (j_fldp fld26f0 rfl rfl) ?_
 refine d_v' (j_load_box leaf23 rfl rfl rfl) ?_
 refine d_v' (j_fldp fld26f0 rfl rfl) ?_
 refine d_v' (j_load_box leaf23 rfl rfl rfl) ?_
 refine d_v' (j_len_map Try.underlying23 rfl) ?_
 refine d_n' (fun ver => j_make (n := m.1.length) slt23 elt3 rfl rfl (by decide) rfl rfl rfl rfl (by first | omega | (simp only [nr]; omega)) (by rw [maxLen_eq]; first | omega | (simp only [nr]; omega))) ?_
 refine d_v' (j_makeFunc (f := 124) (xs := [.tmp 5, .tmp 4, .tmp 7]) (caps := [.ptr 5 v5x3 0, .ptr 4 v4x2 0, .ptr 7 v7x5 0]) rfl) ?_
 refine d_v0' (j_call0 (v := .tup []) (hp1 := [(5, some (v5x3, .box 28 [.sl _])), (4, some (v4x2, .box 43 [.p _, .sl _, .sl _, .p _, .sl _])), (7, some (v7x5, .box 28 [.own 9 v9x4])), (9, some (v9x4, .deep (.mk 34 1 [(0, (.mk 4 1 []))]) _ none)), (15, some ((vf 15), .row 3 1 _))]) [(5, v5x3), (4, v4x2), (7, v7x5), (9, v9x4), (15, (vf 15))] false [15, 5, 4, 7, 9] ent85 (f_each 124 m q d (fdL false m.1) hm (fits_full (fun k hk => (hms.2 k hk).1)) ent124 (fun c o hc ho => f_filt1 m q d hm hq hd hl c o hc ho)) ⟨.inl ⟨rfl, rfl⟩, .inl ⟨rfl, rfl⟩, .inl ⟨rfl, rfl⟩, trivial⟩ ⟨⟨rfl, rfl⟩, ⟨rfl, rfl⟩, ⟨rfl, rfl⟩, ⟨rfl, rfl⟩, ⟨rfl, rfl⟩, trivial⟩ rfl rfl (fun h => by cases h) rfl (List.all_eq_true.1 rfl) (.inl rfl) rfl rfl) ?_
 refine d_nil (by kernel_rfl) (by kernel_rfl) ?_
 refine a_seq ?_
 refine a_region (by kernel_rfl) ?_
 refine op_v' (j_load_box leaf28 rfl rfl rfl) ?_
 refine op_v' (j_assign (evo rfl)) ?_
 refine op_nil ?_
 refine a_ret ?_
 exact ⟨[.own 9 v9x4], .own 0 0, [], [.deep (.mk 34 1 [(0, (.mk 4 1 []))]) _ none], [(9, v9x4)], ⟨rfl, trivial⟩, rfl, rfl, ⟨⟨rfl, rfl⟩, trivial⟩, rfl, rfl, ⟨rfl, rfl, rfl⟩⟩


theorem f_frImpl (m : Md) (i : Int) (d : List (List Bool)) (hw : wRS m.2 ≤ 1048576) : Fn Try.prog 26 [.agg [.sl (m.1.map dI), .sl (m.2.map dR)], .p (.int .i64 (i)), .sl (d.map dD)] [] (fun rr ii nn => rr = .tup [.own 0 0, .p (.bool (frOk m i d))] ∧ ii = [] ∧ nn = [.deep (.mk 34 1 [(0, .mk 4 1 [])]) ((frD m i d).map dD) none]) := by
 refine fn_of Try.func26 rfl (Nat.le_of_ble_eq_true rfl) fun w X g => ?_
 show AWp _ _ _ ⟨[(0, .agg [.sl (m.1.map dI), .sl (m.2.map dR)]), (1, .p (.int .i64 (i))), (2, .sl (d.map dD))], []⟩
 refine a_len_rule 0 rfl fun hlr => ?_
 refine a_seq ?_
 refine a_region (by kernel_rfl) ?_
 refine op_n' (fun ver => j_boxa rfl) fun v3x1 => ?_
 refine op_v' (j_assign (evo rfl)) ?_
 refine op_v' (j_assign (evo rfl)) ?_
 refine op_nil ?_
 refine a_seq ?_
 refine a_seq ?_
 refine a_region (by kernel_rfl) ?_
 refine op_v' (j_loada_box (ys := [.sl _, .sl _]) agg26 rfl rfl rfl (Nat.le_of_ble_eq_true rfl)) ?_
 refine op_v' (j_move (evo rfl)) ?_
 refine op_v0' (j_call0 (v := .p _) (hp1 := []) [] false [] ent25 (f_dvImpl m d) ⟨.inl ⟨rfl, rfl⟩, .inl ⟨rfl, rfl⟩, trivial⟩ trivial rfl rfl (fun h => by cases h) rfl (fun _ h => by cases h) (.inl rfl) rfl rfl) ?_
 refine op_v' (j_not rfl) ?_
 refine op_v' (j_move (evo rfl)) ?_
 refine op_split' 12 rfl (fun h1 => ?_) (fun h1 => ?_)
 ·
  have h1r := h1
  try simp only [nq, nr] at h1
  refine op_v' (j_unwantV rfl rfl h1r) ?_
  refine op_v' (j_unwantV rfl rfl h1r) ?_
  refine op_v' (j_unwantV rfl rfl h1r) ?_
  refine op_v' (j_unwantV rfl rfl h1r) ?_
  refine op_v' (j_pick_t rfl h1r (evo rfl)) ?_
  refine op_nil ?_
  refine a_tt rfl ?_
  refine a_seq ?_
  refine a_region (by kernel_rfl) ?_
  refine op_v' (j_assign (evo rfl)) ?_
  refine op_v' (j_assign (evo rfl)) ?_
  refine op_nil ?_
  refine a_adopt' 6 6 34 1 rfl fun v6 => ?_
  refine a_todeep 6 0 (.mk 34 1 [(0, (.mk 4 1 []))]) (zs := []) (zs' := []) rfl rfl rfl rfl eat_end rfl ?_
  refine a_ret ?_
  exact ⟨[.own 6 v6, .p _], .tup [.own 0 0, .p _], [], [.deep (.mk 34 1 [(0, (.mk 4 1 []))]) _ none], [(6, v6)], ⟨rfl, rfl, trivial⟩, rfl, rfl, ⟨⟨rfl, rfl⟩, trivial⟩, rfl, rfl, ⟨by have hb : frOk m i d = false := frOk_no (by first | exact .inl (by assumption) | exact .inr (by omega)); rw [hb], rfl, by have hb : frOk m i d = false := frOk_no (by first | exact .inl (by assumption) | exact .inr (by omega)); rw [fr_bad hb]; rfl⟩⟩
 ·
  have h1r := h1
  try simp only [nq, nr] at h1
  refine op_v' (j_want rfl rfl h1r (j_loada_box (ys := [.sl _, .sl _]) agg26 rfl rfl rfl (Nat.le_of_ble_eq_true rfl))) ?_
  refine op_v' (j_want rfl rfl h1r (j_move (evo rfl))) ?_
  refine op_v0' (j_want rfl rfl h1r (j_call0 (v := .p _) (hp1 := []) [] false [] ent67 (f_isRule m i) ⟨.inl ⟨rfl, rfl⟩, .inl ⟨rfl, rfl⟩, trivial⟩ trivial rfl rfl (fun h => by cases h) rfl (fun _ h => by cases h) (.inl rfl) rfl rfl)) ?_
  refine op_v' (j_want rfl rfl h1r (j_not rfl)) ?_
  refine op_v' (j_pick_f rfl h1r (evo rfl)) ?_
  refine op_nil ?_
  refine a_cond rfl (fun h2 => ?_) (fun h2 => ?_)
  ·
   have h2r := h2
   try simp only [nq, nr] at h2
   refine a_seq ?_
   refine a_region (by kernel_rfl) ?_
   refine op_v' (j_assign (evo rfl)) ?_
   refine op_v' (j_assign (evo rfl)) ?_
   refine op_nil ?_
   refine a_adopt' 6 6 34 1 rfl fun v6 => ?_
   refine a_todeep 6 0 (.mk 34 1 [(0, (.mk 4 1 []))]) (zs := []) (zs' := []) rfl rfl rfl rfl eat_end rfl ?_
   refine a_ret ?_
   exact ⟨[.own 6 v6, .p _], .tup [.own 0 0, .p _], [], [.deep (.mk 34 1 [(0, (.mk 4 1 []))]) _ none], [(6, v6)], ⟨rfl, rfl, trivial⟩, rfl, rfl, ⟨⟨rfl, rfl⟩, trivial⟩, rfl, rfl, ⟨by have hb : frOk m i d = false := frOk_no (by first | exact .inl (by assumption) | exact .inr (by omega)); rw [hb], rfl, by have hb : frOk m i d = false := frOk_no (by first | exact .inl (by assumption) | exact .inr (by omega)); rw [fr_bad hb]; rfl⟩⟩
  ·
   have h2r := h2
   try simp only [nq, nr] at h2
   refine a_skip ?_
   refine a_seq ?_
   have hdp := dm_parts (show dmB m d = true by assumption)
   refine a_draw mixed (by kernel_rfl) (by kernel_rfl) fun vf => ?_
   refine d_v' (j_loada_box (ys := [.sl _, .sl _]) agg26 rfl rfl rfl (Nat.le_of_ble_eq_true rfl)) ?_
   refine d_v' (j_fldp fld26f1 rfl rfl) ?_
   refine d_v' (j_load_box leaf24 rfl rfl rfl) ?_
   refine d_v' (j_move (evo rfl)) ?_
   refine d_v' (j_elemN (n := i.toNat) slt24 rfl rfl (by omega) (at_map (by first | omega | (simp only [nr]; omega))) rfl) ?_
   refine d_v' (j_loada_el (ys := [.p _, .sl _, .sl _, .p _, .sl _]) agg43 rfl (at_map (by first | omega | (simp only [nr]; omega))) rfl (Nat.le_refl _)) ?_
   refine d_v' (j_move (evo rfl)) ?_
   refine d_n1' (fun ver => j_call1 (v := .own 25 ver) (hp1 := [(25, some (ver, .deep (.mk 34 1 [(0, (.mk 4 1 []))]) _ none))]) [] false [] ent72 (f_filter m (m.2.getD i.toNat default) d hdp.1 (mOk_rule hdp.1 (by omega)) hdp.2 (wRS_rule hw (by omega))) ⟨.inl ⟨rfl, rfl⟩, .inl ⟨rfl, rfl⟩, .inl ⟨rfl, rfl⟩, trivial⟩ trivial rfl rfl rfl (fun h => by cases h) rfl (List.all_eq_true.1 rfl) (.inl rfl) rfl rfl) ?_
   refine d_v' (j_assign (evo rfl)) ?_
   refine d_v' (j_assign (evo rfl)) ?_
   refine d_nil (by kernel_rfl) (by kernel_rfl) ?_
   refine a_ret ?_
   exact ⟨[.own 25 (vf 25), .p _], .tup [.own 0 0, .p _], [], [.deep (.mk 34 1 [(0, (.mk 4 1 []))]) _ none], [(25, (vf 25))], ⟨rfl, rfl, trivial⟩, rfl, rfl, ⟨⟨rfl, rfl⟩, trivial⟩, rfl, rfl, ⟨by have hb : frOk m i d = true := frOk_yes (by assumption) (by omega); rw [hb], rfl, by have hb : frOk m i d = true := frOk_yes (by assumption) (by omega); rw [fr_ok hb]⟩⟩


end Go.Ab

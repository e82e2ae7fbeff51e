/- Walks. -/
import Derived.Test.YtoodaakcfelaaaaBase
import Derived.Test.YtoodaakcfelaaaaLp
import Derived.Test.YtoodaakcfelaaaaWslist
import Derived.Test.YtoodaakcfelaaaaWscp
import Derived.Test.YtoodaakcfelaaaaMod3
import Derived.Test.YtoodaakcfelaaaaWsmod
import Derived.Test.YtoodaakcfelaaaaVals
import Derived.Test.YtoodaakcfelaaaaSimp
import Derived.Test.YtoodaakcfelaaaaWscons
namespace Go.Ab
open Go.Proofs
set_option maxRecDepth 100000
set_option maxHeartbeats 8000000
set_option linter.unusedSimpArgs false
set_option linter.unusedVariables false
theorem f_cpRows (a b : List (List Bool)) : Fn Try.prog 21 [.sl (a.map dD), .sl (b.map dD)] [] (fun rr ii nn => rr = .p (.bool (decide (a = b))) ∧ ii = [] ∧ nn = []) := by
 refine fn_of Try.func21 rfl (Nat.le_of_ble_eq_true rfl) fun w X g => ?_
 show AWp _ _ _ ⟨[(0, .sl (a.map dD)), (1, .sl (b.map dD))], []⟩
 refine a_len_map 0 rfl fun hla => ?_
 refine a_seq ?_
 refine a_region (by kernel_rfl) ?_
 refine op_v' (j_assign (evo rfl)) ?_
 refine op_nil ?_
 refine a_seq ?_
 refine a_seq ?_
 refine a_region (by kernel_rfl) ?_
 refine op_v' (j_move (evo rfl)) ?_
 refine op_v' (j_len_map Try.underlying25 rfl) ?_
 refine op_v' (j_move (evo rfl)) ?_
 refine op_v' (j_len_map Try.underlying25 rfl) ?_
 refine op_v' (j_ne rfl rfl) ?_
 refine op_nil ?_
 refine a_cond rfl (fun h1 => ?_) (fun h1 => ?_)
 ·
  have h1r := h1
  try simp only [nq, nr] at h1
  refine a_seq ?_
  refine a_region (by kernel_rfl) ?_
  refine op_v' (j_assign (evo rfl)) ?_
  refine op_nil ?_
  refine a_ret ?_
  exact ⟨[.p _], .p _, [], [], [], ⟨rfl, trivial⟩, rfl, rfl, trivial, rfl, rfl, ⟨boolEq (by symm; rw [decide_eq_false_iff_not]; rintro rfl; exact h1 rfl), rfl, rfl⟩⟩
 ·
  have h1r := h1
  try simp only [nq, nr] at h1
  refine a_skip ?_
  refine a_seq ?_
  refine a_seq ?_
  refine a_region (by kernel_rfl) ?_
  refine op_v' (j_assign (evo rfl)) ?_
  refine op_nil ?_
  refine a_block ?_
  refine a_loopF' (ι := Nat) (fun k => k ≤ a.length ∧ a.take k = b.take k) (fun k r => (5, .p (.int .i64 ((k : Nat)))) :: r) (fun k r => r) (fun k => a.length - k) (fun _ _ => rfl) (fun _ _ => rfl) 0 ⟨Nat.zero_le _, rfl⟩ ⟨⟨rfl, rfl⟩, ⟨rfl, trivial⟩, trivial, ⟨rfl, rfl⟩, ⟨rfl, rfl⟩⟩ ?_
  intro k hpre0
  refine a_seq ?_
  refine a_seq ?_
  refine a_region (by kernel_rfl) ?_
  refine op_v' (j_move (evo rfl)) ?_
  refine op_v' (j_move (evo rfl)) ?_
  refine op_v' (j_len_map Try.underlying25 rfl) ?_
  refine op_v' (j_lt rfl rfl) ?_
  refine op_nil ?_
  refine a_cond rfl (fun h2 => ?_) (fun h2 => ?_)
  ·
   have h2r := h2
   try simp only [nq, nr] at h2
   refine a_skip ?_
   refine a_seq ?_
   refine a_block ?_
   refine a_seq ?_
   refine a_draw mixed (by kernel_rfl) (by kernel_rfl) fun vf => ?_
   refine d_v' (j_move (evo rfl)) ?_
   refine d_v' (j_move (evo rfl)) ?_
   refine d_v' (j_elemN slt25 rfl rfl rfl (at_map (by omega)) rfl) ?_
   refine d_v' (j_load_el leaf51 rfl (at_map (by omega)) rfl) ?_
   refine d_v' (j_move (evo rfl)) ?_
   refine d_v' (j_move (evo rfl)) ?_
   refine d_v' (j_elemN slt25 rfl rfl rfl (at_map (by omega)) rfl) ?_
   refine d_v' (j_load_el leaf51 rfl (at_map (by omega)) rfl) ?_
   refine d_v0' (j_call0 (v := .p _) (hp1 := []) [] false [] ent45 (f_cpBools (a.getD k default) (b.getD k default)) ⟨.inl ⟨rfl, rfl⟩, .inl ⟨rfl, rfl⟩, trivial⟩ trivial rfl rfl (fun h => by cases h) rfl (fun _ h => by cases h) (.inl rfl) rfl rfl) ?_
   refine d_v' (j_not rfl) ?_
   refine d_nil (by kernel_rfl) (by kernel_rfl) ?_
   refine a_cond rfl (fun h3 => ?_) (fun h3 => ?_)
   ·
    have h3r := h3
    try simp only [nq, nr] at h3
    refine a_seq ?_
    refine a_region (by kernel_rfl) ?_
    refine op_v' (j_assign (evo rfl)) ?_
    refine op_nil ?_
    refine a_ret ?_
    exact ⟨[.p _], .p _, [], [], [], ⟨rfl, trivial⟩, rfl, rfl, trivial, rfl, rfl, ⟨boolEq (by symm; rw [decide_eq_false_iff_not]; rintro rfl; exact h3 rfl), rfl, rfl⟩⟩
   ·
    have h3r := h3
    try simp only [nq, nr] at h3
    refine a_skip ?_
    refine a_region (by kernel_rfl) ?_
    refine op_v' (j_move (evo rfl)) ?_
    refine op_v' (j_add rfl rfl (by omega) (by omega)) ?_
    refine op_v' (j_assign (evo rfl)) ?_
    refine op_nil ?_
    exact ⟨k + 1, ⟨(by omega), take_next hpre0.2 (by omega) (by omega) h3⟩, ⟨⟨rfl, rfl⟩, ⟨rfl, trivial⟩, trivial, ⟨rfl, rfl⟩, ⟨rfl, rfl⟩⟩, (by omega)⟩
  ·
   have h2r := h2
   try simp only [nq, nr] at h2
   refine a_exit ?_
   refine a_seq ?_
   refine a_region (by kernel_rfl) ?_
   refine op_v' (j_assign (evo rfl)) ?_
   refine op_nil ?_
   refine a_ret ?_
   exact ⟨[.p _], .p _, [], [], [], ⟨rfl, trivial⟩, rfl, rfl, trivial, rfl, rfl, ⟨boolEq (by symm; rw [decide_eq_true_eq]; exact take_eq hpre0.2 (by omega) (by omega)), rfl, rfl⟩⟩


theorem f_lawLP (b1 b2 : List Int) (hb1 : ∀ a ∈ b1, 0 ≤ a ∧ a ≤ 255) (hb2 : ∀ a ∈ b2, 0 ≤ a ∧ a ≤ 255) : Fn Try.prog 4 [.sl (b1.map dU), .sl (b2.map dU)] [] (fun rr ii nn => rr = .p (.bool true) ∧ ii = [] ∧ nn = []) := by
 refine fn_of Try.func4 rfl (Nat.le_of_ble_eq_true rfl) fun w X g => ?_
 show AWp _ _ _ ⟨[(0, .sl (b1.map dU)), (1, .sl (b2.map dU))], []⟩
 refine a_seq ?_
 refine a_region (by kernel_rfl) ?_
 refine op_v' (j_assign (evo rfl)) ?_
 refine op_nil ?_
 refine a_seq ?_
 refine a_seq ?_
 refine a_region (by kernel_rfl) ?_
 refine op_v' (j_move (evo rfl)) ?_
 refine op_v' (j_len_map Try.underlying41 rfl) ?_
 refine op_v' (j_gt rfl rfl) ?_
 refine op_v' (j_move (evo rfl)) ?_
 refine op_split' 20 rfl (fun h1 => ?_) (fun h1 => ?_)
 ·
  have h1r := h1
  try simp only [nq, nr] at h1
  refine op_v' (j_unwantV rfl rfl h1r) ?_
  refine op_v' (j_unwantV rfl rfl h1r) ?_
  refine op_v' (j_unwantV rfl rfl h1r) ?_
  refine op_v' (j_pick_t rfl h1r (evo rfl)) ?_
  refine op_nil ?_
  refine a_tt rfl ?_
  refine a_seq ?_
  refine a_region (by kernel_rfl) ?_
  refine op_v' (j_assign (evo rfl)) ?_
  refine op_nil ?_
  refine a_ret ?_
  exact ⟨[.p _], .p _, [], [], [], ⟨rfl, trivial⟩, rfl, rfl, trivial, rfl, rfl, ⟨rfl, rfl, rfl⟩⟩
 ·
  have h1r := h1
  try simp only [nq, nr] at h1
  refine op_v' (j_want rfl rfl h1r (j_move (evo rfl))) ?_
  refine op_v' (j_want rfl rfl h1r (j_len_map Try.underlying41 rfl)) ?_
  refine op_v' (j_want rfl rfl h1r (j_gt rfl rfl)) ?_
  refine op_v' (j_pick_f rfl h1r (evo rfl)) ?_
  refine op_nil ?_
  refine a_cond rfl (fun h2 => ?_) (fun h2 => ?_)
  ·
   have h2r := h2
   try simp only [nq, nr] at h2
   refine a_seq ?_
   refine a_region (by kernel_rfl) ?_
   refine op_v' (j_assign (evo rfl)) ?_
   refine op_nil ?_
   refine a_ret ?_
   exact ⟨[.p _], .p _, [], [], [], ⟨rfl, trivial⟩, rfl, rfl, trivial, rfl, rfl, ⟨rfl, rfl, rfl⟩⟩
  ·
   have h2r := h2
   try simp only [nq, nr] at h2
   refine a_skip ?_
   refine a_seq ?_
   refine a_region (by kernel_rfl) ?_
   refine op_v' (j_move (evo rfl)) ?_
   refine op_callE (v := fun x => .tup [.sl _, .sl _, .p _]) (hp1 := fun x => []) [] false ent20 (f_dLS b1 hb1) ⟨.inl ⟨rfl, rfl⟩, trivial⟩ trivial rfl (fun _ => rfl) (fun _ => rfl) (.inl rfl) (fun _ => rfl) (fun _ => rfl) ?_
   rintro ⟨l27, vs27, fu27⟩ ⟨ho27, hv27, hf27⟩
   try dsimp only at ho27
   try dsimp only at hv27
   try dsimp only at hf27
   dsimp only [List.cons_append, List.nil_append]
   refine op_v' (j_move (evo rfl)) ?_
   refine op_v' (j_extract rfl rfl) ?_
   refine op_v' (j_extract rfl rfl) ?_
   refine op_v' (j_extract rfl rfl) ?_
   refine op_v' (j_assign (evo rfl)) ?_
   refine op_v' (j_assign (evo rfl)) ?_
   refine op_v' (j_assign (evo rfl)) ?_
   refine op_nil ?_
   refine a_seq ?_
   refine a_region (by kernel_rfl) ?_
   refine op_v' (j_move (evo rfl)) ?_
   refine op_v' (j_move (evo rfl)) ?_
   refine op_v' (j_move (evo rfl)) ?_
   refine op_v0' (j_call0 (v := .tup [.p _, .sl _, .sl _]) (hp1 := []) [] false [] ent9 (f_listImpl l27 vs27 fu27) ⟨.inl ⟨rfl, rfl⟩, .inl ⟨rfl, rfl⟩, .inl ⟨rfl, rfl⟩, trivial⟩ trivial rfl rfl (fun h => by cases h) rfl (fun _ h => by cases h) (.inl rfl) rfl rfl) ?_
   refine op_v' (j_move (evo rfl)) ?_
   refine op_v' (j_extract rfl rfl) ?_
   refine op_v' (j_extract rfl rfl) ?_
   refine op_v' (j_extract rfl rfl) ?_
   refine op_v' (j_assign (evo rfl)) ?_
   refine op_v' (j_assign (evo rfl)) ?_
   refine op_v' (j_assign (evo rfl)) ?_
   refine op_nil ?_
   refine a_seq ?_
   refine a_region (by kernel_rfl) ?_
   refine op_v' (j_move (evo rfl)) ?_
   refine op_v' (j_move (evo rfl)) ?_
   refine op_v' (j_move (evo rfl)) ?_
   refine op_v0' (j_call0 (v := .tup [.p _, .sl _, .sl _]) (hp1 := []) [] false [] ent6 (f_listSpec l27 vs27 fu27) ⟨.inl ⟨rfl, rfl⟩, .inl ⟨rfl, rfl⟩, .inl ⟨rfl, rfl⟩, trivial⟩ trivial rfl rfl (fun h => by cases h) rfl (fun _ h => by cases h) (.inl rfl) rfl rfl) ?_
   refine op_v' (j_move (evo rfl)) ?_
   refine op_v' (j_extract rfl rfl) ?_
   refine op_v' (j_extract rfl rfl) ?_
   refine op_v' (j_extract rfl rfl) ?_
   refine op_v' (j_assign (evo rfl)) ?_
   refine op_v' (j_assign (evo rfl)) ?_
   refine op_v' (j_assign (evo rfl)) ?_
   refine op_nil ?_
   refine a_seq ?_
   refine a_seq ?_
   refine a_region (by kernel_rfl) ?_
   refine op_v' (j_move (evo rfl)) ?_
   refine op_v' (j_move (evo rfl)) ?_
   refine op_v' (j_ne rfl rfl) ?_
   refine op_v' (j_move (evo rfl)) ?_
   refine op_split' 50 rfl (fun h3 => ?_) (fun h3 => ?_)
   ·
    have h3r := h3
    try simp only [nq, nr] at h3
    refine op_v' (j_unwantV rfl rfl h3r) ?_
    refine op_v' (j_unwantV rfl rfl h3r) ?_
    refine op_v' (j_unwantV rfl rfl h3r) ?_
    refine op_v' (j_unwantV rfl rfl h3r) ?_
    refine op_v' (j_pick_t rfl h3r (evo rfl)) ?_
    refine op_v' (j_move (evo rfl)) ?_
    refine op_v' (j_unwantV rfl rfl rfl) ?_
    refine op_v' (j_unwantV rfl rfl rfl) ?_
    refine op_v' (j_pick_t rfl rfl (evo rfl)) ?_
    refine op_v' (j_move (evo rfl)) ?_
    refine op_v' (j_unwantV rfl rfl rfl) ?_
    refine op_v' (j_unwantV rfl rfl rfl) ?_
    refine op_v' (j_unwantV rfl rfl rfl) ?_
    refine op_v' (j_pick_t rfl rfl (evo rfl)) ?_
    refine op_nil ?_
    refine a_tt rfl ?_
    refine a_seq ?_
    refine a_region (by kernel_rfl) ?_
    refine op_v' (j_move (evo rfl)) ?_
    refine op_v' (j_move (evo rfl)) ?_
    refine op_v' (j_eq rfl rfl) ?_
    refine op_v' (j_move (evo rfl)) ?_
    refine op_split' 68 rfl (fun h4 => ?_) (fun h4 => ?_)
    ·
     have h4r := h4
     try simp only [nq, nr] at h4
     refine op_v' (j_want rfl rfl h4r (j_move (evo rfl))) ?_
     refine op_v' (j_want rfl rfl h4r (j_move (evo rfl))) ?_
     refine op_v0' (j_want rfl rfl h4r (j_call0 (v := .p _) (hp1 := []) [] false [] ent21 (f_cpRows (lsV l27 vs27 fu27).2.1 (lsV l27 vs27 fu27).2.1) ⟨.inl ⟨rfl, rfl⟩, .inl ⟨rfl, rfl⟩, trivial⟩ trivial rfl rfl (fun h => by cases h) rfl (fun _ h => by cases h) (.inl rfl) rfl rfl)) ?_
     refine op_v' (j_pick_t rfl h4r (evo rfl)) ?_
     refine op_v' (j_assign (evo rfl)) ?_
     refine op_nil ?_
     refine a_ret ?_
     exact ⟨[.p _], .p _, [], [], [], ⟨rfl, trivial⟩, rfl, rfl, trivial, rfl, rfl, ⟨boolEq (by first | exact absurd trivial (by assumption) | (simp; done)), rfl, rfl⟩⟩
    ·
     have h4r := h4
     try simp only [nq, nr] at h4
     refine op_v' (j_unwantV rfl rfl h4r) ?_
     refine op_v' (j_unwantV rfl rfl h4r) ?_
     refine op_v' (j_unwantV rfl rfl h4r) ?_
     refine op_v' (j_pick_f rfl h4r (evo rfl)) ?_
     refine op_v' (j_assign (evo rfl)) ?_
     refine op_nil ?_
     refine a_ret ?_
     exact ⟨[.p _], .p _, [], [], [], ⟨rfl, trivial⟩, rfl, rfl, trivial, rfl, rfl, ⟨boolEq (by first | exact absurd trivial (by assumption) | (simp; done)), rfl, rfl⟩⟩
   ·
    have h3r := h3
    try simp only [nq, nr] at h3
    refine op_v' (j_want rfl rfl h3r (j_move (evo rfl))) ?_
    refine op_v' (j_want rfl rfl h3r (j_move (evo rfl))) ?_
    refine op_v0' (j_want rfl rfl h3r (j_call0 (v := .p _) (hp1 := []) [] false [] ent21 (f_cpRows (lsV l27 vs27 fu27).2.1 (lsV l27 vs27 fu27).2.1) ⟨.inl ⟨rfl, rfl⟩, .inl ⟨rfl, rfl⟩, trivial⟩ trivial rfl rfl (fun h => by cases h) rfl (fun _ h => by cases h) (.inl rfl) rfl rfl)) ?_
    refine op_v' (j_want rfl rfl h3r (j_not rfl)) ?_
    refine op_v' (j_pick_f rfl h3r (evo rfl)) ?_
    refine op_v' (j_move (evo rfl)) ?_
    refine op_split' 56 rfl (fun h5 => ?_) (fun h5 => ?_)
    ·
     have h5r := h5
     try simp only [nq, nr] at h5
     refine op_v' (j_unwantV rfl rfl h5r) ?_
     refine op_v' (j_unwantV rfl rfl h5r) ?_
     refine op_v' (j_pick_t rfl h5r (evo rfl)) ?_
     refine op_v' (j_move (evo rfl)) ?_
     refine op_v' (j_unwantV rfl rfl rfl) ?_
     refine op_v' (j_unwantV rfl rfl rfl) ?_
     refine op_v' (j_unwantV rfl rfl rfl) ?_
     refine op_v' (j_pick_t rfl rfl (evo rfl)) ?_
     refine op_nil ?_
     refine a_tt rfl ?_
     refine a_seq ?_
     refine a_region (by kernel_rfl) ?_
     refine op_v' (j_move (evo rfl)) ?_
     refine op_v' (j_move (evo rfl)) ?_
     refine op_v' (j_eq rfl rfl) ?_
     refine op_v' (j_move (evo rfl)) ?_
     refine op_split' 68 rfl (fun h6 => ?_) (fun h6 => ?_)
     ·
      have h6r := h6
      try simp only [nq, nr] at h6
      refine op_v' (j_want rfl rfl h6r (j_move (evo rfl))) ?_
      refine op_v' (j_want rfl rfl h6r (j_move (evo rfl))) ?_
      refine op_v0' (j_want rfl rfl h6r (j_call0 (v := .p _) (hp1 := []) [] false [] ent21 (f_cpRows (lsV l27 vs27 fu27).2.1 (lsV l27 vs27 fu27).2.1) ⟨.inl ⟨rfl, rfl⟩, .inl ⟨rfl, rfl⟩, trivial⟩ trivial rfl rfl (fun h => by cases h) rfl (fun _ h => by cases h) (.inl rfl) rfl rfl)) ?_
      refine op_v' (j_pick_t rfl h6r (evo rfl)) ?_
      refine op_v' (j_assign (evo rfl)) ?_
      refine op_nil ?_
      refine a_ret ?_
      exact ⟨[.p _], .p _, [], [], [], ⟨rfl, trivial⟩, rfl, rfl, trivial, rfl, rfl, ⟨boolEq (by first | exact absurd trivial (by assumption) | (simp; done)), rfl, rfl⟩⟩
     ·
      have h6r := h6
      try simp only [nq, nr] at h6
      refine op_v' (j_unwantV rfl rfl h6r) ?_
      refine op_v' (j_unwantV rfl rfl h6r) ?_
      refine op_v' (j_unwantV rfl rfl h6r) ?_
      refine op_v' (j_pick_f rfl h6r (evo rfl)) ?_
      refine op_v' (j_assign (evo rfl)) ?_
      refine op_nil ?_
      refine a_ret ?_
      exact ⟨[.p _], .p _, [], [], [], ⟨rfl, trivial⟩, rfl, rfl, trivial, rfl, rfl, ⟨boolEq (by first | exact absurd trivial (by assumption) | (simp; done)), rfl, rfl⟩⟩
    ·
     have h5r := h5
     try simp only [nq, nr] at h5
     refine op_v' (j_want rfl rfl h5r (j_move (evo rfl))) ?_
     refine op_v' (j_want rfl rfl h5r (j_ne rfl rfl)) ?_
     refine op_v' (j_pick_f rfl h5r (evo rfl)) ?_
     refine op_v' (j_move (evo rfl)) ?_
     refine op_split' 60 rfl (fun h7 => ?_) (fun h7 => ?_)
     ·
      have h7r := h7
      try simp only [nq, nr] at h7
      refine op_v' (j_unwantV rfl rfl h7r) ?_
      refine op_v' (j_unwantV rfl rfl h7r) ?_
      refine op_v' (j_unwantV rfl rfl h7r) ?_
      refine op_v' (j_pick_t rfl h7r (evo rfl)) ?_
      refine op_nil ?_
      refine a_tt rfl ?_
      refine a_seq ?_
      refine a_region (by kernel_rfl) ?_
      refine op_v' (j_move (evo rfl)) ?_
      refine op_v' (j_move (evo rfl)) ?_
      refine op_v' (j_eq rfl rfl) ?_
      refine op_v' (j_move (evo rfl)) ?_
      refine op_split' 68 rfl (fun h8 => ?_) (fun h8 => ?_)
      ·
       have h8r := h8
       try simp only [nq, nr] at h8
       refine op_v' (j_want rfl rfl h8r (j_move (evo rfl))) ?_
       refine op_v' (j_want rfl rfl h8r (j_move (evo rfl))) ?_
       refine op_v0' (j_want rfl rfl h8r (j_call0 (v := .p _) (hp1 := []) [] false [] ent21 (f_cpRows (lsV l27 vs27 fu27).2.1 (lsV l27 vs27 fu27).2.1) ⟨.inl ⟨rfl, rfl⟩, .inl ⟨rfl, rfl⟩, trivial⟩ trivial rfl rfl (fun h => by cases h) rfl (fun _ h => by cases h) (.inl rfl) rfl rfl)) ?_
       refine op_v' (j_pick_t rfl h8r (evo rfl)) ?_
       refine op_v' (j_assign (evo rfl)) ?_
       refine op_nil ?_
       refine a_ret ?_
       exact ⟨[.p _], .p _, [], [], [], ⟨rfl, trivial⟩, rfl, rfl, trivial, rfl, rfl, ⟨boolEq (by first | exact absurd trivial (by assumption) | (simp; done)), rfl, rfl⟩⟩
      ·
       have h8r := h8
       try simp only [nq, nr] at h8
       refine op_v' (j_unwantV rfl rfl h8r) ?_
       refine op_v' (j_unwantV rfl rfl h8r) ?_
       refine op_v' (j_unwantV rfl rfl h8r) ?_
       refine op_v' (j_pick_f rfl h8r (evo rfl)) ?_
       refine op_v' (j_assign (evo rfl)) ?_
       refine op_nil ?_
       refine a_ret ?_
       exact ⟨[.p _], .p _, [], [], [], ⟨rfl, trivial⟩, rfl, rfl, trivial, rfl, rfl, ⟨boolEq (by first | exact absurd trivial (by assumption) | (simp; done)), rfl, rfl⟩⟩
     ·
      have h7r := h7
      try simp only [nq, nr] at h7
      refine op_v' (j_want rfl rfl h7r (j_move (evo rfl))) ?_
      refine op_v' (j_want rfl rfl h7r (j_len_map Try.underlying23 rfl)) ?_
      refine op_v' (j_want rfl rfl h7r (j_eq rfl rfl)) ?_
      refine op_v' (j_pick_f rfl h7r (evo rfl)) ?_
      refine op_nil ?_
      refine a_cond rfl (fun h9 => ?_) (fun h9 => ?_)
      ·
       have h9r := h9
       try simp only [nq, nr] at h9
       refine a_seq ?_
       refine a_region (by kernel_rfl) ?_
       refine op_v' (j_move (evo rfl)) ?_
       refine op_v' (j_move (evo rfl)) ?_
       refine op_v' (j_eq rfl rfl) ?_
       refine op_v' (j_move (evo rfl)) ?_
       refine op_split' 68 rfl (fun h10 => ?_) (fun h10 => ?_)
       ·
        have h10r := h10
        try simp only [nq, nr] at h10
        refine op_v' (j_want rfl rfl h10r (j_move (evo rfl))) ?_
        refine op_v' (j_want rfl rfl h10r (j_move (evo rfl))) ?_
        refine op_v0' (j_want rfl rfl h10r (j_call0 (v := .p _) (hp1 := []) [] false [] ent21 (f_cpRows (lsV l27 vs27 fu27).2.1 (lsV l27 vs27 fu27).2.1) ⟨.inl ⟨rfl, rfl⟩, .inl ⟨rfl, rfl⟩, trivial⟩ trivial rfl rfl (fun h => by cases h) rfl (fun _ h => by cases h) (.inl rfl) rfl rfl)) ?_
        refine op_v' (j_pick_t rfl h10r (evo rfl)) ?_
        refine op_v' (j_assign (evo rfl)) ?_
        refine op_nil ?_
        refine a_ret ?_
        exact ⟨[.p _], .p _, [], [], [], ⟨rfl, trivial⟩, rfl, rfl, trivial, rfl, rfl, ⟨boolEq (by first | exact absurd trivial (by assumption) | (simp; done)), rfl, rfl⟩⟩
       ·
        have h10r := h10
        try simp only [nq, nr] at h10
        refine op_v' (j_unwantV rfl rfl h10r) ?_
        refine op_v' (j_unwantV rfl rfl h10r) ?_
        refine op_v' (j_unwantV rfl rfl h10r) ?_
        refine op_v' (j_pick_f rfl h10r (evo rfl)) ?_
        refine op_v' (j_assign (evo rfl)) ?_
        refine op_nil ?_
        refine a_ret ?_
        exact ⟨[.p _], .p _, [], [], [], ⟨rfl, trivial⟩, rfl, rfl, trivial, rfl, rfl, ⟨boolEq (by first | exact absurd trivial (by assumption) | (simp; done)), rfl, rfl⟩⟩
      ·
       have h9r := h9
       try simp only [nq, nr] at h9
       refine a_skip ?_
       refine a_seq ?_
       have hvl0 : 0 < vs27.length := by omega
       have hml := Nat.mod_lt b2.length hvl0
       have hna : b2.length % ((vs27.length : Nat) : Int).natAbs = b2.length % vs27.length := by rw [Int.natAbs_natCast]
       have HT := f_listImpl l27 (vs27.take (b2.length % vs27.length)) fu27
       rw [List.map_take] at HT
       have hlw := @ls_prefix l27 vs27 fu27 (b2.length % vs27.length)
       refine a_region (by kernel_rfl) ?_
       refine op_v' (j_move (evo rfl)) ?_
       refine op_v' (j_move (evo rfl)) ?_
       refine op_v' (j_move (evo rfl)) ?_
       refine op_v' (j_len_map Try.underlying41 rfl) ?_
       refine op_v' (j_move (evo rfl)) ?_
       refine op_v' (j_len_map Try.underlying23 rfl) ?_
       refine op_v' (j_rem rfl rfl (by first | omega | (simp only [nr]; omega)) (by first | omega | (simp only [nr]; omega))) ?_
       refine op_v' (j_cut slt23 rfl (fun y hy => by obtain ⟨t, _, rfl⟩ := List.mem_map.1 hy; rfl) Bd.none (Bd.some rfl rfl) (by first | omega | (simp only [nr]; omega)) (by first | omega | (simp only [nr]; omega))) ?_
       refine op_v' (j_move (evo rfl)) ?_
       refine op_v0' (j_call0 (v := .tup [.p _, .sl _, .sl _]) (hp1 := []) [] false [] ent9 HT ⟨.inl ⟨rfl, rfl⟩, .inl ⟨rfl, rfl⟩, .inl ⟨rfl, rfl⟩, trivial⟩ trivial rfl rfl (fun h => by cases h) rfl (fun _ h => by cases h) (.inl rfl) rfl rfl) ?_
       refine op_v' (j_move (evo rfl)) ?_
       refine op_v' (j_extract rfl rfl) ?_
       refine op_v' (j_extract rfl rfl) ?_
       refine op_v' (j_extract rfl rfl) ?_
       refine op_v' (j_assign (evo rfl)) ?_
       refine op_v' (j_assign (evo rfl)) ?_
       refine op_v' (j_assign (evo rfl)) ?_
       refine op_nil ?_
       refine a_seq ?_
       refine a_region (by kernel_rfl) ?_
       refine op_v' (j_move (evo rfl)) ?_
       refine op_v' (j_ne rfl rfl) ?_
       refine op_v' (j_move (evo rfl)) ?_
       refine op_split' 89 rfl (fun h11 => ?_) (fun h11 => ?_)
       ·
        have h11r := h11
        try simp only [nq, nr] at h11
        refine op_v' (j_unwantV rfl rfl h11r) ?_
        refine op_v' (j_unwantV rfl rfl h11r) ?_
        refine op_v' (j_unwantV rfl rfl h11r) ?_
        refine op_v' (j_unwantV rfl rfl h11r) ?_
        refine op_v' (j_unwantV rfl rfl h11r) ?_
        refine op_v' (j_pick_t rfl h11r (evo rfl)) ?_
        refine op_v' (j_assign (evo rfl)) ?_
        refine op_nil ?_
        refine a_ret ?_
        exact ⟨[.p _], .p _, [], [], [], ⟨rfl, trivial⟩, rfl, rfl, trivial, rfl, rfl, ⟨boolEq (by first | exact absurd trivial (by assumption) | (simp_all; done) | (simp_all; omega)), rfl, rfl⟩⟩
       ·
        have h11r := h11
        try simp only [nq, nr] at h11
        refine op_v' (j_want rfl rfl h11r (j_move (evo rfl))) ?_
        refine op_v' (j_want rfl rfl h11r (j_len_map Try.underlying25 rfl)) ?_
        refine op_v' (j_want rfl rfl h11r (j_move (evo rfl))) ?_
        refine op_v' (j_want rfl rfl h11r (j_len_map Try.underlying25 rfl)) ?_
        refine op_v' (j_want rfl rfl h11r (j_le rfl rfl)) ?_
        refine op_v' (j_pick_f rfl h11r (evo rfl)) ?_
        refine op_v' (j_assign (evo rfl)) ?_
        refine op_nil ?_
        refine a_ret ?_
        exact ⟨[.p _], .p _, [], [], [], ⟨rfl, trivial⟩, rfl, rfl, trivial, rfl, rfl, ⟨boolEq (by first | exact absurd trivial (by assumption) | (simp_all; done) | (simp_all; omega)), rfl, rfl⟩⟩


end Go.Ab

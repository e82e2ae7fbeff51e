/- Walks. -/
import Derived.Test.YtikknnpdiahnoaaBase
import Derived.Test.YtikknnpdiahnoaaOpt
import Derived.Test.YtikknnpdiahnoaaWsd6
import Derived.Test.YtikknnpdiahnoaaWsflt
import Derived.Test.YtikknnpdiahnoaaWsmod2
import Derived.Test.YtikknnpdiahnoaaSimp
import Derived.Test.YtikknnpdiahnoaaWscons
import Derived.Test.YtikknnpdiahnoaaVals
namespace Go.Ab
open Go.Proofs
set_option maxRecDepth 100000
set_option maxHeartbeats 8000000
set_option linter.unusedSimpArgs false
set_option linter.unusedVariables false
theorem f_cpInts (a b : List Int) : Fn Try.prog 24 [.sl (a.map dI), .sl (b.map dI)] [] (fun rr ii nn => rr = .p (.bool (decide (a = b))) ∧ ii = [] ∧ nn = []) := by
 refine fn_of Try.func24 rfl (Nat.le_of_ble_eq_true rfl) fun w X g => ?_
 show AWp _ _ _ ⟨[(0, .sl (a.map dI)), (1, .sl (b.map dI))], []⟩
 refine a_len_map 0 rfl fun hla => ?_
 refine a_seq ?_
 refine a_region (by kernel_rfl) ?_
 refine op_v' (j_assign (evo rfl)) ?_
 refine op_nil ?_
 refine a_seq ?_
 refine a_seq ?_
 refine a_region (by kernel_rfl) ?_
 refine op_v' (j_move (evo rfl)) ?_
 refine op_v' (j_len_map Try.underlying23 rfl) ?_
 refine op_v' (j_move (evo rfl)) ?_
 refine op_v' (j_len_map Try.underlying23 rfl) ?_
 refine op_v' (j_ne rfl rfl) ?_
 refine op_nil ?_
 refine a_cond rfl (fun h1 => ?_) (fun h1 => ?_)
 ·
  have h1r := h1
  try simp only [nq, nr] at h1
  refine a_seq ?_
  refine a_region (by kernel_rfl) ?_
  refine op_v' (j_assign (evo rfl)) ?_
  refine op_nil ?_
  refine a_ret ?_
  exact ⟨[.p _], .p _, [], [], [], ⟨rfl, trivial⟩, rfl, rfl, trivial, rfl, rfl, ⟨boolEq (by symm; rw [decide_eq_false_iff_not]; rintro rfl; exact h1 rfl), rfl, rfl⟩⟩
 ·
  have h1r := h1
  try simp only [nq, nr] at h1
  refine a_skip ?_
  refine a_seq ?_
  refine a_seq ?_
  refine a_region (by kernel_rfl) ?_
  refine op_v' (j_assign (evo rfl)) ?_
  refine op_nil ?_
  refine a_block ?_
  refine a_loopF' (ι := Nat) (fun k => k ≤ a.length ∧ a.take k = b.take k) (fun k r => (5, .p (.int .i64 ((k : Nat)))) :: r) (fun k r => r) (fun k => a.length - k) (fun _ _ => rfl) (fun _ _ => rfl) 0 ⟨Nat.zero_le _, rfl⟩ ⟨⟨rfl, rfl⟩, ⟨rfl, trivial⟩, trivial, ⟨rfl, rfl⟩, ⟨rfl, rfl⟩⟩ ?_
  intro k hpre0
  have hpre := hpre0.1
  refine a_seq ?_
  refine a_seq ?_
  refine a_region (by kernel_rfl) ?_
  refine op_v' (j_move (evo rfl)) ?_
  refine op_v' (j_move (evo rfl)) ?_
  refine op_v' (j_len_map Try.underlying23 rfl) ?_
  refine op_v' (j_lt rfl rfl) ?_
  refine op_nil ?_
  refine a_cond rfl (fun h2 => ?_) (fun h2 => ?_)
  ·
   have h2r := h2
   try simp only [nq, nr] at h2
   refine a_skip ?_
   refine a_seq ?_
   refine a_block ?_
   refine a_seq ?_
   refine a_draw mixed (by kernel_rfl) (by kernel_rfl) fun vf => ?_
   refine d_v' (j_move (evo rfl)) ?_
   refine d_v' (j_move (evo rfl)) ?_
   refine d_v' (j_elemN slt23 rfl rfl rfl (at_map (by omega)) rfl) ?_
   refine d_v' (j_load_el leaf3 rfl (at_map (by omega)) rfl) ?_
   refine d_v' (j_move (evo rfl)) ?_
   refine d_v' (j_move (evo rfl)) ?_
   refine d_v' (j_elemN slt23 rfl rfl rfl (at_map (by omega)) rfl) ?_
   refine d_v' (j_load_el leaf3 rfl (at_map (by omega)) rfl) ?_
   refine d_v' (j_ne rfl rfl) ?_
   refine d_nil (by kernel_rfl) (by kernel_rfl) ?_
   refine a_cond rfl (fun h3 => ?_) (fun h3 => ?_)
   ·
    have h3r := h3
    try simp only [nq, nr] at h3
    refine a_seq ?_
    refine a_region (by kernel_rfl) ?_
    refine op_v' (j_assign (evo rfl)) ?_
    refine op_nil ?_
    refine a_ret ?_
    exact ⟨[.p _], .p _, [], [], [], ⟨rfl, trivial⟩, rfl, rfl, trivial, rfl, rfl, ⟨boolEq (by symm; rw [decide_eq_false_iff_not]; rintro rfl; exact h3 rfl), rfl, rfl⟩⟩
   ·
    have h3r := h3
    try simp only [nq, nr] at h3
    refine a_skip ?_
    refine a_region (by kernel_rfl) ?_
    refine op_v' (j_move (evo rfl)) ?_
    refine op_v' (j_add rfl rfl (by omega) (by omega)) ?_
    refine op_v' (j_assign (evo rfl)) ?_
    refine op_nil ?_
    exact ⟨k + 1, ⟨(by omega), take_next hpre0.2 (by omega) (by omega) h3⟩, ⟨⟨rfl, rfl⟩, ⟨rfl, trivial⟩, trivial, ⟨rfl, rfl⟩, ⟨rfl, rfl⟩⟩, (by omega)⟩
  ·
   have h2r := h2
   try simp only [nq, nr] at h2
   refine a_exit ?_
   refine a_seq ?_
   refine a_region (by kernel_rfl) ?_
   refine op_v' (j_assign (evo rfl)) ?_
   refine op_nil ?_
   refine a_ret ?_
   exact ⟨[.p _], .p _, [], [], [], ⟨rfl, trivial⟩, rfl, rfl, trivial, rfl, rfl, ⟨boolEq (by symm; rw [decide_eq_true_eq]; exact take_eq hpre0.2 (by omega) (by omega)), rfl, rfl⟩⟩


end Go.Ab

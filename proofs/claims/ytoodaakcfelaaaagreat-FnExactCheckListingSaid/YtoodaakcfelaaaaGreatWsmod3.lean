/- Walks. -/
import Derived.Test.YtoodaakcfelaaaaGreatBase
import Derived.Test.YtoodaakcfelaaaaGreatFr
import Derived.Test.YtoodaakcfelaaaaGreatWsfun
import Derived.Test.YtoodaakcfelaaaaGreatWscons
import Derived.Test.YtoodaakcfelaaaaGreatWsexcl
import Derived.Test.YtoodaakcfelaaaaGreatVals
import Derived.Test.YtoodaakcfelaaaaGreatWsvals
namespace Go.Ab
open Go.Proofs
set_option maxRecDepth 100000
set_option maxHeartbeats 8000000
set_option linter.unusedSimpArgs false
set_option linter.unusedVariables false
theorem f_eqBoolSS (a b : List (List Bool)) : Fn Tryz.prog 19 [.sl (a.map dD), .sl (b.map dD)] [] (fun rr ii nn => rr = .p (.bool (decide (a = b))) ∧ ii = [] ∧ nn = []) := by
 refine fn_of Tryz.func19 rfl (Nat.le_of_ble_eq_true rfl) fun w X g => ?_
 show AWp _ _ _ ⟨[(0, .sl (a.map dD)), (1, .sl (b.map dD))], []⟩
 refine a_len_map 0 rfl fun hla => ?_
 refine rs ?_
 refine oa rfl ?_
 refine on ?_
 refine a_seq ?_
 refine rs ?_
 refine om rfl ?_
 refine op_v' (j_len_map Tryz.underlying24 rfl) ?_
 refine om rfl ?_
 refine op_v' (j_len_map Tryz.underlying24 rfl) ?_
 refine op_v' (j_ne rfl rfl) ?_
 refine on ?_
 refine ac rfl (fun h1 => ?_) fun h1 => ?_
 ·
  have h1r := h1
  try simp only [nq, nr] at h1
  refine rs ?_
  refine oa rfl ?_
  refine on ?_
  refine a_ret ?_
  exact fin_p rfl ⟨boolEq (by symm; rw [decide_eq_false_iff_not]; rintro rfl; exact h1 rfl), rfl, rfl⟩
 have h1r := h1
 try simp only [nq, nr] at h1
 refine a_skip ?_
 refine a_seq ?_
 refine rs ?_
 refine oa rfl ?_
 refine on ?_
 refine a_block ?_
 refine a_loopF' (ι := Nat) (fun k => k ≤ a.length ∧ a.take k = b.take k) (fun k r => (5, .p (.int .i64 ((k : Nat)))) :: r) (fun k r => r) (fun k => a.length - k) (fun _ _ => rfl) (fun _ _ => rfl) 0 ⟨Nat.zero_le _, rfl⟩ ⟨⟨rfl, rfl⟩, ⟨rfl, trivial⟩, trivial, ⟨rfl, rfl⟩, ⟨rfl, rfl⟩⟩ ?_
 intro k hpre0
 refine a_seq ?_
 refine rs ?_
 refine om rfl ?_
 refine om rfl ?_
 refine op_v' (j_len_map Tryz.underlying24 rfl) ?_
 refine op_v' (j_lt rfl rfl) ?_
 refine on ?_
 refine ac rfl (fun h2 => ?_) fun h2 => ?_
 ·
  have h2r := h2
  try simp only [nq, nr] at h2
  refine a_skip ?_
  refine a_seq ?_
  refine a_block ?_
  refine a_seq ?_
  refine a_draw mixed (by kernel_rfl) (by kernel_rfl) fun vf => ?_
  refine d_v' (j_move (evo rfl)) ?_
  refine d_v' (j_move (evo rfl)) ?_
  refine d_v' (j_elemN slt24 rfl rfl rfl (at_map (by omega)) rfl) ?_
  refine d_v' (j_load_el leaf44 rfl (at_map (by omega)) rfl) ?_
  refine d_v' (j_move (evo rfl)) ?_
  refine d_v' (j_move (evo rfl)) ?_
  refine d_v' (j_elemN slt24 rfl rfl rfl (at_map (by omega)) rfl) ?_
  refine d_v' (j_load_el leaf44 rfl (at_map (by omega)) rfl) ?_
  refine d_v0' (j_call0 (v := .p _) (hp1 := []) [] false [] ent61 (f_eqBoolS (a.getD k default) (b.getD k default)) ⟨.inl ⟨rfl, rfl⟩, .inl ⟨rfl, rfl⟩, trivial⟩ trivial rfl rfl (fun h => by cases h) rfl (fun _ h => by cases h) (.inl rfl) rfl rfl) ?_
  refine d_v' (j_not rfl) ?_
  refine d_nil (by kernel_rfl) (by kernel_rfl) ?_
  refine ac rfl (fun h3 => ?_) fun h3 => ?_
  ·
   have h3r := h3
   try simp only [nq, nr] at h3
   refine rs ?_
   refine oa rfl ?_
   refine on ?_
   refine a_ret ?_
   exact fin_p rfl ⟨boolEq (by symm; rw [decide_eq_false_iff_not]; rintro rfl; exact h3 rfl), rfl, rfl⟩
  have h3r := h3
  try simp only [nq, nr] at h3
  refine a_skip ?_
  refine ar ?_
  refine om rfl ?_
  refine op_v' (j_add rfl rfl (by omega) (by omega)) ?_
  refine oa rfl ?_
  refine on ?_
  exact ⟨k + 1, ⟨(by omega), take_next hpre0.2 (by omega) (by omega) h3⟩, ⟨⟨rfl, rfl⟩, ⟨rfl, trivial⟩, trivial, ⟨rfl, rfl⟩, ⟨rfl, rfl⟩⟩, (by omega)⟩
 have h2r := h2
 try simp only [nq, nr] at h2
 refine a_exit ?_
 refine rs ?_
 refine oa rfl ?_
 refine on ?_
 refine a_ret ?_
 exact fin_p rfl ⟨boolEq (by symm; rw [decide_eq_true_eq]; exact take_eq hpre0.2 (by omega) (by omega)), rfl, rfl⟩
end Go.Ab

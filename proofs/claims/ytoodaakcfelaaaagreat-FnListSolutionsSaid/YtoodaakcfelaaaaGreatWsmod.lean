/- Walks. -/
import Derived.Test.YtoodaakcfelaaaaGreatBase
import Derived.Test.YtoodaakcfelaaaaGreatMod3
import Derived.Test.YtoodaakcfelaaaaGreatWsfun
import Derived.Test.YtoodaakcfelaaaaGreatWscons
import Derived.Test.YtoodaakcfelaaaaGreatSimp
import Derived.Test.YtoodaakcfelaaaaGreatVals
namespace Go.Ab
open Go.Proofs
set_option maxRecDepth 100000
set_option maxHeartbeats 8000000
set_option linter.unusedSimpArgs false
set_option linter.unusedVariables false
theorem f_indexInt (l : List Int) (v : Int) : Fn Tryz.prog 166 [.sl (l.map dI), .p (.int .i64 v)] [] (fun rr ii nn => rr = .p (.int .i64 (idxF (fun a => decide (v = a)) l 0)) ∧ ii = [] ∧ nn = []) := by
 refine fn_of Tryz.func166 rfl (Nat.le_of_ble_eq_true rfl) fun w X g => ?_
 show AWp _ _ _ ⟨[(0, .sl (l.map dI)), (1, .p (.int .i64 v))], []⟩
 refine a_len_map 0 rfl fun hlen => ?_
 refine rs ?_
 refine oa rfl ?_
 refine on ?_
 refine a_seq ?_
 refine rs ?_
 refine om rfl ?_
 refine op_v' (j_len_map Tryz.underlying23 rfl) ?_
 refine om rfl ?_
 refine on ?_
 refine a_block ?_
 refine a_loopF' (ι := Nat) (fun k => k ≤ l.length ∧ idxF (fun a => decide (v = a)) l 0 = idxF (fun a => decide (v = a)) (l.drop k) (k : Int)) (fun k r => (8, .p (.int .i64 ((k : Nat)))) :: r) (fun k r => r) (fun k => l.length - k) (fun _ _ => rfl) (fun _ _ => rfl) 0 ⟨Nat.zero_le _, rfl⟩ ⟨⟨rfl, rfl⟩, ⟨rfl, trivial⟩, trivial, ⟨rfl, rfl⟩, ⟨rfl, rfl⟩⟩ ?_
 intro k hpre
 refine rs ?_
 refine op_v' (j_lt rfl rfl) ?_
 refine on ?_
 refine a_seq ?_
 refine ac rfl (fun h1 => ?_) fun h1 => ?_
 ·
  have h1r := h1
  try simp only [nq, nr] at h1
  refine a_skip ?_
  refine a_seq ?_
  refine a_block ?_
  refine rs ?_
  refine om rfl ?_
  refine oa rfl ?_
  refine on ?_
  refine rs ?_
  refine om rfl ?_
  refine om rfl ?_
  refine om rfl ?_
  refine op_v' (j_elemN slt23 rfl rfl rfl (at_map (by omega)) rfl) ?_
  refine op_v' (j_load_el leaf3 rfl (at_map (by omega)) rfl) ?_
  refine op_v' (j_eq rfl rfl) ?_
  refine on ?_
  refine ac rfl (fun h2 => ?_) fun h2 => ?_
  ·
   have h2r := h2
   try simp only [nq, nr] at h2
   refine rs ?_
   refine om rfl ?_
   refine oa rfl ?_
   refine on ?_
   refine a_ret ?_
   exact fin_p rfl ⟨intEq (by rw [hpre.2, idxF_hit (d := default) (by omega) (by first | (rw [decide_eq_true_eq]; assumption) | (simp_all; done))]), rfl, rfl⟩
  have h2r := h2
  try simp only [nq, nr] at h2
  refine a_skip ?_
  refine ar ?_
  refine op_v' (j_add rfl rfl (by omega) (by omega)) ?_
  refine om rfl ?_
  refine on ?_
  exact ⟨k + 1, ⟨by omega, by rw [hpre.2, idxF_skip (d := default) (by omega) (by first | (rw [decide_eq_false_iff_not]; assumption) | (simp_all; done))]⟩, ⟨⟨rfl, rfl⟩, ⟨rfl, trivial⟩, trivial, ⟨rfl, rfl⟩, ⟨rfl, rfl⟩⟩, (by omega)⟩
 have h1r := h1
 try simp only [nq, nr] at h1
 refine a_exit ?_
 refine rs ?_
 refine oa rfl ?_
 refine on ?_
 refine a_ret ?_
 exact fin_p rfl ⟨intEq (by rw [hpre.2, idxF_end (by omega)]), rfl, rfl⟩
theorem f_containsInt (l : List Int) (v : Int) : Fn Tryz.prog 107 [.sl (l.map dI), .p (.int .i64 v)] [] (fun rr ii nn => rr = .p (.bool (decide (v ∈ l))) ∧ ii = [] ∧ nn = []) := by
 refine fn_of Tryz.func107 rfl (Nat.le_of_ble_eq_true rfl) fun w X g => ?_
 show AWp _ _ _ ⟨[(0, .sl (l.map dI)), (1, .p (.int .i64 v))], []⟩
 refine rs ?_
 refine oa rfl ?_
 refine on ?_
 refine rs ?_
 refine om rfl ?_
 refine om rfl ?_
 refine op_v0' (j_call0 (v := .p _) (hp1 := []) [] false [] ent166 (f_indexInt l v) ⟨.inl ⟨rfl, rfl⟩, .inl ⟨rfl, rfl⟩, trivial⟩ trivial rfl rfl (fun h => by cases h) rfl (fun _ h => by cases h) (.inl rfl) rfl rfl) ?_
 refine op_v' (j_ge rfl rfl) ?_
 refine oa rfl ?_
 refine on ?_
 refine a_ret ?_
 exact fin_p rfl ⟨boolEq ((idxF_any (Int.le_refl 0)).trans any_mem), rfl, rfl⟩
end Go.Ab

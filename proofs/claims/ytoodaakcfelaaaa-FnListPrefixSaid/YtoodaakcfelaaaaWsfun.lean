/- Walks. -/
import Derived.Test.YtoodaakcfelaaaaBase
import Derived.Test.YtoodaakcfelaaaaSimp
import Derived.Test.YtoodaakcfelaaaaWscons
namespace Go.Ab
open Go.Proofs
set_option maxRecDepth 100000
set_option maxHeartbeats 8000000
set_option linter.unusedSimpArgs false
set_option linter.unusedVariables false
theorem f_idx_Con_0 (F : Nat) (l : List (Con)) (p : Con → Bool) (hE : Ent' Try.prog F) (hF : ∀ a ∈ l, Fn Try.prog F [.agg [.sl (a.1.map dT), .p (.int .i64 a.2)]] [] (fun r i n => r = .p (.bool (p a)) ∧ i = [] ∧ n = [])) : Fn Try.prog 87 [.sl (l.map dC), .fn F []] [] (fun rr ii nn => rr = .p (.int .i64 (idxF p l 0)) ∧ ii = [] ∧ nn = []) := by
 refine fn_of Try.func87 rfl (Nat.le_of_ble_eq_true rfl) fun w X g => ?_
 show AWp _ _ _ ⟨[(0, .sl (l.map dC)), (1, .fn F [])], []⟩
 refine a_len_map 0 rfl fun hlen => ?_
 refine a_seq ?_
 refine a_region (by kernel_rfl) ?_
 refine op_v' (j_assign (evo rfl)) ?_
 refine op_nil ?_
 refine a_seq ?_
 refine a_seq ?_
 refine a_region (by kernel_rfl) ?_
 refine op_v' (j_move (evo rfl)) ?_
 refine op_v' (j_len_map Try.underlying29 rfl) ?_
 refine op_v' (j_move (evo rfl)) ?_
 refine op_nil ?_
 refine a_block ?_
 refine a_loopF' (ι := Nat) (fun k => k ≤ l.length ∧ idxF p l 0 = idxF p (l.drop k) (k : Int)) (fun k r => (8, .p (.int .i64 ((k : Nat)))) :: r) (fun k r => r) (fun k => l.length - k) (fun _ _ => rfl) (fun _ _ => rfl) 0 ⟨Nat.zero_le _, rfl⟩ ⟨⟨rfl, rfl⟩, ⟨rfl, trivial⟩, trivial, ⟨rfl, rfl⟩, ⟨rfl, rfl⟩⟩ ?_
 intro k hpre
 refine a_seq ?_
 refine a_region (by kernel_rfl) ?_
 refine op_v' (j_lt rfl rfl) ?_
 refine op_nil ?_
 refine a_seq ?_
 refine a_cond rfl (fun h1 => ?_) (fun h1 => ?_)
 ·
  have h1r := h1
  try simp only [nq, nr] at h1
  refine a_skip ?_
  refine a_seq ?_
  refine a_block ?_
  refine a_seq ?_
  refine a_region (by kernel_rfl) ?_
  refine op_v' (j_move (evo rfl)) ?_
  refine op_v' (j_assign (evo rfl)) ?_
  refine op_nil ?_
  refine a_seq ?_
  refine a_region (by kernel_rfl) ?_
  refine op_v' (j_move (evo rfl)) ?_
  refine op_v' (j_move (evo rfl)) ?_
  refine op_v' (j_move (evo rfl)) ?_
  refine op_v' (j_elemN slt29 rfl rfl rfl (at_map (by omega)) rfl) ?_
  refine op_v' (j_loada_el (ys := [.sl _, .p _]) agg56 rfl (at_map (by omega)) rfl (Nat.le_refl _)) ?_
  refine op_v0' (j_callF0 (v := .p _) (hp1 := []) [] false [] rfl hE (hF (l.getD k default) (getD_mem (by omega))) ⟨.inl ⟨rfl, rfl⟩, trivial⟩ trivial rfl rfl (fun h => by cases h) rfl (fun _ h => by cases h) (.inl rfl) rfl rfl) ?_
  refine op_nil ?_
  refine a_cond rfl (fun h2 => ?_) (fun h2 => ?_)
  ·
   have h2r := h2
   try simp only [nq, nr] at h2
   refine a_seq ?_
   refine a_region (by kernel_rfl) ?_
   refine op_v' (j_move (evo rfl)) ?_
   refine op_v' (j_assign (evo rfl)) ?_
   refine op_nil ?_
   refine a_ret ?_
   exact ⟨[.p _], .p _, [], [], [], ⟨rfl, trivial⟩, rfl, rfl, trivial, rfl, rfl, ⟨intEq (by rw [hpre.2, idxF_hit (d := default) (by omega) (by assumption)]), rfl, rfl⟩⟩
  ·
   have h2r := h2
   try simp only [nq, nr] at h2
   refine a_skip ?_
   refine a_region (by kernel_rfl) ?_
   refine op_v' (j_add rfl rfl (by omega) (by omega)) ?_
   refine op_v' (j_move (evo rfl)) ?_
   refine op_nil ?_
   exact ⟨k + 1, ⟨by omega, by rw [hpre.2, idxF_skip (d := default) (by omega) (by assumption)]⟩, ⟨⟨rfl, rfl⟩, ⟨rfl, trivial⟩, trivial, ⟨rfl, rfl⟩, ⟨rfl, rfl⟩⟩, (by omega)⟩
 ·
  have h1r := h1
  try simp only [nq, nr] at h1
  refine a_exit ?_
  refine a_seq ?_
  refine a_region (by kernel_rfl) ?_
  refine op_v' (j_assign (evo rfl)) ?_
  refine op_nil ?_
  refine a_ret ?_
  exact ⟨[.p _], .p _, [], [], [], ⟨rfl, trivial⟩, rfl, rfl, trivial, rfl, rfl, ⟨intEq (by rw [hpre.2, idxF_end (by omega)]), rfl, rfl⟩⟩


theorem f_ctf_Con_0 (F : Nat) (l : List (Con)) (p : Con → Bool) (hE : Ent' Try.prog F) (hF : ∀ a ∈ l, Fn Try.prog F [.agg [.sl (a.1.map dT), .p (.int .i64 a.2)]] [] (fun r i n => r = .p (.bool (p a)) ∧ i = [] ∧ n = [])) : Fn Try.prog 79 [.sl (l.map dC), .fn F []] [] (fun rr ii nn => rr = .p (.bool (l.any p)) ∧ ii = [] ∧ nn = []) := by
 refine fn_of Try.func79 rfl (Nat.le_of_ble_eq_true rfl) fun w X g => ?_
 show AWp _ _ _ ⟨[(0, .sl (l.map dC)), (1, .fn F [])], []⟩
 refine a_seq ?_
 refine a_region (by kernel_rfl) ?_
 refine op_v' (j_assign (evo rfl)) ?_
 refine op_nil ?_
 refine a_seq ?_
 refine a_region (by kernel_rfl) ?_
 refine op_v' (j_move (evo rfl)) ?_
 refine op_v' (j_move (evo rfl)) ?_
 refine op_v0' (j_call0 (v := .p _) (hp1 := []) [] false [] ent87 (f_idx_Con_0  F l p hE hF) ⟨.inl ⟨rfl, rfl⟩, .inl ⟨rfl, rfl⟩, trivial⟩ trivial rfl rfl (fun h => by cases h) rfl (fun _ h => by cases h) (.inl rfl) rfl rfl) ?_
 refine op_v' (j_ge rfl rfl) ?_
 refine op_v' (j_assign (evo rfl)) ?_
 refine op_nil ?_
 refine a_ret ?_
 exact ⟨[.p _], .p _, [], [], [], ⟨rfl, trivial⟩, rfl, rfl, trivial, rfl, rfl, ⟨boolEq (idxF_any (Int.le_refl 0)), rfl, rfl⟩⟩


end Go.Ab

/- Walks. -/
import Derived.Test.YtikknnpdiahnoaaBase
import Derived.Test.YtikknnpdiahnoaaMt
import Derived.Test.YtikknnpdiahnoaaWsfun
import Derived.Test.YtikknnpdiahnoaaWscons
import Derived.Test.YtikknnpdiahnoaaSimp
import Derived.Test.YtikknnpdiahnoaaVals
namespace Go.Ab
open Go.Proofs
set_option maxRecDepth 100000
set_option maxHeartbeats 8000000
set_option linter.unusedSimpArgs false
set_option linter.unusedVariables false
theorem f_idx_LI_r (e : Nat) (q1 q4 : Value) (s2 s3 s5 : List (List V)) (F : Nat) (l : List (List Int)) (p : List Int → Bool) (hE : Ent' Try.prog F) (hF : ∀ a ∈ l, Fn Try.prog F [.sl (a.map dI), .ptr 0 0 0] [.box e [.p q1, .sl s2, .sl s3, .p q4, .sl s5]] (fun r i n => r = .p (.bool (p a)) ∧ i = [.box e [.p q1, .sl s2, .sl s3, .p q4, .sl s5]] ∧ n = [])) : Fn Try.prog 141 [.sl (l.map dL), .fn F [.ptr 0 0 0]] [.box e [.p q1, .sl s2, .sl s3, .p q4, .sl s5]] (fun rr ii nn => rr = .p (.int .i64 (idxF p l 0)) ∧ ii = [.box e [.p q1, .sl s2, .sl s3, .p q4, .sl s5]] ∧ nn = []) := by
 refine fn_of Try.func141 rfl (Nat.le_of_ble_eq_true rfl) fun w X g => ?_
 show AWp _ _ _ ⟨[(0, .sl (l.map dL)), (1, .fn F [.ptr 0 0 0])], [(0, some (0, .box e [.p q1, .sl s2, .sl s3, .p q4, .sl s5]))]⟩
 refine a_len_map 0 rfl fun hlen => ?_
 refine a_seq ?_
 refine a_region (by kernel_rfl) ?_
 refine op_v' (j_assign (evo rfl)) ?_
 refine op_nil ?_
 refine a_seq ?_
 refine a_seq ?_
 refine a_region (by kernel_rfl) ?_
 refine op_v' (j_move (evo rfl)) ?_
 refine op_v' (j_len_map Try.underlying41 rfl) ?_
 refine op_v' (j_move (evo rfl)) ?_
 refine op_nil ?_
 refine a_block ?_
 refine a_loopF' (ι := Nat) (fun k => k ≤ l.length ∧ idxF p l 0 = idxF p (l.drop k) (k : Int)) (fun k r => (8, .p (.int .i64 ((k : Nat)))) :: r) (fun k r => (0, some (0, .box e [.p q1, .sl s2, .sl s3, .p q4, .sl s5])) :: r) (fun k => l.length - k) (fun _ _ => rfl) (fun _ _ => rfl) 0 ⟨Nat.zero_le _, rfl⟩ ⟨⟨rfl, rfl⟩, ⟨rfl, trivial⟩, ⟨rfl, trivial⟩, ⟨rfl, rfl⟩, ⟨rfl, rfl⟩⟩ ?_
 intro k hpre
 refine a_seq ?_
 refine a_region (by kernel_rfl) ?_
 refine op_v' (j_lt rfl rfl) ?_
 refine op_nil ?_
 refine a_seq ?_
 refine a_cond rfl (fun h1 => ?_) (fun h1 => ?_)
 ·
  have h1r := h1
  try simp only [nq, nr] at h1
  refine a_skip ?_
  refine a_seq ?_
  refine a_block ?_
  refine a_seq ?_
  refine a_region (by kernel_rfl) ?_
  refine op_v' (j_move (evo rfl)) ?_
  refine op_v' (j_assign (evo rfl)) ?_
  refine op_nil ?_
  refine a_seq ?_
  refine a_region (by kernel_rfl) ?_
  refine op_v' (j_move (evo rfl)) ?_
  refine op_v' (j_move (evo rfl)) ?_
  refine op_v' (j_move (evo rfl)) ?_
  refine op_v' (j_elemN slt41 rfl rfl rfl (at_map (by omega)) rfl) ?_
  refine op_v' (j_load_el leaf23 rfl (at_map (by omega)) rfl) ?_
  refine op_v0' (j_callF0 (v := .p _) (hp1 := [(0, some (0, .box e [.p _, .sl _, .sl _, .p _, .sl _]))]) [(0, 0)] false [0] rfl hE (hF (l.getD k default) (getD_mem (by omega))) ⟨.inl ⟨rfl, rfl⟩, .inl ⟨rfl, rfl⟩, trivial⟩ ⟨⟨rfl, rfl⟩, trivial⟩ rfl rfl (fun h => by cases h) rfl (List.all_eq_true.1 rfl) (.inl rfl) rfl rfl) ?_
  refine op_nil ?_
  refine a_cond rfl (fun h2 => ?_) (fun h2 => ?_)
  ·
   have h2r := h2
   try simp only [nq, nr] at h2
   refine a_seq ?_
   refine a_region (by kernel_rfl) ?_
   refine op_v' (j_move (evo rfl)) ?_
   refine op_v' (j_assign (evo rfl)) ?_
   refine op_nil ?_
   refine a_ret ?_
   exact ⟨[.p _], .p _, [.box e [.p _, .sl _, .sl _, .p _, .sl _]], [], [], ⟨rfl, trivial⟩, rfl, rfl, ⟨⟨rfl, rfl⟩, trivial⟩, rfl, rfl, ⟨intEq (by rw [hpre.2, idxF_hit (d := default) (by omega) (by assumption)]), rfl, rfl⟩⟩
  ·
   have h2r := h2
   try simp only [nq, nr] at h2
   refine a_skip ?_
   refine a_region (by kernel_rfl) ?_
   refine op_v' (j_add rfl rfl (by omega) (by omega)) ?_
   refine op_v' (j_move (evo rfl)) ?_
   refine op_nil ?_
   exact ⟨k + 1, ⟨by omega, by rw [hpre.2, idxF_skip (d := default) (by omega) (by assumption)]⟩, ⟨⟨rfl, rfl⟩, ⟨rfl, trivial⟩, ⟨rfl, trivial⟩, ⟨rfl, rfl⟩, ⟨rfl, rfl⟩⟩, (by omega)⟩
 ·
  have h1r := h1
  try simp only [nq, nr] at h1
  refine a_exit ?_
  refine a_seq ?_
  refine a_region (by kernel_rfl) ?_
  refine op_v' (j_assign (evo rfl)) ?_
  refine op_nil ?_
  refine a_ret ?_
  exact ⟨[.p _], .p _, [.box e [.p _, .sl _, .sl _, .p _, .sl _]], [], [], ⟨rfl, trivial⟩, rfl, rfl, ⟨⟨rfl, rfl⟩, trivial⟩, rfl, rfl, ⟨intEq (by rw [hpre.2, idxF_end (by omega)]), rfl, rfl⟩⟩


theorem f_ctf_LI_r (e : Nat) (q1 q4 : Value) (s2 s3 s5 : List (List V)) (F : Nat) (l : List (List Int)) (p : List Int → Bool) (hE : Ent' Try.prog F) (hF : ∀ a ∈ l, Fn Try.prog F [.sl (a.map dI), .ptr 0 0 0] [.box e [.p q1, .sl s2, .sl s3, .p q4, .sl s5]] (fun r i n => r = .p (.bool (p a)) ∧ i = [.box e [.p q1, .sl s2, .sl s3, .p q4, .sl s5]] ∧ n = [])) : Fn Try.prog 117 [.sl (l.map dL), .fn F [.ptr 0 0 0]] [.box e [.p q1, .sl s2, .sl s3, .p q4, .sl s5]] (fun rr ii nn => rr = .p (.bool (l.any p)) ∧ ii = [.box e [.p q1, .sl s2, .sl s3, .p q4, .sl s5]] ∧ nn = []) := by
 refine fn_of Try.func117 rfl (Nat.le_of_ble_eq_true rfl) fun w X g => ?_
 show AWp _ _ _ ⟨[(0, .sl (l.map dL)), (1, .fn F [.ptr 0 0 0])], [(0, some (0, .box e [.p q1, .sl s2, .sl s3, .p q4, .sl s5]))]⟩
 refine a_seq ?_
 refine a_region (by kernel_rfl) ?_
 refine op_v' (j_assign (evo rfl)) ?_
 refine op_nil ?_
 refine a_seq ?_
 refine a_region (by kernel_rfl) ?_
 refine op_v' (j_move (evo rfl)) ?_
 refine op_v' (j_move (evo rfl)) ?_
 refine op_v0' (j_call0 (v := .p _) (hp1 := [(0, some (0, .box e [.p _, .sl _, .sl _, .p _, .sl _]))]) [(0, 0)] false [0] ent141 (f_idx_LI_r e q1 q4 s2 s3 s5 F l p hE hF) ⟨.inl ⟨rfl, rfl⟩, .inl ⟨rfl, rfl⟩, trivial⟩ ⟨⟨rfl, rfl⟩, trivial⟩ rfl rfl (fun h => by cases h) rfl (List.all_eq_true.1 rfl) (.inl rfl) rfl rfl) ?_
 refine op_v' (j_ge rfl rfl) ?_
 refine op_v' (j_assign (evo rfl)) ?_
 refine op_nil ?_
 refine a_ret ?_
 exact ⟨[.p _], .p _, [.box e [.p _, .sl _, .sl _, .p _, .sl _]], [], [], ⟨rfl, trivial⟩, rfl, rfl, ⟨⟨rfl, rfl⟩, trivial⟩, rfl, rfl, ⟨boolEq (idxF_any (Int.le_refl 0)), rfl, rfl⟩⟩


theorem f_idx_Rule_m (e : Nat) (s1 s2 : List (List V)) (F : Nat) (l : List (Rl)) (p : Rl → Bool) (hE : Ent' Try.prog F) (hF : ∀ a ∈ l, Fn Try.prog F [.agg [.p (.int .i64 a.1), .sl (a.2.1.map dI), .sl (a.2.2.1.map dI), .p (.int .i64 a.2.2.2.1), .sl (a.2.2.2.2.map dL)], .ptr 0 0 0] [.box e [.sl s1, .sl s2]] (fun r i n => r = .p (.bool (p a)) ∧ i = [.box e [.sl s1, .sl s2]] ∧ n = [])) : Fn Try.prog 114 [.sl (l.map dR), .fn F [.ptr 0 0 0]] [.box e [.sl s1, .sl s2]] (fun rr ii nn => rr = .p (.int .i64 (idxF p l 0)) ∧ ii = [.box e [.sl s1, .sl s2]] ∧ nn = []) := by
 refine fn_of Try.func114 rfl (Nat.le_of_ble_eq_true rfl) fun w X g => ?_
 show AWp _ _ _ ⟨[(0, .sl (l.map dR)), (1, .fn F [.ptr 0 0 0])], [(0, some (0, .box e [.sl s1, .sl s2]))]⟩
 refine a_len_map 0 rfl fun hlen => ?_
 refine a_seq ?_
 refine a_region (by kernel_rfl) ?_
 refine op_v' (j_assign (evo rfl)) ?_
 refine op_nil ?_
 refine a_seq ?_
 refine a_seq ?_
 refine a_region (by kernel_rfl) ?_
 refine op_v' (j_move (evo rfl)) ?_
 refine op_v' (j_len_map Try.underlying24 rfl) ?_
 refine op_v' (j_move (evo rfl)) ?_
 refine op_nil ?_
 refine a_block ?_
 refine a_loopF' (ι := Nat) (fun k => k ≤ l.length ∧ idxF p l 0 = idxF p (l.drop k) (k : Int)) (fun k r => (8, .p (.int .i64 ((k : Nat)))) :: r) (fun k r => (0, some (0, .box e [.sl s1, .sl s2])) :: r) (fun k => l.length - k) (fun _ _ => rfl) (fun _ _ => rfl) 0 ⟨Nat.zero_le _, rfl⟩ ⟨⟨rfl, rfl⟩, ⟨rfl, trivial⟩, ⟨rfl, trivial⟩, ⟨rfl, rfl⟩, ⟨rfl, rfl⟩⟩ ?_
 intro k hpre
 refine a_seq ?_
 refine a_region (by kernel_rfl) ?_
 refine op_v' (j_lt rfl rfl) ?_
 refine op_nil ?_
 refine a_seq ?_
 refine a_cond rfl (fun h1 => ?_) (fun h1 => ?_)
 ·
  have h1r := h1
  try simp only [nq, nr] at h1
  refine a_skip ?_
  refine a_seq ?_
  refine a_block ?_
  refine a_seq ?_
  refine a_region (by kernel_rfl) ?_
  refine op_v' (j_move (evo rfl)) ?_
  refine op_v' (j_assign (evo rfl)) ?_
  refine op_nil ?_
  refine a_seq ?_
  refine a_region (by kernel_rfl) ?_
  refine op_v' (j_move (evo rfl)) ?_
  refine op_v' (j_move (evo rfl)) ?_
  refine op_v' (j_move (evo rfl)) ?_
  refine op_v' (j_elemN slt24 rfl rfl rfl (at_map (by omega)) rfl) ?_
  refine op_v' (j_loada_el (ys := [.p _, .sl _, .sl _, .p _, .sl _]) agg43 rfl (at_map (by omega)) rfl (Nat.le_refl _)) ?_
  refine op_v0' (j_callF0 (v := .p _) (hp1 := [(0, some (0, .box e [.sl _, .sl _]))]) [(0, 0)] false [0] rfl hE (hF (l.getD k default) (getD_mem (by omega))) ⟨.inl ⟨rfl, rfl⟩, .inl ⟨rfl, rfl⟩, trivial⟩ ⟨⟨rfl, rfl⟩, trivial⟩ rfl rfl (fun h => by cases h) rfl (List.all_eq_true.1 rfl) (.inl rfl) rfl rfl) ?_
  refine op_nil ?_
  refine a_cond rfl (fun h2 => ?_) (fun h2 => ?_)
  ·
   have h2r := h2
   try simp only [nq, nr] at h2
   refine a_seq ?_
   refine a_region (by kernel_rfl) ?_
   refine op_v' (j_move (evo rfl)) ?_
   refine op_v' (j_assign (evo rfl)) ?_
   refine op_nil ?_
   refine a_ret ?_
   exact ⟨[.p _], .p _, [.box e [.sl _, .sl _]], [], [], ⟨rfl, trivial⟩, rfl, rfl, ⟨⟨rfl, rfl⟩, trivial⟩, rfl, rfl, ⟨intEq (by rw [hpre.2, idxF_hit (d := default) (by omega) (by assumption)]), rfl, rfl⟩⟩
  ·
   have h2r := h2
   try simp only [nq, nr] at h2
   refine a_skip ?_
   refine a_region (by kernel_rfl) ?_
   refine op_v' (j_add rfl rfl (by omega) (by omega)) ?_
   refine op_v' (j_move (evo rfl)) ?_
   refine op_nil ?_
   exact ⟨k + 1, ⟨by omega, by rw [hpre.2, idxF_skip (d := default) (by omega) (by assumption)]⟩, ⟨⟨rfl, rfl⟩, ⟨rfl, trivial⟩, ⟨rfl, trivial⟩, ⟨rfl, rfl⟩, ⟨rfl, rfl⟩⟩, (by omega)⟩
 ·
  have h1r := h1
  try simp only [nq, nr] at h1
  refine a_exit ?_
  refine a_seq ?_
  refine a_region (by kernel_rfl) ?_
  refine op_v' (j_assign (evo rfl)) ?_
  refine op_nil ?_
  refine a_ret ?_
  exact ⟨[.p _], .p _, [.box e [.sl _, .sl _]], [], [], ⟨rfl, trivial⟩, rfl, rfl, ⟨⟨rfl, rfl⟩, trivial⟩, rfl, rfl, ⟨intEq (by rw [hpre.2, idxF_end (by omega)]), rfl, rfl⟩⟩


theorem f_ctf_Rule_m (e : Nat) (s1 s2 : List (List V)) (F : Nat) (l : List (Rl)) (p : Rl → Bool) (hE : Ent' Try.prog F) (hF : ∀ a ∈ l, Fn Try.prog F [.agg [.p (.int .i64 a.1), .sl (a.2.1.map dI), .sl (a.2.2.1.map dI), .p (.int .i64 a.2.2.2.1), .sl (a.2.2.2.2.map dL)], .ptr 0 0 0] [.box e [.sl s1, .sl s2]] (fun r i n => r = .p (.bool (p a)) ∧ i = [.box e [.sl s1, .sl s2]] ∧ n = [])) : Fn Try.prog 59 [.sl (l.map dR), .fn F [.ptr 0 0 0]] [.box e [.sl s1, .sl s2]] (fun rr ii nn => rr = .p (.bool (l.any p)) ∧ ii = [.box e [.sl s1, .sl s2]] ∧ nn = []) := by
 refine fn_of Try.func59 rfl (Nat.le_of_ble_eq_true rfl) fun w X g => ?_
 show AWp _ _ _ ⟨[(0, .sl (l.map dR)), (1, .fn F [.ptr 0 0 0])], [(0, some (0, .box e [.sl s1, .sl s2]))]⟩
 refine a_seq ?_
 refine a_region (by kernel_rfl) ?_
 refine op_v' (j_assign (evo rfl)) ?_
 refine op_nil ?_
 refine a_seq ?_
 refine a_region (by kernel_rfl) ?_
 refine op_v' (j_move (evo rfl)) ?_
 refine op_v' (j_move (evo rfl)) ?_
 refine op_v0' (j_call0 (v := .p _) (hp1 := [(0, some (0, .box e [.sl _, .sl _]))]) [(0, 0)] false [0] ent114 (f_idx_Rule_m e s1 s2 F l p hE hF) ⟨.inl ⟨rfl, rfl⟩, .inl ⟨rfl, rfl⟩, trivial⟩ ⟨⟨rfl, rfl⟩, trivial⟩ rfl rfl (fun h => by cases h) rfl (List.all_eq_true.1 rfl) (.inl rfl) rfl rfl) ?_
 refine op_v' (j_ge rfl rfl) ?_
 refine op_v' (j_assign (evo rfl)) ?_
 refine op_nil ?_
 refine a_ret ?_
 exact ⟨[.p _], .p _, [.box e [.sl _, .sl _]], [], [], ⟨rfl, trivial⟩, rfl, rfl, ⟨⟨rfl, rfl⟩, trivial⟩, rfl, rfl, ⟨boolEq (idxF_any (Int.le_refl 0)), rfl, rfl⟩⟩


theorem f_idx_LB_0 (F : Nat) (l : List (List Bool)) (p : List Bool → Bool) (hE : Ent' Try.prog F) (hF : ∀ a ∈ l, Fn Try.prog F [.sl (a.map dB)] [] (fun r i n => r = .p (.bool (p a)) ∧ i = [] ∧ n = [])) : Fn Try.prog 120 [.sl (l.map dD), .fn F []] [] (fun rr ii nn => rr = .p (.int .i64 (idxF p l 0)) ∧ ii = [] ∧ nn = []) := by
 refine fn_of Try.func120 rfl (Nat.le_of_ble_eq_true rfl) fun w X g => ?_
 show AWp _ _ _ ⟨[(0, .sl (l.map dD)), (1, .fn F [])], []⟩
 refine a_len_map 0 rfl fun hlen => ?_
 refine a_seq ?_
 refine a_region (by kernel_rfl) ?_
 refine op_v' (j_assign (evo rfl)) ?_
 refine op_nil ?_
 refine a_seq ?_
 refine a_seq ?_
 refine a_region (by kernel_rfl) ?_
 refine op_v' (j_move (evo rfl)) ?_
 refine op_v' (j_len_map Try.underlying28 rfl) ?_
 refine op_v' (j_move (evo rfl)) ?_
 refine op_nil ?_
 refine a_block ?_
 refine a_loopF' (ι := Nat) (fun k => k ≤ l.length ∧ idxF p l 0 = idxF p (l.drop k) (k : Int)) (fun k r => (8, .p (.int .i64 ((k : Nat)))) :: r) (fun k r => r) (fun k => l.length - k) (fun _ _ => rfl) (fun _ _ => rfl) 0 ⟨Nat.zero_le _, rfl⟩ ⟨⟨rfl, rfl⟩, ⟨rfl, trivial⟩, trivial, ⟨rfl, rfl⟩, ⟨rfl, rfl⟩⟩ ?_
 intro k hpre
 refine a_seq ?_
 refine a_region (by kernel_rfl) ?_
 refine op_v' (j_lt rfl rfl) ?_
 refine op_nil ?_
 refine a_seq ?_
 refine a_cond rfl (fun h1 => ?_) (fun h1 => ?_)
 ·
  have h1r := h1
  try simp only [nq, nr] at h1
  refine a_skip ?_
  refine a_seq ?_
  refine a_block ?_
  refine a_seq ?_
  refine a_region (by kernel_rfl) ?_
  refine op_v' (j_move (evo rfl)) ?_
  refine op_v' (j_assign (evo rfl)) ?_
  refine op_nil ?_
  refine a_seq ?_
  refine a_region (by kernel_rfl) ?_
  refine op_v' (j_move (evo rfl)) ?_
  refine op_v' (j_move (evo rfl)) ?_
  refine op_v' (j_move (evo rfl)) ?_
  refine op_v' (j_elemN slt28 rfl rfl rfl (at_map (by omega)) rfl) ?_
  refine op_v' (j_load_el leaf34 rfl (at_map (by omega)) rfl) ?_
  refine op_v0' (j_callF0 (v := .p _) (hp1 := []) [] false [] rfl hE (hF (l.getD k default) (getD_mem (by omega))) ⟨.inl ⟨rfl, rfl⟩, trivial⟩ trivial rfl rfl (fun h => by cases h) rfl (fun _ h => by cases h) (.inl rfl) rfl rfl) ?_
  refine op_nil ?_
  refine a_cond rfl (fun h2 => ?_) (fun h2 => ?_)
  ·
   have h2r := h2
   try simp only [nq, nr] at h2
   refine a_seq ?_
   refine a_region (by kernel_rfl) ?_
   refine op_v' (j_move (evo rfl)) ?_
   refine op_v' (j_assign (evo rfl)) ?_
   refine op_nil ?_
   refine a_ret ?_
   exact ⟨[.p _], .p _, [], [], [], ⟨rfl, trivial⟩, rfl, rfl, trivial, rfl, rfl, ⟨intEq (by rw [hpre.2, idxF_hit (d := default) (by omega) (by assumption)]), rfl, rfl⟩⟩
  ·
   have h2r := h2
   try simp only [nq, nr] at h2
   refine a_skip ?_
   refine a_region (by kernel_rfl) ?_
   refine op_v' (j_add rfl rfl (by omega) (by omega)) ?_
   refine op_v' (j_move (evo rfl)) ?_
   refine op_nil ?_
   exact ⟨k + 1, ⟨by omega, by rw [hpre.2, idxF_skip (d := default) (by omega) (by assumption)]⟩, ⟨⟨rfl, rfl⟩, ⟨rfl, trivial⟩, trivial, ⟨rfl, rfl⟩, ⟨rfl, rfl⟩⟩, (by omega)⟩
 ·
  have h1r := h1
  try simp only [nq, nr] at h1
  refine a_exit ?_
  refine a_seq ?_
  refine a_region (by kernel_rfl) ?_
  refine op_v' (j_assign (evo rfl)) ?_
  refine op_nil ?_
  refine a_ret ?_
  exact ⟨[.p _], .p _, [], [], [], ⟨rfl, trivial⟩, rfl, rfl, trivial, rfl, rfl, ⟨intEq (by rw [hpre.2, idxF_end (by omega)]), rfl, rfl⟩⟩


theorem f_ctf_LB_0 (F : Nat) (l : List (List Bool)) (p : List Bool → Bool) (hE : Ent' Try.prog F) (hF : ∀ a ∈ l, Fn Try.prog F [.sl (a.map dB)] [] (fun r i n => r = .p (.bool (p a)) ∧ i = [] ∧ n = [])) : Fn Try.prog 64 [.sl (l.map dD), .fn F []] [] (fun rr ii nn => rr = .p (.bool (l.any p)) ∧ ii = [] ∧ nn = []) := by
 refine fn_of Try.func64 rfl (Nat.le_of_ble_eq_true rfl) fun w X g => ?_
 show AWp _ _ _ ⟨[(0, .sl (l.map dD)), (1, .fn F [])], []⟩
 refine a_seq ?_
 refine a_region (by kernel_rfl) ?_
 refine op_v' (j_assign (evo rfl)) ?_
 refine op_nil ?_
 refine a_seq ?_
 refine a_region (by kernel_rfl) ?_
 refine op_v' (j_move (evo rfl)) ?_
 refine op_v' (j_move (evo rfl)) ?_
 refine op_v0' (j_call0 (v := .p _) (hp1 := []) [] false [] ent120 (f_idx_LB_0  F l p hE hF) ⟨.inl ⟨rfl, rfl⟩, .inl ⟨rfl, rfl⟩, trivial⟩ trivial rfl rfl (fun h => by cases h) rfl (fun _ h => by cases h) (.inl rfl) rfl rfl) ?_
 refine op_v' (j_ge rfl rfl) ?_
 refine op_v' (j_assign (evo rfl)) ?_
 refine op_nil ?_
 refine a_ret ?_
 exact ⟨[.p _], .p _, [], [], [], ⟨rfl, trivial⟩, rfl, rfl, trivial, rfl, rfl, ⟨boolEq (idxF_any (Int.le_refl 0)), rfl, rfl⟩⟩


theorem f_indexInt (l : List Int) (v : Int) : Fn Try.prog 122 [.sl (l.map dI), .p (.int .i64 v)] [] (fun rr ii nn => rr = .p (.int .i64 (idxF (fun a => decide (v = a)) l 0)) ∧ ii = [] ∧ nn = []) := by
 refine fn_of Try.func122 rfl (Nat.le_of_ble_eq_true rfl) fun w X g => ?_
 show AWp _ _ _ ⟨[(0, .sl (l.map dI)), (1, .p (.int .i64 v))], []⟩
 refine a_len_map 0 rfl fun hlen => ?_
 refine a_seq ?_
 refine a_region (by kernel_rfl) ?_
 refine op_v' (j_assign (evo rfl)) ?_
 refine op_nil ?_
 refine a_seq ?_
 refine a_seq ?_
 refine a_region (by kernel_rfl) ?_
 refine op_v' (j_move (evo rfl)) ?_
 refine op_v' (j_len_map Try.underlying23 rfl) ?_
 refine op_v' (j_move (evo rfl)) ?_
 refine op_nil ?_
 refine a_block ?_
 refine a_loopF' (ι := Nat) (fun k => k ≤ l.length ∧ idxF (fun a => decide (v = a)) l 0 = idxF (fun a => decide (v = a)) (l.drop k) (k : Int)) (fun k r => (8, .p (.int .i64 ((k : Nat)))) :: r) (fun k r => r) (fun k => l.length - k) (fun _ _ => rfl) (fun _ _ => rfl) 0 ⟨Nat.zero_le _, rfl⟩ ⟨⟨rfl, rfl⟩, ⟨rfl, trivial⟩, trivial, ⟨rfl, rfl⟩, ⟨rfl, rfl⟩⟩ ?_
 intro k hpre
 refine a_seq ?_
 refine a_region (by kernel_rfl) ?_
 refine op_v' (j_lt rfl rfl) ?_
 refine op_nil ?_
 refine a_seq ?_
 refine a_cond rfl (fun h1 => ?_) (fun h1 => ?_)
 ·
  have h1r := h1
  try simp only [nq, nr] at h1
  refine a_skip ?_
  refine a_seq ?_
  refine a_block ?_
  refine a_seq ?_
  refine a_region (by kernel_rfl) ?_
  refine op_v' (j_move (evo rfl)) ?_
  refine op_v' (j_assign (evo rfl)) ?_
  refine op_nil ?_
  refine a_seq ?_
  refine a_region (by kernel_rfl) ?_
  refine op_v' (j_move (evo rfl)) ?_
  refine op_v' (j_move (evo rfl)) ?_
  refine op_v' (j_move (evo rfl)) ?_
  refine op_v' (j_elemN slt23 rfl rfl rfl (at_map (by omega)) rfl) ?_
  refine op_v' (j_load_el leaf3 rfl (at_map (by omega)) rfl) ?_
  refine op_v' (j_eq rfl rfl) ?_
  refine op_nil ?_
  refine a_cond rfl (fun h2 => ?_) (fun h2 => ?_)
  ·
   have h2r := h2
   try simp only [nq, nr] at h2
   refine a_seq ?_
   refine a_region (by kernel_rfl) ?_
   refine op_v' (j_move (evo rfl)) ?_
   refine op_v' (j_assign (evo rfl)) ?_
   refine op_nil ?_
   refine a_ret ?_
   exact ⟨[.p _], .p _, [], [], [], ⟨rfl, trivial⟩, rfl, rfl, trivial, rfl, rfl, ⟨intEq (by rw [hpre.2, idxF_hit (d := default) (by omega) (by first | (rw [decide_eq_true_eq]; assumption) | (simp_all; done))]), rfl, rfl⟩⟩
  ·
   have h2r := h2
   try simp only [nq, nr] at h2
   refine a_skip ?_
   refine a_region (by kernel_rfl) ?_
   refine op_v' (j_add rfl rfl (by omega) (by omega)) ?_
   refine op_v' (j_move (evo rfl)) ?_
   refine op_nil ?_
   exact ⟨k + 1, ⟨by omega, by rw [hpre.2, idxF_skip (d := default) (by omega) (by first | (rw [decide_eq_false_iff_not]; assumption) | (simp_all; done))]⟩, ⟨⟨rfl, rfl⟩, ⟨rfl, trivial⟩, trivial, ⟨rfl, rfl⟩, ⟨rfl, rfl⟩⟩, (by omega)⟩
 ·
  have h1r := h1
  try simp only [nq, nr] at h1
  refine a_exit ?_
  refine a_seq ?_
  refine a_region (by kernel_rfl) ?_
  refine op_v' (j_assign (evo rfl)) ?_
  refine op_nil ?_
  refine a_ret ?_
  exact ⟨[.p _], .p _, [], [], [], ⟨rfl, trivial⟩, rfl, rfl, trivial, rfl, rfl, ⟨intEq (by rw [hpre.2, idxF_end (by omega)]), rfl, rfl⟩⟩


theorem f_containsInt (l : List Int) (v : Int) : Fn Try.prog 69 [.sl (l.map dI), .p (.int .i64 v)] [] (fun rr ii nn => rr = .p (.bool (decide (v ∈ l))) ∧ ii = [] ∧ nn = []) := by
 refine fn_of Try.func69 rfl (Nat.le_of_ble_eq_true rfl) fun w X g => ?_
 show AWp _ _ _ ⟨[(0, .sl (l.map dI)), (1, .p (.int .i64 v))], []⟩
 refine a_seq ?_
 refine a_region (by kernel_rfl) ?_
 refine op_v' (j_assign (evo rfl)) ?_
 refine op_nil ?_
 refine a_seq ?_
 refine a_region (by kernel_rfl) ?_
 refine op_v' (j_move (evo rfl)) ?_
 refine op_v' (j_move (evo rfl)) ?_
 refine op_v0' (j_call0 (v := .p _) (hp1 := []) [] false [] ent122 (f_indexInt l v) ⟨.inl ⟨rfl, rfl⟩, .inl ⟨rfl, rfl⟩, trivial⟩ trivial rfl rfl (fun h => by cases h) rfl (fun _ h => by cases h) (.inl rfl) rfl rfl) ?_
 refine op_v' (j_ge rfl rfl) ?_
 refine op_v' (j_assign (evo rfl)) ?_
 refine op_nil ?_
 refine a_ret ?_
 exact ⟨[.p _], .p _, [], [], [], ⟨rfl, trivial⟩, rfl, rfl, trivial, rfl, rfl, ⟨boolEq ((idxF_any (Int.le_refl 0)).trans any_mem), rfl, rfl⟩⟩


theorem f_indexBool (l : List Bool) (v : Bool) : Fn Try.prog 121 [.sl (l.map dB), .p (.bool v)] [] (fun rr ii nn => rr = .p (.int .i64 (idxF (fun a => decide (v = a)) l 0)) ∧ ii = [] ∧ nn = []) := by
 refine fn_of Try.func121 rfl (Nat.le_of_ble_eq_true rfl) fun w X g => ?_
 show AWp _ _ _ ⟨[(0, .sl (l.map dB)), (1, .p (.bool v))], []⟩
 refine a_len_map 0 rfl fun hlen => ?_
 refine a_seq ?_
 refine a_region (by kernel_rfl) ?_
 refine op_v' (j_assign (evo rfl)) ?_
 refine op_nil ?_
 refine a_seq ?_
 refine a_seq ?_
 refine a_region (by kernel_rfl) ?_
 refine op_v' (j_move (evo rfl)) ?_
 refine op_v' (j_len_map Try.underlying34 rfl) ?_
 refine op_v' (j_move (evo rfl)) ?_
 refine op_nil ?_
 refine a_block ?_
 refine a_loopF' (ι := Nat) (fun k => k ≤ l.length ∧ idxF (fun a => decide (v = a)) l 0 = idxF (fun a => decide (v = a)) (l.drop k) (k : Int)) (fun k r => (8, .p (.int .i64 ((k : Nat)))) :: r) (fun k r => r) (fun k => l.length - k) (fun _ _ => rfl) (fun _ _ => rfl) 0 ⟨Nat.zero_le _, rfl⟩ ⟨⟨rfl, rfl⟩, ⟨rfl, trivial⟩, trivial, ⟨rfl, rfl⟩, ⟨rfl, rfl⟩⟩ ?_
 intro k hpre
 refine a_seq ?_
 refine a_region (by kernel_rfl) ?_
 refine op_v' (j_lt rfl rfl) ?_
 refine op_nil ?_
 refine a_seq ?_
 refine a_cond rfl (fun h1 => ?_) (fun h1 => ?_)
 ·
  have h1r := h1
  try simp only [nq, nr] at h1
  refine a_skip ?_
  refine a_seq ?_
  refine a_block ?_
  refine a_seq ?_
  refine a_region (by kernel_rfl) ?_
  refine op_v' (j_move (evo rfl)) ?_
  refine op_v' (j_assign (evo rfl)) ?_
  refine op_nil ?_
  refine a_seq ?_
  refine a_region (by kernel_rfl) ?_
  refine op_v' (j_move (evo rfl)) ?_
  refine op_v' (j_move (evo rfl)) ?_
  refine op_v' (j_move (evo rfl)) ?_
  refine op_v' (j_elemN slt34 rfl rfl rfl (at_map (by omega)) rfl) ?_
  refine op_v' (j_load_el leaf4 rfl (at_map (by omega)) rfl) ?_
  refine op_v' (j_eqb Try.underlying4 rfl rfl) ?_
  refine op_nil ?_
  refine a_cond rfl (fun h2 => ?_) (fun h2 => ?_)
  ·
   have h2r := h2
   try simp only [nq, nr] at h2
   refine a_seq ?_
   refine a_region (by kernel_rfl) ?_
   refine op_v' (j_move (evo rfl)) ?_
   refine op_v' (j_assign (evo rfl)) ?_
   refine op_nil ?_
   refine a_ret ?_
   exact ⟨[.p _], .p _, [], [], [], ⟨rfl, trivial⟩, rfl, rfl, trivial, rfl, rfl, ⟨intEq (by rw [hpre.2, idxF_hit (d := default) (by omega) (by first | (rw [decide_eq_true_eq]; assumption) | (simp_all; done))]), rfl, rfl⟩⟩
  ·
   have h2r := h2
   try simp only [nq, nr] at h2
   refine a_skip ?_
   refine a_region (by kernel_rfl) ?_
   refine op_v' (j_add rfl rfl (by omega) (by omega)) ?_
   refine op_v' (j_move (evo rfl)) ?_
   refine op_nil ?_
   exact ⟨k + 1, ⟨by omega, by rw [hpre.2, idxF_skip (d := default) (by omega) (by first | (rw [decide_eq_false_iff_not]; assumption) | (simp_all; done))]⟩, ⟨⟨rfl, rfl⟩, ⟨rfl, trivial⟩, trivial, ⟨rfl, rfl⟩, ⟨rfl, rfl⟩⟩, (by omega)⟩
 ·
  have h1r := h1
  try simp only [nq, nr] at h1
  refine a_exit ?_
  refine a_seq ?_
  refine a_region (by kernel_rfl) ?_
  refine op_v' (j_assign (evo rfl)) ?_
  refine op_nil ?_
  refine a_ret ?_
  exact ⟨[.p _], .p _, [], [], [], ⟨rfl, trivial⟩, rfl, rfl, trivial, rfl, rfl, ⟨intEq (by rw [hpre.2, idxF_end (by omega)]), rfl, rfl⟩⟩


theorem f_containsBool (l : List Bool) (v : Bool) : Fn Try.prog 66 [.sl (l.map dB), .p (.bool v)] [] (fun rr ii nn => rr = .p (.bool (decide (v ∈ l))) ∧ ii = [] ∧ nn = []) := by
 refine fn_of Try.func66 rfl (Nat.le_of_ble_eq_true rfl) fun w X g => ?_
 show AWp _ _ _ ⟨[(0, .sl (l.map dB)), (1, .p (.bool v))], []⟩
 refine a_seq ?_
 refine a_region (by kernel_rfl) ?_
 refine op_v' (j_assign (evo rfl)) ?_
 refine op_nil ?_
 refine a_seq ?_
 refine a_region (by kernel_rfl) ?_
 refine op_v' (j_move (evo rfl)) ?_
 refine op_v' (j_move (evo rfl)) ?_
 refine op_v0' (j_call0 (v := .p _) (hp1 := []) [] false [] ent121 (f_indexBool l v) ⟨.inl ⟨rfl, rfl⟩, .inl ⟨rfl, rfl⟩, trivial⟩ trivial rfl rfl (fun h => by cases h) rfl (fun _ h => by cases h) (.inl rfl) rfl rfl) ?_
 refine op_v' (j_ge rfl rfl) ?_
 refine op_v' (j_assign (evo rfl)) ?_
 refine op_nil ?_
 refine a_ret ?_
 exact ⟨[.p _], .p _, [], [], [], ⟨rfl, trivial⟩, rfl, rfl, trivial, rfl, rfl, ⟨boolEq ((idxF_any (Int.le_refl 0)).trans any_mem), rfl, rfl⟩⟩


theorem f_rv1 (n : Int) : Fn Try.prog 116 [.p (.int .i64 (n))] [] (fun rr ii nn => rr = .p (.bool (!decide (n ≠ 0 ∧ -9 ≤ n ∧ n ≤ 9))) ∧ ii = [] ∧ nn = []) := by
 refine fn_of Try.func116 rfl (Nat.le_of_ble_eq_true rfl) fun w X g => ?_
 show AWp _ _ _ ⟨[(0, .p (.int .i64 (n)))], []⟩
 refine a_seq ?_
 refine a_region (by kernel_rfl) ?_
 refine op_v' (j_assign (evo rfl)) ?_
 refine op_nil ?_
 refine a_seq ?_
 refine a_region (by kernel_rfl) ?_
 refine op_v' (j_move (evo rfl)) ?_
 refine op_v' (j_eq rfl rfl) ?_
 refine op_v' (j_move (evo rfl)) ?_
 refine op_split' 5 rfl (fun h1 => ?_) (fun h1 => ?_)
 ·
  have h1r := h1
  try simp only [nq, nr] at h1
  refine op_v' (j_unwantV rfl rfl h1r) ?_
  refine op_v' (j_unwantV rfl rfl h1r) ?_
  refine op_v' (j_unwantV rfl rfl h1r) ?_
  refine op_v' (j_pick_t rfl h1r (evo rfl)) ?_
  refine op_v' (j_assign (evo rfl)) ?_
  refine op_nil ?_
  refine a_ret ?_
  exact ⟨[.p _], .p _, [], [], [], ⟨rfl, trivial⟩, rfl, rfl, trivial, rfl, rfl, ⟨boolEq (by first | (rw [decide_eq_false (show ¬ (n ≠ 0 ∧ -9 ≤ n ∧ n ≤ 9) by omega)]; simp_all; done) | (symm; rw [Bool.not_eq_eq_eq_not]; exact decide_eq_decide.2 (by omega)) | (congr 1; exact decide_eq_decide.2 (by omega))), rfl, rfl⟩⟩
 ·
  have h1r := h1
  try simp only [nq, nr] at h1
  refine op_v' (j_want rfl rfl h1r (j_move (evo rfl))) ?_
  refine op_v0' (j_want rfl rfl h1r (j_call0 (v := .p _) (hp1 := []) [] false [] ent58 (f_within _ _ _) ⟨.inl ⟨rfl, rfl⟩, .inl ⟨rfl, rfl⟩, .inl ⟨rfl, rfl⟩, trivial⟩ trivial rfl rfl (fun h => by cases h) rfl (fun _ h => by cases h) (.inl rfl) rfl rfl)) ?_
  refine op_v' (j_want rfl rfl h1r (j_not rfl)) ?_
  refine op_v' (j_pick_f rfl h1r (evo rfl)) ?_
  refine op_v' (j_assign (evo rfl)) ?_
  refine op_nil ?_
  refine a_ret ?_
  exact ⟨[.p _], .p _, [], [], [], ⟨rfl, trivial⟩, rfl, rfl, trivial, rfl, rfl, ⟨boolEq (by first | (rw [decide_eq_false (show ¬ (n ≠ 0 ∧ -9 ≤ n ∧ n ≤ 9) by omega)]; simp_all; done) | (symm; rw [Bool.not_eq_eq_eq_not]; exact decide_eq_decide.2 (by omega)) | (congr 1; exact decide_eq_decide.2 (by omega))), rfl, rfl⟩⟩


theorem f_rv21 (n : Int) : Fn Try.prog 119 [.p (.int .i64 (n))] [] (fun rr ii nn => rr = .p (.bool (!decide (0 ≤ n ∧ n ≤ 3))) ∧ ii = [] ∧ nn = []) := by
 refine fn_of Try.func119 rfl (Nat.le_of_ble_eq_true rfl) fun w X g => ?_
 show AWp _ _ _ ⟨[(0, .p (.int .i64 (n)))], []⟩
 refine a_seq ?_
 refine a_region (by kernel_rfl) ?_
 refine op_v' (j_assign (evo rfl)) ?_
 refine op_nil ?_
 refine a_seq ?_
 refine a_region (by kernel_rfl) ?_
 refine op_v' (j_move (evo rfl)) ?_
 refine op_v0' (j_call0 (v := .p _) (hp1 := []) [] false [] ent58 (f_within _ _ _) ⟨.inl ⟨rfl, rfl⟩, .inl ⟨rfl, rfl⟩, .inl ⟨rfl, rfl⟩, trivial⟩ trivial rfl rfl (fun h => by cases h) rfl (fun _ h => by cases h) (.inl rfl) rfl rfl) ?_
 refine op_v' (j_not rfl) ?_
 refine op_v' (j_assign (evo rfl)) ?_
 refine op_nil ?_
 refine a_ret ?_
 exact ⟨[.p _], .p _, [], [], [], ⟨rfl, trivial⟩, rfl, rfl, trivial, rfl, rfl, ⟨rfl, rfl, rfl⟩⟩


theorem f_rv2 (x : List Int) (r : Rl) : Fn Try.prog 118 [.sl (x.map dI), .ptr 0 0 0] [.box 43 [.p (.int .i64 r.1), .sl (r.2.1.map dI), .sl (r.2.2.1.map dI), .p (.int .i64 r.2.2.2.1), .sl (r.2.2.2.2.map dL)]] (fun rr ii nn => rr = .p (.bool (!rowOk r x)) ∧ ii = [.box 43 [.p (.int .i64 r.1), .sl (r.2.1.map dI), .sl (r.2.2.1.map dI), .p (.int .i64 r.2.2.2.1), .sl (r.2.2.2.2.map dL)]] ∧ nn = []) := by
 refine fn_of Try.func118 rfl (Nat.le_of_ble_eq_true rfl) fun w X g => ?_
 show AWp _ _ _ ⟨[(0, .sl (x.map dI)), (1, .ptr 0 0 0)], [(0, some (0, .box 43 [.p (.int .i64 r.1), .sl (r.2.1.map dI), .sl (r.2.2.1.map dI), .p (.int .i64 r.2.2.2.1), .sl (r.2.2.2.2.map dL)]))]⟩
 refine a_seq ?_
 refine a_region (by kernel_rfl) ?_
 refine op_v' (j_assign (evo rfl)) ?_
 refine op_nil ?_
 refine a_seq ?_
 refine a_region (by kernel_rfl) ?_
 refine op_v' (j_move (evo rfl)) ?_
 refine op_v' (j_len_map Try.underlying23 rfl) ?_
 refine op_v' (j_fldp fld43f1 rfl rfl) ?_
 refine op_v' (j_load_box leaf23 rfl rfl rfl) ?_
 refine op_v' (j_len_map Try.underlying23 rfl) ?_
 refine op_v' (j_ne rfl rfl) ?_
 refine op_v' (j_move (evo rfl)) ?_
 refine op_split' 10 rfl (fun h1 => ?_) (fun h1 => ?_)
 ·
  have h1r := h1
  try simp only [nq, nr] at h1
  refine op_v' (j_unwantV rfl rfl h1r) ?_
  refine op_v' (j_unwantV rfl rfl h1r) ?_
  refine op_v' (j_pick_t rfl h1r (evo rfl)) ?_
  refine op_v' (j_assign (evo rfl)) ?_
  refine op_nil ?_
  refine a_ret ?_
  exact ⟨[.p _], .p _, [.box 43 [.p _, .sl _, .sl _, .p _, .sl _]], [], [], ⟨rfl, trivial⟩, rfl, rfl, ⟨⟨rfl, rfl⟩, trivial⟩, rfl, rfl, ⟨boolEq (by unfold rowOk; first | (rw [decide_eq_false (show ¬ x.length = r.2.1.length by omega)]; rfl) | (rw [decide_eq_true (show x.length = r.2.1.length by omega), Bool.true_and, ← not_any_not, Bool.not_not])), rfl, rfl⟩⟩
 ·
  have h1r := h1
  try simp only [nq, nr] at h1
  refine op_v' (j_want rfl rfl h1r (j_move (evo rfl))) ?_
  refine op_v0' (j_want rfl rfl h1r (j_call0 (v := .p _) (hp1 := []) [] false [] ent115 (f_ctf_Int_0 119 x (fun a => !decide (0 ≤ a ∧ a ≤ 3)) ent119 (fun a _ => f_rv21 a)) ⟨.inl ⟨rfl, rfl⟩, .inl ⟨rfl, rfl⟩, trivial⟩ trivial rfl rfl (fun h => by cases h) rfl (fun _ h => by cases h) (.inl rfl) rfl rfl)) ?_
  refine op_v' (j_pick_f rfl h1r (evo rfl)) ?_
  refine op_v' (j_assign (evo rfl)) ?_
  refine op_nil ?_
  refine a_ret ?_
  exact ⟨[.p _], .p _, [.box 43 [.p _, .sl _, .sl _, .p _, .sl _]], [], [], ⟨rfl, trivial⟩, rfl, rfl, ⟨⟨rfl, rfl⟩, trivial⟩, rfl, rfl, ⟨boolEq (by unfold rowOk; first | (rw [decide_eq_false (show ¬ x.length = r.2.1.length by omega)]; rfl) | (rw [decide_eq_true (show x.length = r.2.1.length by omega), Bool.true_and, ← not_any_not, Bool.not_not])), rfl, rfl⟩⟩


theorem f_ruleValid (r : Rl) (n : Int) (hn : 0 ≤ n ∧ n ≤ 1000) : Fn Try.prog 61 [.agg [.p (.int .i64 r.1), .sl (r.2.1.map dI), .sl (r.2.2.1.map dI), .p (.int .i64 r.2.2.2.1), .sl (r.2.2.2.2.map dL)], .p (.int .i64 (n))] [] (fun rr ii nn => rr = .p (.bool (rOk n r)) ∧ ii = [] ∧ nn = []) := by
 refine fn_of Try.func61 rfl (Nat.le_of_ble_eq_true rfl) fun w X g => ?_
 show AWp _ _ _ ⟨[(0, .agg [.p (.int .i64 r.1), .sl (r.2.1.map dI), .sl (r.2.2.1.map dI), .p (.int .i64 r.2.2.2.1), .sl (r.2.2.2.2.map dL)]), (1, .p (.int .i64 (n)))], []⟩
 refine a_len_rule 0 rfl fun hlv => ?_
 refine a_seq ?_
 refine a_region (by kernel_rfl) ?_
 refine op_n' (fun ver => j_boxa rfl) fun v2x1 => ?_
 refine op_v' (j_assign (evo rfl)) ?_
 refine op_nil ?_
 refine a_seq ?_
 refine a_seq ?_
 refine a_region (by kernel_rfl) ?_
 refine op_v' (j_fldp fld43f1 rfl rfl) ?_
 refine op_v' (j_load_box leaf23 rfl rfl rfl) ?_
 refine op_v' (j_len_map Try.underlying23 rfl) ?_
 refine op_v' (j_move (evo rfl)) ?_
 refine op_nil ?_
 refine a_block ?_
 refine a_loopF' (ι := Nat) (fun k => k ≤ r.2.1.length ∧ vsN n r.2.1 k = true) (fun k r => (10, .p (.int .i64 ((k : Nat)))) :: r) (fun k r => r) (fun k => r.2.1.length - k) (fun _ _ => rfl) (fun _ _ => rfl) 0 ⟨Nat.zero_le _, rfl⟩ ⟨⟨rfl, rfl⟩, ⟨rfl, trivial⟩, trivial, ⟨rfl, rfl⟩, ⟨rfl, rfl⟩⟩ ?_
 intro k hk
 refine a_seq ?_
 refine a_region (by kernel_rfl) ?_
 refine op_v' (j_lt rfl rfl) ?_
 refine op_nil ?_
 refine a_seq ?_
 refine a_cond rfl (fun h1 => ?_) (fun h1 => ?_)
 ·
  have h1r := h1
  try simp only [nq, nr] at h1
  refine a_skip ?_
  refine a_seq ?_
  refine a_block ?_
  refine a_seq ?_
  refine a_region (by kernel_rfl) ?_
  refine op_v' (j_move (evo rfl)) ?_
  refine op_v' (j_elemN slt23 rfl rfl rfl (at_map (by first | omega | (simp only [nr]; omega))) rfl) ?_
  refine op_v' (j_load_el leaf3 rfl (at_map (by first | omega | (simp only [nr]; omega))) rfl) ?_
  refine op_v' (j_assign (evo rfl)) ?_
  refine op_v' (j_assign (evo rfl)) ?_
  refine op_nil ?_
  refine a_seq ?_
  refine a_region (by kernel_rfl) ?_
  refine op_v' (j_move (evo rfl)) ?_
  refine op_v' (j_move (evo rfl)) ?_
  refine op_v' (j_sub rfl rfl (by first | omega | (simp only [nr]; omega)) (by first | omega | (simp only [nr]; omega))) ?_
  refine op_v0' (j_call0 (v := .p _) (hp1 := []) [] false [] ent58 (f_within _ _ _) ⟨.inl ⟨rfl, rfl⟩, .inl ⟨rfl, rfl⟩, .inl ⟨rfl, rfl⟩, trivial⟩ trivial rfl rfl (fun h => by cases h) rfl (fun _ h => by cases h) (.inl rfl) rfl rfl) ?_
  refine op_v' (j_not rfl) ?_
  refine op_v' (j_move (evo rfl)) ?_
  refine op_split' 20 rfl (fun h2 => ?_) (fun h2 => ?_)
  ·
   have h2r := h2
   try simp only [nq, nr] at h2
   refine op_v' (j_unwantV rfl rfl h2r) ?_
   refine op_v' (j_unwantV rfl rfl h2r) ?_
   refine op_v' (j_unwantV rfl rfl h2r) ?_
   refine op_v' (j_unwantV rfl rfl h2r) ?_
   refine op_v' (j_unwantV rfl rfl h2r) ?_
   try rw [← List.map_take]
   refine op_v' (j_unwantV rfl rfl h2r) ?_
   refine op_v' (j_pick_t rfl h2r (evo rfl)) ?_
   refine op_nil ?_
   refine a_tt rfl ?_
   refine a_seq ?_
   refine a_region (by kernel_rfl) ?_
   refine op_v' (j_assign (evo rfl)) ?_
   refine op_nil ?_
   refine a_ret ?_
   exact ⟨[.p _], .p _, [], [], [], ⟨rfl, trivial⟩, rfl, rfl, trivial, rfl, rfl, ⟨boolEq (by symm; exact rOk_v (vsN_bad (k := k) (by omega) (by first | exact .inl (by omega) | exact .inr (by assumption)))), rfl, rfl⟩⟩
  ·
   have h2r := h2
   try simp only [nq, nr] at h2
   refine op_v' (j_want rfl rfl h2r (j_fldp fld43f1 rfl rfl)) ?_
   refine op_v' (j_want rfl rfl h2r (j_load_box leaf23 rfl rfl rfl)) ?_
   refine op_v' (j_want rfl rfl h2r (j_move (evo rfl))) ?_
   refine op_v' (j_want rfl rfl h2r (j_cut slt23 rfl (fun y hy => by obtain ⟨t, _, rfl⟩ := List.mem_map.1 hy; rfl) Bd.none (Bd.some rfl rfl) (by first | omega | (simp only [nr]; omega)) (by first | omega | (simp only [nr]; omega)))) ?_
   refine op_v' (j_want rfl rfl h2r (j_move (evo rfl))) ?_
   try rw [← List.map_take]
   refine op_v0' (j_want rfl rfl h2r (j_call0 (v := .p _) (hp1 := []) [] false [] ent69 (f_containsInt (r.2.1.take k) (r.2.1.getD k default)) ⟨.inl ⟨rfl, rfl⟩, .inl ⟨rfl, rfl⟩, trivial⟩ trivial rfl rfl (fun h => by cases h) rfl (fun _ h => by cases h) (.inl rfl) rfl rfl)) ?_
   refine op_v' (j_pick_f rfl h2r (evo rfl)) ?_
   refine op_nil ?_
   refine a_cond rfl (fun h3 => ?_) (fun h3 => ?_)
   ·
    have h3r := h3
    try simp only [nq, nr] at h3
    refine a_seq ?_
    refine a_region (by kernel_rfl) ?_
    refine op_v' (j_assign (evo rfl)) ?_
    refine op_nil ?_
    refine a_ret ?_
    exact ⟨[.p _], .p _, [], [], [], ⟨rfl, trivial⟩, rfl, rfl, trivial, rfl, rfl, ⟨boolEq (by symm; exact rOk_v (vsN_bad (k := k) (by omega) (by first | exact .inl (by omega) | exact .inr (by assumption)))), rfl, rfl⟩⟩
   ·
    have h3r := h3
    try simp only [nq, nr] at h3
    refine a_skip ?_
    refine a_region (by kernel_rfl) ?_
    refine op_v' (j_add rfl rfl (by first | omega | (simp only [nr]; omega)) (by first | omega | (simp only [nr]; omega))) ?_
    refine op_v' (j_move (evo rfl)) ?_
    refine op_nil ?_
    exact ⟨k + 1, ⟨by omega, vsN_next hk.2 (by omega) (by assumption)⟩, ⟨⟨rfl, rfl⟩, ⟨rfl, trivial⟩, trivial, ⟨rfl, rfl⟩, ⟨rfl, rfl⟩⟩, (by first | omega | (simp only [nr]; omega))⟩
 ·
  have h1r := h1
  try simp only [nq, nr] at h1
  refine a_exit ?_
  refine a_seq ?_
  refine a_seq ?_
  have hv : vsN n r.2.1 r.2.1.length = true := by rw [show r.2.1.length = k by omega]; exact hk.2
  refine a_region (by kernel_rfl) ?_
  refine op_v' (j_fldp fld43f1 rfl rfl) ?_
  refine op_v' (j_load_box leaf23 rfl rfl rfl) ?_
  refine op_v' (j_len_map Try.underlying23 rfl) ?_
  refine op_v' (j_eq rfl rfl) ?_
  refine op_v' (j_move (evo rfl)) ?_
  refine op_split' 33 rfl (fun h4 => ?_) (fun h4 => ?_)
  ·
   have h4r := h4
   try simp only [nq, nr] at h4
   refine op_v' (j_unwantV rfl rfl h4r) ?_
   refine op_v' (j_unwantV rfl rfl h4r) ?_
   refine op_v' (j_unwantV rfl rfl h4r) ?_
   refine op_v' (j_unwantV rfl rfl h4r) ?_
   refine op_v' (j_unwantU rfl rfl) ?_
   refine op_v' (j_unwantU rfl rfl) ?_
   refine op_v' (j_unwantU rfl rfl) ?_
   refine op_v' (j_unwantU rfl rfl) ?_
   refine op_v' (j_unwantU rfl rfl) ?_
   refine op_v' (j_unwantU rfl rfl) ?_
   refine op_v' (j_unwantU rfl rfl) ?_
   refine op_v' (j_unwantU rfl rfl) ?_
   refine op_v' (j_unwantU rfl rfl) ?_
   refine op_v' (j_unwantV rfl rfl h4r) ?_
   refine op_v' (j_pick_t rfl h4r (evo rfl)) ?_
   refine op_v' (j_move (evo rfl)) ?_
   refine op_v' (j_unwantV rfl rfl rfl) ?_
   refine op_v' (j_unwantV rfl rfl rfl) ?_
   refine op_v' (j_unwantV rfl rfl rfl) ?_
   refine op_v' (j_unwantV rfl rfl rfl) ?_
   refine op_v' (j_unwantU rfl rfl) ?_
   refine op_v' (j_unwantU rfl rfl) ?_
   refine op_v' (j_unwantU rfl rfl) ?_
   refine op_v' (j_unwantU rfl rfl) ?_
   refine op_v' (j_unwantV rfl rfl rfl) ?_
   refine op_v' (j_pick_t rfl rfl (evo rfl)) ?_
   refine op_nil ?_
   refine a_tt rfl ?_
   refine a_seq ?_
   refine a_region (by kernel_rfl) ?_
   refine op_v' (j_assign (evo rfl)) ?_
   refine op_nil ?_
   refine a_ret ?_
   exact ⟨[.p _], .p _, [], [], [], ⟨rfl, trivial⟩, rfl, rfl, trivial, rfl, rfl, ⟨boolEq (by symm; exact rOk_h (by unfold rHead; omega)), rfl, rfl⟩⟩
  ·
   have h4r := h4
   try simp only [nq, nr] at h4
   refine op_v' (j_want rfl rfl h4r (j_fldp fld43f0 rfl rfl)) ?_
   refine op_v' (j_want rfl rfl h4r (j_load_box leaf3 rfl rfl rfl)) ?_
   refine op_v' (j_want rfl rfl h4r (j_ne rfl rfl)) ?_
   refine op_v' (j_want rfl rfl h4r (j_move (evo rfl))) ?_
   refine op_split' 37 rfl (fun h5 => ?_) (fun h5 => ?_)
   ·
    have h5r := h5
    try simp only [nq, nr] at h5
    refine op_v' (j_want rfl rfl h5r (j_fldp fld43f2 rfl rfl)) ?_
    refine op_v' (j_want rfl rfl h5r (j_load_box leaf23 rfl rfl rfl)) ?_
    refine op_v' (j_want rfl rfl h5r (j_len_map Try.underlying23 rfl)) ?_
    refine op_v' (j_want rfl rfl h5r (j_gt rfl rfl)) ?_
    refine op_v' (j_want rfl rfl h5r (j_move (evo rfl))) ?_
    refine op_split' 42 rfl (fun h6 => ?_) (fun h6 => ?_)
    ·
     have h6r := h6
     try simp only [nq, nr] at h6
     refine op_v' (j_unwantV rfl rfl h6r) ?_
     refine op_v' (j_unwantV rfl rfl h6r) ?_
     refine op_v' (j_unwantV rfl rfl h6r) ?_
     refine op_v' (j_want rfl rfl h5r (j_pick_t rfl h6r (evo rfl))) ?_
     refine op_v' (j_want rfl rfl h4r (j_pick_t rfl h5r (evo rfl))) ?_
     refine op_v' (j_pick_f rfl h4r (evo rfl)) ?_
     refine op_v' (j_move (evo rfl)) ?_
     refine op_v' (j_unwantV rfl rfl rfl) ?_
     refine op_v' (j_unwantV rfl rfl rfl) ?_
     refine op_v' (j_unwantV rfl rfl rfl) ?_
     refine op_v' (j_unwantV rfl rfl rfl) ?_
     refine op_v' (j_unwantU rfl rfl) ?_
     refine op_v' (j_unwantU rfl rfl) ?_
     refine op_v' (j_unwantU rfl rfl) ?_
     refine op_v' (j_unwantU rfl rfl) ?_
     refine op_v' (j_unwantV rfl rfl rfl) ?_
     refine op_v' (j_pick_t rfl rfl (evo rfl)) ?_
     refine op_nil ?_
     refine a_tt rfl ?_
     refine a_seq ?_
     refine a_region (by kernel_rfl) ?_
     refine op_v' (j_assign (evo rfl)) ?_
     refine op_nil ?_
     refine a_ret ?_
     exact ⟨[.p _], .p _, [], [], [], ⟨rfl, trivial⟩, rfl, rfl, trivial, rfl, rfl, ⟨boolEq (by symm; exact rOk_h (by unfold rHead; omega)), rfl, rfl⟩⟩
    ·
     have h6r := h6
     try simp only [nq, nr] at h6
     refine op_v' (j_want rfl rfl h6r (j_fldp fld43f3 rfl rfl)) ?_
     refine op_v' (j_want rfl rfl h6r (j_load_box leaf3 rfl rfl rfl)) ?_
     refine op_v' (j_want rfl rfl h6r (j_ne rfl rfl)) ?_
     refine op_v' (j_want rfl rfl h5r (j_pick_f rfl h6r (evo rfl))) ?_
     refine op_v' (j_want rfl rfl h4r (j_pick_t rfl h5r (evo rfl))) ?_
     refine op_v' (j_pick_f rfl h4r (evo rfl)) ?_
     refine op_v' (j_move (evo rfl)) ?_
     refine op_split' 49 rfl (fun h7 => ?_) (fun h7 => ?_)
     ·
      have h7r := h7
      try simp only [nq, nr] at h7
      refine op_v' (j_unwantV rfl rfl h7r) ?_
      refine op_v' (j_unwantV rfl rfl h7r) ?_
      refine op_v' (j_unwantV rfl rfl h7r) ?_
      refine op_v' (j_unwantV rfl rfl h7r) ?_
      refine op_v' (j_unwantU rfl rfl) ?_
      refine op_v' (j_unwantU rfl rfl) ?_
      refine op_v' (j_unwantU rfl rfl) ?_
      refine op_v' (j_unwantU rfl rfl) ?_
      refine op_v' (j_unwantV rfl rfl h7r) ?_
      refine op_v' (j_pick_t rfl h7r (evo rfl)) ?_
      refine op_nil ?_
      refine a_tt rfl ?_
      refine a_seq ?_
      refine a_region (by kernel_rfl) ?_
      refine op_v' (j_assign (evo rfl)) ?_
      refine op_nil ?_
      refine a_ret ?_
      exact ⟨[.p _], .p _, [], [], [], ⟨rfl, trivial⟩, rfl, rfl, trivial, rfl, rfl, ⟨boolEq (by symm; exact rOk_h (by unfold rHead; omega)), rfl, rfl⟩⟩
     ·
      have h7r := h7
      try simp only [nq, nr] at h7
      refine op_v' (j_want rfl rfl h7r (j_fldp fld43f0 rfl rfl)) ?_
      refine op_v' (j_want rfl rfl h7r (j_load_box leaf3 rfl rfl rfl)) ?_
      refine op_v' (j_want rfl rfl h7r (j_ne rfl rfl)) ?_
      refine op_v' (j_want rfl rfl h7r (j_move (evo rfl))) ?_
      refine op_split' 53 rfl (fun h8 => ?_) (fun h8 => ?_)
      ·
       have h8r := h8
       try simp only [nq, nr] at h8
       refine op_v' (j_want rfl rfl h8r (j_fldp fld43f4 rfl rfl)) ?_
       refine op_v' (j_want rfl rfl h8r (j_load_box leaf41 rfl rfl rfl)) ?_
       refine op_v' (j_want rfl rfl h8r (j_len_map Try.underlying41 rfl)) ?_
       refine op_v' (j_want rfl rfl h8r (j_gt rfl rfl)) ?_
       refine op_v' (j_want rfl rfl h7r (j_pick_t rfl h8r (evo rfl))) ?_
       refine op_v' (j_pick_f rfl h7r (evo rfl)) ?_
       refine op_nil ?_
       refine a_cond rfl (fun h9 => ?_) (fun h9 => ?_)
       ·
        have h9r := h9
        try simp only [nq, nr] at h9
        refine a_seq ?_
        refine a_region (by kernel_rfl) ?_
        refine op_v' (j_assign (evo rfl)) ?_
        refine op_nil ?_
        refine a_ret ?_
        exact ⟨[.p _], .p _, [], [], [], ⟨rfl, trivial⟩, rfl, rfl, trivial, rfl, rfl, ⟨boolEq (by symm; exact rOk_h (by unfold rHead; omega)), rfl, rfl⟩⟩
       ·
        have h9r := h9
        try simp only [nq, nr] at h9
        refine a_skip ?_
        refine a_seq ?_
        refine a_seq ?_
        have hh : rHead r := by unfold rHead; omega
        refine a_region (by kernel_rfl) ?_
        refine op_v' (j_fldp fld43f0 rfl rfl) ?_
        refine op_v' (j_load_box leaf3 rfl rfl rfl) ?_
        refine op_nil ?_
        refine a_block ?_
        refine a_seq ?_
        refine a_region (by kernel_rfl) ?_
        refine op_v' (j_eq rfl rfl) ?_
        refine op_v' (j_assign (evo rfl)) ?_
        refine op_nil ?_
        refine a_cond rfl (fun h10 => ?_) (fun h10 => ?_)
        ·
         have h10r := h10
         try simp only [nq, nr] at h10
         refine a_seq ?_
         refine a_region (by kernel_rfl) ?_
         refine op_v' (j_fldp fld43f2 rfl rfl) ?_
         refine op_v' (j_load_box leaf23 rfl rfl rfl) ?_
         refine op_v' (j_len_map Try.underlying23 rfl) ?_
         refine op_v' (j_fldp fld43f1 rfl rfl) ?_
         refine op_v' (j_load_box leaf23 rfl rfl rfl) ?_
         refine op_v' (j_len_map Try.underlying23 rfl) ?_
         refine op_v' (j_eq rfl rfl) ?_
         refine op_v' (j_move (evo rfl)) ?_
         refine op_split' 71 rfl (fun h11 => ?_) (fun h11 => ?_)
         ·
          have h11r := h11
          try simp only [nq, nr] at h11
          refine op_v' (j_want rfl rfl h11r (j_fldp fld43f3 rfl rfl)) ?_
          refine op_v' (j_want rfl rfl h11r (j_load_box leaf3 rfl rfl rfl)) ?_
          refine op_v0' (j_want rfl rfl h11r (j_call0 (v := .p _) (hp1 := []) [] false [] ent58 (f_within _ _ _) ⟨.inl ⟨rfl, rfl⟩, .inl ⟨rfl, rfl⟩, .inl ⟨rfl, rfl⟩, trivial⟩ trivial rfl rfl (fun h => by cases h) rfl (fun _ h => by cases h) (.inl rfl) rfl rfl)) ?_
          refine op_v' (j_pick_t rfl h11r (evo rfl)) ?_
          refine op_v' (j_move (evo rfl)) ?_
          refine op_split' 76 rfl (fun h12 => ?_) (fun h12 => ?_)
          ·
           have h12r := h12
           try simp only [nq, nr] at h12
           refine op_v' (j_want rfl rfl h12r (j_fldp fld43f2 rfl rfl)) ?_
           refine op_v' (j_want rfl rfl h12r (j_load_box leaf23 rfl rfl rfl)) ?_
           refine op_v0' (j_want rfl rfl h12r (j_call0 (v := .p _) (hp1 := []) [] false [] ent115 (f_ctf_Int_0 116 r.2.2.1 (fun a => !decide (a ≠ 0 ∧ -9 ≤ a ∧ a ≤ 9)) ent116 (fun a _ => f_rv1 a)) ⟨.inl ⟨rfl, rfl⟩, .inl ⟨rfl, rfl⟩, trivial⟩ trivial rfl rfl (fun h => by cases h) rfl (fun _ h => by cases h) (.inl rfl) rfl rfl)) ?_
           refine op_v' (j_want rfl rfl h12r (j_not rfl)) ?_
           refine op_v' (j_pick_t rfl h12r (evo rfl)) ?_
           refine op_v' (j_assign (evo rfl)) ?_
           refine op_nil ?_
           refine a_ret ?_
           exact ⟨[.p _], .p _, [], [], [], ⟨rfl, trivial⟩, rfl, rfl, trivial, rfl, rfl, ⟨boolEq (by rw [rOk_t hv hh, rTail_1 (by omega)]; unfold linOk; first | (rw [decide_eq_true (show r.2.2.1.length = r.2.1.length by omega), decide_eq_true (show -1000 ≤ r.2.2.2.1 ∧ r.2.2.2.1 ≤ 1000 by omega), Bool.true_and, Bool.true_and, ← not_any_not]; done) | (rw [decide_eq_true (show r.2.2.1.length = r.2.1.length by omega), decide_eq_false (show ¬ (-1000 ≤ r.2.2.2.1 ∧ r.2.2.2.1 ≤ 1000) by omega)]; rfl) | (rw [decide_eq_false (show ¬ r.2.2.1.length = r.2.1.length by omega)]; rfl)), rfl, rfl⟩⟩
          ·
           have h12r := h12
           try simp only [nq, nr] at h12
           refine op_v' (j_unwantV rfl rfl h12r) ?_
           refine op_v' (j_unwantV rfl rfl h12r) ?_
           refine op_v' (j_unwantV rfl rfl h12r) ?_
           refine op_v' (j_unwantV rfl rfl h12r) ?_
           refine op_v' (j_pick_f rfl h12r (evo rfl)) ?_
           refine op_v' (j_assign (evo rfl)) ?_
           refine op_nil ?_
           refine a_ret ?_
           exact ⟨[.p _], .p _, [], [], [], ⟨rfl, trivial⟩, rfl, rfl, trivial, rfl, rfl, ⟨boolEq (by rw [rOk_t hv hh, rTail_1 (by omega)]; unfold linOk; first | (rw [decide_eq_true (show r.2.2.1.length = r.2.1.length by omega), decide_eq_true (show -1000 ≤ r.2.2.2.1 ∧ r.2.2.2.1 ≤ 1000 by omega), Bool.true_and, Bool.true_and, ← not_any_not]; done) | (rw [decide_eq_true (show r.2.2.1.length = r.2.1.length by omega), decide_eq_false (show ¬ (-1000 ≤ r.2.2.2.1 ∧ r.2.2.2.1 ≤ 1000) by omega)]; rfl) | (rw [decide_eq_false (show ¬ r.2.2.1.length = r.2.1.length by omega)]; rfl)), rfl, rfl⟩⟩
         ·
          have h11r := h11
          try simp only [nq, nr] at h11
          refine op_v' (j_unwantV rfl rfl h11r) ?_
          refine op_v' (j_unwantV rfl rfl h11r) ?_
          refine op_v' (j_unwantV rfl rfl h11r) ?_
          refine op_v' (j_pick_f rfl h11r (evo rfl)) ?_
          refine op_v' (j_move (evo rfl)) ?_
          refine op_v' (j_unwantV rfl rfl rfl) ?_
          refine op_v' (j_unwantV rfl rfl rfl) ?_
          refine op_v' (j_unwantV rfl rfl rfl) ?_
          refine op_v' (j_unwantV rfl rfl rfl) ?_
          refine op_v' (j_pick_f rfl rfl (evo rfl)) ?_
          refine op_v' (j_assign (evo rfl)) ?_
          refine op_nil ?_
          refine a_ret ?_
          exact ⟨[.p _], .p _, [], [], [], ⟨rfl, trivial⟩, rfl, rfl, trivial, rfl, rfl, ⟨boolEq (by rw [rOk_t hv hh, rTail_1 (by omega)]; unfold linOk; first | (rw [decide_eq_true (show r.2.2.1.length = r.2.1.length by omega), decide_eq_true (show -1000 ≤ r.2.2.2.1 ∧ r.2.2.2.1 ≤ 1000 by omega), Bool.true_and, Bool.true_and, ← not_any_not]; done) | (rw [decide_eq_true (show r.2.2.1.length = r.2.1.length by omega), decide_eq_false (show ¬ (-1000 ≤ r.2.2.2.1 ∧ r.2.2.2.1 ≤ 1000) by omega)]; rfl) | (rw [decide_eq_false (show ¬ r.2.2.1.length = r.2.1.length by omega)]; rfl)), rfl, rfl⟩⟩
        ·
         have h10r := h10
         try simp only [nq, nr] at h10
         refine a_seq ?_
         refine a_region (by kernel_rfl) ?_
         refine op_v' (j_eq rfl rfl) ?_
         refine op_v' (j_assign (evo rfl)) ?_
         refine op_nil ?_
         refine a_cond rfl (fun h13 => ?_) (fun h13 => ?_)
         ·
          have h13r := h13
          try simp only [nq, nr] at h13
          refine a_seq ?_
          refine a_region (by kernel_rfl) ?_
          refine op_v' (j_fldp fld43f4 rfl rfl) ?_
          refine op_v' (j_load_box leaf41 rfl rfl rfl) ?_
          refine op_v' (j_len_map Try.underlying41 rfl) ?_
          refine op_v' (j_le rfl rfl) ?_
          refine op_v' (j_move (evo rfl)) ?_
          refine op_split' 88 rfl (fun h14 => ?_) (fun h14 => ?_)
          ·
           have h14r := h14
           try simp only [nq, nr] at h14
           refine op_v' (j_want rfl rfl h14r (j_fldp fld43f4 rfl rfl)) ?_
           refine op_v' (j_want rfl rfl h14r (j_load_box leaf41 rfl rfl rfl)) ?_
           refine op_v' (j_want rfl rfl h14r (j_makeFunc (f := 118) (xs := [.tmp 2]) (caps := [.ptr 2 v2x1 0]) rfl)) ?_
           refine op_v0' (j_want rfl rfl h14r (j_call0 (v := .p _) (hp1 := [(2, some (v2x1, .box 43 [.p _, .sl _, .sl _, .p _, .sl _]))]) [(2, v2x1)] false [2] ent117 (f_ctf_LI_r 43 (.int .i64 r.1) (.int .i64 r.2.2.2.1) (r.2.1.map dI) (r.2.2.1.map dI) (r.2.2.2.2.map dL) 118 r.2.2.2.2 (fun a => !rowOk r a) ent118 (fun a _ => f_rv2 a r)) ⟨.inl ⟨rfl, rfl⟩, .inl ⟨rfl, rfl⟩, trivial⟩ ⟨⟨rfl, rfl⟩, trivial⟩ rfl rfl (fun h => by cases h) rfl (List.all_eq_true.1 rfl) (.inl rfl) rfl rfl)) ?_
           refine op_v' (j_want rfl rfl h14r (j_not rfl)) ?_
           refine op_v' (j_pick_t rfl h14r (evo rfl)) ?_
           refine op_v' (j_assign (evo rfl)) ?_
           refine op_nil ?_
           refine a_ret ?_
           exact ⟨[.p _], .p _, [], [], [], ⟨rfl, trivial⟩, rfl, rfl, trivial, rfl, rfl, ⟨boolEq (by rw [rOk_t hv hh, rTail_3 (by omega)]; unfold tabOk; first | (rw [decide_eq_true (show r.2.2.2.2.length ≤ 8 by omega), Bool.true_and, ← not_any_not]; done) | (rw [decide_eq_false (show ¬ r.2.2.2.2.length ≤ 8 by omega)]; rfl)), rfl, rfl⟩⟩
          ·
           have h14r := h14
           try simp only [nq, nr] at h14
           refine op_v' (j_unwantV rfl rfl h14r) ?_
           refine op_v' (j_unwantV rfl rfl h14r) ?_
           refine op_v' (j_unwantV rfl rfl h14r) ?_
           refine op_v' (j_unwantV rfl rfl h14r) ?_
           refine op_v' (j_unwantV rfl rfl h14r) ?_
           refine op_v' (j_pick_f rfl h14r (evo rfl)) ?_
           refine op_v' (j_assign (evo rfl)) ?_
           refine op_nil ?_
           refine a_ret ?_
           exact ⟨[.p _], .p _, [], [], [], ⟨rfl, trivial⟩, rfl, rfl, trivial, rfl, rfl, ⟨boolEq (by rw [rOk_t hv hh, rTail_3 (by omega)]; unfold tabOk; first | (rw [decide_eq_true (show r.2.2.2.2.length ≤ 8 by omega), Bool.true_and, ← not_any_not]; done) | (rw [decide_eq_false (show ¬ r.2.2.2.2.length ≤ 8 by omega)]; rfl)), rfl, rfl⟩⟩
         ·
          have h13r := h13
          try simp only [nq, nr] at h13
          refine a_seq ?_
          refine a_region (by kernel_rfl) ?_
          refine op_v' (j_eq rfl rfl) ?_
          refine op_v' (j_assign (evo rfl)) ?_
          refine op_nil ?_
          refine a_cond rfl (fun h15 => ?_) (fun h15 => ?_)
          ·
           have h15r := h15
           try simp only [nq, nr] at h15
           refine a_seq ?_
           refine a_region (by kernel_rfl) ?_
           refine op_v' (j_fldp fld43f1 rfl rfl) ?_
           refine op_v' (j_load_box leaf23 rfl rfl rfl) ?_
           refine op_v' (j_len_map Try.underlying23 rfl) ?_
           refine op_v' (j_eq rfl rfl) ?_
           refine op_v' (j_assign (evo rfl)) ?_
           refine op_nil ?_
           refine a_ret ?_
           exact ⟨[.p _], .p _, [], [], [], ⟨rfl, trivial⟩, rfl, rfl, trivial, rfl, rfl, ⟨boolEq (by rw [rOk_t hv hh, rTail_4 (by omega)]; exact decide_eq_decide.2 (by omega)), rfl, rfl⟩⟩
          ·
           have h15r := h15
           try simp only [nq, nr] at h15
           refine a_skip ?_
           refine a_seq ?_
           refine a_region (by kernel_rfl) ?_
           refine op_v' (j_fldp fld43f0 rfl rfl) ?_
           refine op_v' (j_load_box leaf3 rfl rfl rfl) ?_
           refine op_v' (j_eq rfl rfl) ?_
           refine op_v' (j_assign (evo rfl)) ?_
           refine op_nil ?_
           refine a_ret ?_
           exact ⟨[.p _], .p _, [], [], [], ⟨rfl, trivial⟩, rfl, rfl, trivial, rfl, rfl, ⟨boolEq (by rw [rOk_t hv hh, rTail_0 (by omega) (by omega) (by omega)]), rfl, rfl⟩⟩
      ·
       have h8r := h8
       try simp only [nq, nr] at h8
       refine op_v' (j_unwantV rfl rfl h8r) ?_
       refine op_v' (j_unwantV rfl rfl h8r) ?_
       refine op_v' (j_unwantV rfl rfl h8r) ?_
       refine op_v' (j_unwantV rfl rfl h8r) ?_
       refine op_v' (j_want rfl rfl h7r (j_pick_f rfl h8r (evo rfl))) ?_
       refine op_v' (j_pick_f rfl h7r (evo rfl)) ?_
       refine op_nil ?_
       refine a_ff rfl ?_
       refine a_skip ?_
       refine a_seq ?_
       refine a_seq ?_
       have hh : rHead r := by unfold rHead; omega
       refine a_region (by kernel_rfl) ?_
       refine op_v' (j_fldp fld43f0 rfl rfl) ?_
       refine op_v' (j_load_box leaf3 rfl rfl rfl) ?_
       refine op_nil ?_
       refine a_block ?_
       refine a_seq ?_
       refine a_region (by kernel_rfl) ?_
       refine op_v' (j_eq rfl rfl) ?_
       refine op_v' (j_assign (evo rfl)) ?_
       refine op_nil ?_
       refine a_cond rfl (fun h16 => ?_) (fun h16 => ?_)
       ·
        have h16r := h16
        try simp only [nq, nr] at h16
        refine a_seq ?_
        refine a_region (by kernel_rfl) ?_
        refine op_v' (j_fldp fld43f2 rfl rfl) ?_
        refine op_v' (j_load_box leaf23 rfl rfl rfl) ?_
        refine op_v' (j_len_map Try.underlying23 rfl) ?_
        refine op_v' (j_fldp fld43f1 rfl rfl) ?_
        refine op_v' (j_load_box leaf23 rfl rfl rfl) ?_
        refine op_v' (j_len_map Try.underlying23 rfl) ?_
        refine op_v' (j_eq rfl rfl) ?_
        refine op_v' (j_move (evo rfl)) ?_
        refine op_split' 71 rfl (fun h17 => ?_) (fun h17 => ?_)
        ·
         have h17r := h17
         try simp only [nq, nr] at h17
         refine op_v' (j_want rfl rfl h17r (j_fldp fld43f3 rfl rfl)) ?_
         refine op_v' (j_want rfl rfl h17r (j_load_box leaf3 rfl rfl rfl)) ?_
         refine op_v0' (j_want rfl rfl h17r (j_call0 (v := .p _) (hp1 := []) [] false [] ent58 (f_within _ _ _) ⟨.inl ⟨rfl, rfl⟩, .inl ⟨rfl, rfl⟩, .inl ⟨rfl, rfl⟩, trivial⟩ trivial rfl rfl (fun h => by cases h) rfl (fun _ h => by cases h) (.inl rfl) rfl rfl)) ?_
         refine op_v' (j_pick_t rfl h17r (evo rfl)) ?_
         refine op_v' (j_move (evo rfl)) ?_
         refine op_split' 76 rfl (fun h18 => ?_) (fun h18 => ?_)
         ·
          have h18r := h18
          try simp only [nq, nr] at h18
          refine op_v' (j_want rfl rfl h18r (j_fldp fld43f2 rfl rfl)) ?_
          refine op_v' (j_want rfl rfl h18r (j_load_box leaf23 rfl rfl rfl)) ?_
          refine op_v0' (j_want rfl rfl h18r (j_call0 (v := .p _) (hp1 := []) [] false [] ent115 (f_ctf_Int_0 116 r.2.2.1 (fun a => !decide (a ≠ 0 ∧ -9 ≤ a ∧ a ≤ 9)) ent116 (fun a _ => f_rv1 a)) ⟨.inl ⟨rfl, rfl⟩, .inl ⟨rfl, rfl⟩, trivial⟩ trivial rfl rfl (fun h => by cases h) rfl (fun _ h => by cases h) (.inl rfl) rfl rfl)) ?_
          refine op_v' (j_want rfl rfl h18r (j_not rfl)) ?_
          refine op_v' (j_pick_t rfl h18r (evo rfl)) ?_
          refine op_v' (j_assign (evo rfl)) ?_
          refine op_nil ?_
          refine a_ret ?_
          exact ⟨[.p _], .p _, [], [], [], ⟨rfl, trivial⟩, rfl, rfl, trivial, rfl, rfl, ⟨boolEq (by rw [rOk_t hv hh, rTail_1 (by omega)]; unfold linOk; first | (rw [decide_eq_true (show r.2.2.1.length = r.2.1.length by omega), decide_eq_true (show -1000 ≤ r.2.2.2.1 ∧ r.2.2.2.1 ≤ 1000 by omega), Bool.true_and, Bool.true_and, ← not_any_not]; done) | (rw [decide_eq_true (show r.2.2.1.length = r.2.1.length by omega), decide_eq_false (show ¬ (-1000 ≤ r.2.2.2.1 ∧ r.2.2.2.1 ≤ 1000) by omega)]; rfl) | (rw [decide_eq_false (show ¬ r.2.2.1.length = r.2.1.length by omega)]; rfl)), rfl, rfl⟩⟩
         ·
          have h18r := h18
          try simp only [nq, nr] at h18
          refine op_v' (j_unwantV rfl rfl h18r) ?_
          refine op_v' (j_unwantV rfl rfl h18r) ?_
          refine op_v' (j_unwantV rfl rfl h18r) ?_
          refine op_v' (j_unwantV rfl rfl h18r) ?_
          refine op_v' (j_pick_f rfl h18r (evo rfl)) ?_
          refine op_v' (j_assign (evo rfl)) ?_
          refine op_nil ?_
          refine a_ret ?_
          exact ⟨[.p _], .p _, [], [], [], ⟨rfl, trivial⟩, rfl, rfl, trivial, rfl, rfl, ⟨boolEq (by rw [rOk_t hv hh, rTail_1 (by omega)]; unfold linOk; first | (rw [decide_eq_true (show r.2.2.1.length = r.2.1.length by omega), decide_eq_true (show -1000 ≤ r.2.2.2.1 ∧ r.2.2.2.1 ≤ 1000 by omega), Bool.true_and, Bool.true_and, ← not_any_not]; done) | (rw [decide_eq_true (show r.2.2.1.length = r.2.1.length by omega), decide_eq_false (show ¬ (-1000 ≤ r.2.2.2.1 ∧ r.2.2.2.1 ≤ 1000) by omega)]; rfl) | (rw [decide_eq_false (show ¬ r.2.2.1.length = r.2.1.length by omega)]; rfl)), rfl, rfl⟩⟩
        ·
         have h17r := h17
         try simp only [nq, nr] at h17
         refine op_v' (j_unwantV rfl rfl h17r) ?_
         refine op_v' (j_unwantV rfl rfl h17r) ?_
         refine op_v' (j_unwantV rfl rfl h17r) ?_
         refine op_v' (j_pick_f rfl h17r (evo rfl)) ?_
         refine op_v' (j_move (evo rfl)) ?_
         refine op_v' (j_unwantV rfl rfl rfl) ?_
         refine op_v' (j_unwantV rfl rfl rfl) ?_
         refine op_v' (j_unwantV rfl rfl rfl) ?_
         refine op_v' (j_unwantV rfl rfl rfl) ?_
         refine op_v' (j_pick_f rfl rfl (evo rfl)) ?_
         refine op_v' (j_assign (evo rfl)) ?_
         refine op_nil ?_
         refine a_ret ?_
         exact ⟨[.p _], .p _, [], [], [], ⟨rfl, trivial⟩, rfl, rfl, trivial, rfl, rfl, ⟨boolEq (by rw [rOk_t hv hh, rTail_1 (by omega)]; unfold linOk; first | (rw [decide_eq_true (show r.2.2.1.length = r.2.1.length by omega), decide_eq_true (show -1000 ≤ r.2.2.2.1 ∧ r.2.2.2.1 ≤ 1000 by omega), Bool.true_and, Bool.true_and, ← not_any_not]; done) | (rw [decide_eq_true (show r.2.2.1.length = r.2.1.length by omega), decide_eq_false (show ¬ (-1000 ≤ r.2.2.2.1 ∧ r.2.2.2.1 ≤ 1000) by omega)]; rfl) | (rw [decide_eq_false (show ¬ r.2.2.1.length = r.2.1.length by omega)]; rfl)), rfl, rfl⟩⟩
       ·
        have h16r := h16
        try simp only [nq, nr] at h16
        refine a_seq ?_
        refine a_region (by kernel_rfl) ?_
        refine op_v' (j_eq rfl rfl) ?_
        refine op_v' (j_assign (evo rfl)) ?_
        refine op_nil ?_
        refine a_cond rfl (fun h19 => ?_) (fun h19 => ?_)
        ·
         have h19r := h19
         try simp only [nq, nr] at h19
         refine a_seq ?_
         refine a_region (by kernel_rfl) ?_
         refine op_v' (j_fldp fld43f4 rfl rfl) ?_
         refine op_v' (j_load_box leaf41 rfl rfl rfl) ?_
         refine op_v' (j_len_map Try.underlying41 rfl) ?_
         refine op_v' (j_le rfl rfl) ?_
         refine op_v' (j_move (evo rfl)) ?_
         refine op_split' 88 rfl (fun h20 => ?_) (fun h20 => ?_)
         ·
          have h20r := h20
          try simp only [nq, nr] at h20
          refine op_v' (j_want rfl rfl h20r (j_fldp fld43f4 rfl rfl)) ?_
          refine op_v' (j_want rfl rfl h20r (j_load_box leaf41 rfl rfl rfl)) ?_
          refine op_v' (j_want rfl rfl h20r (j_makeFunc (f := 118) (xs := [.tmp 2]) (caps := [.ptr 2 v2x1 0]) rfl)) ?_
          refine op_v0' (j_want rfl rfl h20r (j_call0 (v := .p _) (hp1 := [(2, some (v2x1, .box 43 [.p _, .sl _, .sl _, .p _, .sl _]))]) [(2, v2x1)] false [2] ent117 (f_ctf_LI_r 43 (.int .i64 r.1) (.int .i64 r.2.2.2.1) (r.2.1.map dI) (r.2.2.1.map dI) (r.2.2.2.2.map dL) 118 r.2.2.2.2 (fun a => !rowOk r a) ent118 (fun a _ => f_rv2 a r)) ⟨.inl ⟨rfl, rfl⟩, .inl ⟨rfl, rfl⟩, trivial⟩ ⟨⟨rfl, rfl⟩, trivial⟩ rfl rfl (fun h => by cases h) rfl (List.all_eq_true.1 rfl) (.inl rfl) rfl rfl)) ?_
          refine op_v' (j_want rfl rfl h20r (j_not rfl)) ?_
          refine op_v' (j_pick_t rfl h20r (evo rfl)) ?_
          refine op_v' (j_assign (evo rfl)) ?_
          refine op_nil ?_
          refine a_ret ?_
          exact ⟨[.p _], .p _, [], [], [], ⟨rfl, trivial⟩, rfl, rfl, trivial, rfl, rfl, ⟨boolEq (by rw [rOk_t hv hh, rTail_3 (by omega)]; unfold tabOk; first | (rw [decide_eq_true (show r.2.2.2.2.length ≤ 8 by omega), Bool.true_and, ← not_any_not]; done) | (rw [decide_eq_false (show ¬ r.2.2.2.2.length ≤ 8 by omega)]; rfl)), rfl, rfl⟩⟩
         ·
          have h20r := h20
          try simp only [nq, nr] at h20
          refine op_v' (j_unwantV rfl rfl h20r) ?_
          refine op_v' (j_unwantV rfl rfl h20r) ?_
          refine op_v' (j_unwantV rfl rfl h20r) ?_
          refine op_v' (j_unwantV rfl rfl h20r) ?_
          refine op_v' (j_unwantV rfl rfl h20r) ?_
          refine op_v' (j_pick_f rfl h20r (evo rfl)) ?_
          refine op_v' (j_assign (evo rfl)) ?_
          refine op_nil ?_
          refine a_ret ?_
          exact ⟨[.p _], .p _, [], [], [], ⟨rfl, trivial⟩, rfl, rfl, trivial, rfl, rfl, ⟨boolEq (by rw [rOk_t hv hh, rTail_3 (by omega)]; unfold tabOk; first | (rw [decide_eq_true (show r.2.2.2.2.length ≤ 8 by omega), Bool.true_and, ← not_any_not]; done) | (rw [decide_eq_false (show ¬ r.2.2.2.2.length ≤ 8 by omega)]; rfl)), rfl, rfl⟩⟩
        ·
         have h19r := h19
         try simp only [nq, nr] at h19
         refine a_seq ?_
         refine a_region (by kernel_rfl) ?_
         refine op_v' (j_eq rfl rfl) ?_
         refine op_v' (j_assign (evo rfl)) ?_
         refine op_nil ?_
         refine a_cond rfl (fun h21 => ?_) (fun h21 => ?_)
         ·
          have h21r := h21
          try simp only [nq, nr] at h21
          refine a_seq ?_
          refine a_region (by kernel_rfl) ?_
          refine op_v' (j_fldp fld43f1 rfl rfl) ?_
          refine op_v' (j_load_box leaf23 rfl rfl rfl) ?_
          refine op_v' (j_len_map Try.underlying23 rfl) ?_
          refine op_v' (j_eq rfl rfl) ?_
          refine op_v' (j_assign (evo rfl)) ?_
          refine op_nil ?_
          refine a_ret ?_
          exact ⟨[.p _], .p _, [], [], [], ⟨rfl, trivial⟩, rfl, rfl, trivial, rfl, rfl, ⟨boolEq (by rw [rOk_t hv hh, rTail_4 (by omega)]; exact decide_eq_decide.2 (by omega)), rfl, rfl⟩⟩
         ·
          have h21r := h21
          try simp only [nq, nr] at h21
          refine a_skip ?_
          refine a_seq ?_
          refine a_region (by kernel_rfl) ?_
          refine op_v' (j_fldp fld43f0 rfl rfl) ?_
          refine op_v' (j_load_box leaf3 rfl rfl rfl) ?_
          refine op_v' (j_eq rfl rfl) ?_
          refine op_v' (j_assign (evo rfl)) ?_
          refine op_nil ?_
          refine a_ret ?_
          exact ⟨[.p _], .p _, [], [], [], ⟨rfl, trivial⟩, rfl, rfl, trivial, rfl, rfl, ⟨boolEq (by rw [rOk_t hv hh, rTail_0 (by omega) (by omega) (by omega)]), rfl, rfl⟩⟩
   ·
    have h5r := h5
    try simp only [nq, nr] at h5
    refine op_v' (j_unwantV rfl rfl h5r) ?_
    refine op_v' (j_unwantV rfl rfl h5r) ?_
    refine op_v' (j_unwantV rfl rfl h5r) ?_
    refine op_v' (j_unwantV rfl rfl h5r) ?_
    refine op_v' (j_unwantV rfl rfl h5r) ?_
    refine op_v' (j_unwantU rfl rfl) ?_
    refine op_v' (j_unwantU rfl rfl) ?_
    refine op_v' (j_unwantU rfl rfl) ?_
    refine op_v' (j_unwantV rfl rfl h5r) ?_
    refine op_v' (j_want rfl rfl h4r (j_pick_f rfl h5r (evo rfl))) ?_
    refine op_v' (j_pick_f rfl h4r (evo rfl)) ?_
    refine op_v' (j_move (evo rfl)) ?_
    refine op_v' (j_want rfl rfl rfl (j_fldp fld43f0 rfl rfl)) ?_
    refine op_v' (j_want rfl rfl rfl (j_load_box leaf3 rfl rfl rfl)) ?_
    refine op_v' (j_want rfl rfl rfl (j_ne rfl rfl)) ?_
    refine op_v' (j_want rfl rfl rfl (j_move (evo rfl))) ?_
    refine op_split' 53 rfl (fun h22 => ?_) (fun h22 => ?_)
    ·
     have h22r := h22
     try simp only [nq, nr] at h22
     refine op_v' (j_want rfl rfl h22r (j_fldp fld43f4 rfl rfl)) ?_
     refine op_v' (j_want rfl rfl h22r (j_load_box leaf41 rfl rfl rfl)) ?_
     refine op_v' (j_want rfl rfl h22r (j_len_map Try.underlying41 rfl)) ?_
     refine op_v' (j_want rfl rfl h22r (j_gt rfl rfl)) ?_
     refine op_v' (j_want rfl rfl rfl (j_pick_t rfl h22r (evo rfl))) ?_
     refine op_v' (j_pick_f rfl rfl (evo rfl)) ?_
     refine op_nil ?_
     refine a_cond rfl (fun h23 => ?_) (fun h23 => ?_)
     ·
      have h23r := h23
      try simp only [nq, nr] at h23
      refine a_seq ?_
      refine a_region (by kernel_rfl) ?_
      refine op_v' (j_assign (evo rfl)) ?_
      refine op_nil ?_
      refine a_ret ?_
      exact ⟨[.p _], .p _, [], [], [], ⟨rfl, trivial⟩, rfl, rfl, trivial, rfl, rfl, ⟨boolEq (by symm; exact rOk_h (by unfold rHead; omega)), rfl, rfl⟩⟩
     ·
      have h23r := h23
      try simp only [nq, nr] at h23
      refine a_skip ?_
      refine a_seq ?_
      refine a_seq ?_
      have hh : rHead r := by unfold rHead; omega
      refine a_region (by kernel_rfl) ?_
      refine op_v' (j_fldp fld43f0 rfl rfl) ?_
      refine op_v' (j_load_box leaf3 rfl rfl rfl) ?_
      refine op_nil ?_
      refine a_block ?_
      refine a_seq ?_
      refine a_region (by kernel_rfl) ?_
      refine op_v' (j_eq rfl rfl) ?_
      refine op_v' (j_assign (evo rfl)) ?_
      refine op_nil ?_
      refine a_cond rfl (fun h24 => ?_) (fun h24 => ?_)
      ·
       have h24r := h24
       try simp only [nq, nr] at h24
       refine a_seq ?_
       refine a_region (by kernel_rfl) ?_
       refine op_v' (j_fldp fld43f2 rfl rfl) ?_
       refine op_v' (j_load_box leaf23 rfl rfl rfl) ?_
       refine op_v' (j_len_map Try.underlying23 rfl) ?_
       refine op_v' (j_fldp fld43f1 rfl rfl) ?_
       refine op_v' (j_load_box leaf23 rfl rfl rfl) ?_
       refine op_v' (j_len_map Try.underlying23 rfl) ?_
       refine op_v' (j_eq rfl rfl) ?_
       refine op_v' (j_move (evo rfl)) ?_
       refine op_split' 71 rfl (fun h25 => ?_) (fun h25 => ?_)
       ·
        have h25r := h25
        try simp only [nq, nr] at h25
        refine op_v' (j_want rfl rfl h25r (j_fldp fld43f3 rfl rfl)) ?_
        refine op_v' (j_want rfl rfl h25r (j_load_box leaf3 rfl rfl rfl)) ?_
        refine op_v0' (j_want rfl rfl h25r (j_call0 (v := .p _) (hp1 := []) [] false [] ent58 (f_within _ _ _) ⟨.inl ⟨rfl, rfl⟩, .inl ⟨rfl, rfl⟩, .inl ⟨rfl, rfl⟩, trivial⟩ trivial rfl rfl (fun h => by cases h) rfl (fun _ h => by cases h) (.inl rfl) rfl rfl)) ?_
        refine op_v' (j_pick_t rfl h25r (evo rfl)) ?_
        refine op_v' (j_move (evo rfl)) ?_
        refine op_split' 76 rfl (fun h26 => ?_) (fun h26 => ?_)
        ·
         have h26r := h26
         try simp only [nq, nr] at h26
         refine op_v' (j_want rfl rfl h26r (j_fldp fld43f2 rfl rfl)) ?_
         refine op_v' (j_want rfl rfl h26r (j_load_box leaf23 rfl rfl rfl)) ?_
         refine op_v0' (j_want rfl rfl h26r (j_call0 (v := .p _) (hp1 := []) [] false [] ent115 (f_ctf_Int_0 116 r.2.2.1 (fun a => !decide (a ≠ 0 ∧ -9 ≤ a ∧ a ≤ 9)) ent116 (fun a _ => f_rv1 a)) ⟨.inl ⟨rfl, rfl⟩, .inl ⟨rfl, rfl⟩, trivial⟩ trivial rfl rfl (fun h => by cases h) rfl (fun _ h => by cases h) (.inl rfl) rfl rfl)) ?_
         refine op_v' (j_want rfl rfl h26r (j_not rfl)) ?_
         refine op_v' (j_pick_t rfl h26r (evo rfl)) ?_
         refine op_v' (j_assign (evo rfl)) ?_
         refine op_nil ?_
         refine a_ret ?_
         exact ⟨[.p _], .p _, [], [], [], ⟨rfl, trivial⟩, rfl, rfl, trivial, rfl, rfl, ⟨boolEq (by rw [rOk_t hv hh, rTail_1 (by omega)]; unfold linOk; first | (rw [decide_eq_true (show r.2.2.1.length = r.2.1.length by omega), decide_eq_true (show -1000 ≤ r.2.2.2.1 ∧ r.2.2.2.1 ≤ 1000 by omega), Bool.true_and, Bool.true_and, ← not_any_not]; done) | (rw [decide_eq_true (show r.2.2.1.length = r.2.1.length by omega), decide_eq_false (show ¬ (-1000 ≤ r.2.2.2.1 ∧ r.2.2.2.1 ≤ 1000) by omega)]; rfl) | (rw [decide_eq_false (show ¬ r.2.2.1.length = r.2.1.length by omega)]; rfl)), rfl, rfl⟩⟩
        ·
         have h26r := h26
         try simp only [nq, nr] at h26
         refine op_v' (j_unwantV rfl rfl h26r) ?_
         refine op_v' (j_unwantV rfl rfl h26r) ?_
         refine op_v' (j_unwantV rfl rfl h26r) ?_
         refine op_v' (j_unwantV rfl rfl h26r) ?_
         refine op_v' (j_pick_f rfl h26r (evo rfl)) ?_
         refine op_v' (j_assign (evo rfl)) ?_
         refine op_nil ?_
         refine a_ret ?_
         exact ⟨[.p _], .p _, [], [], [], ⟨rfl, trivial⟩, rfl, rfl, trivial, rfl, rfl, ⟨boolEq (by rw [rOk_t hv hh, rTail_1 (by omega)]; unfold linOk; first | (rw [decide_eq_true (show r.2.2.1.length = r.2.1.length by omega), decide_eq_true (show -1000 ≤ r.2.2.2.1 ∧ r.2.2.2.1 ≤ 1000 by omega), Bool.true_and, Bool.true_and, ← not_any_not]; done) | (rw [decide_eq_true (show r.2.2.1.length = r.2.1.length by omega), decide_eq_false (show ¬ (-1000 ≤ r.2.2.2.1 ∧ r.2.2.2.1 ≤ 1000) by omega)]; rfl) | (rw [decide_eq_false (show ¬ r.2.2.1.length = r.2.1.length by omega)]; rfl)), rfl, rfl⟩⟩
       ·
        have h25r := h25
        try simp only [nq, nr] at h25
        refine op_v' (j_unwantV rfl rfl h25r) ?_
        refine op_v' (j_unwantV rfl rfl h25r) ?_
        refine op_v' (j_unwantV rfl rfl h25r) ?_
        refine op_v' (j_pick_f rfl h25r (evo rfl)) ?_
        refine op_v' (j_move (evo rfl)) ?_
        refine op_v' (j_unwantV rfl rfl rfl) ?_
        refine op_v' (j_unwantV rfl rfl rfl) ?_
        refine op_v' (j_unwantV rfl rfl rfl) ?_
        refine op_v' (j_unwantV rfl rfl rfl) ?_
        refine op_v' (j_pick_f rfl rfl (evo rfl)) ?_
        refine op_v' (j_assign (evo rfl)) ?_
        refine op_nil ?_
        refine a_ret ?_
        exact ⟨[.p _], .p _, [], [], [], ⟨rfl, trivial⟩, rfl, rfl, trivial, rfl, rfl, ⟨boolEq (by rw [rOk_t hv hh, rTail_1 (by omega)]; unfold linOk; first | (rw [decide_eq_true (show r.2.2.1.length = r.2.1.length by omega), decide_eq_true (show -1000 ≤ r.2.2.2.1 ∧ r.2.2.2.1 ≤ 1000 by omega), Bool.true_and, Bool.true_and, ← not_any_not]; done) | (rw [decide_eq_true (show r.2.2.1.length = r.2.1.length by omega), decide_eq_false (show ¬ (-1000 ≤ r.2.2.2.1 ∧ r.2.2.2.1 ≤ 1000) by omega)]; rfl) | (rw [decide_eq_false (show ¬ r.2.2.1.length = r.2.1.length by omega)]; rfl)), rfl, rfl⟩⟩
      ·
       have h24r := h24
       try simp only [nq, nr] at h24
       refine a_seq ?_
       refine a_region (by kernel_rfl) ?_
       refine op_v' (j_eq rfl rfl) ?_
       refine op_v' (j_assign (evo rfl)) ?_
       refine op_nil ?_
       refine a_cond rfl (fun h27 => ?_) (fun h27 => ?_)
       ·
        have h27r := h27
        try simp only [nq, nr] at h27
        refine a_seq ?_
        refine a_region (by kernel_rfl) ?_
        refine op_v' (j_fldp fld43f4 rfl rfl) ?_
        refine op_v' (j_load_box leaf41 rfl rfl rfl) ?_
        refine op_v' (j_len_map Try.underlying41 rfl) ?_
        refine op_v' (j_le rfl rfl) ?_
        refine op_v' (j_move (evo rfl)) ?_
        refine op_split' 88 rfl (fun h28 => ?_) (fun h28 => ?_)
        ·
         have h28r := h28
         try simp only [nq, nr] at h28
         refine op_v' (j_want rfl rfl h28r (j_fldp fld43f4 rfl rfl)) ?_
         refine op_v' (j_want rfl rfl h28r (j_load_box leaf41 rfl rfl rfl)) ?_
         refine op_v' (j_want rfl rfl h28r (j_makeFunc (f := 118) (xs := [.tmp 2]) (caps := [.ptr 2 v2x1 0]) rfl)) ?_
         refine op_v0' (j_want rfl rfl h28r (j_call0 (v := .p _) (hp1 := [(2, some (v2x1, .box 43 [.p _, .sl _, .sl _, .p _, .sl _]))]) [(2, v2x1)] false [2] ent117 (f_ctf_LI_r 43 (.int .i64 r.1) (.int .i64 r.2.2.2.1) (r.2.1.map dI) (r.2.2.1.map dI) (r.2.2.2.2.map dL) 118 r.2.2.2.2 (fun a => !rowOk r a) ent118 (fun a _ => f_rv2 a r)) ⟨.inl ⟨rfl, rfl⟩, .inl ⟨rfl, rfl⟩, trivial⟩ ⟨⟨rfl, rfl⟩, trivial⟩ rfl rfl (fun h => by cases h) rfl (List.all_eq_true.1 rfl) (.inl rfl) rfl rfl)) ?_
         refine op_v' (j_want rfl rfl h28r (j_not rfl)) ?_
         refine op_v' (j_pick_t rfl h28r (evo rfl)) ?_
         refine op_v' (j_assign (evo rfl)) ?_
         refine op_nil ?_
         refine a_ret ?_
         exact ⟨[.p _], .p _, [], [], [], ⟨rfl, trivial⟩, rfl, rfl, trivial, rfl, rfl, ⟨boolEq (by rw [rOk_t hv hh, rTail_3 (by omega)]; unfold tabOk; first | (rw [decide_eq_true (show r.2.2.2.2.length ≤ 8 by omega), Bool.true_and, ← not_any_not]; done) | (rw [decide_eq_false (show ¬ r.2.2.2.2.length ≤ 8 by omega)]; rfl)), rfl, rfl⟩⟩
        ·
         have h28r := h28
         try simp only [nq, nr] at h28
         refine op_v' (j_unwantV rfl rfl h28r) ?_
         refine op_v' (j_unwantV rfl rfl h28r) ?_
         refine op_v' (j_unwantV rfl rfl h28r) ?_
         refine op_v' (j_unwantV rfl rfl h28r) ?_
         refine op_v' (j_unwantV rfl rfl h28r) ?_
         refine op_v' (j_pick_f rfl h28r (evo rfl)) ?_
         refine op_v' (j_assign (evo rfl)) ?_
         refine op_nil ?_
         refine a_ret ?_
         exact ⟨[.p _], .p _, [], [], [], ⟨rfl, trivial⟩, rfl, rfl, trivial, rfl, rfl, ⟨boolEq (by rw [rOk_t hv hh, rTail_3 (by omega)]; unfold tabOk; first | (rw [decide_eq_true (show r.2.2.2.2.length ≤ 8 by omega), Bool.true_and, ← not_any_not]; done) | (rw [decide_eq_false (show ¬ r.2.2.2.2.length ≤ 8 by omega)]; rfl)), rfl, rfl⟩⟩
       ·
        have h27r := h27
        try simp only [nq, nr] at h27
        refine a_seq ?_
        refine a_region (by kernel_rfl) ?_
        refine op_v' (j_eq rfl rfl) ?_
        refine op_v' (j_assign (evo rfl)) ?_
        refine op_nil ?_
        refine a_cond rfl (fun h29 => ?_) (fun h29 => ?_)
        ·
         have h29r := h29
         try simp only [nq, nr] at h29
         refine a_seq ?_
         refine a_region (by kernel_rfl) ?_
         refine op_v' (j_fldp fld43f1 rfl rfl) ?_
         refine op_v' (j_load_box leaf23 rfl rfl rfl) ?_
         refine op_v' (j_len_map Try.underlying23 rfl) ?_
         refine op_v' (j_eq rfl rfl) ?_
         refine op_v' (j_assign (evo rfl)) ?_
         refine op_nil ?_
         refine a_ret ?_
         exact ⟨[.p _], .p _, [], [], [], ⟨rfl, trivial⟩, rfl, rfl, trivial, rfl, rfl, ⟨boolEq (by rw [rOk_t hv hh, rTail_4 (by omega)]; exact decide_eq_decide.2 (by omega)), rfl, rfl⟩⟩
        ·
         have h29r := h29
         try simp only [nq, nr] at h29
         refine a_skip ?_
         refine a_seq ?_
         refine a_region (by kernel_rfl) ?_
         refine op_v' (j_fldp fld43f0 rfl rfl) ?_
         refine op_v' (j_load_box leaf3 rfl rfl rfl) ?_
         refine op_v' (j_eq rfl rfl) ?_
         refine op_v' (j_assign (evo rfl)) ?_
         refine op_nil ?_
         refine a_ret ?_
         exact ⟨[.p _], .p _, [], [], [], ⟨rfl, trivial⟩, rfl, rfl, trivial, rfl, rfl, ⟨boolEq (by rw [rOk_t hv hh, rTail_0 (by omega) (by omega) (by omega)]), rfl, rfl⟩⟩
    ·
     have h22r := h22
     try simp only [nq, nr] at h22
     refine op_v' (j_unwantV rfl rfl h22r) ?_
     refine op_v' (j_unwantV rfl rfl h22r) ?_
     refine op_v' (j_unwantV rfl rfl h22r) ?_
     refine op_v' (j_unwantV rfl rfl h22r) ?_
     refine op_v' (j_want rfl rfl rfl (j_pick_f rfl h22r (evo rfl))) ?_
     refine op_v' (j_pick_f rfl rfl (evo rfl)) ?_
     refine op_nil ?_
     refine a_ff rfl ?_
     refine a_skip ?_
     refine a_seq ?_
     refine a_seq ?_
     have hh : rHead r := by unfold rHead; omega
     refine a_region (by kernel_rfl) ?_
     refine op_v' (j_fldp fld43f0 rfl rfl) ?_
     refine op_v' (j_load_box leaf3 rfl rfl rfl) ?_
     refine op_nil ?_
     refine a_block ?_
     refine a_seq ?_
     refine a_region (by kernel_rfl) ?_
     refine op_v' (j_eq rfl rfl) ?_
     refine op_v' (j_assign (evo rfl)) ?_
     refine op_nil ?_
     refine a_cond rfl (fun h30 => ?_) (fun h30 => ?_)
     ·
      have h30r := h30
      try simp only [nq, nr] at h30
      refine a_seq ?_
      refine a_region (by kernel_rfl) ?_
      refine op_v' (j_fldp fld43f2 rfl rfl) ?_
      refine op_v' (j_load_box leaf23 rfl rfl rfl) ?_
      refine op_v' (j_len_map Try.underlying23 rfl) ?_
      refine op_v' (j_fldp fld43f1 rfl rfl) ?_
      refine op_v' (j_load_box leaf23 rfl rfl rfl) ?_
      refine op_v' (j_len_map Try.underlying23 rfl) ?_
      refine op_v' (j_eq rfl rfl) ?_
      refine op_v' (j_move (evo rfl)) ?_
      refine op_split' 71 rfl (fun h31 => ?_) (fun h31 => ?_)
      ·
       have h31r := h31
       try simp only [nq, nr] at h31
       refine op_v' (j_want rfl rfl h31r (j_fldp fld43f3 rfl rfl)) ?_
       refine op_v' (j_want rfl rfl h31r (j_load_box leaf3 rfl rfl rfl)) ?_
       refine op_v0' (j_want rfl rfl h31r (j_call0 (v := .p _) (hp1 := []) [] false [] ent58 (f_within _ _ _) ⟨.inl ⟨rfl, rfl⟩, .inl ⟨rfl, rfl⟩, .inl ⟨rfl, rfl⟩, trivial⟩ trivial rfl rfl (fun h => by cases h) rfl (fun _ h => by cases h) (.inl rfl) rfl rfl)) ?_
       refine op_v' (j_pick_t rfl h31r (evo rfl)) ?_
       refine op_v' (j_move (evo rfl)) ?_
       refine op_split' 76 rfl (fun h32 => ?_) (fun h32 => ?_)
       ·
        have h32r := h32
        try simp only [nq, nr] at h32
        refine op_v' (j_want rfl rfl h32r (j_fldp fld43f2 rfl rfl)) ?_
        refine op_v' (j_want rfl rfl h32r (j_load_box leaf23 rfl rfl rfl)) ?_
        refine op_v0' (j_want rfl rfl h32r (j_call0 (v := .p _) (hp1 := []) [] false [] ent115 (f_ctf_Int_0 116 r.2.2.1 (fun a => !decide (a ≠ 0 ∧ -9 ≤ a ∧ a ≤ 9)) ent116 (fun a _ => f_rv1 a)) ⟨.inl ⟨rfl, rfl⟩, .inl ⟨rfl, rfl⟩, trivial⟩ trivial rfl rfl (fun h => by cases h) rfl (fun _ h => by cases h) (.inl rfl) rfl rfl)) ?_
        refine op_v' (j_want rfl rfl h32r (j_not rfl)) ?_
        refine op_v' (j_pick_t rfl h32r (evo rfl)) ?_
        refine op_v' (j_assign (evo rfl)) ?_
        refine op_nil ?_
        refine a_ret ?_
        exact ⟨[.p _], .p _, [], [], [], ⟨rfl, trivial⟩, rfl, rfl, trivial, rfl, rfl, ⟨boolEq (by rw [rOk_t hv hh, rTail_1 (by omega)]; unfold linOk; first | (rw [decide_eq_true (show r.2.2.1.length = r.2.1.length by omega), decide_eq_true (show -1000 ≤ r.2.2.2.1 ∧ r.2.2.2.1 ≤ 1000 by omega), Bool.true_and, Bool.true_and, ← not_any_not]; done) | (rw [decide_eq_true (show r.2.2.1.length = r.2.1.length by omega), decide_eq_false (show ¬ (-1000 ≤ r.2.2.2.1 ∧ r.2.2.2.1 ≤ 1000) by omega)]; rfl) | (rw [decide_eq_false (show ¬ r.2.2.1.length = r.2.1.length by omega)]; rfl)), rfl, rfl⟩⟩
       ·
        have h32r := h32
        try simp only [nq, nr] at h32
        refine op_v' (j_unwantV rfl rfl h32r) ?_
        refine op_v' (j_unwantV rfl rfl h32r) ?_
        refine op_v' (j_unwantV rfl rfl h32r) ?_
        refine op_v' (j_unwantV rfl rfl h32r) ?_
        refine op_v' (j_pick_f rfl h32r (evo rfl)) ?_
        refine op_v' (j_assign (evo rfl)) ?_
        refine op_nil ?_
        refine a_ret ?_
        exact ⟨[.p _], .p _, [], [], [], ⟨rfl, trivial⟩, rfl, rfl, trivial, rfl, rfl, ⟨boolEq (by rw [rOk_t hv hh, rTail_1 (by omega)]; unfold linOk; first | (rw [decide_eq_true (show r.2.2.1.length = r.2.1.length by omega), decide_eq_true (show -1000 ≤ r.2.2.2.1 ∧ r.2.2.2.1 ≤ 1000 by omega), Bool.true_and, Bool.true_and, ← not_any_not]; done) | (rw [decide_eq_true (show r.2.2.1.length = r.2.1.length by omega), decide_eq_false (show ¬ (-1000 ≤ r.2.2.2.1 ∧ r.2.2.2.1 ≤ 1000) by omega)]; rfl) | (rw [decide_eq_false (show ¬ r.2.2.1.length = r.2.1.length by omega)]; rfl)), rfl, rfl⟩⟩
      ·
       have h31r := h31
       try simp only [nq, nr] at h31
       refine op_v' (j_unwantV rfl rfl h31r) ?_
       refine op_v' (j_unwantV rfl rfl h31r) ?_
       refine op_v' (j_unwantV rfl rfl h31r) ?_
       refine op_v' (j_pick_f rfl h31r (evo rfl)) ?_
       refine op_v' (j_move (evo rfl)) ?_
       refine op_v' (j_unwantV rfl rfl rfl) ?_
       refine op_v' (j_unwantV rfl rfl rfl) ?_
       refine op_v' (j_unwantV rfl rfl rfl) ?_
       refine op_v' (j_unwantV rfl rfl rfl) ?_
       refine op_v' (j_pick_f rfl rfl (evo rfl)) ?_
       refine op_v' (j_assign (evo rfl)) ?_
       refine op_nil ?_
       refine a_ret ?_
       exact ⟨[.p _], .p _, [], [], [], ⟨rfl, trivial⟩, rfl, rfl, trivial, rfl, rfl, ⟨boolEq (by rw [rOk_t hv hh, rTail_1 (by omega)]; unfold linOk; first | (rw [decide_eq_true (show r.2.2.1.length = r.2.1.length by omega), decide_eq_true (show -1000 ≤ r.2.2.2.1 ∧ r.2.2.2.1 ≤ 1000 by omega), Bool.true_and, Bool.true_and, ← not_any_not]; done) | (rw [decide_eq_true (show r.2.2.1.length = r.2.1.length by omega), decide_eq_false (show ¬ (-1000 ≤ r.2.2.2.1 ∧ r.2.2.2.1 ≤ 1000) by omega)]; rfl) | (rw [decide_eq_false (show ¬ r.2.2.1.length = r.2.1.length by omega)]; rfl)), rfl, rfl⟩⟩
     ·
      have h30r := h30
      try simp only [nq, nr] at h30
      refine a_seq ?_
      refine a_region (by kernel_rfl) ?_
      refine op_v' (j_eq rfl rfl) ?_
      refine op_v' (j_assign (evo rfl)) ?_
      refine op_nil ?_
      refine a_cond rfl (fun h33 => ?_) (fun h33 => ?_)
      ·
       have h33r := h33
       try simp only [nq, nr] at h33
       refine a_seq ?_
       refine a_region (by kernel_rfl) ?_
       refine op_v' (j_fldp fld43f4 rfl rfl) ?_
       refine op_v' (j_load_box leaf41 rfl rfl rfl) ?_
       refine op_v' (j_len_map Try.underlying41 rfl) ?_
       refine op_v' (j_le rfl rfl) ?_
       refine op_v' (j_move (evo rfl)) ?_
       refine op_split' 88 rfl (fun h34 => ?_) (fun h34 => ?_)
       ·
        have h34r := h34
        try simp only [nq, nr] at h34
        refine op_v' (j_want rfl rfl h34r (j_fldp fld43f4 rfl rfl)) ?_
        refine op_v' (j_want rfl rfl h34r (j_load_box leaf41 rfl rfl rfl)) ?_
        refine op_v' (j_want rfl rfl h34r (j_makeFunc (f := 118) (xs := [.tmp 2]) (caps := [.ptr 2 v2x1 0]) rfl)) ?_
        refine op_v0' (j_want rfl rfl h34r (j_call0 (v := .p _) (hp1 := [(2, some (v2x1, .box 43 [.p _, .sl _, .sl _, .p _, .sl _]))]) [(2, v2x1)] false [2] ent117 (f_ctf_LI_r 43 (.int .i64 r.1) (.int .i64 r.2.2.2.1) (r.2.1.map dI) (r.2.2.1.map dI) (r.2.2.2.2.map dL) 118 r.2.2.2.2 (fun a => !rowOk r a) ent118 (fun a _ => f_rv2 a r)) ⟨.inl ⟨rfl, rfl⟩, .inl ⟨rfl, rfl⟩, trivial⟩ ⟨⟨rfl, rfl⟩, trivial⟩ rfl rfl (fun h => by cases h) rfl (List.all_eq_true.1 rfl) (.inl rfl) rfl rfl)) ?_
        refine op_v' (j_want rfl rfl h34r (j_not rfl)) ?_
        refine op_v' (j_pick_t rfl h34r (evo rfl)) ?_
        refine op_v' (j_assign (evo rfl)) ?_
        refine op_nil ?_
        refine a_ret ?_
        exact ⟨[.p _], .p _, [], [], [], ⟨rfl, trivial⟩, rfl, rfl, trivial, rfl, rfl, ⟨boolEq (by rw [rOk_t hv hh, rTail_3 (by omega)]; unfold tabOk; first | (rw [decide_eq_true (show r.2.2.2.2.length ≤ 8 by omega), Bool.true_and, ← not_any_not]; done) | (rw [decide_eq_false (show ¬ r.2.2.2.2.length ≤ 8 by omega)]; rfl)), rfl, rfl⟩⟩
       ·
        have h34r := h34
        try simp only [nq, nr] at h34
        refine op_v' (j_unwantV rfl rfl h34r) ?_
        refine op_v' (j_unwantV rfl rfl h34r) ?_
        refine op_v' (j_unwantV rfl rfl h34r) ?_
        refine op_v' (j_unwantV rfl rfl h34r) ?_
        refine op_v' (j_unwantV rfl rfl h34r) ?_
        refine op_v' (j_pick_f rfl h34r (evo rfl)) ?_
        refine op_v' (j_assign (evo rfl)) ?_
        refine op_nil ?_
        refine a_ret ?_
        exact ⟨[.p _], .p _, [], [], [], ⟨rfl, trivial⟩, rfl, rfl, trivial, rfl, rfl, ⟨boolEq (by rw [rOk_t hv hh, rTail_3 (by omega)]; unfold tabOk; first | (rw [decide_eq_true (show r.2.2.2.2.length ≤ 8 by omega), Bool.true_and, ← not_any_not]; done) | (rw [decide_eq_false (show ¬ r.2.2.2.2.length ≤ 8 by omega)]; rfl)), rfl, rfl⟩⟩
      ·
       have h33r := h33
       try simp only [nq, nr] at h33
       refine a_seq ?_
       refine a_region (by kernel_rfl) ?_
       refine op_v' (j_eq rfl rfl) ?_
       refine op_v' (j_assign (evo rfl)) ?_
       refine op_nil ?_
       refine a_cond rfl (fun h35 => ?_) (fun h35 => ?_)
       ·
        have h35r := h35
        try simp only [nq, nr] at h35
        refine a_seq ?_
        refine a_region (by kernel_rfl) ?_
        refine op_v' (j_fldp fld43f1 rfl rfl) ?_
        refine op_v' (j_load_box leaf23 rfl rfl rfl) ?_
        refine op_v' (j_len_map Try.underlying23 rfl) ?_
        refine op_v' (j_eq rfl rfl) ?_
        refine op_v' (j_assign (evo rfl)) ?_
        refine op_nil ?_
        refine a_ret ?_
        exact ⟨[.p _], .p _, [], [], [], ⟨rfl, trivial⟩, rfl, rfl, trivial, rfl, rfl, ⟨boolEq (by rw [rOk_t hv hh, rTail_4 (by omega)]; exact decide_eq_decide.2 (by omega)), rfl, rfl⟩⟩
       ·
        have h35r := h35
        try simp only [nq, nr] at h35
        refine a_skip ?_
        refine a_seq ?_
        refine a_region (by kernel_rfl) ?_
        refine op_v' (j_fldp fld43f0 rfl rfl) ?_
        refine op_v' (j_load_box leaf3 rfl rfl rfl) ?_
        refine op_v' (j_eq rfl rfl) ?_
        refine op_v' (j_assign (evo rfl)) ?_
        refine op_nil ?_
        refine a_ret ?_
        exact ⟨[.p _], .p _, [], [], [], ⟨rfl, trivial⟩, rfl, rfl, trivial, rfl, rfl, ⟨boolEq (by rw [rOk_t hv hh, rTail_0 (by omega) (by omega) (by omega)]), rfl, rfl⟩⟩


theorem f_mv1 (r : Rl) (m : Md) (hm : m.1.length ≤ 1000) : Fn Try.prog 60 [.agg [.p (.int .i64 r.1), .sl (r.2.1.map dI), .sl (r.2.2.1.map dI), .p (.int .i64 r.2.2.2.1), .sl (r.2.2.2.2.map dL)], .ptr 0 0 0] [.box 26 [.sl (m.1.map dI), .sl (m.2.map dR)]] (fun rr ii nn => rr = .p (.bool (!rOk m.1.length r)) ∧ ii = [.box 26 [.sl (m.1.map dI), .sl (m.2.map dR)]] ∧ nn = []) := by
 refine fn_of Try.func60 rfl (Nat.le_of_ble_eq_true rfl) fun w X g => ?_
 show AWp _ _ _ ⟨[(0, .agg [.p (.int .i64 r.1), .sl (r.2.1.map dI), .sl (r.2.2.1.map dI), .p (.int .i64 r.2.2.2.1), .sl (r.2.2.2.2.map dL)]), (1, .ptr 0 0 0)], [(0, some (0, .box 26 [.sl (m.1.map dI), .sl (m.2.map dR)]))]⟩
 refine a_seq ?_
 refine a_region (by kernel_rfl) ?_
 refine op_n' (fun ver => j_boxa rfl) fun v2x1 => ?_
 refine op_v' (j_assign (evo rfl)) ?_
 refine op_nil ?_
 refine a_seq ?_
 refine a_region (by kernel_rfl) ?_
 refine op_v' (j_loada_box (ys := [.p _, .sl _, .sl _, .p _, .sl _]) agg43 rfl rfl rfl (Nat.le_of_ble_eq_true rfl)) ?_
 refine op_v' (j_fldp fld26f0 rfl rfl) ?_
 refine op_v' (j_load_box leaf23 rfl rfl rfl) ?_
 refine op_v' (j_len_map Try.underlying23 rfl) ?_
 refine op_v0' (j_call0 (v := .p _) (hp1 := []) [] false [] ent61 (f_ruleValid r m.1.length (by omega)) ⟨.inl ⟨rfl, rfl⟩, .inl ⟨rfl, rfl⟩, trivial⟩ trivial rfl rfl (fun h => by cases h) rfl (fun _ h => by cases h) (.inl rfl) rfl rfl) ?_
 refine op_v' (j_not rfl) ?_
 refine op_v' (j_assign (evo rfl)) ?_
 refine op_nil ?_
 refine a_ret ?_
 exact ⟨[.p _], .p _, [.box 26 [.sl _, .sl _]], [], [], ⟨rfl, trivial⟩, rfl, rfl, ⟨⟨rfl, rfl⟩, trivial⟩, rfl, rfl, ⟨rfl, rfl, rfl⟩⟩


theorem f_mvImpl (m : Md) : Fn Try.prog 18 [.agg [.sl (m.1.map dI), .sl (m.2.map dR)]] [] (fun rr ii nn => rr = .p (.bool (mOk m)) ∧ ii = [] ∧ nn = []) := by
 refine fn_of Try.func18 rfl (Nat.le_of_ble_eq_true rfl) fun w X g => ?_
 show AWp _ _ _ ⟨[(0, .agg [.sl (m.1.map dI), .sl (m.2.map dR)])], []⟩
 refine a_seq ?_
 refine a_region (by kernel_rfl) ?_
 refine op_n' (fun ver => j_boxa rfl) fun v1x1 => ?_
 refine op_v' (j_assign (evo rfl)) ?_
 refine op_nil ?_
 refine a_seq ?_
 refine a_seq ?_
 refine a_region (by kernel_rfl) ?_
 refine op_v' (j_fldp fld26f0 rfl rfl) ?_
 refine op_v' (j_load_box leaf23 rfl rfl rfl) ?_
 refine op_v' (j_len_map Try.underlying23 rfl) ?_
 refine op_v0' (j_call0 (v := .p _) (hp1 := []) [] false [] ent58 (f_within _ _ _) ⟨.inl ⟨rfl, rfl⟩, .inl ⟨rfl, rfl⟩, .inl ⟨rfl, rfl⟩, trivial⟩ trivial rfl rfl (fun h => by cases h) rfl (fun _ h => by cases h) (.inl rfl) rfl rfl) ?_
 refine op_v' (j_not rfl) ?_
 refine op_v' (j_move (evo rfl)) ?_
 refine op_split' 11 rfl (fun h1 => ?_) (fun h1 => ?_)
 ·
  have h1r := h1
  try simp only [nq, nr] at h1
  refine op_v' (j_unwantV rfl rfl h1r) ?_
  refine op_v' (j_unwantV rfl rfl h1r) ?_
  refine op_v' (j_unwantV rfl rfl h1r) ?_
  refine op_v' (j_unwantV rfl rfl h1r) ?_
  refine op_v' (j_pick_t rfl h1r (evo rfl)) ?_
  refine op_nil ?_
  refine a_tt rfl ?_
  refine a_seq ?_
  refine a_region (by kernel_rfl) ?_
  refine op_v' (j_assign (evo rfl)) ?_
  refine op_nil ?_
  refine a_ret ?_
  exact ⟨[.p _], .p _, [], [], [], ⟨rfl, trivial⟩, rfl, rfl, trivial, rfl, rfl, ⟨boolEq (by symm; first | exact mOk_s (szs_no (.inl (by omega))) | exact mOk_l (by omega)), rfl, rfl⟩⟩
 ·
  have h1r := h1
  try simp only [nq, nr] at h1
  refine op_v' (j_want rfl rfl h1r (j_fldp fld26f1 rfl rfl)) ?_
  refine op_v' (j_want rfl rfl h1r (j_load_box leaf24 rfl rfl rfl)) ?_
  refine op_v' (j_want rfl rfl h1r (j_len_map Try.underlying24 rfl)) ?_
  refine op_v' (j_want rfl rfl h1r (j_gt rfl rfl)) ?_
  refine op_v' (j_pick_f rfl h1r (evo rfl)) ?_
  refine op_nil ?_
  refine a_cond rfl (fun h2 => ?_) (fun h2 => ?_)
  ·
   have h2r := h2
   try simp only [nq, nr] at h2
   refine a_seq ?_
   refine a_region (by kernel_rfl) ?_
   refine op_v' (j_assign (evo rfl)) ?_
   refine op_nil ?_
   refine a_ret ?_
   exact ⟨[.p _], .p _, [], [], [], ⟨rfl, trivial⟩, rfl, rfl, trivial, rfl, rfl, ⟨boolEq (by symm; first | exact mOk_s (szs_no (.inl (by omega))) | exact mOk_l (by omega)), rfl, rfl⟩⟩
  ·
   have h2r := h2
   try simp only [nq, nr] at h2
   refine a_skip ?_
   refine a_seq ?_
   refine a_region (by kernel_rfl) ?_
   refine op_v' (j_assign (evo rfl)) ?_
   refine op_nil ?_
   refine a_seq ?_
   refine a_seq ?_
   refine a_region (by kernel_rfl) ?_
   refine op_v' (j_fldp fld26f0 rfl rfl) ?_
   refine op_v' (j_load_box leaf23 rfl rfl rfl) ?_
   refine op_v' (j_len_map Try.underlying23 rfl) ?_
   refine op_v' (j_move (evo rfl)) ?_
   refine op_nil ?_
   refine a_block ?_
   refine a_loopF' (ι := Nat) (fun k => k ≤ m.1.length ∧ (m.1.take k).all (fun s => decide (0 ≤ s ∧ s ≤ 3)) = true) (fun k r => (20, .p (.int .i64 ((k : Nat)))) :: (3, .p (.int .i64 (szSum (m.1.take k)))) :: r) (fun k r => r) (fun k => m.1.length - k) (fun _ _ => rfl) (fun _ _ => rfl) 0 ⟨Nat.zero_le _, rfl⟩ ⟨⟨rfl, rfl⟩, ⟨rfl, intEq rfl, trivial⟩, trivial, ⟨rfl, rfl⟩, ⟨rfl, rfl⟩⟩ ?_
   intro k hk
   refine a_seq ?_
   refine a_region (by kernel_rfl) ?_
   refine op_v' (j_lt rfl rfl) ?_
   refine op_nil ?_
   refine a_seq ?_
   refine a_cond rfl (fun h3 => ?_) (fun h3 => ?_)
   ·
    have h3r := h3
    try simp only [nq, nr] at h3
    refine a_skip ?_
    refine a_seq ?_
    refine a_block ?_
    refine a_seq ?_
    refine a_region (by kernel_rfl) ?_
    refine op_v' (j_elemN slt23 rfl rfl rfl (at_map (by first | omega | (simp only [nr]; omega))) rfl) ?_
    refine op_v' (j_load_el leaf3 rfl (at_map (by first | omega | (simp only [nr]; omega))) rfl) ?_
    refine op_v' (j_assign (evo rfl)) ?_
    refine op_nil ?_
    refine a_seq ?_
    refine a_seq ?_
    have hsr := szSum_rng (k := k) (by omega) hk.2
    refine a_region (by kernel_rfl) ?_
    refine op_v' (j_move (evo rfl)) ?_
    refine op_v0' (j_call0 (v := .p _) (hp1 := []) [] false [] ent58 (f_within _ _ _) ⟨.inl ⟨rfl, rfl⟩, .inl ⟨rfl, rfl⟩, .inl ⟨rfl, rfl⟩, trivial⟩ trivial rfl rfl (fun h => by cases h) rfl (fun _ h => by cases h) (.inl rfl) rfl rfl) ?_
    refine op_v' (j_not rfl) ?_
    refine op_nil ?_
    refine a_cond rfl (fun h4 => ?_) (fun h4 => ?_)
    ·
     have h4r := h4
     try simp only [nq, nr] at h4
     refine a_seq ?_
     refine a_region (by kernel_rfl) ?_
     refine op_v' (j_assign (evo rfl)) ?_
     refine op_nil ?_
     refine a_ret ?_
     exact ⟨[.p _], .p _, [], [], [], ⟨rfl, trivial⟩, rfl, rfl, trivial, rfl, rfl, ⟨boolEq (by symm; exact mOk_s (szs_no (.inr (.inl (all_no (d := default) (k := k) (by omega) (by first | assumption | (rw [decide_eq_false_iff_not]; omega))))))), rfl, rfl⟩⟩
    ·
     have h4r := h4
     try simp only [nq, nr] at h4
     refine a_skip ?_
     refine a_region (by kernel_rfl) ?_
     refine op_v' (j_move (evo rfl)) ?_
     refine op_v' (j_move (evo rfl)) ?_
     refine op_v' (j_add rfl rfl (by first | omega | (simp only [nr]; omega)) (by first | omega | (simp only [nr]; omega))) ?_
     refine op_v' (j_add rfl rfl (by first | omega | (simp only [nr]; omega)) (by first | omega | (simp only [nr]; omega))) ?_
     refine op_v' (j_assign (evo rfl)) ?_
     refine op_nil ?_
     refine a_region (by kernel_rfl) ?_
     refine op_v' (j_add rfl rfl (by first | omega | (simp only [nr]; omega)) (by first | omega | (simp only [nr]; omega))) ?_
     refine op_v' (j_move (evo rfl)) ?_
     refine op_nil ?_
     exact ⟨k + 1, ⟨by omega, all_next (d := default) hk.2 (by omega) (by first | assumption | exact decide_eq_true (by omega))⟩, ⟨⟨rfl, rfl⟩, ⟨rfl, intEq (by rw [szSum_next (by omega)]), trivial⟩, trivial, ⟨rfl, rfl⟩, ⟨rfl, rfl⟩⟩, (by first | omega | (simp only [nr]; omega))⟩
   ·
    have h3r := h3
    try simp only [nq, nr] at h3
    refine a_exit ?_
    refine a_seq ?_
    have hsr := szSum_rng (k := k) (by omega) hk.2
    obtain rfl : k = m.1.length := by omega
    have hka := hk.2
    rw [List.take_length] at hka hsr ⊢
    refine a_region (by kernel_rfl) ?_
    refine op_v' (j_move (evo rfl)) ?_
    refine op_v' (j_le rfl rfl) ?_
    refine op_v' (j_move (evo rfl)) ?_
    refine op_split' 34 rfl (fun h5 => ?_) (fun h5 => ?_)
    ·
     have h5r := h5
     try simp only [nq, nr] at h5
     refine op_v' (j_want rfl rfl h5r (j_fldp fld26f1 rfl rfl)) ?_
     refine op_v' (j_want rfl rfl h5r (j_load_box leaf24 rfl rfl rfl)) ?_
     refine op_v' (j_want rfl rfl h5r (j_makeFunc (f := 60) (xs := [.tmp 1]) (caps := [.ptr 1 v1x1 0]) rfl)) ?_
     refine op_v0' (j_want rfl rfl h5r (j_call0 (v := .p _) (hp1 := [(1, some (v1x1, .box 26 [.sl _, .sl _]))]) [(1, v1x1)] false [1] ent59 (f_ctf_Rule_m 26 (m.1.map dI) (m.2.map dR) 60 m.2 (fun r => !rOk m.1.length r) ent60 (fun a _ => f_mv1 a m (by omega))) ⟨.inl ⟨rfl, rfl⟩, .inl ⟨rfl, rfl⟩, trivial⟩ ⟨⟨rfl, rfl⟩, trivial⟩ rfl rfl (fun h => by cases h) rfl (List.all_eq_true.1 rfl) (.inl rfl) rfl rfl)) ?_
     refine op_v' (j_want rfl rfl h5r (j_not rfl)) ?_
     refine op_v' (j_pick_t rfl h5r (evo rfl)) ?_
     refine op_v' (j_assign (evo rfl)) ?_
     refine op_nil ?_
     refine a_ret ?_
     exact ⟨[.p _], .p _, [], [], [], ⟨rfl, trivial⟩, rfl, rfl, trivial, rfl, rfl, ⟨boolEq (by first | (rw [mOk_of (szs_of (by omega) hka (by omega)) (by omega), ← not_any_not]; done) | (symm; exact mOk_s (szs_no (.inr (.inr (by omega)))))), rfl, rfl⟩⟩
    ·
     have h5r := h5
     try simp only [nq, nr] at h5
     refine op_v' (j_unwantV rfl rfl h5r) ?_
     refine op_v' (j_unwantV rfl rfl h5r) ?_
     refine op_v' (j_unwantV rfl rfl h5r) ?_
     refine op_v' (j_unwantV rfl rfl h5r) ?_
     refine op_v' (j_unwantV rfl rfl h5r) ?_
     refine op_v' (j_pick_f rfl h5r (evo rfl)) ?_
     refine op_v' (j_assign (evo rfl)) ?_
     refine op_nil ?_
     refine a_ret ?_
     exact ⟨[.p _], .p _, [], [], [], ⟨rfl, trivial⟩, rfl, rfl, trivial, rfl, rfl, ⟨boolEq (by first | (rw [mOk_of (szs_of (by omega) hka (by omega)) (by omega), ← not_any_not]; done) | (symm; exact mOk_s (szs_no (.inr (.inr (by omega)))))), rfl, rfl⟩⟩


end Go.Ab

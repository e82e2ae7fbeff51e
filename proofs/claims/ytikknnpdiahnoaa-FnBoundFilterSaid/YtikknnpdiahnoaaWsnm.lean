/- Walks. -/
import Derived.Test.YtikknnpdiahnoaaBase
import Derived.Test.YtikknnpdiahnoaaOpt
import Derived.Test.YtikknnpdiahnoaaWsfm
import Derived.Test.YtikknnpdiahnoaaWsflt
namespace Go.Ab
open Go.Proofs
set_option maxRecDepth 100000
set_option maxHeartbeats 8000000
set_option linter.unusedSimpArgs false
set_option linter.unusedVariables false
theorem f_idx_Rule_sl (e : Nat) (es : List (List V)) (F : Nat) (l : List (Rl)) (p : Rl → Bool) (hE : Ent' Try.prog F) (hF : ∀ a ∈ l, Fn Try.prog F [.agg [.p (.int .i64 a.1), .sl (a.2.1.map dI), .sl (a.2.2.1.map dI), .p (.int .i64 a.2.2.2.1), .sl (a.2.2.2.2.map dL)], .ptr 0 0 0] [.box e [.sl es]] (fun r i n => r = .p (.bool (p a)) ∧ i = [.box e [.sl es]] ∧ n = [])) : Fn Try.prog 114 [.sl (l.map dR), .fn F [.ptr 0 0 0]] [.box e [.sl es]] (fun rr ii nn => rr = .p (.int .i64 (idxF p l 0)) ∧ ii = [.box e [.sl es]] ∧ nn = []) := by
 refine fn_of Try.func114 rfl (Nat.le_of_ble_eq_true rfl) fun w X g => ?_
 show AWp _ _ _ ⟨[(0, .sl (l.map dR)), (1, .fn F [.ptr 0 0 0])], [(0, some (0, .box e [.sl es]))]⟩
 refine a_len_map 0 rfl fun hlen => ?_
 refine a_seq ?_
 refine a_region (by kernel_rfl) ?_
 refine op_v' (j_assign (evo rfl)) ?_
 refine op_nil ?_
 refine a_seq ?_
 refine a_seq ?_
 refine a_region (by kernel_rfl) ?_
 refine op_v' (j_move (evo rfl)) ?_
 refine op_v' (j_len_map Try.underlying24 rfl) ?_
 refine op_v' (j_move (evo rfl)) ?_
 refine op_nil ?_
 refine a_block ?_
 refine a_loopF' (ι := Nat) (fun k => k ≤ l.length ∧ idxF p l 0 = idxF p (l.drop k) (k : Int)) (fun k r => (8, .p (.int .i64 ((k : Nat)))) :: r) (fun k r => (0, some (0, .box e [.sl es])) :: r) (fun k => l.length - k) (fun _ _ => rfl) (fun _ _ => rfl) 0 ⟨Nat.zero_le _, rfl⟩ ⟨⟨rfl, rfl⟩, ⟨rfl, trivial⟩, ⟨rfl, trivial⟩, ⟨rfl, rfl⟩, ⟨rfl, rfl⟩⟩ ?_
 intro k hpre
 refine a_seq ?_
 refine a_region (by kernel_rfl) ?_
 refine op_v' (j_lt rfl rfl) ?_
 refine op_nil ?_
 refine a_seq ?_
 refine a_cond rfl (fun h1 => ?_) (fun h1 => ?_)
 ·
  have h1r := h1
  try simp only [nq, nr] at h1
  refine a_skip ?_
  refine a_seq ?_
  refine a_block ?_
  refine a_seq ?_
  refine a_region (by kernel_rfl) ?_
  refine op_v' (j_move (evo rfl)) ?_
  refine op_v' (j_assign (evo rfl)) ?_
  refine op_nil ?_
  refine a_seq ?_
  refine a_region (by kernel_rfl) ?_
  refine op_v' (j_move (evo rfl)) ?_
  refine op_v' (j_move (evo rfl)) ?_
  refine op_v' (j_move (evo rfl)) ?_
  refine op_v' (j_elemN slt24 rfl rfl rfl (at_map (by omega)) rfl) ?_
  refine op_v' (j_loada_el (ys := [.p _, .sl _, .sl _, .p _, .sl _]) agg43 rfl (at_map (by omega)) rfl (Nat.le_refl _)) ?_
  refine op_v0' (j_callF0 (v := .p _) (hp1 := [(0, some (0, .box e [.sl _]))]) [(0, 0)] false [0] rfl hE (hF (l.getD k default) (getD_mem (by omega))) ⟨.inl ⟨rfl, rfl⟩, .inl ⟨rfl, rfl⟩, trivial⟩ ⟨⟨rfl, rfl⟩, trivial⟩ rfl rfl (fun h => by cases h) rfl (List.all_eq_true.1 rfl) (.inl rfl) rfl rfl) ?_
  refine op_nil ?_
  refine a_cond rfl (fun h2 => ?_) (fun h2 => ?_)
  ·
   have h2r := h2
   try simp only [nq, nr] at h2
   refine a_seq ?_
   refine a_region (by kernel_rfl) ?_
   refine op_v' (j_move (evo rfl)) ?_
   refine op_v' (j_assign (evo rfl)) ?_
   refine op_nil ?_
   refine a_ret ?_
   exact ⟨[.p _], .p _, [.box e [.sl _]], [], [], ⟨rfl, trivial⟩, rfl, rfl, ⟨⟨rfl, rfl⟩, trivial⟩, rfl, rfl, ⟨intEq (by rw [hpre.2, idxF_hit (d := default) (by omega) (by assumption)]), rfl, rfl⟩⟩
  ·
   have h2r := h2
   try simp only [nq, nr] at h2
   refine a_skip ?_
   refine a_region (by kernel_rfl) ?_
   refine op_v' (j_add rfl rfl (by omega) (by omega)) ?_
   refine op_v' (j_move (evo rfl)) ?_
   refine op_nil ?_
   exact ⟨k + 1, ⟨by omega, by rw [hpre.2, idxF_skip (d := default) (by omega) (by assumption)]⟩, ⟨⟨rfl, rfl⟩, ⟨rfl, trivial⟩, ⟨rfl, trivial⟩, ⟨rfl, rfl⟩, ⟨rfl, rfl⟩⟩, (by omega)⟩
 ·
  have h1r := h1
  try simp only [nq, nr] at h1
  refine a_exit ?_
  refine a_seq ?_
  refine a_region (by kernel_rfl) ?_
  refine op_v' (j_assign (evo rfl)) ?_
  refine op_nil ?_
  refine a_ret ?_
  exact ⟨[.p _], .p _, [.box e [.sl _]], [], [], ⟨rfl, trivial⟩, rfl, rfl, ⟨⟨rfl, rfl⟩, trivial⟩, rfl, rfl, ⟨intEq (by rw [hpre.2, idxF_end (by omega)]), rfl, rfl⟩⟩


theorem f_ctf_Rule_sl (e : Nat) (es : List (List V)) (F : Nat) (l : List (Rl)) (p : Rl → Bool) (hE : Ent' Try.prog F) (hF : ∀ a ∈ l, Fn Try.prog F [.agg [.p (.int .i64 a.1), .sl (a.2.1.map dI), .sl (a.2.2.1.map dI), .p (.int .i64 a.2.2.2.1), .sl (a.2.2.2.2.map dL)], .ptr 0 0 0] [.box e [.sl es]] (fun r i n => r = .p (.bool (p a)) ∧ i = [.box e [.sl es]] ∧ n = [])) : Fn Try.prog 59 [.sl (l.map dR), .fn F [.ptr 0 0 0]] [.box e [.sl es]] (fun rr ii nn => rr = .p (.bool (l.any p)) ∧ ii = [.box e [.sl es]] ∧ nn = []) := by
 refine fn_of Try.func59 rfl (Nat.le_of_ble_eq_true rfl) fun w X g => ?_
 show AWp _ _ _ ⟨[(0, .sl (l.map dR)), (1, .fn F [.ptr 0 0 0])], [(0, some (0, .box e [.sl es]))]⟩
 refine a_seq ?_
 refine a_region (by kernel_rfl) ?_
 refine op_v' (j_assign (evo rfl)) ?_
 refine op_nil ?_
 refine a_seq ?_
 refine a_region (by kernel_rfl) ?_
 refine op_v' (j_move (evo rfl)) ?_
 refine op_v' (j_move (evo rfl)) ?_
 refine op_v0' (j_call0 (v := .p _) (hp1 := [(0, some (0, .box e [.sl _]))]) [(0, 0)] false [0] ent114 (f_idx_Rule_sl e es F l p hE hF) ⟨.inl ⟨rfl, rfl⟩, .inl ⟨rfl, rfl⟩, trivial⟩ ⟨⟨rfl, rfl⟩, trivial⟩ rfl rfl (fun h => by cases h) rfl (List.all_eq_true.1 rfl) (.inl rfl) rfl rfl) ?_
 refine op_v' (j_ge rfl rfl) ?_
 refine op_v' (j_assign (evo rfl)) ?_
 refine op_nil ?_
 refine a_ret ?_
 exact ⟨[.p _], .p _, [.box e [.sl _]], [], [], ⟨rfl, trivial⟩, rfl, rfl, ⟨⟨rfl, rfl⟩, trivial⟩, rfl, rfl, ⟨boolEq (idxF_any (Int.le_refl 0)), rfl, rfl⟩⟩


theorem f_sol1 (n : Int) (q : Rl) (c : List Int) (hr : rOk n q = true) (hc : (c.length : Int) = n ∧ ∀ k, k < c.length → 0 ≤ c.getD k default ∧ c.getD k default ≤ 3) (hl : q.2.1.length ≤ 1048576) : Fn Try.prog 131 [.agg [.p (.int .i64 q.1), .sl (q.2.1.map dI), .sl (q.2.2.1.map dI), .p (.int .i64 q.2.2.2.1), .sl (q.2.2.2.2.map dL)], .ptr 0 0 0] [.box 23 [.sl (c.map dI)]] (fun rr ii nn => rr = .p (.bool (!holdB q (valsC q.2.1 c))) ∧ ii = [.box 23 [.sl (c.map dI)]] ∧ nn = []) := by
 refine fn_of Try.func131 rfl (Nat.le_of_ble_eq_true rfl) fun w X g => ?_
 show AWp _ _ _ ⟨[(0, .agg [.p (.int .i64 q.1), .sl (q.2.1.map dI), .sl (q.2.2.1.map dI), .p (.int .i64 q.2.2.2.1), .sl (q.2.2.2.2.map dL)]), (1, .ptr 0 0 0)], [(0, some (0, .box 23 [.sl (c.map dI)]))]⟩
 refine a_seq ?_
 refine a_region (by kernel_rfl) ?_
 refine op_n' (fun ver => j_boxa rfl) fun v2x1 => ?_
 refine op_v' (j_assign (evo rfl)) ?_
 refine op_nil ?_
 refine a_seq ?_
 refine a_region (by kernel_rfl) ?_
 refine op_v' (j_loada_box (ys := [.p _, .sl _, .sl _, .p _, .sl _]) agg43 rfl rfl rfl (Nat.le_of_ble_eq_true rfl)) ?_
 refine op_v' (j_load_box leaf23 rfl rfl rfl) ?_
 refine op_v0' (j_call0 (v := .p _) (hp1 := []) [] false [] ent125 (f_at n q c hr hc hl) ⟨.inl ⟨rfl, rfl⟩, .inl ⟨rfl, rfl⟩, trivial⟩ trivial rfl rfl (fun h => by cases h) rfl (fun _ h => by cases h) (.inl rfl) rfl rfl) ?_
 refine op_v' (j_not rfl) ?_
 refine op_v' (j_assign (evo rfl)) ?_
 refine op_nil ?_
 refine a_ret ?_
 exact ⟨[.p _], .p _, [.box 23 [.sl _]], [], [], ⟨rfl, trivial⟩, rfl, rfl, ⟨⟨rfl, rfl⟩, trivial⟩, rfl, rfl, ⟨rfl, rfl, rfl⟩⟩


theorem f_solves (m : Md) (c : List Int) (hm : mOk m = true) (hc : cvL m.1 c = true) (hw : wRS m.2 ≤ 1048576) : Fn Try.prog 87 [.agg [.sl (m.1.map dI), .sl (m.2.map dR)], .sl (c.map dI)] [] (fun rr ii nn => rr = .p (.bool (solB m c)) ∧ ii = [] ∧ nn = []) := by
 refine fn_of Try.func87 rfl (Nat.le_of_ble_eq_true rfl) fun w X g => ?_
 show AWp _ _ _ ⟨[(0, .agg [.sl (m.1.map dI), .sl (m.2.map dR)]), (1, .sl (c.map dI))], []⟩
 have hc3 := cv_three hm hc
 refine a_seq ?_
 refine a_region (by kernel_rfl) ?_
 refine op_n' (fun ver => j_boxa rfl) fun v2x1 => ?_
 refine op_n' (fun ver => j_box (evo rfl) rfl) fun v3x2 => ?_
 refine op_v' (j_assign (evo rfl)) ?_
 refine op_nil ?_
 refine a_seq ?_
 refine a_region (by kernel_rfl) ?_
 refine op_v' (j_fldp fld26f1 rfl rfl) ?_
 refine op_v' (j_load_box leaf24 rfl rfl rfl) ?_
 refine op_v' (j_makeFunc (f := 131) (xs := [.tmp 3]) (caps := [.ptr 3 v3x2 0]) rfl) ?_
 refine op_v0' (j_call0 (v := .p _) (hp1 := [(3, some (v3x2, .box 23 [.sl _]))]) [(3, v3x2)] false [3] ent59 (f_ctf_Rule_sl 23 (c.map dI) 131 m.2 (fun r => !holdB r (valsC r.2.1 c)) ent131 (fun r hr => f_sol1 m.1.length r c (mOk_mem hm hr) hc3 (wRS_mem hw hr))) ⟨.inl ⟨rfl, rfl⟩, .inl ⟨rfl, rfl⟩, trivial⟩ ⟨⟨rfl, rfl⟩, trivial⟩ rfl rfl (fun h => by cases h) rfl (List.all_eq_true.1 rfl) (.inl rfl) rfl rfl) ?_
 refine op_v' (j_not rfl) ?_
 refine op_v' (j_assign (evo rfl)) ?_
 refine op_nil ?_
 refine a_ret ?_
 exact ⟨[.p _], .p _, [], [], [], ⟨rfl, trivial⟩, rfl, rfl, trivial, rfl, rfl, ⟨boolEq (by unfold solB; rw [← not_any_not]), rfl, rfl⟩⟩


end Go.Ab

/- Walks. -/
import Derived.Test.YtoodaakcfelaaaaGreatBase
import Derived.Test.YtoodaakcfelaaaaGreatSimp
import Derived.Test.YtoodaakcfelaaaaGreatWsprob
namespace Go.Ab
open Go.Proofs
set_option maxRecDepth 100000
set_option maxHeartbeats 8000000
set_option linter.unusedSimpArgs false
set_option linter.unusedVariables false
theorem f_valid (c : Con) : Fn Tryz.prog 201 [.agg [.sl (c.1.map dT), .p (.int .i64 c.2)]] [] (fun rr ii nn => rr = .tup [.agg [.sl ((vC c).1.map dT), .p (.int .i64 (vC c).2)], .p (.bool (cOk c))] ∧ ii = [] ∧ nn = []) := by
 refine fn_of Tryz.func201 rfl (Nat.le_of_ble_eq_true rfl) fun w X g => ?_
 show AWp _ _ _ ⟨[(0, .agg [.sl (c.1.map dT), .p (.int .i64 c.2)])], []⟩
 refine rs ?_
 refine op_n' (fun ver => j_boxa rfl) fun v1x1 => ?_
 refine op_n' (fun ver => j_alloc elt69 rfl) fun v2x2 => ?_
 refine oa rfl ?_
 refine on ?_
 refine a_seq ?_
 refine rs ?_
 refine op_v' (j_loada_box (ys := [.sl _, .p _]) agg69 rfl rfl rfl (Nat.le_of_ble_eq_true rfl)) ?_
 refine op_v0' (j_call0 (v := .p _) (hp1 := []) [] false [] ent115 (f_cvImpl _) ⟨.inl ⟨rfl, rfl⟩, trivial⟩ trivial rfl rfl (fun h => by cases h) rfl (fun _ h => by cases h) (.inl rfl) rfl rfl) ?_
 refine op_v' (j_not rfl) ?_
 refine on ?_
 refine ac rfl (fun h1 => ?_) fun h1 => ?_
 ·
  have h1r := h1
  try simp only [nq, nr] at h1
  refine rs ?_
  refine op_v' (j_build (parts := []) str69 elt69 rfl rfl) ?_
  refine op_s' (j_storea_box0 agg69 rfl rfl rfl rfl rfl rfl) ?_
  refine oa rfl ?_
  refine on ?_
  refine a_adopt_box' 0 1002 135 2 (by decide) (id := 2) rfl rfl fun v1002x3 => ?_
  refine a_freezeboxK 0 2 (by decide) trivial rfl rfl rfl rfl ?_
  try dsimp only [List.set]
  refine a_ret ?_
  exact ⟨[.agg [.sl _, .p _], .p _], .tup [.agg [.sl _, .p _], .p _], [], [], [], ⟨⟨_, _, _, _, rfl, rfl, agg69, rfl⟩, rfl, trivial⟩, rfl, rfl, trivial, rfl, rfl, ⟨by rw [vC_bad h1, h1]; rfl, rfl, rfl⟩⟩
 have h1r := h1
 try simp only [nq, nr] at h1
 refine a_skip ?_
 refine rs ?_
 refine op_v' (j_loada_box (ys := [.sl _, .p _]) agg69 rfl rfl rfl (Nat.le_of_ble_eq_true rfl)) ?_
 refine op_s' (j_storea_box0 agg69 rfl rfl rfl rfl rfl rfl) ?_
 refine oa rfl ?_
 refine on ?_
 refine a_ret ?_
 exact ⟨[.agg [.sl _, .p _], .p _], .tup [.agg [.sl _, .p _], .p _], [], [], [], ⟨⟨_, _, _, _, rfl, rfl, agg69, rfl⟩, rfl, trivial⟩, rfl, rfl, trivial, rfl, rfl, ⟨by rw [vC_ok h1, h1], rfl, rfl⟩⟩
theorem f_changed (e : Nat) (kv : Int) (F : Nat) (c : Con) (f : Int → Int) (hc : cOk c = true) (hE : Ent' Tryz.prog F) (hF : ∀ n : Int, 0 ≤ n → n ≤ 20000 → Fn Tryz.prog F [.p (.int .i64 n), .ptr 0 0 0] [.box e [.p (.int .i64 kv)]] (fun r i n0 => r = .p (.int .i64 (f n)) ∧ i = [.box e [.p (.int .i64 kv)]] ∧ n0 = [])) : Fn Tryz.prog 268 [.agg [.sl (c.1.map dT), .p (.int .i64 c.2)], .fn F [.ptr 0 0 0]] [.box e [.p (.int .i64 kv)]] (fun rr ii nn => rr = .tup [.agg [.sl ((vC (chC f c)).1.map dT), .p (.int .i64 (vC (chC f c)).2)], .p (.bool (cOk (chC f c)))] ∧ ii = [.box e [.p (.int .i64 kv)]] ∧ nn = []) := by
 refine fn_of Tryz.func268 rfl (Nat.le_of_ble_eq_true rfl) fun w X g => ?_
 show AWp _ _ _ ⟨[(0, .agg [.sl (c.1.map dT), .p (.int .i64 c.2)]), (1, .fn F [.ptr 0 0 0])], [(0, some (0, .box e [.p (.int .i64 kv)]))]⟩
 have hln := cOk_len hc
 have hbd := cOk_bound hc
 refine rs ?_
 refine op_n' (fun ver => j_boxa rfl) fun v2x1 => ?_
 refine op_n' (fun ver => j_alloc elt69 rfl) fun v4x2 => ?_
 refine oa rfl ?_
 refine on ?_
 refine rs ?_
 refine op_v' (j_loada_box (ys := [.sl _, .p _]) agg69 rfl rfl rfl (Nat.le_of_ble_eq_true rfl)) ?_
 refine op_n1' (fun ver => j_call1 (v := .agg [.own 9 ver, .p _]) (hp1 := [(9, some (ver, .row 135 2 _))]) [] false [] ent189 (f_own c (by omega)) ⟨.inl ⟨rfl, rfl⟩, trivial⟩ trivial rfl rfl rfl (fun h => by cases h) rfl (List.all_eq_true.1 rfl) (.inl rfl) rfl rfl) fun v9x3 => ?_
 refine op_n' (fun ver => j_alloc elt69 rfl) fun v6x4 => ?_
 refine op_s' (j_storea_box0 agg69 rfl rfl rfl rfl rfl rfl) ?_
 refine on ?_
 refine rs ?_
 refine om rfl ?_
 refine op_v' (j_fldp fld69f1 rfl rfl) ?_
 refine op_v' (j_load_box leaf3 rfl rfl rfl) ?_
 refine op_v0' (j_callF0 (v := .p _) (hp1 := [(0, some (0, .box e [.p _]))]) [(0, 0)] false [0] rfl hE (hF c.2 hbd.1 hbd.2) ⟨.inl ⟨rfl, rfl⟩, .inl ⟨rfl, rfl⟩, trivial⟩ ⟨⟨rfl, rfl⟩, trivial⟩ rfl rfl (fun h => by cases h) rfl (List.all_eq_true.1 rfl) (.inl rfl) rfl rfl) ?_
 refine op_v' (j_fldp fld69f1 rfl rfl) ?_
 refine op_s' (j_store_box leaf3 rfl rfl (Nat.le_of_ble_eq_true rfl) (evo rfl) rfl) ?_
 refine on ?_
 refine a_seq ?_
 refine rs ?_
 refine op_v' (j_fldp fld69f0 rfl rfl) ?_
 refine op_v' (j_load_box leaf67 rfl rfl rfl) ?_
 refine op_v' (j_len_own Tryz.underlying67 rfl rfl) ?_
 refine om rfl ?_
 refine on ?_
 refine a_block ?_
 refine a_loopF' (ι := Nat) (fun k => k ≤ c.1.length) (fun k r => (18, .p (.int .i64 ((k : Nat)))) :: r) (fun k r => (0, some (0, .box e [.p (.int .i64 kv)])) :: (9, some (v9x3, .row 135 2 (wo dT (c.1.map (chT f)) c.1 k))) :: r) (fun k => c.1.length - k) (fun _ _ => rfl) (fun _ _ => rfl) 0 (by first | omega | (simp only [nr, wo_length]; omega)) ⟨⟨rfl, rfl⟩, ⟨rfl, trivial⟩, ⟨rfl, rowEq wo_zero.symm, trivial⟩, ⟨rfl, rfl⟩, ⟨rfl, rfl⟩⟩ ?_
 intro k hpre0
 refine rs ?_
 refine op_v' (j_lt rfl rfl) ?_
 refine on ?_
 refine a_seq ?_
 refine ac rfl (fun h1 => ?_) fun h1 => ?_
 ·
  have h1r := h1
  try simp only [nq, nr, wo_length] at h1
  refine a_skip ?_
  refine a_seq ?_
  refine a_block ?_
  refine a_seq ?_
  have htm := cOk_terms hc (k := k) (by first | omega | (simp only [nr, wo_length]; omega))
  refine ar ?_
  refine om rfl ?_
  refine oa rfl ?_
  refine on ?_
  refine a_draw mixed (by kernel_rfl) (by kernel_rfl) fun vf => ?_
  refine d_v' (j_fldp fld69f0 rfl rfl) ?_
  refine d_v' (j_load_box leaf67 rfl rfl rfl) ?_
  refine d_v' (j_move (evo rfl)) ?_
  refine d_v' (j_move (evo rfl)) ?_
  refine d_v' (j_fldp fld69f0 rfl rfl) ?_
  refine d_v' (j_load_box leaf67 rfl rfl rfl) ?_
  refine d_v' (j_move (evo rfl)) ?_
  refine d_v' (j_elem_ownN slt67 rfl rfl rfl rfl (by first | omega | (simp only [nr, wo_length]; omega))) ?_
  refine d_v' (j_fldpel fld135f0 rfl rfl) ?_
  refine d_v' (j_load_pel leaf3 rfl rfl (wo_at (by first | omega | (simp only [nr, wo_length]; omega)) (by first | omega | (simp only [nr, wo_length]; omega))) rfl) ?_
  refine d_v0' (j_callF0 (v := .p _) (hp1 := [(0, some (0, .box e [.p _]))]) [(0, 0)] false [0] rfl hE (hF (c.1.getD k default).1 (by omega) (by omega)) ⟨.inl ⟨rfl, rfl⟩, .inl ⟨rfl, rfl⟩, trivial⟩ ⟨⟨rfl, rfl⟩, trivial⟩ rfl rfl (fun h => by cases h) rfl (List.all_eq_true.1 rfl) (.inl rfl) rfl rfl) ?_
  refine d_v' (j_elem_ownN slt67 rfl rfl rfl rfl (by first | omega | (simp only [nr, wo_length]; omega))) ?_
  refine d_v' (j_fldpel fld135f0 rfl rfl) ?_
  refine d_s' (j_storef_row leaf3 rfl rfl (wo_at (by first | omega | (simp only [nr, wo_length]; omega)) (by first | omega | (simp only [nr, wo_length]; omega))) (Nat.le_of_ble_eq_true rfl) (evo rfl) rfl rfl) ?_
  refine d_nil (by kernel_rfl) (by kernel_rfl) ?_
  refine ar ?_
  refine op_v' (j_add rfl rfl (by first | omega | (simp only [nr, wo_length]; omega)) (by first | omega | (simp only [nr, wo_length]; omega))) ?_
  refine om rfl ?_
  refine on ?_
  exact ⟨k + 1, (by first | omega | (simp only [nr, wo_length]; omega)), ⟨⟨rfl, rfl⟩, ⟨rfl, trivial⟩, ⟨rfl, rowEq (wo_set (d := default) (x := chT f (c.1.getD k default)) (by first | omega | (simp only [nr, wo_length]; omega)) (by first | omega | (simp only [nr, wo_length]; omega)) (mapD_at (by first | omega | (simp only [nr, wo_length]; omega)))), trivial⟩, ⟨rfl, rfl⟩, ⟨rfl, rfl⟩⟩, (by first | omega | (simp only [nr, wo_length]; omega))⟩
 have h1r := h1
 try simp only [nq, nr, wo_length] at h1
 refine a_exit ?_
 refine a_seq ?_
 refine a_row 9 (es' := (chC f c).1.map dT) rfl (wo_all (by rw [List.length_map]; omega) (by omega)) ?_
 refine a_freezeboxK 0 6 (by decide) ⟨⟨_, _, rfl⟩, trivial⟩ rfl rfl rfl rfl ?_
 try dsimp only [List.set]
 refine ar ?_
 refine op_v' (j_loada_box (ys := [.sl _, .p _]) agg69 rfl rfl rfl (Nat.le_of_ble_eq_true rfl)) ?_
 refine op_v0' (j_call0 (v := .tup [.agg [.sl _, .p _], .p _]) (hp1 := []) [] false [] ent201 (f_valid (chC f c)) ⟨.inl ⟨rfl, rfl⟩, trivial⟩ trivial rfl rfl (fun h => by cases h) rfl (fun _ h => by cases h) (.inl rfl) rfl rfl) ?_
 refine op_v' (j_extract rfl rfl) ?_
 refine op_v' (j_extract rfl rfl) ?_
 refine op_s' (j_storea_box0 agg69 rfl rfl rfl rfl rfl rfl) ?_
 refine oa rfl ?_
 refine on ?_
 refine a_ret ?_
 exact ⟨[.agg [.sl _, .p _], .p _], .tup [.agg [.sl _, .p _], .p _], [.box e [.p _]], [], [], ⟨⟨_, _, _, _, rfl, rfl, agg69, rfl⟩, rfl, trivial⟩, rfl, rfl, ⟨⟨rfl, rfl⟩, trivial⟩, rfl, rfl, ⟨rfl, rfl, rfl⟩⟩
theorem f_multiply1 (n k : Int) (hn : 0 ≤ n ∧ n ≤ 20000) (hk : 1 ≤ k ∧ k ≤ 1000) : Fn Tryz.prog 269 [.p (.int .i64 (n)), .ptr 0 0 0] [.box 3 [.p (.int .i64 k)]] (fun rr ii nn => rr = .p (.int .i64 (mulK k n)) ∧ ii = [.box 3 [.p (.int .i64 k)]] ∧ nn = []) := by
 refine fn_of Tryz.func269 rfl (Nat.le_of_ble_eq_true rfl) fun w X g => ?_
 show AWp _ _ _ ⟨[(0, .p (.int .i64 (n))), (1, .ptr 0 0 0)], [(0, some (0, .box 3 [.p (.int .i64 k)]))]⟩
 have hmm := mul_rng hn hk
 refine rs ?_
 refine oa rfl ?_
 refine on ?_
 refine rs ?_
 refine om rfl ?_
 refine op_v' (j_load_box leaf3 rfl rfl rfl) ?_
 refine op_v' (j_mul rfl rfl (by omega) (by omega)) ?_
 refine oa rfl ?_
 refine on ?_
 refine a_ret ?_
 exact ⟨[.p _], .p _, [.box 3 [.p _]], [], [], ⟨rfl, trivial⟩, rfl, rfl, ⟨⟨rfl, rfl⟩, trivial⟩, rfl, rfl, ⟨rfl, rfl, rfl⟩⟩
theorem f_multiply (c : Con) (k : Int) : Fn Tryz.prog 236 [.agg [.sl (c.1.map dT), .p (.int .i64 c.2)], .p (.int .i64 (k))] [] (fun rr ii nn => rr = .tup [.agg [.sl ((chR (mulK k) c k).1.map dT), .p (.int .i64 (chR (mulK k) c k).2)], .p (.bool (chB (mulK k) c k))] ∧ ii = [] ∧ nn = []) := by
 refine fn_of Tryz.func236 rfl (Nat.le_of_ble_eq_true rfl) fun w X g => ?_
 show AWp _ _ _ ⟨[(0, .agg [.sl (c.1.map dT), .p (.int .i64 c.2)]), (1, .p (.int .i64 (k)))], []⟩
 refine rs ?_
 refine op_n' (fun ver => j_boxa rfl) fun v2x1 => ?_
 refine op_n' (fun ver => j_box (evo rfl) rfl) fun v3x2 => ?_
 refine op_n' (fun ver => j_alloc elt69 rfl) fun v4x3 => ?_
 refine oa rfl ?_
 refine on ?_
 refine a_seq ?_
 refine rs ?_
 refine op_v' (j_loada_box (ys := [.sl _, .p _]) agg69 rfl rfl rfl (Nat.le_of_ble_eq_true rfl)) ?_
 refine op_v0' (j_call0 (v := .p _) (hp1 := []) [] false [] ent115 (f_cvImpl _) ⟨.inl ⟨rfl, rfl⟩, trivial⟩ trivial rfl rfl (fun h => by cases h) rfl (fun _ h => by cases h) (.inl rfl) rfl rfl) ?_
 refine op_v' (j_not rfl) ?_
 refine om rfl ?_
 refine op_split' 9 rfl (fun h1 => ?_) (fun h1 => ?_)
 ·
  have h1r := h1
  try simp only [nq, nr] at h1
  refine op_v' (j_unwantV rfl rfl h1r) ?_
  refine op_v' (j_unwantV rfl rfl h1r) ?_
  refine op_v' (j_unwantV rfl rfl h1r) ?_
  refine op_v' (j_pick_t rfl h1r (evo rfl)) ?_
  refine on ?_
  refine a_tt rfl ?_
  refine rs ?_
  refine op_v' (j_build (parts := []) str69 elt69 rfl rfl) ?_
  refine op_s' (j_storea_box0 agg69 rfl rfl rfl rfl rfl rfl) ?_
  refine oa rfl ?_
  refine on ?_
  refine a_adopt_box' 0 1004 135 2 (by decide) (id := 4) rfl rfl fun v1004x4 => ?_
  refine a_freezeboxK 0 4 (by decide) trivial rfl rfl rfl rfl ?_
  try dsimp only [List.set]
  refine a_ret ?_
  exact ⟨[.agg [.sl _, .p _], .p _], .tup [.agg [.sl _, .p _], .p _], [], [], [], ⟨⟨_, _, _, _, rfl, rfl, agg69, rfl⟩, rfl, trivial⟩, rfl, rfl, trivial, rfl, rfl, ⟨by have hq : kOk c k = false := kOk_no (by first | exact .inl h1 | exact .inr (by omega)); unfold chR chB; rw [hq]; rfl, rfl, rfl⟩⟩
 have h1r := h1
 try simp only [nq, nr] at h1
 refine op_v' (j_want rfl rfl h1r (j_load_box leaf3 rfl rfl rfl)) ?_
 refine op_v0' (j_want rfl rfl h1r (j_call0 (v := .p _) (hp1 := []) [] false [] ent113 (f_within _ _ _) ⟨.inl ⟨rfl, rfl⟩, .inl ⟨rfl, rfl⟩, .inl ⟨rfl, rfl⟩, trivial⟩ trivial rfl rfl (fun h => by cases h) rfl (fun _ h => by cases h) (.inl rfl) rfl rfl)) ?_
 refine op_v' (j_want rfl rfl h1r (j_not rfl)) ?_
 refine op_v' (j_pick_f rfl h1r (evo rfl)) ?_
 refine on ?_
 refine ac rfl (fun h2 => ?_) fun h2 => ?_
 ·
  have h2r := h2
  try simp only [nq, nr] at h2
  refine rs ?_
  refine op_v' (j_build (parts := []) str69 elt69 rfl rfl) ?_
  refine op_s' (j_storea_box0 agg69 rfl rfl rfl rfl rfl rfl) ?_
  refine oa rfl ?_
  refine on ?_
  refine a_adopt_box' 0 1004 135 2 (by decide) (id := 4) rfl rfl fun v1004x5 => ?_
  refine a_freezeboxK 0 4 (by decide) trivial rfl rfl rfl rfl ?_
  try dsimp only [List.set]
  refine a_ret ?_
  exact ⟨[.agg [.sl _, .p _], .p _], .tup [.agg [.sl _, .p _], .p _], [], [], [], ⟨⟨_, _, _, _, rfl, rfl, agg69, rfl⟩, rfl, trivial⟩, rfl, rfl, trivial, rfl, rfl, ⟨by have hq : kOk c k = false := kOk_no (by first | exact .inl h1 | exact .inr (by omega)); unfold chR chB; rw [hq]; rfl, rfl, rfl⟩⟩
 have h2r := h2
 try simp only [nq, nr] at h2
 refine a_skip ?_
 refine a_seq ?_
 have hk : 1 ≤ k ∧ k ≤ 1000 := by omega
 refine ar ?_
 refine op_v' (j_loada_box (ys := [.sl _, .p _]) agg69 rfl rfl rfl (Nat.le_of_ble_eq_true rfl)) ?_
 refine op_v' (j_makeFunc (f := 269) (xs := [.tmp 3]) (caps := [.ptr 3 v3x2 0]) rfl) ?_
 refine op_v0' (j_call0 (v := .tup [.agg [.sl _, .p _], .p _]) (hp1 := [(3, some (v3x2, .box 3 [.p _]))]) [(3, v3x2)] false [3] ent268 (f_changed 3 k 269 c (mulK k) h1 ent269 (fun n h2 h3 => f_multiply1 n k ⟨h2, h3⟩ hk)) ⟨.inl ⟨rfl, rfl⟩, .inl ⟨rfl, rfl⟩, trivial⟩ ⟨⟨rfl, rfl⟩, trivial⟩ rfl rfl (fun h => by cases h) rfl (List.all_eq_true.1 rfl) (.inl rfl) rfl rfl) ?_
 refine op_v' (j_extract rfl rfl) ?_
 refine op_v' (j_extract rfl rfl) ?_
 refine op_s' (j_storea_box0 agg69 rfl rfl rfl rfl rfl rfl) ?_
 refine oa rfl ?_
 refine on ?_
 refine a_ret ?_
 exact ⟨[.agg [.sl _, .p _], .p _], .tup [.agg [.sl _, .p _], .p _], [], [], [], ⟨⟨_, _, _, _, rfl, rfl, agg69, rfl⟩, rfl, trivial⟩, rfl, rfl, trivial, rfl, rfl, ⟨by unfold chR chB; rw [kOk_of h1 hk]; rfl, rfl, rfl⟩⟩
theorem f_divide1 (n k : Int) (hn : 0 ≤ n ∧ n ≤ 20000) (hk : 1 ≤ k ∧ k ≤ 1000) : Fn Tryz.prog 270 [.p (.int .i64 (n)), .ptr 0 0 0] [.box 3 [.p (.int .i64 k)]] (fun rr ii nn => rr = .p (.int .i64 (divK k n)) ∧ ii = [.box 3 [.p (.int .i64 k)]] ∧ nn = []) := by
 refine fn_of Tryz.func270 rfl (Nat.le_of_ble_eq_true rfl) fun w X g => ?_
 show AWp _ _ _ ⟨[(0, .p (.int .i64 (n))), (1, .ptr 0 0 0)], [(0, some (0, .box 3 [.p (.int .i64 k)]))]⟩
 have hmm := mul_rng hn hk
 refine rs ?_
 refine oa rfl ?_
 refine on ?_
 refine rs ?_
 refine om rfl ?_
 refine op_v' (j_load_box leaf3 rfl rfl rfl) ?_
 refine op_v' (j_add rfl rfl (by omega) (by omega)) ?_
 refine op_v' (j_sub rfl rfl (by omega) (by omega)) ?_
 refine op_v' (j_load_box leaf3 rfl rfl rfl) ?_
 refine op_v' (j_quo rfl rfl (by omega) (by omega) (by omega)) ?_
 refine oa rfl ?_
 refine on ?_
 refine a_ret ?_
 exact ⟨[.p _], .p _, [.box 3 [.p _]], [], [], ⟨rfl, trivial⟩, rfl, rfl, ⟨⟨rfl, rfl⟩, trivial⟩, rfl, rfl, ⟨rfl, rfl, rfl⟩⟩
theorem f_divide (c : Con) (k : Int) : Fn Tryz.prog 237 [.agg [.sl (c.1.map dT), .p (.int .i64 c.2)], .p (.int .i64 (k))] [] (fun rr ii nn => rr = .tup [.agg [.sl ((chR (divK k) c k).1.map dT), .p (.int .i64 (chR (divK k) c k).2)], .p (.bool (chB (divK k) c k))] ∧ ii = [] ∧ nn = []) := by
 refine fn_of Tryz.func237 rfl (Nat.le_of_ble_eq_true rfl) fun w X g => ?_
 show AWp _ _ _ ⟨[(0, .agg [.sl (c.1.map dT), .p (.int .i64 c.2)]), (1, .p (.int .i64 (k)))], []⟩
 refine rs ?_
 refine op_n' (fun ver => j_boxa rfl) fun v2x1 => ?_
 refine op_n' (fun ver => j_box (evo rfl) rfl) fun v3x2 => ?_
 refine op_n' (fun ver => j_alloc elt69 rfl) fun v4x3 => ?_
 refine oa rfl ?_
 refine on ?_
 refine a_seq ?_
 refine rs ?_
 refine op_v' (j_loada_box (ys := [.sl _, .p _]) agg69 rfl rfl rfl (Nat.le_of_ble_eq_true rfl)) ?_
 refine op_v0' (j_call0 (v := .p _) (hp1 := []) [] false [] ent115 (f_cvImpl _) ⟨.inl ⟨rfl, rfl⟩, trivial⟩ trivial rfl rfl (fun h => by cases h) rfl (fun _ h => by cases h) (.inl rfl) rfl rfl) ?_
 refine op_v' (j_not rfl) ?_
 refine om rfl ?_
 refine op_split' 9 rfl (fun h1 => ?_) (fun h1 => ?_)
 ·
  have h1r := h1
  try simp only [nq, nr] at h1
  refine op_v' (j_unwantV rfl rfl h1r) ?_
  refine op_v' (j_unwantV rfl rfl h1r) ?_
  refine op_v' (j_unwantV rfl rfl h1r) ?_
  refine op_v' (j_pick_t rfl h1r (evo rfl)) ?_
  refine on ?_
  refine a_tt rfl ?_
  refine rs ?_
  refine op_v' (j_build (parts := []) str69 elt69 rfl rfl) ?_
  refine op_s' (j_storea_box0 agg69 rfl rfl rfl rfl rfl rfl) ?_
  refine oa rfl ?_
  refine on ?_
  refine a_adopt_box' 0 1004 135 2 (by decide) (id := 4) rfl rfl fun v1004x4 => ?_
  refine a_freezeboxK 0 4 (by decide) trivial rfl rfl rfl rfl ?_
  try dsimp only [List.set]
  refine a_ret ?_
  exact ⟨[.agg [.sl _, .p _], .p _], .tup [.agg [.sl _, .p _], .p _], [], [], [], ⟨⟨_, _, _, _, rfl, rfl, agg69, rfl⟩, rfl, trivial⟩, rfl, rfl, trivial, rfl, rfl, ⟨by have hq : kOk c k = false := kOk_no (by first | exact .inl h1 | exact .inr (by omega)); unfold chR chB; rw [hq]; rfl, rfl, rfl⟩⟩
 have h1r := h1
 try simp only [nq, nr] at h1
 refine op_v' (j_want rfl rfl h1r (j_load_box leaf3 rfl rfl rfl)) ?_
 refine op_v0' (j_want rfl rfl h1r (j_call0 (v := .p _) (hp1 := []) [] false [] ent113 (f_within _ _ _) ⟨.inl ⟨rfl, rfl⟩, .inl ⟨rfl, rfl⟩, .inl ⟨rfl, rfl⟩, trivial⟩ trivial rfl rfl (fun h => by cases h) rfl (fun _ h => by cases h) (.inl rfl) rfl rfl)) ?_
 refine op_v' (j_want rfl rfl h1r (j_not rfl)) ?_
 refine op_v' (j_pick_f rfl h1r (evo rfl)) ?_
 refine on ?_
 refine ac rfl (fun h2 => ?_) fun h2 => ?_
 ·
  have h2r := h2
  try simp only [nq, nr] at h2
  refine rs ?_
  refine op_v' (j_build (parts := []) str69 elt69 rfl rfl) ?_
  refine op_s' (j_storea_box0 agg69 rfl rfl rfl rfl rfl rfl) ?_
  refine oa rfl ?_
  refine on ?_
  refine a_adopt_box' 0 1004 135 2 (by decide) (id := 4) rfl rfl fun v1004x5 => ?_
  refine a_freezeboxK 0 4 (by decide) trivial rfl rfl rfl rfl ?_
  try dsimp only [List.set]
  refine a_ret ?_
  exact ⟨[.agg [.sl _, .p _], .p _], .tup [.agg [.sl _, .p _], .p _], [], [], [], ⟨⟨_, _, _, _, rfl, rfl, agg69, rfl⟩, rfl, trivial⟩, rfl, rfl, trivial, rfl, rfl, ⟨by have hq : kOk c k = false := kOk_no (by first | exact .inl h1 | exact .inr (by omega)); unfold chR chB; rw [hq]; rfl, rfl, rfl⟩⟩
 have h2r := h2
 try simp only [nq, nr] at h2
 refine a_skip ?_
 refine a_seq ?_
 have hk : 1 ≤ k ∧ k ≤ 1000 := by omega
 refine ar ?_
 refine op_v' (j_loada_box (ys := [.sl _, .p _]) agg69 rfl rfl rfl (Nat.le_of_ble_eq_true rfl)) ?_
 refine op_v' (j_makeFunc (f := 270) (xs := [.tmp 3]) (caps := [.ptr 3 v3x2 0]) rfl) ?_
 refine op_v0' (j_call0 (v := .tup [.agg [.sl _, .p _], .p _]) (hp1 := [(3, some (v3x2, .box 3 [.p _]))]) [(3, v3x2)] false [3] ent268 (f_changed 3 k 270 c (divK k) h1 ent270 (fun n h2 h3 => f_divide1 n k ⟨h2, h3⟩ hk)) ⟨.inl ⟨rfl, rfl⟩, .inl ⟨rfl, rfl⟩, trivial⟩ ⟨⟨rfl, rfl⟩, trivial⟩ rfl rfl (fun h => by cases h) rfl (List.all_eq_true.1 rfl) (.inl rfl) rfl rfl) ?_
 refine op_v' (j_extract rfl rfl) ?_
 refine op_v' (j_extract rfl rfl) ?_
 refine op_s' (j_storea_box0 agg69 rfl rfl rfl rfl rfl rfl) ?_
 refine oa rfl ?_
 refine on ?_
 refine a_ret ?_
 exact ⟨[.agg [.sl _, .p _], .p _], .tup [.agg [.sl _, .p _], .p _], [], [], [], ⟨⟨_, _, _, _, rfl, rfl, agg69, rfl⟩, rfl, trivial⟩, rfl, rfl, trivial, rfl, rfl, ⟨by unfold chR chB; rw [kOk_of h1 hk]; rfl, rfl, rfl⟩⟩
theorem f_l2Up (n k : Int) (hn : 0 ≤ n ∧ n ≤ 20000) (hk : 1 ≤ k ∧ k ≤ 1000) : Fn Tryz.prog 263 [.p (.int .i64 (n)), .p (.int .i64 (k))] [] (fun rr ii nn => rr = .p (.int .i64 (divK k n)) ∧ ii = [] ∧ nn = []) := by
 refine fn_of Tryz.func263 rfl (Nat.le_of_ble_eq_true rfl) fun w X g => ?_
 show AWp _ _ _ ⟨[(0, .p (.int .i64 (n))), (1, .p (.int .i64 (k)))], []⟩
 refine rs ?_
 refine oa rfl ?_
 refine on ?_
 refine rs ?_
 refine om rfl ?_
 refine om rfl ?_
 refine op_v' (j_add rfl rfl (by omega) (by omega)) ?_
 refine op_v' (j_sub rfl rfl (by omega) (by omega)) ?_
 refine om rfl ?_
 refine op_v' (j_quo rfl rfl (by omega) (by omega) (by omega)) ?_
 refine oa rfl ?_
 refine on ?_
 refine a_ret ?_
 exact fin_p rfl ⟨rfl, rfl, rfl⟩
theorem f_divSpec (c : Con) (k : Int) : Fn Tryz.prog 224 [.agg [.sl (c.1.map dT), .p (.int .i64 c.2)], .p (.int .i64 (k))] [] (fun rr ii nn => rr = .tup [.agg [.sl ((divR c k).1.map dT), .p (.int .i64 (divR c k).2)], .p (.bool (kOk c k))] ∧ ii = [] ∧ nn = []) := by
 refine fn_of Tryz.func224 rfl (Nat.le_of_ble_eq_true rfl) fun w X g => ?_
 show AWp _ _ _ ⟨[(0, .agg [.sl (c.1.map dT), .p (.int .i64 c.2)]), (1, .p (.int .i64 (k)))], []⟩
 refine rs ?_
 refine op_n' (fun ver => j_boxa rfl) fun v2x1 => ?_
 refine op_n' (fun ver => j_alloc elt69 rfl) fun v4x2 => ?_
 refine oa rfl ?_
 refine on ?_
 refine a_seq ?_
 refine rs ?_
 refine op_v' (j_loada_box (ys := [.sl _, .p _]) agg69 rfl rfl rfl (Nat.le_of_ble_eq_true rfl)) ?_
 refine op_v0' (j_call0 (v := .p _) (hp1 := []) [] false [] ent118 (f_cvSpec _) ⟨.inl ⟨rfl, rfl⟩, trivial⟩ trivial rfl rfl (fun h => by cases h) rfl (fun _ h => by cases h) (.inl rfl) rfl rfl) ?_
 refine op_v' (j_not rfl) ?_
 refine om rfl ?_
 refine op_split' 11 rfl (fun h1 => ?_) (fun h1 => ?_)
 ·
  have h1r := h1
  try simp only [nq, nr, nl] at h1
  refine op_v' (j_unwantV rfl rfl h1r) ?_
  refine op_v' (j_unwantV rfl rfl h1r) ?_
  refine op_v' (j_pick_t rfl h1r (evo rfl)) ?_
  refine om rfl ?_
  refine op_v' (j_unwantV rfl rfl rfl) ?_
  refine op_v' (j_unwantV rfl rfl rfl) ?_
  refine op_v' (j_pick_t rfl rfl (evo rfl)) ?_
  refine on ?_
  refine a_tt rfl ?_
  refine rs ?_
  refine op_v' (j_build (parts := []) str69 elt69 rfl rfl) ?_
  refine op_s' (j_storea_box0 agg69 rfl rfl rfl rfl rfl rfl) ?_
  refine oa rfl ?_
  refine on ?_
  refine a_adopt_box' 0 1004 135 2 (by decide) (id := 4) rfl rfl fun v1004x3 => ?_
  refine a_freezeboxK 0 4 (by decide) trivial rfl rfl rfl rfl ?_
  try dsimp only [List.set]
  refine a_ret ?_
  exact ⟨[.agg [.sl _, .p _], .p _], .tup [.agg [.sl _, .p _], .p _], [], [], [], ⟨⟨_, _, _, _, rfl, rfl, agg69, rfl⟩, rfl, trivial⟩, rfl, rfl, trivial, rfl, rfl, ⟨by have hq : kOk c k = false := kOk_no (by first | exact .inl h1 | exact .inr (by omega)); unfold divR; rw [hq]; rfl, rfl, rfl⟩⟩
 have h1r := h1
 try simp only [nq, nr, nl] at h1
 refine op_v' (j_want rfl rfl h1r (j_move (evo rfl))) ?_
 refine op_v' (j_want rfl rfl h1r (j_lt rfl rfl)) ?_
 refine op_v' (j_pick_f rfl h1r (evo rfl)) ?_
 refine om rfl ?_
 refine op_split' 15 rfl (fun h2 => ?_) (fun h2 => ?_)
 ·
  have h2r := h2
  try simp only [nq, nr, nl] at h2
  refine op_v' (j_unwantV rfl rfl h2r) ?_
  refine op_v' (j_unwantV rfl rfl h2r) ?_
  refine op_v' (j_pick_t rfl h2r (evo rfl)) ?_
  refine on ?_
  refine a_tt rfl ?_
  refine rs ?_
  refine op_v' (j_build (parts := []) str69 elt69 rfl rfl) ?_
  refine op_s' (j_storea_box0 agg69 rfl rfl rfl rfl rfl rfl) ?_
  refine oa rfl ?_
  refine on ?_
  refine a_adopt_box' 0 1004 135 2 (by decide) (id := 4) rfl rfl fun v1004x4 => ?_
  refine a_freezeboxK 0 4 (by decide) trivial rfl rfl rfl rfl ?_
  try dsimp only [List.set]
  refine a_ret ?_
  exact ⟨[.agg [.sl _, .p _], .p _], .tup [.agg [.sl _, .p _], .p _], [], [], [], ⟨⟨_, _, _, _, rfl, rfl, agg69, rfl⟩, rfl, trivial⟩, rfl, rfl, trivial, rfl, rfl, ⟨by have hq : kOk c k = false := kOk_no (by first | exact .inl h1 | exact .inr (by omega)); unfold divR; rw [hq]; rfl, rfl, rfl⟩⟩
 have h2r := h2
 try simp only [nq, nr, nl] at h2
 refine op_v' (j_want rfl rfl h2r (j_move (evo rfl))) ?_
 refine op_v' (j_want rfl rfl h2r (j_gt rfl rfl)) ?_
 refine op_v' (j_pick_f rfl h2r (evo rfl)) ?_
 refine on ?_
 refine ac rfl (fun h3 => ?_) fun h3 => ?_
 ·
  have h3r := h3
  try simp only [nq, nr, nl] at h3
  refine rs ?_
  refine op_v' (j_build (parts := []) str69 elt69 rfl rfl) ?_
  refine op_s' (j_storea_box0 agg69 rfl rfl rfl rfl rfl rfl) ?_
  refine oa rfl ?_
  refine on ?_
  refine a_adopt_box' 0 1004 135 2 (by decide) (id := 4) rfl rfl fun v1004x5 => ?_
  refine a_freezeboxK 0 4 (by decide) trivial rfl rfl rfl rfl ?_
  try dsimp only [List.set]
  refine a_ret ?_
  exact ⟨[.agg [.sl _, .p _], .p _], .tup [.agg [.sl _, .p _], .p _], [], [], [], ⟨⟨_, _, _, _, rfl, rfl, agg69, rfl⟩, rfl, trivial⟩, rfl, rfl, trivial, rfl, rfl, ⟨by have hq : kOk c k = false := kOk_no (by first | exact .inl h1 | exact .inr (by omega)); unfold divR; rw [hq]; rfl, rfl, rfl⟩⟩
 have h3r := h3
 try simp only [nq, nr, nl] at h3
 refine a_skip ?_
 refine a_seq ?_
 have hk : 1 ≤ k ∧ k ≤ 1000 := by omega
 have hln := cOk_len h1
 have hbd := cOk_bound h1
 refine ar ?_
 refine op_v' (j_fldp fld69f1 rfl rfl) ?_
 refine op_v' (j_load_box leaf3 rfl rfl rfl) ?_
 refine om rfl ?_
 refine op_v0' (j_call0 (v := .p _) (hp1 := []) [] false [] ent263 (f_l2Up _ _ (by omega) hk) ⟨.inl ⟨rfl, rfl⟩, .inl ⟨rfl, rfl⟩, trivial⟩ trivial rfl rfl (fun h => by cases h) rfl (fun _ h => by cases h) (.inl rfl) rfl rfl) ?_
 refine op_v' (j_build (parts := [(1, .tmp 23)]) str69 elt69 rfl rfl) ?_
 refine op_n' (fun ver => j_alloc elt69 rfl) fun v6x6 => ?_
 refine op_s' (j_storea_box0 agg69 rfl rfl rfl rfl rfl rfl) ?_
 refine on ?_
 refine a_adopt_box' 0 1006 135 2 (by decide) (id := 6) rfl rfl fun v1006x7 => ?_
 refine a_seq ?_
 refine rs ?_
 refine oa rfl ?_
 refine on ?_
 refine a_block ?_
 refine a_loopF' (ι := Nat × Nat) (fun x => x.1 ≤ c.1.length) (fun x r => (7, .p (.int .i64 ((x.1 : Nat)))) :: r) (fun x r => (6, some (v6x6, .box 69 [.own 1006 x.2, .p (.int .i64 (divK k c.2))])) :: (1006, some (x.2, .row 135 2 (((c.1.take x.1).map (chT (divK k))).map dT))) :: r) (fun x => c.1.length - x.1) (fun _ _ => rfl) (fun _ _ => rfl) (0, v1006x7) (by first | exact (Nat.zero_le _) | (dsimp only; exact (Nat.zero_le _))) ⟨⟨rfl, rfl⟩, ⟨rfl, trivial⟩, ⟨rfl, rfl, trivial⟩, ⟨rfl, rfl⟩, ⟨rfl, rfl⟩⟩ ?_
 rintro ⟨i, v⟩ hpre; dsimp only at hpre ⊢
 refine a_seq ?_
 refine rs ?_
 refine om rfl ?_
 refine op_v' (j_fldp fld69f0 rfl rfl) ?_
 refine op_v' (j_load_box leaf67 rfl rfl rfl) ?_
 refine op_v' (j_len_map Tryz.underlying67 rfl) ?_
 refine op_v' (j_lt rfl rfl) ?_
 refine on ?_
 refine ac rfl (fun h4 => ?_) fun h4 => ?_
 ·
  have h4r := h4
  try simp only [nq, nr, nl] at h4
  refine a_skip ?_
  refine a_seq ?_
  refine a_block ?_
  have htm := cOk_terms h1 (k := i) (by omega)
  refine a_draw mixed (by kernel_rfl) (by kernel_rfl) fun vf => ?_
  refine d_v' (j_fldp fld69f0 rfl rfl) ?_
  refine d_v' (j_load_box leaf67 rfl rfl rfl) ?_
  refine d_v' (j_fldp fld69f0 rfl rfl) ?_
  refine d_v' (j_load_box leaf67 rfl rfl rfl) ?_
  refine d_v' (j_move (evo rfl)) ?_
  refine d_v' (j_elemN slt67 rfl rfl rfl (at_map (by first | omega | (simp only [nr, nl]; omega))) rfl) ?_
  refine d_v' (j_fldel fld135f0 rfl) ?_
  refine d_v' (j_load_el leaf3 rfl (at_map (by first | omega | (simp only [nr, nl]; omega))) rfl) ?_
  refine d_v' (j_move (evo rfl)) ?_
  refine d_v0' (j_call0 (v := .p _) (hp1 := []) [] false [] ent263 (f_l2Up _ _ (by omega) hk) ⟨.inl ⟨rfl, rfl⟩, .inl ⟨rfl, rfl⟩, trivial⟩ trivial rfl rfl (fun h => by cases h) rfl (fun _ h => by cases h) (.inl rfl) rfl rfl) ?_
  refine d_v' (j_fldp fld69f0 rfl rfl) ?_
  refine d_v' (j_load_box leaf67 rfl rfl rfl) ?_
  refine d_v' (j_move (evo rfl)) ?_
  refine d_v' (j_elemN slt67 rfl rfl rfl (at_map (by first | omega | (simp only [nr, nl]; omega))) rfl) ?_
  refine d_v' (j_fldel fld135f1 rfl) ?_
  refine d_v' (j_load_el leaf3 rfl (at_map (by first | omega | (simp only [nr, nl]; omega))) rfl) ?_
  refine d_v' (j_build (parts := [(0, .tmp 41), (1, .tmp 47)]) str135 elt135 rfl rfl) ?_
  refine d_n' (fun ver => j_buildSlice (parts := [(0, .tmp 48)]) (es := [[_, _]]) slt67 elt135 rfl rfl (by decide) (by decide) rfl rfl (by simp) rfl) ?_
  refine d_n' (fun ver => j_append_own slt67 elt135 rfl rfl rfl rfl rfl rfl (by rw [maxLen_eq]; first | omega | (simp only [nr, nl]; omega)) (by first | omega | (simp only [nr, nl]; omega))) ?_
  refine d_v' (j_fldp fld69f0 rfl rfl) ?_
  refine d_s' (j_store_box leaf67 rfl rfl (Nat.le_of_ble_eq_true rfl) (evo rfl) rfl) ?_
  refine d_nil (by kernel_rfl) (by kernel_rfl) ?_
  refine ar ?_
  refine om rfl ?_
  refine op_v' (j_add rfl rfl (by first | omega | (simp only [nr, nl]; omega)) (by first | omega | (simp only [nr, nl]; omega))) ?_
  refine oa rfl ?_
  refine on ?_
  exact ⟨(i + 1, (vf 1006)), (by first | exact (by first | omega | (simp only [nr, nl]; omega)) | (dsimp only; exact (by first | omega | (simp only [nr, nl]; omega)))), ⟨⟨rfl, rfl⟩, ⟨rfl, trivial⟩, ⟨rfl, rowEq (ch_next (by omega)), trivial⟩, ⟨rfl, rfl⟩, ⟨rfl, rfl⟩⟩, (by first | exact (by first | omega | (simp only [nr, nl]; omega)) | (dsimp only; exact (by first | omega | (simp only [nr, nl]; omega))))⟩
 have h4r := h4
 try simp only [nq, nr, nl] at h4
 refine a_exit ?_
 refine rs ?_
 refine op_v' (j_loada_box (ys := [.own 1006 v, .p _]) agg69 rfl rfl rfl (Nat.le_of_ble_eq_true rfl)) ?_
 refine op_s' (j_storea_box0 agg69 rfl rfl rfl rfl rfl rfl) ?_
 refine oa rfl ?_
 refine on ?_
 refine a_freezeboxK 0 4 (by decide) trivial rfl rfl rfl rfl ?_
 try dsimp only [List.set]
 refine a_ret ?_
 exact ⟨[.agg [.sl _, .p _], .p _], .tup [.agg [.sl _, .p _], .p _], [], [], [], ⟨⟨_, _, _, _, rfl, rfl, agg69, rfl⟩, rfl, trivial⟩, rfl, rfl, trivial, rfl, rfl, ⟨by unfold divR; rw [kOk_of h1 hk, show i = c.1.length by omega, List.take_length]; rfl, rfl, rfl⟩⟩
theorem f_weakSpec (c : Con) (v : Int) : Fn Tryz.prog 226 [.agg [.sl (c.1.map dT), .p (.int .i64 c.2)], .p (.int .i64 (v))] [] (fun rr ii nn => rr = .tup [.agg [.sl ((weakC c v).1.map dT), .p (.int .i64 (weakC c v).2)], .p (.bool (wOk c v))] ∧ ii = [] ∧ nn = []) := by
 refine fn_of Tryz.func226 rfl (Nat.le_of_ble_eq_true rfl) fun w X g => ?_
 show AWp _ _ _ ⟨[(0, .agg [.sl (c.1.map dT), .p (.int .i64 c.2)]), (1, .p (.int .i64 (v)))], []⟩
 refine rs ?_
 refine op_n' (fun ver => j_boxa rfl) fun v2x1 => ?_
 refine op_n' (fun ver => j_alloc elt69 rfl) fun v4x2 => ?_
 refine oa rfl ?_
 refine on ?_
 refine a_seq ?_
 refine rs ?_
 refine op_v' (j_loada_box (ys := [.sl _, .p _]) agg69 rfl rfl rfl (Nat.le_of_ble_eq_true rfl)) ?_
 refine op_v0' (j_call0 (v := .p _) (hp1 := []) [] false [] ent118 (f_cvSpec _) ⟨.inl ⟨rfl, rfl⟩, trivial⟩ trivial rfl rfl (fun h => by cases h) rfl (fun _ h => by cases h) (.inl rfl) rfl rfl) ?_
 refine op_v' (j_not rfl) ?_
 refine om rfl ?_
 refine op_split' 11 rfl (fun h1 => ?_) (fun h1 => ?_)
 ·
  have h1r := h1
  try simp only [nq, nr, nl] at h1
  refine op_v' (j_unwantV rfl rfl h1r) ?_
  refine op_v' (j_unwantV rfl rfl h1r) ?_
  refine op_v' (j_pick_t rfl h1r (evo rfl)) ?_
  refine om rfl ?_
  refine op_v' (j_unwantV rfl rfl rfl) ?_
  refine op_v' (j_unwantV rfl rfl rfl) ?_
  refine op_v' (j_pick_t rfl rfl (evo rfl)) ?_
  refine on ?_
  refine a_tt rfl ?_
  refine rs ?_
  refine op_v' (j_build (parts := []) str69 elt69 rfl rfl) ?_
  refine op_s' (j_storea_box0 agg69 rfl rfl rfl rfl rfl rfl) ?_
  refine oa rfl ?_
  refine on ?_
  refine a_adopt_box' 0 1004 135 2 (by decide) (id := 4) rfl rfl fun v1004x3 => ?_
  refine a_freezeboxK 0 4 (by decide) trivial rfl rfl rfl rfl ?_
  try dsimp only [List.set]
  refine a_ret ?_
  exact ⟨[.agg [.sl _, .p _], .p _], .tup [.agg [.sl _, .p _], .p _], [], [], [], ⟨⟨_, _, _, _, rfl, rfl, agg69, rfl⟩, rfl, trivial⟩, rfl, rfl, trivial, rfl, rfl, ⟨by have hq : wOk c v = false := wOk_no (by first | exact .inl h1 | exact .inr (by omega)); unfold weakC; rw [hq]; rfl, rfl, rfl⟩⟩
 have h1r := h1
 try simp only [nq, nr, nl] at h1
 refine op_v' (j_want rfl rfl h1r (j_move (evo rfl))) ?_
 refine op_v' (j_want rfl rfl h1r (j_lt rfl rfl)) ?_
 refine op_v' (j_pick_f rfl h1r (evo rfl)) ?_
 refine om rfl ?_
 refine op_split' 15 rfl (fun h2 => ?_) (fun h2 => ?_)
 ·
  have h2r := h2
  try simp only [nq, nr, nl] at h2
  refine op_v' (j_unwantV rfl rfl h2r) ?_
  refine op_v' (j_unwantV rfl rfl h2r) ?_
  refine op_v' (j_pick_t rfl h2r (evo rfl)) ?_
  refine on ?_
  refine a_tt rfl ?_
  refine rs ?_
  refine op_v' (j_build (parts := []) str69 elt69 rfl rfl) ?_
  refine op_s' (j_storea_box0 agg69 rfl rfl rfl rfl rfl rfl) ?_
  refine oa rfl ?_
  refine on ?_
  refine a_adopt_box' 0 1004 135 2 (by decide) (id := 4) rfl rfl fun v1004x4 => ?_
  refine a_freezeboxK 0 4 (by decide) trivial rfl rfl rfl rfl ?_
  try dsimp only [List.set]
  refine a_ret ?_
  exact ⟨[.agg [.sl _, .p _], .p _], .tup [.agg [.sl _, .p _], .p _], [], [], [], ⟨⟨_, _, _, _, rfl, rfl, agg69, rfl⟩, rfl, trivial⟩, rfl, rfl, trivial, rfl, rfl, ⟨by have hq : wOk c v = false := wOk_no (by first | exact .inl h1 | exact .inr (by omega)); unfold weakC; rw [hq]; rfl, rfl, rfl⟩⟩
 have h2r := h2
 try simp only [nq, nr, nl] at h2
 refine op_v' (j_want rfl rfl h2r (j_move (evo rfl))) ?_
 refine op_v' (j_want rfl rfl h2r (j_gt rfl rfl)) ?_
 refine op_v' (j_pick_f rfl h2r (evo rfl)) ?_
 refine on ?_
 refine ac rfl (fun h3 => ?_) fun h3 => ?_
 ·
  have h3r := h3
  try simp only [nq, nr, nl] at h3
  refine rs ?_
  refine op_v' (j_build (parts := []) str69 elt69 rfl rfl) ?_
  refine op_s' (j_storea_box0 agg69 rfl rfl rfl rfl rfl rfl) ?_
  refine oa rfl ?_
  refine on ?_
  refine a_adopt_box' 0 1004 135 2 (by decide) (id := 4) rfl rfl fun v1004x5 => ?_
  refine a_freezeboxK 0 4 (by decide) trivial rfl rfl rfl rfl ?_
  try dsimp only [List.set]
  refine a_ret ?_
  exact ⟨[.agg [.sl _, .p _], .p _], .tup [.agg [.sl _, .p _], .p _], [], [], [], ⟨⟨_, _, _, _, rfl, rfl, agg69, rfl⟩, rfl, trivial⟩, rfl, rfl, trivial, rfl, rfl, ⟨by have hq : wOk c v = false := wOk_no (by first | exact .inl h1 | exact .inr (by omega)); unfold weakC; rw [hq]; rfl, rfl, rfl⟩⟩
 have h3r := h3
 try simp only [nq, nr, nl] at h3
 refine a_skip ?_
 refine a_seq ?_
 have hk : 1 ≤ v ∧ v ≤ 12 := by omega
 have hln := cOk_len h1
 have hbd := cOk_bound h1
 refine ar ?_
 refine op_v' (j_fldp fld69f1 rfl rfl) ?_
 refine op_v' (j_load_box leaf3 rfl rfl rfl) ?_
 refine op_v' (j_build (parts := [(1, .tmp 21)]) str69 elt69 rfl rfl) ?_
 refine op_n' (fun ver => j_alloc elt69 rfl) fun v6x6 => ?_
 refine op_s' (j_storea_box0 agg69 rfl rfl rfl rfl rfl rfl) ?_
 refine on ?_
 refine a_adopt_box' 0 1006 135 2 (by decide) (id := 6) rfl rfl fun v1006x7 => ?_
 refine a_seq ?_
 refine rs ?_
 refine oa rfl ?_
 refine on ?_
 refine a_block ?_
 refine a_loopF' (ι := Nat × Nat) (fun x => x.1 ≤ c.1.length) (fun x r => (7, .p (.int .i64 ((x.1 : Nat)))) :: r) (fun x r => (6, some (v6x6, .box 69 [.own 1006 x.2, .p (.int .i64 (weakB v (c.1.take x.1) c.2))])) :: (1006, some (x.2, .row 135 2 ((weakT v (c.1.take x.1)).map dT))) :: r) (fun x => c.1.length - x.1) (fun _ _ => rfl) (fun _ _ => rfl) (0, v1006x7) (by first | exact (Nat.zero_le _) | (dsimp only; exact (Nat.zero_le _))) ⟨⟨rfl, rfl⟩, ⟨rfl, trivial⟩, ⟨rfl, rfl, trivial⟩, ⟨rfl, rfl⟩, ⟨rfl, rfl⟩⟩ ?_
 rintro ⟨i, vr⟩ hpre; dsimp only at hpre ⊢
 refine a_seq ?_
 refine rs ?_
 refine om rfl ?_
 refine op_v' (j_fldp fld69f0 rfl rfl) ?_
 refine op_v' (j_load_box leaf67 rfl rfl rfl) ?_
 refine op_v' (j_len_map Tryz.underlying67 rfl) ?_
 refine op_v' (j_lt rfl rfl) ?_
 refine on ?_
 refine ac rfl (fun h4 => ?_) fun h4 => ?_
 ·
  have h4r := h4
  try simp only [nq, nr, nl] at h4
  refine a_skip ?_
  refine a_seq ?_
  refine a_block ?_
  refine a_seq ?_
  have htm := cOk_terms h1 (k := i) (by omega)
  have hli := litOk_iff.1 htm.1
  have hwb := weakB_rng (v := v) (b := c.2) (ts := c.1.take i) (fun t ht => cOk_coefs h1 t (List.mem_of_mem_take ht))
  have hwl := weakT_len (v := v) (ts := c.1.take i)
  rw [List.length_take] at hwb hwl
  refine ar ?_
  refine op_v' (j_fldp fld69f0 rfl rfl) ?_
  refine op_v' (j_load_box leaf67 rfl rfl rfl) ?_
  refine om rfl ?_
  refine op_v' (j_elemN slt67 rfl rfl rfl (at_map (by first | omega | (simp only [nr, nl]; omega))) rfl) ?_
  refine op_v' (j_fldel fld135f1 rfl) ?_
  refine op_v' (j_load_el leaf3 rfl (at_map (by first | omega | (simp only [nr, nl]; omega))) rfl) ?_
  refine op_v0' (j_call0 (v := .p _) (hp1 := []) [] false [] ent171 (f_l1Abs _ (by first | omega | (simp only [nr, nl]; omega))) ⟨.inl ⟨rfl, rfl⟩, trivial⟩ trivial rfl rfl (fun h => by cases h) rfl (fun _ h => by cases h) (.inl rfl) rfl rfl) ?_
  refine om rfl ?_
  refine op_v' (j_eq rfl rfl) ?_
  refine on ?_
  refine ac rfl (fun h5 => ?_) fun h5 => ?_
  ·
   have h5r := h5
   try simp only [nq, nr, nl] at h5
   refine a_draw mixed (by kernel_rfl) (by kernel_rfl) fun vf => ?_
   refine d_v' (j_fldp fld69f1 rfl rfl) ?_
   refine d_v' (j_load_box leaf3 rfl rfl rfl) ?_
   refine d_v' (j_fldp fld69f0 rfl rfl) ?_
   refine d_v' (j_load_box leaf67 rfl rfl rfl) ?_
   refine d_v' (j_move (evo rfl)) ?_
   refine d_v' (j_elemN slt67 rfl rfl rfl (at_map (by first | omega | (simp only [nr, nl]; omega))) rfl) ?_
   refine d_v' (j_fldel fld135f0 rfl) ?_
   refine d_v' (j_load_el leaf3 rfl (at_map (by first | omega | (simp only [nr, nl]; omega))) rfl) ?_
   refine d_v' (j_sub rfl rfl (by first | omega | (simp only [nr, nl]; omega)) (by first | omega | (simp only [nr, nl]; omega))) ?_
   refine d_v' (j_fldp fld69f1 rfl rfl) ?_
   refine d_s' (j_store_box leaf3 rfl rfl (Nat.le_of_ble_eq_true rfl) (evo rfl) rfl) ?_
   refine d_nil (by kernel_rfl) (by kernel_rfl) ?_
   refine ar ?_
   refine om rfl ?_
   refine op_v' (j_add rfl rfl (by first | omega | (simp only [nr, nl]; omega)) (by first | omega | (simp only [nr, nl]; omega))) ?_
   refine oa rfl ?_
   refine on ?_
   exact ⟨(i + 1, vr), (by first | exact (by first | omega | (simp only [nr, nl]; omega)) | (dsimp only; exact (by first | omega | (simp only [nr, nl]; omega)))), ⟨⟨rfl, rfl⟩, ⟨rfl, trivial⟩, ⟨box2Eq (by rw [weakB_next (by omega), if_pos (by assumption)]), rowEq (by rw [weakT_next (by omega), if_pos (by assumption), List.append_nil]), trivial⟩, ⟨rfl, rfl⟩, ⟨rfl, rfl⟩⟩, (by first | exact (by first | omega | (simp only [nr, nl]; omega)) | (dsimp only; exact (by first | omega | (simp only [nr, nl]; omega))))⟩
  have h5r := h5
  try simp only [nq, nr, nl] at h5
  refine a_draw mixed (by kernel_rfl) (by kernel_rfl) fun vf => ?_
  refine d_v' (j_fldp fld69f0 rfl rfl) ?_
  refine d_v' (j_load_box leaf67 rfl rfl rfl) ?_
  refine d_v' (j_fldp fld69f0 rfl rfl) ?_
  refine d_v' (j_load_box leaf67 rfl rfl rfl) ?_
  refine d_v' (j_move (evo rfl)) ?_
  refine d_v' (j_elemN slt67 rfl rfl rfl (at_map (by first | omega | (simp only [nr, nl]; omega))) rfl) ?_
  refine d_v' (j_loada_el (ys := [.p _, .p _]) agg135 rfl (at_map (by first | omega | (simp only [nr, nl]; omega))) rfl (Nat.le_refl _)) ?_
  refine d_n' (fun ver => j_buildSlice (parts := [(0, .tmp 55)]) (es := [[_, _]]) slt67 elt135 rfl rfl (by decide) (by decide) rfl rfl (by simp) rfl) ?_
  refine d_n' (fun ver => j_append_own slt67 elt135 rfl rfl rfl rfl rfl rfl (by rw [maxLen_eq]; first | omega | (simp only [nr, nl]; omega)) (by first | omega | (simp only [nr, nl]; omega))) ?_
  refine d_v' (j_fldp fld69f0 rfl rfl) ?_
  refine d_s' (j_store_box leaf67 rfl rfl (Nat.le_of_ble_eq_true rfl) (evo rfl) rfl) ?_
  refine d_nil (by kernel_rfl) (by kernel_rfl) ?_
  refine ar ?_
  refine om rfl ?_
  refine op_v' (j_add rfl rfl (by first | omega | (simp only [nr, nl]; omega)) (by first | omega | (simp only [nr, nl]; omega))) ?_
  refine oa rfl ?_
  refine on ?_
  exact ⟨(i + 1, (vf 1006)), (by first | exact (by first | omega | (simp only [nr, nl]; omega)) | (dsimp only; exact (by first | omega | (simp only [nr, nl]; omega)))), ⟨⟨rfl, rfl⟩, ⟨rfl, trivial⟩, ⟨box2Eq (by rw [weakB_next (by omega), if_neg (by assumption)]), rowEq (by rw [weakT_next (by omega), if_neg (by assumption), List.map_append]; rfl), trivial⟩, ⟨rfl, rfl⟩, ⟨rfl, rfl⟩⟩, (by first | exact (by first | omega | (simp only [nr, nl]; omega)) | (dsimp only; exact (by first | omega | (simp only [nr, nl]; omega))))⟩
 have h4r := h4
 try simp only [nq, nr, nl] at h4
 refine a_exit ?_
 refine a_seq ?_
 refine rs ?_
 refine op_v' (j_fldp fld69f1 rfl rfl) ?_
 refine op_v' (j_load_box leaf3 rfl rfl rfl) ?_
 refine op_v' (j_lt rfl rfl) ?_
 refine on ?_
 refine ac rfl (fun h6 => ?_) fun h6 => ?_
 ·
  have h6r := h6
  try simp only [nq, nr, nl] at h6
  refine ar ?_
  refine op_v' (j_fldp fld69f1 rfl rfl) ?_
  refine op_s' (j_store_box leaf3 rfl rfl (Nat.le_of_ble_eq_true rfl) (evo rfl) rfl) ?_
  refine on ?_
  refine rs ?_
  refine op_v' (j_loada_box (ys := [.own 1006 vr, .p _]) agg69 rfl rfl rfl (Nat.le_of_ble_eq_true rfl)) ?_
  refine op_s' (j_storea_box0 agg69 rfl rfl rfl rfl rfl rfl) ?_
  refine oa rfl ?_
  refine on ?_
  refine a_freezeboxK 0 4 (by decide) trivial rfl rfl rfl rfl ?_
  try dsimp only [List.set]
  refine a_ret ?_
  exact ⟨[.agg [.sl _, .p _], .p _], .tup [.agg [.sl _, .p _], .p _], [], [], [], ⟨⟨_, _, _, _, rfl, rfl, agg69, rfl⟩, rfl, trivial⟩, rfl, rfl, trivial, rfl, rfl, ⟨by unfold weakC; rw [wOk_of h1 hk, show i = c.1.length by omega, List.take_length]; (try rw [show i = c.1.length by omega, List.take_length] at *); first | (rw [if_pos rfl, Int.max_eq_right (by omega)]) | (rw [if_pos rfl, Int.max_eq_left (by omega)]), rfl, rfl⟩⟩
 have h6r := h6
 try simp only [nq, nr, nl] at h6
 refine a_skip ?_
 refine rs ?_
 refine op_v' (j_loada_box (ys := [.own 1006 vr, .p _]) agg69 rfl rfl rfl (Nat.le_of_ble_eq_true rfl)) ?_
 refine op_s' (j_storea_box0 agg69 rfl rfl rfl rfl rfl rfl) ?_
 refine oa rfl ?_
 refine on ?_
 refine a_freezeboxK 0 4 (by decide) trivial rfl rfl rfl rfl ?_
 try dsimp only [List.set]
 refine a_ret ?_
 exact ⟨[.agg [.sl _, .p _], .p _], .tup [.agg [.sl _, .p _], .p _], [], [], [], ⟨⟨_, _, _, _, rfl, rfl, agg69, rfl⟩, rfl, trivial⟩, rfl, rfl, trivial, rfl, rfl, ⟨by unfold weakC; rw [wOk_of h1 hk, show i = c.1.length by omega, List.take_length]; (try rw [show i = c.1.length by omega, List.take_length] at *); first | (rw [if_pos rfl, Int.max_eq_right (by omega)]) | (rw [if_pos rfl, Int.max_eq_left (by omega)]), rfl, rfl⟩⟩
end Go.Ab

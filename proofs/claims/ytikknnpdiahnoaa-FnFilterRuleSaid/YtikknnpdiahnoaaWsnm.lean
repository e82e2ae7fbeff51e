/- Walks. -/
import Derived.Test.YtikknnpdiahnoaaBase
import Derived.Test.YtikknnpdiahnoaaLf2
import Derived.Test.YtikknnpdiahnoaaWsfm
import Derived.Test.YtikknnpdiahnoaaWsflt
namespace Go.Ab
open Go.Proofs
set_option maxRecDepth 100000
set_option maxHeartbeats 8000000
set_option linter.unusedSimpArgs false
set_option linter.unusedVariables false
theorem f_idx_Rule_sl (e : Nat) (es : List (List V)) (F : Nat) (l : List (Rl)) (p : Rl → Bool) (hE : Ent' Try.prog F) (hF : ∀ a ∈ l, Fn Try.prog F [.agg [.p (.int .i64 a.1), .sl (a.2.1.map dI), .sl (a.2.2.1.map dI), .p (.int .i64 a.2.2.2.1), .sl (a.2.2.2.2.map dL)], .ptr 0 0 0] [.box e [.sl es]] (fun r i n => r = .p (.bool (p a)) ∧ i = [.box e [.sl es]] ∧ n = [])) : Fn Try.prog 114 [.sl (l.map dR), .fn F [.ptr 0 0 0]] [.box e [.sl es]] (fun rr ii nn => rr = .p (.int .i64 (idxF p l 0)) ∧ ii = [.box e [.sl es]] ∧ nn = []) := by
 refine fn_of Try.func114 rfl (Nat.le_of_ble_eq_true rfl) fun w X g => ?_
 show AWp _ _ _ ⟨[(0, .sl (l.map dR)), (1, .fn F [.ptr 0 0 0])], [(0, some (0, .box e [.sl es]))]⟩
 refine a_len_map 0 rfl fun hlen => ?_
 refine a_seq ?_
 refine a_region (by kernel_rfl) ?_
 refine op_v' (j_assign (evo rfl)) ?_
 refine op_nil ?_
 refine a_seq ?_
 refine a_seq ?_
 refine a_region (by kernel_rfl) ?_
 refine op_v' (j_move (evo rfl)) ?_
 refine op_v' (j_len_map Try.underlying24 rfl) ?_
 refine op_v' (j_move (evo rfl)) ?_
 refine op_nil ?_
 refine a_block ?_
 refine a_loopF' (ι := Nat) (fun k => k ≤ l.length ∧ idxF p l 0 = idxF p (l.drop k) (k : Int)) (fun k r => (8, .p (.int .i64 ((k : Nat)))) :: r) (fun k r => (0, some (0, .box e [.sl es])) :: r) (fun k => l.length - k) (fun _ _ => rfl) (fun _ _ => rfl) 0 ⟨Nat.zero_le _, rfl⟩ ⟨⟨rfl, rfl⟩, ⟨rfl, trivial⟩, ⟨rfl, trivial⟩, ⟨rfl, rfl⟩, ⟨rfl, rfl⟩⟩ ?_
 intro k hpre
 refine a_seq ?_
 refine a_region (by kernel_rfl) ?_
 refine op_v' (j_lt rfl rfl) ?_
 refine op_nil ?_
 refine a_seq ?_
 refine a_cond rfl (fun h1 => ?_) (fun h1 => ?_)
 ·
  have h1r := h1
  try simp only [nq, nr] at h1
  refine a_skip ?_
  refine a_seq ?_
  refine a_block ?_
  refine a_seq ?_
  refine a_region (by kernel_rfl) ?_
  refine op_v' (j_move (evo rfl)) ?_
  refine op_v' (j_assign (evo rfl)) ?_
  refine op_nil ?_
  refine a_seq ?_
  refine a_region (by kernel_rfl) ?_
  refine op_v' (j_move (evo rfl)) ?_
  refine op_v' (j_move (evo rfl)) ?_
  refine op_v' (j_move (evo rfl)) ?_
  refine op_v' (j_elemN slt24 rfl rfl rfl (at_map (by omega)) rfl) ?_
  refine op_v' (j_loada_el (ys := [.p _, .sl _, .sl _, .p _, .sl _]) agg43 rfl (at_map (by omega)) rfl (Nat.le_refl _)) ?_
  refine op_v0' (j_callF0 (v := .p _) (hp1 := [(0, some (0, .box e [.sl _]))]) [(0, 0)] false [0] rfl hE (hF (l.getD k default) (getD_mem (by omega))) ⟨.inl ⟨rfl, rfl⟩, .inl ⟨rfl, rfl⟩, trivial⟩ ⟨⟨rfl, rfl⟩, trivial⟩ rfl rfl (fun h => by cases h) rfl (List.all_eq_true.1 rfl) (.inl rfl) rfl rfl) ?_
  refine op_nil ?_
  refine a_cond rfl (fun h2 => ?_) (fun h2 => ?_)
  ·
   have h2r := h2
   try simp only [nq, nr] at h2
   refine a_seq ?_
   refine a_region (by kernel_rfl) ?_
   refine op_v' (j_move (evo rfl)) ?_
   refine op_v' (j_assign (evo rfl)) ?_
   refine op_nil ?_
   refine a_ret ?_
   exact ⟨[.p _], .p _, [.box e [.sl _]], [], [], ⟨rfl, trivial⟩, rfl, rfl, ⟨⟨rfl, rfl⟩, trivial⟩, rfl, rfl, ⟨intEq (by rw [hpre.2, idxF_hit (d := default) (by omega) (by assumption)]), rfl, rfl⟩⟩
  ·
   have h2r := h2
   try simp only [nq, nr] at h2
   refine a_skip ?_
   refine a_region (by kernel_rfl) ?_
   refine op_v' (j_add rfl rfl (by omega) (by omega)) ?_
   refine op_v' (j_move (evo rfl)) ?_
   refine op_nil ?_
   exact ⟨k + 1, ⟨by omega, by rw [hpre.2, idxF_skip (d := default) (by omega) (by assumption)]⟩, ⟨⟨rfl, rfl⟩, ⟨rfl, trivial⟩, ⟨rfl, trivial⟩, ⟨rfl, rfl⟩, ⟨rfl, rfl⟩⟩, (by omega)⟩
 ·
  have h1r := h1
  try simp only [nq, nr] at h1
  refine a_exit ?_
  refine a_seq ?_
  refine a_region (by kernel_rfl) ?_
  refine op_v' (j_assign (evo rfl)) ?_
  refine op_nil ?_
  refine a_ret ?_
  exact ⟨[.p _], .p _, [.box e [.sl _]], [], [], ⟨rfl, trivial⟩, rfl, rfl, ⟨⟨rfl, rfl⟩, trivial⟩, rfl, rfl, ⟨intEq (by rw [hpre.2, idxF_end (by omega)]), rfl, rfl⟩⟩


theorem f_ctf_Rule_sl (e : Nat) (es : List (List V)) (F : Nat) (l : List (Rl)) (p : Rl → Bool) (hE : Ent' Try.prog F) (hF : ∀ a ∈ l, Fn Try.prog F [.agg [.p (.int .i64 a.1), .sl (a.2.1.map dI), .sl (a.2.2.1.map dI), .p (.int .i64 a.2.2.2.1), .sl (a.2.2.2.2.map dL)], .ptr 0 0 0] [.box e [.sl es]] (fun r i n => r = .p (.bool (p a)) ∧ i = [.box e [.sl es]] ∧ n = [])) : Fn Try.prog 59 [.sl (l.map dR), .fn F [.ptr 0 0 0]] [.box e [.sl es]] (fun rr ii nn => rr = .p (.bool (l.any p)) ∧ ii = [.box e [.sl es]] ∧ nn = []) := by
 refine fn_of Try.func59 rfl (Nat.le_of_ble_eq_true rfl) fun w X g => ?_
 show AWp _ _ _ ⟨[(0, .sl (l.map dR)), (1, .fn F [.ptr 0 0 0])], [(0, some (0, .box e [.sl es]))]⟩
 refine a_seq ?_
 refine a_region (by kernel_rfl) ?_
 refine op_v' (j_assign (evo rfl)) ?_
 refine op_nil ?_
 refine a_seq ?_
 refine a_region (by kernel_rfl) ?_
 refine op_v' (j_move (evo rfl)) ?_
 refine op_v' (j_move (evo rfl)) ?_
 refine op_v0' (j_call0 (v := .p _) (hp1 := [(0, some (0, .box e [.sl _]))]) [(0, 0)] false [0] ent114 (f_idx_Rule_sl e es F l p hE hF) ⟨.inl ⟨rfl, rfl⟩, .inl ⟨rfl, rfl⟩, trivial⟩ ⟨⟨rfl, rfl⟩, trivial⟩ rfl rfl (fun h => by cases h) rfl (List.all_eq_true.1 rfl) (.inl rfl) rfl rfl) ?_
 refine op_v' (j_ge rfl rfl) ?_
 refine op_v' (j_assign (evo rfl)) ?_
 refine op_nil ?_
 refine a_ret ?_
 exact ⟨[.p _], .p _, [.box e [.sl _]], [], [], ⟨rfl, trivial⟩, rfl, rfl, ⟨⟨rfl, rfl⟩, trivial⟩, rfl, rfl, ⟨boolEq (idxF_any (Int.le_refl 0)), rfl, rfl⟩⟩


theorem f_sol1 (n : Int) (q : Rl) (c : List Int) (hr : rOk n q = true) (hc : (c.length : Int) = n ∧ ∀ k, k < c.length → 0 ≤ c.getD k default ∧ c.getD k default ≤ 3) (hl : q.2.1.length ≤ 1048576) : Fn Try.prog 131 [.agg [.p (.int .i64 q.1), .sl (q.2.1.map dI), .sl (q.2.2.1.map dI), .p (.int .i64 q.2.2.2.1), .sl (q.2.2.2.2.map dL)], .ptr 0 0 0] [.box 23 [.sl (c.map dI)]] (fun rr ii nn => rr = .p (.bool (!holdB q (valsC q.2.1 c))) ∧ ii = [.box 23 [.sl (c.map dI)]] ∧ nn = []) := by
 refine fn_of Try.func131 rfl (Nat.le_of_ble_eq_true rfl) fun w X g => ?_
 show AWp _ _ _ ⟨[(0, .agg [.p (.int .i64 q.1), .sl (q.2.1.map dI), .sl (q.2.2.1.map dI), .p (.int .i64 q.2.2.2.1), .sl (q.2.2.2.2.map dL)]), (1, .ptr 0 0 0)], [(0, some (0, .box 23 [.sl (c.map dI)]))]⟩
 refine a_seq ?_
 refine a_region (by kernel_rfl) ?_
 refine op_n' (fun ver => j_boxa rfl) fun v2x1 => ?_
 refine op_v' (j_assign (evo rfl)) ?_
 refine op_nil ?_
 refine a_seq ?_
 refine a_region (by kernel_rfl) ?_
 refine op_v' (j_loada_box (ys := [.p _, .sl _, .sl _, .p _, .sl _]) agg43 rfl rfl rfl (Nat.le_of_ble_eq_true rfl)) ?_
 refine op_v' (j_load_box leaf23 rfl rfl rfl) ?_
 refine op_v0' (j_call0 (v := .p _) (hp1 := []) [] false [] ent125 (f_at n q c hr hc hl) ⟨.inl ⟨rfl, rfl⟩, .inl ⟨rfl, rfl⟩, trivial⟩ trivial rfl rfl (fun h => by cases h) rfl (fun _ h => by cases h) (.inl rfl) rfl rfl) ?_
 refine op_v' (j_not rfl) ?_
 refine op_v' (j_assign (evo rfl)) ?_
 refine op_nil ?_
 refine a_ret ?_
 exact ⟨[.p _], .p _, [.box 23 [.sl _]], [], [], ⟨rfl, trivial⟩, rfl, rfl, ⟨⟨rfl, rfl⟩, trivial⟩, rfl, rfl, ⟨rfl, rfl, rfl⟩⟩


theorem f_solves (m : Md) (c : List Int) (hm : mOk m = true) (hc : cvL m.1 c = true) (hw : wRS m.2 ≤ 1048576) : Fn Try.prog 87 [.agg [.sl (m.1.map dI), .sl (m.2.map dR)], .sl (c.map dI)] [] (fun rr ii nn => rr = .p (.bool (solB m c)) ∧ ii = [] ∧ nn = []) := by
 refine fn_of Try.func87 rfl (Nat.le_of_ble_eq_true rfl) fun w X g => ?_
 show AWp _ _ _ ⟨[(0, .agg [.sl (m.1.map dI), .sl (m.2.map dR)]), (1, .sl (c.map dI))], []⟩
 have hc3 := cv_three hm hc
 refine a_seq ?_
 refine a_region (by kernel_rfl) ?_
 refine op_n' (fun ver => j_boxa rfl) fun v2x1 => ?_
 refine op_n' (fun ver => j_box (evo rfl) rfl) fun v3x2 => ?_
 refine op_v' (j_assign (evo rfl)) ?_
 refine op_nil ?_
 refine a_seq ?_
 refine a_region (by kernel_rfl) ?_
 refine op_v' (j_fldp fld26f1 rfl rfl) ?_
 refine op_v' (j_load_box leaf24 rfl rfl rfl) ?_
 refine op_v' (j_makeFunc (f := 131) (xs := [.tmp 3]) (caps := [.ptr 3 v3x2 0]) rfl) ?_
 refine op_v0' (j_call0 (v := .p _) (hp1 := [(3, some (v3x2, .box 23 [.sl _]))]) [(3, v3x2)] false [3] ent59 (f_ctf_Rule_sl 23 (c.map dI) 131 m.2 (fun r => !holdB r (valsC r.2.1 c)) ent131 (fun r hr => f_sol1 m.1.length r c (mOk_mem hm hr) hc3 (wRS_mem hw hr))) ⟨.inl ⟨rfl, rfl⟩, .inl ⟨rfl, rfl⟩, trivial⟩ ⟨⟨rfl, rfl⟩, trivial⟩ rfl rfl (fun h => by cases h) rfl (List.all_eq_true.1 rfl) (.inl rfl) rfl rfl) ?_
 refine op_v' (j_not rfl) ?_
 refine op_v' (j_assign (evo rfl)) ?_
 refine op_nil ?_
 refine a_ret ?_
 exact ⟨[.p _], .p _, [], [], [], ⟨rfl, trivial⟩, rfl, rfl, trivial, rfl, rfl, ⟨boolEq (by unfold solB; rw [← not_any_not]), rfl, rfl⟩⟩


theorem f_nx1 (m : Md) (c : List Int) (hm : mOk m = true) (hc : cvL m.1 c = true) (hw : wRS m.2 ≤ 1048576) : Fn Try.prog 86 [.own 2 0, .ptr 0 0 0, .ptr 1 0 0] [.box 26 [.sl (m.1.map dI), .sl (m.2.map dR)], .box 23 [.p (.slice none 0 0)], .row 3 1 (c.map dI)] (fun rr ii nn => rr = .p (.bool (!solB m c)) ∧ ii = [.box 26 [.sl (m.1.map dI), .sl (m.2.map dR)], .box 23 [(outV (if solB m c then some c else none))], .row 3 1 (c.map dI)] ∧ nn = []) := by
 refine fn_of Try.func86 rfl (Nat.le_of_ble_eq_true rfl) fun w X g => ?_
 show AWp _ _ _ ⟨[(0, .own 2 0), (1, .ptr 0 0 0), (2, .ptr 1 0 0)], [(0, some (0, .box 26 [.sl (m.1.map dI), .sl (m.2.map dR)])), (1, some (0, .box 23 [.p (.slice none 0 0)])), (2, some (0, .row 3 1 (c.map dI)))]⟩
 have hms := mOk_sz hm
 have hcv := cv_at hc
 refine a_seq ?_
 refine a_region (by kernel_rfl) ?_
 refine op_v' (j_assign (evo rfl)) ?_
 refine op_nil ?_
 refine a_seq ?_
 refine a_seq ?_
 refine a_region (by kernel_rfl) ?_
 refine op_v' (j_loada_box (ys := [.sl _, .sl _]) agg26 rfl rfl rfl (Nat.le_of_ble_eq_true rfl)) ?_
 refine op_v' (j_move (evo rfl)) ?_
 refine op_v0' (j_call0 (v := .p _) (hp1 := []) [] true [2] ent87 (f_solves m c hm hc hw) ⟨.inl ⟨rfl, rfl⟩, .inr ⟨rfl, view_own rfl rfl, rfl⟩, trivial⟩ trivial rfl rfl (fun _ => rfl) rfl (fun _ h => by cases h) (.inr ⟨rfl, by first | exact pl_new1 (fun _ => rfl) | exact pl_newC | (simp [plO, plV, plV.plL]; done)⟩) rfl rfl) ?_
 refine op_nil ?_
 refine a_cond rfl (fun h1 => ?_) (fun h1 => ?_)
 ·
  have h1r := h1
  try simp only [nq, nr] at h1
  refine a_region (by kernel_rfl) ?_
  refine op_v' (j_move (evo rfl)) ?_
  refine op_n1' (fun ver => j_call1 (v := .own 9 ver) (hp1 := [(9, some (ver, .row 3 1 _))]) [] true [2] ent88 (f_cloneI2 c (by omega)) ⟨.inr ⟨rfl, view_own rfl rfl, rfl⟩, trivial⟩ trivial rfl rfl rfl (fun _ => rfl) rfl (List.all_eq_true.1 rfl) (.inr ⟨rfl, by first | exact pl_new1 (fun _ => rfl) | exact pl_newC | (simp [plO, plV, plV.plL]; done)⟩) rfl rfl) fun v9x1 => ?_
  refine op_freezeK 9 ⟨⟨_, _, rfl⟩, ⟨_, _, rfl⟩, ⟨_, _, _, rfl⟩, trivial⟩ rfl rfl rfl ?_
  refine op_s' (j_store_box leaf23 rfl rfl (Nat.le_of_ble_eq_true rfl) (evo rfl) rfl) ?_
  refine op_nil ?_
  refine a_seq ?_
  refine a_region (by kernel_rfl) ?_
  refine op_v' (j_load_box leaf23 rfl rfl rfl) ?_
  refine op_v' (j_eqnil_s Try.underlying23 rfl (cvl_ne hm hc)) ?_
  refine op_v' (j_assign (evo rfl)) ?_
  refine op_nil ?_
  refine a_ret ?_
  exact ⟨[.p _], .p _, [.box 26 [.sl _, .sl _], .box 23 [.sl _], .row 3 1 _], [], [], ⟨rfl, trivial⟩, rfl, rfl, ⟨⟨rfl, rfl⟩, ⟨rfl, rfl⟩, ⟨rfl, rfl⟩, trivial⟩, rfl, rfl, ⟨boolEq (by simp_all), by simp only [show solB m c = _ by assumption]; rfl, rfl⟩⟩
 ·
  have h1r := h1
  try simp only [nq, nr] at h1
  refine a_skip ?_
  refine a_seq ?_
  refine a_region (by kernel_rfl) ?_
  refine op_v' (j_load_box leaf23 rfl rfl rfl) ?_
  refine op_v' (j_eqnil_n Try.underlying23 rfl) ?_
  refine op_v' (j_assign (evo rfl)) ?_
  refine op_nil ?_
  refine a_ret ?_
  exact ⟨[.p _], .p _, [.box 26 [.sl _, .sl _], .box 23 [.p _], .row 3 1 _], [], [], ⟨rfl, trivial⟩, rfl, rfl, ⟨⟨rfl, rfl⟩, ⟨rfl, rfl⟩, ⟨rfl, rfl⟩, trivial⟩, rfl, rfl, ⟨boolEq (by simp_all), by simp only [show solB m c = _ by assumption]; rfl, rfl⟩⟩


theorem f_eachN (F : Nat) (m : Md) (c : List Int) (e : Option (List Int)) (hm : mOk m = true) (hc : cvL m.1 c = true) (he : nmS m c = e) (hE : Ent' Try.prog F) (hF : ∀ (c : List Int), cvL m.1 c = true → Fn Try.prog F [.own 2 0, .ptr 0 0 0, .ptr 1 0 0] [.box 26 [.sl (m.1.map dI), .sl (m.2.map dR)], .box 23 [.p (.slice none 0 0)], .row 3 1 (c.map dI)] (fun r i n => r = .p (.bool (!solB m c)) ∧ i = [.box 26 [.sl (m.1.map dI), .sl (m.2.map dR)], .box 23 [(outV (if solB m c then some c else none))], .row 3 1 (c.map dI)] ∧ n = [])) : Fn Try.prog 85 [.sl (m.1.map dI), .sl (c.map dI), .fn F [.ptr 0 0 0, .ptr 1 0 0]] [.box 26 [.sl (m.1.map dI), .sl (m.2.map dR)], .box 23 [.p (.slice none 0 0)]] (fun rr ii nn => rr = .tup [] ∧ ii = [.box 26 [.sl (m.1.map dI), .sl (m.2.map dR)], .box 23 [outV e]] ∧ nn = []) := by
 refine fn_of Try.func85 rfl (Nat.le_of_ble_eq_true rfl) fun w X g => ?_
 show AWp _ _ _ ⟨[(0, .sl (m.1.map dI)), (1, .sl (c.map dI)), (2, .fn F [.ptr 0 0 0, .ptr 1 0 0])], [(0, some (0, .box 26 [.sl (m.1.map dI), .sl (m.2.map dR)])), (1, some (0, .box 23 [.p (.slice none 0 0)]))]⟩
 have hms := mOk_sz hm
 have hcv0 := cv_at hc
 refine a_seq ?_
 refine a_region (by kernel_rfl) ?_
 refine op_v' (j_move (evo rfl)) ?_
 refine op_n1' (fun ver => j_call1 (v := .own 9 ver) (hp1 := [(9, some (ver, .row 3 1 _))]) [] false [] ent88 (f_cloneI2 c (by omega)) ⟨.inl ⟨rfl, rfl⟩, trivial⟩ trivial rfl rfl rfl (fun h => by cases h) rfl (List.all_eq_true.1 rfl) (.inl rfl) rfl rfl) fun v9x1 => ?_
 refine op_v' (j_assign (evo rfl)) ?_
 refine op_nil ?_
 refine a_block ?_
 refine a_loopF' (ι := List Int) (fun x => cvL m.1 x = true ∧ nmS m x = e) (fun x r => r) (fun x r => (0, some (0, .box 26 [.sl (m.1.map dI), .sl (m.2.map dR)])) :: (1, some (0, .box 23 [.p (.slice none 0 0)])) :: (9, some (v9x1, .row 3 1 (x.map dI))) :: r) (fun x => prS m.1 - vlS m.1 x) (fun _ _ => rfl) (fun _ _ => rfl) c (by first | exact ⟨hc, he⟩ | (dsimp only; exact ⟨hc, he⟩)) ⟨⟨rfl, rfl⟩, trivial, ⟨rfl, rfl, rfl, trivial⟩, ⟨rfl, rfl⟩, ⟨rfl, rfl⟩⟩ ?_
 rintro c1 hk
 refine a_seq ?_
 refine a_seq ?_
 have hcv := cv_at hk.1
 refine a_region (by kernel_rfl) ?_
 refine op_v' (j_move (evo rfl)) ?_
 refine op_v' (j_move (evo rfl)) ?_
 refine op_v0' (j_callF0 (v := .p _) (hp1 := [(0, some (0, .box 26 [.sl _, .sl _])), (1, some (0, .box 23 [_])), (9, some (v9x1, .row 3 1 _))]) [(0, 0), (1, 0), (9, v9x1)] false [9, 0, 1] rfl hE (hF c1 hk.1) ⟨.inl ⟨rfl, rfl⟩, .inl ⟨rfl, rfl⟩, .inl ⟨rfl, rfl⟩, trivial⟩ ⟨⟨rfl, rfl⟩, ⟨rfl, rfl⟩, ⟨rfl, rfl⟩, trivial⟩ rfl rfl (fun h => by cases h) rfl (List.all_eq_true.1 (by cases solB m c1 <;> rfl)) (.inl rfl) rfl rfl) ?_
 refine op_nil ?_
 refine a_cond rfl (fun h1 => ?_) (fun h1 => ?_)
 ·
  have h1r := h1
  try simp only [nq, nr, nl] at h1
  rw [ren_out]
  have hrn := nm_next hk.1 (show solB m c1 = false by assumption)
  refine a_skip ?_
  refine a_block ?_
  refine a_seq ?_
  refine a_region (by kernel_rfl) ?_
  refine op_v' (j_move (evo rfl)) ?_
  refine op_v' (j_len_own_map Try.underlying23 rfl rfl) ?_
  refine op_v' (j_sub rfl rfl (by first | omega | (simp only [nr, nl]; omega)) (by first | omega | (simp only [nr, nl]; omega))) ?_
  refine op_v' (j_assign (evo rfl)) ?_
  refine op_nil ?_
  refine a_seq ?_
  refine a_block ?_
  refine a_loopF' (ι := Nat × List Int) (fun x => x.1 ≤ c1.length ∧ x.2.length = c1.length ∧ (∀ i, i < x.1 → 0 ≤ x.2.getD i default ∧ x.2.getD i default ≤ m.1.getD i default) ∧ nxt m.1 x.2 x.1 = (nxt m.1 c1 c1.length)) (fun x r => (7, .p (.int .i64 ((x.1 : Int) - 1))) :: r) (fun x r => (9, some (v9x1, .row 3 1 (x.2.map dI))) :: r) (fun x => x.1) (fun _ _ => rfl) (fun _ _ => rfl) (c1.length, c1) (by first | exact ⟨Nat.le_refl _, rfl, (fun i hi => hcv.2 i hi), rfl⟩ | (dsimp only; exact ⟨Nat.le_refl _, rfl, (fun i hi => hcv.2 i hi), rfl⟩)) ⟨⟨rfl, rfl⟩, ⟨intEq (by omega), trivial⟩, ⟨rfl, trivial⟩, ⟨rfl, rfl⟩, ⟨rfl, rfl⟩⟩ ?_
  rintro ⟨k, ee⟩ hk2; dsimp only at hk2 ⊢
  refine a_seq ?_
  refine a_seq ?_
  refine a_draw mixed (by kernel_rfl) (by kernel_rfl) fun vf => ?_
  refine d_v' (j_move (evo rfl)) ?_
  refine d_v' (j_ge rfl rfl) ?_
  refine d_v' (j_move (evo rfl)) ?_
  refine d_split' 18 rfl (fun h2 => ?_) (fun h2 => ?_)
  ·
   have h2r := h2
   try simp only [nq, nr, nl] at h2
   refine d_v' (j_want rfl rfl h2r (j_move (evo rfl))) ?_
   refine d_v' (j_want rfl rfl h2r (j_move (evo rfl))) ?_
   refine d_v' (j_want rfl rfl h2r (j_elem_ownN (n := (k - 1)) slt23 rfl rfl rfl (by omega) (by first | omega | (simp only [nr, nl]; omega)))) ?_
   refine d_v' (j_want rfl rfl h2r (j_load_pel leaf3 rfl rfl (at_map (by first | omega | (simp only [nr, nl]; omega))) rfl)) ?_
   refine d_v' (j_want rfl rfl h2r (j_move (evo rfl))) ?_
   refine d_v' (j_want rfl rfl h2r (j_move (evo rfl))) ?_
   refine d_v' (j_want rfl rfl h2r (j_elemN (n := (k - 1)) slt23 rfl rfl (by omega) (at_map (by first | omega | (simp only [nr, nl]; omega))) rfl)) ?_
   refine d_v' (j_want rfl rfl h2r (j_load_el leaf3 rfl (at_map (by first | omega | (simp only [nr, nl]; omega))) rfl)) ?_
   refine d_v' (j_want rfl rfl h2r (j_eq rfl rfl)) ?_
   refine d_v' (j_pick_t rfl h2r (evo rfl)) ?_
   refine d_nil (by kernel_rfl) (by kernel_rfl) ?_
   refine a_cond rfl (fun h3 => ?_) (fun h3 => ?_)
   ·
    have h3r := h3
    try simp only [nq, nr, nl] at h3
    refine a_skip ?_
    refine a_block ?_
    refine a_seq ?_
    refine a_region (by kernel_rfl) ?_
    refine op_v' (j_move (evo rfl)) ?_
    refine op_v' (j_move (evo rfl)) ?_
    refine op_v' (j_elem_ownN (n := (k - 1)) slt23 rfl rfl rfl (by omega) (by first | omega | (simp only [nr, nl]; omega))) ?_
    refine op_s' (j_store_row leaf3 rfl rfl (by first | omega | (simp only [nr, nl]; omega)) (evo rfl) rfl rfl) ?_
    refine op_nil ?_
    refine a_region (by kernel_rfl) ?_
    refine op_v' (j_move (evo rfl)) ?_
    refine op_v' (j_sub rfl rfl (by first | omega | (simp only [nr, nl]; omega)) (by first | omega | (simp only [nr, nl]; omega))) ?_
    refine op_v' (j_assign (evo rfl)) ?_
    refine op_nil ?_
    exact ⟨(k - 1, ee.set (k - 1) 0), (by first | exact ⟨by omega, by rw [List.length_set]; exact hk2.2.1, fun i hi => by rw [getD_setne (by omega)]; exact hk2.2.2.1 i (by omega), by rw [← hk2.2.2.2, nxt_at (k := k) (by omega), if_neg (by omega)]⟩ | (dsimp only; exact ⟨by omega, by rw [List.length_set]; exact hk2.2.1, fun i hi => by rw [getD_setne (by omega)]; exact hk2.2.2.1 i (by omega), by rw [← hk2.2.2.2, nxt_at (k := k) (by omega), if_neg (by omega)]⟩)), ⟨⟨rfl, rfl⟩, ⟨intEq (by omega), trivial⟩, ⟨rowEq (List.map_set ..).symm, trivial⟩, ⟨rfl, rfl⟩, ⟨rfl, rfl⟩⟩, (by first | exact (by omega) | (dsimp only; exact (by omega)))⟩
   ·
    have h3r := h3
    try simp only [nq, nr, nl] at h3
    refine a_exit ?_
    refine a_seq ?_
    refine a_seq ?_
    refine a_region (by kernel_rfl) ?_
    refine op_v' (j_move (evo rfl)) ?_
    refine op_v' (j_lt rfl rfl) ?_
    refine op_nil ?_
    refine a_cond rfl (fun h4 => ?_) (fun h4 => ?_)
    ·
     have h4r := h4
     try simp only [nq, nr, nl] at h4
     refine a_ret ?_
     have h9 : (if solB m c1 = true then some c1 else none) = e := by first | (have hq : (nxt m.1 c1 c1.length) = (ee, false) := (by rw [← hk2.2.2.2, show k = 0 by omega]; rfl); rw [← hk.2, show solB m c1 = false by assumption]; unfold nmS; rw [hrn.1, hq]; rfl) | (rw [← hk.2, nmS_hit hk.1 (show solB m c1 = true by assumption), show solB m c1 = true by assumption]; rfl)
     rw [h9]
     exact ⟨[], .tup [], [.box 26 [.sl _, .sl _], .box 23 [outV e]], [], [], trivial, rfl, rfl, ⟨⟨rfl, rfl⟩, ⟨(out_ob rfl), okO_out⟩, trivial⟩, rfl, rfl, ⟨rfl, rfl, rfl⟩⟩
    ·
     have h4r := h4
     try simp only [nq, nr, nl] at h4
     refine a_skip ?_
     have hek := hk2.2.2.1 (k - 1) (by omega)
     have hmk := hms.2 (k - 1) (by omega)
     have hq : (nxt m.1 c1 c1.length) = (ee.set (k - 1) (ee.getD (k - 1) default + 1), true) := by rw [← hk2.2.2.2, nxt_at (by omega), if_pos (by omega)]
     rw [hq] at hrn
     have hr2 := hrn.2.2 rfl
     refine a_region (by kernel_rfl) ?_
     refine op_v' (j_move (evo rfl)) ?_
     refine op_v' (j_move (evo rfl)) ?_
     refine op_v' (j_elem_ownN (n := (k - 1)) slt23 rfl rfl rfl (by omega) (by first | omega | (simp only [nr, nl]; omega))) ?_
     refine op_v' (j_load_pel leaf3 rfl rfl (at_map (by first | omega | (simp only [nr, nl]; omega))) rfl) ?_
     refine op_v' (j_add rfl rfl (by first | omega | (simp only [nr, nl]; omega)) (by first | omega | (simp only [nr, nl]; omega))) ?_
     refine op_v' (j_elem_ownN (n := (k - 1)) slt23 rfl rfl rfl (by omega) (by first | omega | (simp only [nr, nl]; omega))) ?_
     refine op_s' (j_store_row leaf3 rfl rfl (by first | omega | (simp only [nr, nl]; omega)) (evo rfl) rfl rfl) ?_
     refine op_nil ?_
     exact ⟨(nxt m.1 c1 c1.length).1, (by first | exact ⟨by rw [hq]; exact hrn.2.1, by rw [← hk.2, hq]; unfold nmS; rw [hrn.1]; rfl⟩ | (dsimp only; exact ⟨by rw [hq]; exact hrn.2.1, by rw [← hk.2, hq]; unfold nmS; rw [hrn.1]; rfl⟩)), ⟨⟨rfl, rfl⟩, trivial, ⟨rfl, boxA (by rw [show solB m c1 = false by assumption]; rfl), rowEq (by rw [hq]; exact (List.map_set ..).symm), trivial⟩, ⟨rfl, rfl⟩, ⟨rfl, rfl⟩⟩, (by first | exact (by rw [hq]; exact hr2.2) | (dsimp only; exact (by rw [hq]; exact hr2.2)))⟩
  ·
   have h2r := h2
   try simp only [nq, nr, nl] at h2
   refine d_v' (j_unwantV rfl rfl h2r) ?_
   refine d_v' (j_unwantV rfl rfl h2r) ?_
   refine d_v' (j_unwantV rfl rfl h2r) ?_
   refine d_v' (j_unwantV rfl rfl h2r) ?_
   refine d_v' (j_unwantV rfl rfl h2r) ?_
   refine d_v' (j_unwantV rfl rfl h2r) ?_
   refine d_v' (j_unwantV rfl rfl h2r) ?_
   refine d_v' (j_unwantV rfl rfl h2r) ?_
   refine d_v' (j_unwantV rfl rfl h2r) ?_
   refine d_v' (j_pick_f rfl h2r (evo rfl)) ?_
   refine d_nil (by kernel_rfl) (by kernel_rfl) ?_
   refine a_ff rfl ?_
   refine a_exit ?_
   refine a_seq ?_
   refine a_seq ?_
   refine a_region (by kernel_rfl) ?_
   refine op_v' (j_move (evo rfl)) ?_
   refine op_v' (j_lt rfl rfl) ?_
   refine op_nil ?_
   refine a_cond rfl (fun h5 => ?_) (fun h5 => ?_)
   ·
    have h5r := h5
    try simp only [nq, nr, nl] at h5
    refine a_ret ?_
    have h9 : (if solB m c1 = true then some c1 else none) = e := by first | (have hq : (nxt m.1 c1 c1.length) = (ee, false) := (by rw [← hk2.2.2.2, show k = 0 by omega]; rfl); rw [← hk.2, show solB m c1 = false by assumption]; unfold nmS; rw [hrn.1, hq]; rfl) | (rw [← hk.2, nmS_hit hk.1 (show solB m c1 = true by assumption), show solB m c1 = true by assumption]; rfl)
    rw [h9]
    exact ⟨[], .tup [], [.box 26 [.sl _, .sl _], .box 23 [outV e]], [], [], trivial, rfl, rfl, ⟨⟨rfl, rfl⟩, ⟨(out_ob rfl), okO_out⟩, trivial⟩, rfl, rfl, ⟨rfl, rfl, rfl⟩⟩
   ·
    have h5r := h5
    try simp only [nq, nr, nl] at h5
    refine a_skip ?_
    have hek := hk2.2.2.1 (k - 1) (by omega)
    have hmk := hms.2 (k - 1) (by omega)
    have hq : (nxt m.1 c1 c1.length) = (ee.set (k - 1) (ee.getD (k - 1) default + 1), true) := by rw [← hk2.2.2.2, nxt_at (by omega), if_pos (by omega)]
    rw [hq] at hrn
    have hr2 := hrn.2.2 rfl
    refine a_region (by kernel_rfl) ?_
    refine op_v' (j_move (evo rfl)) ?_
    refine op_v' (j_move (evo rfl)) ?_
    refine op_v' (j_elem_ownN (n := (k - 1)) slt23 rfl rfl rfl (by omega) (by first | omega | (simp only [nr, nl]; omega))) ?_
    refine op_v' (j_load_pel leaf3 rfl rfl (at_map (by first | omega | (simp only [nr, nl]; omega))) rfl) ?_
    refine op_v' (j_add rfl rfl (by first | omega | (simp only [nr, nl]; omega)) (by first | omega | (simp only [nr, nl]; omega))) ?_
    refine op_v' (j_elem_ownN (n := (k - 1)) slt23 rfl rfl rfl (by omega) (by first | omega | (simp only [nr, nl]; omega))) ?_
    refine op_s' (j_store_row leaf3 rfl rfl (by first | omega | (simp only [nr, nl]; omega)) (evo rfl) rfl rfl) ?_
    refine op_nil ?_
    exact ⟨(nxt m.1 c1 c1.length).1, (by first | exact ⟨by rw [hq]; exact hrn.2.1, by rw [← hk.2, hq]; unfold nmS; rw [hrn.1]; rfl⟩ | (dsimp only; exact ⟨by rw [hq]; exact hrn.2.1, by rw [← hk.2, hq]; unfold nmS; rw [hrn.1]; rfl⟩)), ⟨⟨rfl, rfl⟩, trivial, ⟨rfl, boxA (by rw [show solB m c1 = false by assumption]; rfl), rowEq (by rw [hq]; exact (List.map_set ..).symm), trivial⟩, ⟨rfl, rfl⟩, ⟨rfl, rfl⟩⟩, (by first | exact (by rw [hq]; exact hr2.2) | (dsimp only; exact (by rw [hq]; exact hr2.2)))⟩
 ·
  have h1r := h1
  try simp only [nq, nr, nl] at h1
  rw [ren_out]
  refine a_exit ?_
  have h9 : (if solB m c1 = true then some c1 else none) = e := by first | (have hq : (nxt m.1 c1 c1.length) = (ee, false) := (by rw [← hk2.2.2.2, show k = 0 by omega]; rfl); rw [← hk.2, show solB m c1 = false by assumption]; unfold nmS; rw [hrn.1, hq]; rfl) | (rw [← hk.2, nmS_hit hk.1 (show solB m c1 = true by assumption), show solB m c1 = true by assumption]; rfl)
  rw [h9]
  exact ⟨[], .tup [], [.box 26 [.sl _, .sl _], .box 23 [outV e]], [], [], trivial, rfl, rfl, ⟨⟨rfl, rfl⟩, ⟨(out_ob rfl), okO_out⟩, trivial⟩, rfl, rfl, ⟨rfl, rfl, rfl⟩⟩


theorem f_nxN (m : Md) (c : List Int) (hw : wRS m.2 ≤ 1048576) (hn : nmV m c = none) : Fn Try.prog 33 [.agg [.sl (m.1.map dI), .sl (m.2.map dR)], .sl (c.map dI)] [] (fun rr ii nn => rr = .tup [.sl (([] : List Int).map dI), .p (.bool false)] ∧ ii = [] ∧ nn = []) := by
 refine fn_of Try.func33 rfl (Nat.le_of_ble_eq_true rfl) fun w X g => ?_
 show AWp _ _ _ ⟨[(0, .agg [.sl (m.1.map dI), .sl (m.2.map dR)]), (1, .sl (c.map dI))], []⟩
 refine a_seq ?_
 refine a_region (by kernel_rfl) ?_
 refine op_n' (fun ver => j_boxa rfl) fun v2x1 => ?_
 refine op_v' (j_assign (evo rfl)) ?_
 refine op_v' (j_assign (evo rfl)) ?_
 refine op_nil ?_
 refine a_seq ?_
 refine a_seq ?_
 refine a_region (by kernel_rfl) ?_
 refine op_v' (j_loada_box (ys := [.sl _, .sl _]) agg26 rfl rfl rfl (Nat.le_of_ble_eq_true rfl)) ?_
 refine op_v' (j_move (evo rfl)) ?_
 refine op_v0' (j_call0 (v := .p _) (hp1 := []) [] false [] ent62 (f_cellsV m c) ⟨.inl ⟨rfl, rfl⟩, .inl ⟨rfl, rfl⟩, trivial⟩ trivial rfl rfl (fun h => by cases h) rfl (fun _ h => by cases h) (.inl rfl) rfl rfl) ?_
 refine op_v' (j_not rfl) ?_
 refine op_nil ?_
 refine a_cond rfl (fun h1 => ?_) (fun h1 => ?_)
 ·
  have h1r := h1
  try simp only [nq, nr] at h1
  refine a_seq ?_
  refine a_region (by kernel_rfl) ?_
  refine op_v' (j_assign (evo rfl)) ?_
  refine op_v' (j_assign (evo rfl)) ?_
  refine op_nil ?_
  refine a_nil 4 rfl ?_
  refine a_ret ?_
  exact ⟨[.sl _, .p _], .tup [.sl _, .p _], [], [], [], ⟨rfl, rfl, trivial⟩, rfl, rfl, trivial, rfl, rfl, ⟨rfl, rfl, rfl⟩⟩
 ·
  have h1r := h1
  try simp only [nq, nr] at h1
  refine a_skip ?_
  refine a_seq ?_
  have hcb : cvB m c = true := by assumption
  have hcp := cv_parts hcb
  have hmk := hcp.1
  have hcl := hcp.2
  rw [nmV_ok hcb] at hn
  refine a_region (by kernel_rfl) ?_
  refine op_n' (fun ver => j_alloc elt23 rfl) fun v6x2 => ?_
  refine op_nil ?_
  refine a_seq ?_
  refine a_region (by kernel_rfl) ?_
  refine op_v' (j_fldp fld26f0 rfl rfl) ?_
  refine op_v' (j_load_box leaf23 rfl rfl rfl) ?_
  refine op_v' (j_move (evo rfl)) ?_
  refine op_v' (j_makeFunc (f := 86) (xs := [.tmp 2, .tmp 6]) (caps := [.ptr 2 v2x1 0, .ptr 6 v6x2 0]) rfl) ?_
  refine op_v0' (j_call0 (v := .tup []) (hp1 := [(2, some (v2x1, .box 26 [.sl _, .sl _])), (6, some (v6x2, .box 23 [_]))]) [(2, v2x1), (6, v6x2)] false [2, 6] ent85 (f_eachN 86 m c none hmk hcl hn ent86 (fun c1 hc1 => f_nx1 m c1 hmk hc1 hw)) ⟨.inl ⟨rfl, rfl⟩, .inl ⟨rfl, rfl⟩, .inl ⟨rfl, rfl⟩, trivial⟩ ⟨⟨rfl, rfl⟩, ⟨rfl, rfl⟩, trivial⟩ rfl rfl (fun h => by cases h) rfl (List.all_eq_true.1 rfl) (.inl rfl) rfl rfl) ?_
  refine op_nil ?_
  refine a_seq ?_
  refine a_draw mixed (by kernel_rfl) (by kernel_rfl) fun vf => ?_
  refine d_v' (j_load_box leaf23 rfl rfl rfl) ?_
  refine d_v' (j_load_box leaf23 rfl rfl rfl) ?_
  refine d_v' (j_nenil_n Try.underlying23 rfl) ?_
  refine d_v' (j_assign (evo rfl)) ?_
  refine d_v' (j_assign (evo rfl)) ?_
  refine d_nil (by kernel_rfl) (by kernel_rfl) ?_
  refine a_nil 4 rfl ?_
  refine a_ret ?_
  exact ⟨[.sl _, .p _], .tup [.sl _, .p _], [], [], [], ⟨rfl, rfl, trivial⟩, rfl, rfl, trivial, rfl, rfl, ⟨rfl, rfl, rfl⟩⟩


theorem f_nxS (m : Md) (c : List Int) (hw : wRS m.2 ≤ 1048576) (c2 : List Int) (hn : nmV m c = some c2) : Fn Try.prog 33 [.agg [.sl (m.1.map dI), .sl (m.2.map dR)], .sl (c.map dI)] [] (fun rr ii nn => rr = .tup [.sl (c2.map dI), .p (.bool true)] ∧ ii = [] ∧ nn = []) := by
 refine fn_of Try.func33 rfl (Nat.le_of_ble_eq_true rfl) fun w X g => ?_
 show AWp _ _ _ ⟨[(0, .agg [.sl (m.1.map dI), .sl (m.2.map dR)]), (1, .sl (c.map dI))], []⟩
 refine a_seq ?_
 refine a_region (by kernel_rfl) ?_
 refine op_n' (fun ver => j_boxa rfl) fun v2x1 => ?_
 refine op_v' (j_assign (evo rfl)) ?_
 refine op_v' (j_assign (evo rfl)) ?_
 refine op_nil ?_
 refine a_seq ?_
 refine a_seq ?_
 refine a_region (by kernel_rfl) ?_
 refine op_v' (j_loada_box (ys := [.sl _, .sl _]) agg26 rfl rfl rfl (Nat.le_of_ble_eq_true rfl)) ?_
 refine op_v' (j_move (evo rfl)) ?_
 refine op_v0' (j_call0 (v := .p _) (hp1 := []) [] false [] ent62 (f_cellsV m c) ⟨.inl ⟨rfl, rfl⟩, .inl ⟨rfl, rfl⟩, trivial⟩ trivial rfl rfl (fun h => by cases h) rfl (fun _ h => by cases h) (.inl rfl) rfl rfl) ?_
 refine op_v' (j_not rfl) ?_
 refine op_nil ?_
 refine a_cond rfl (fun h1 => ?_) (fun h1 => ?_)
 ·
  have h1r := h1
  try simp only [nq, nr] at h1
  rw [nmV_bad (by simpa using h1r)] at hn; cases hn
 ·
  have h1r := h1
  try simp only [nq, nr] at h1
  refine a_skip ?_
  refine a_seq ?_
  have hcb : cvB m c = true := by assumption
  have hcp := cv_parts hcb
  have hmk := hcp.1
  have hcl := hcp.2
  rw [nmV_ok hcb] at hn
  have hc2 := (nm_spec (f := solB m) hcl rfl).1 c2 hn
  refine a_region (by kernel_rfl) ?_
  refine op_n' (fun ver => j_alloc elt23 rfl) fun v6x2 => ?_
  refine op_nil ?_
  refine a_seq ?_
  refine a_region (by kernel_rfl) ?_
  refine op_v' (j_fldp fld26f0 rfl rfl) ?_
  refine op_v' (j_load_box leaf23 rfl rfl rfl) ?_
  refine op_v' (j_move (evo rfl)) ?_
  refine op_v' (j_makeFunc (f := 86) (xs := [.tmp 2, .tmp 6]) (caps := [.ptr 2 v2x1 0, .ptr 6 v6x2 0]) rfl) ?_
  refine op_v0' (j_call0 (v := .tup []) (hp1 := [(2, some (v2x1, .box 26 [.sl _, .sl _])), (6, some (v6x2, .box 23 [_]))]) [(2, v2x1), (6, v6x2)] false [2, 6] ent85 (f_eachN 86 m c (some c2) hmk hcl hn ent86 (fun c1 hc1 => f_nx1 m c1 hmk hc1 hw)) ⟨.inl ⟨rfl, rfl⟩, .inl ⟨rfl, rfl⟩, .inl ⟨rfl, rfl⟩, trivial⟩ ⟨⟨rfl, rfl⟩, ⟨rfl, rfl⟩, trivial⟩ rfl rfl (fun h => by cases h) rfl (List.all_eq_true.1 rfl) (.inl rfl) rfl rfl) ?_
  refine op_nil ?_
  refine a_seq ?_
  refine a_draw mixed (by kernel_rfl) (by kernel_rfl) fun vf => ?_
  refine d_v' (j_load_box leaf23 rfl rfl rfl) ?_
  refine d_v' (j_load_box leaf23 rfl rfl rfl) ?_
  refine d_v' (j_nenil_s Try.underlying23 rfl (cvl_ne hmk hc2.1)) ?_
  refine d_v' (j_assign (evo rfl)) ?_
  refine d_v' (j_assign (evo rfl)) ?_
  refine d_nil (by kernel_rfl) (by kernel_rfl) ?_
  refine a_ret ?_
  exact ⟨[_, .p _], .tup [_, .p _], [], [], [], ⟨rfl, rfl, trivial⟩, rfl, rfl, trivial, rfl, rfl, ⟨rfl, rfl, rfl⟩⟩


theorem f_nx (m : Md) (c : List Int) (hw : wRS m.2 ≤ 1048576) : Fn Try.prog 33 [.agg [.sl (m.1.map dI), .sl (m.2.map dR)], .sl (c.map dI)] [] (fun rr ii nn => rr = .tup [.sl (((nmV m c).getD []).map dI), .p (.bool (nmV m c).isSome)] ∧ ii = [] ∧ nn = []) := by
 cases h : nmV m c with
 | none => exact f_nxN m c hw h
 | some c2 => exact f_nxS m c hw c2 h

theorem f_cpAfter (m : Md) (c : List Int) (hm : mOk m = true) (hc : cvL m.1 c = true) (hw : wRS m.2 ≤ 1048576) : Fn Try.prog 34 [.agg [.sl (m.1.map dI), .sl (m.2.map dR)], .sl (c.map dI)] [] (fun rr ii nn => rr = .tup [.sl (((caV m c).getD []).map dI), .p (.bool (caV m c).isSome)] ∧ ii = [] ∧ nn = []) := by
 refine fn_of Try.func34 rfl (Nat.le_of_ble_eq_true rfl) fun w X g => ?_
 show AWp _ _ _ ⟨[(0, .agg [.sl (m.1.map dI), .sl (m.2.map dR)]), (1, .sl (c.map dI))], []⟩
 have hms := mOk_sz hm
 have hcv := cv_at hc
 refine a_seq ?_
 refine a_region (by kernel_rfl) ?_
 refine op_n' (fun ver => j_boxa rfl) fun v2x1 => ?_
 refine op_v' (j_assign (evo rfl)) ?_
 refine op_v' (j_assign (evo rfl)) ?_
 refine op_nil ?_
 refine a_seq ?_
 refine a_region (by kernel_rfl) ?_
 refine op_n' (fun ver => j_buildSlice (parts := []) (es := []) slt23 elt3 rfl rfl (by decide) (by decide) rfl rfl (by simp) rfl) fun v8x2 => ?_
 refine op_v' (j_move (evo rfl)) ?_
 refine op_n' (fun ver => j_append_sl slt23 elt3 rfl rfl rfl rfl (by simp [dI]) lf_ints (by rw [maxLen_eq]; first | omega | (simp only [nr, nl]; omega)) (by first | omega | (simp only [nr, nl]; omega))) fun v8x3 => ?_
 refine op_v' (j_assign (evo rfl)) ?_
 refine op_nil ?_
 refine a_seq ?_
 refine a_seq ?_
 refine a_region (by kernel_rfl) ?_
 refine op_v' (j_move (evo rfl)) ?_
 refine op_v' (j_len_own_map Try.underlying23 rfl rfl) ?_
 refine op_v' (j_sub rfl rfl (by first | omega | (simp only [nr, nl]; omega)) (by first | omega | (simp only [nr, nl]; omega))) ?_
 refine op_v' (j_assign (evo rfl)) ?_
 refine op_nil ?_
 refine a_block ?_
 refine a_loopF' (ι := Nat × List Int) (fun x => x.1 ≤ c.length ∧ x.2.length = c.length ∧ (∀ i, i < x.1 → 0 ≤ x.2.getD i default ∧ x.2.getD i default ≤ m.1.getD i default) ∧ nxt m.1 x.2 x.1 = (nxt m.1 c c.length)) (fun x r => (7, .p (.int .i64 ((x.1 : Int) - 1))) :: r) (fun x r => (8, some (v8x3, .row 3 1 (x.2.map dI))) :: r) (fun x => x.1) (fun _ _ => rfl) (fun _ _ => rfl) (c.length, c) (by first | exact ⟨Nat.le_refl _, rfl, (fun i hi => hcv.2 i hi), rfl⟩ | (dsimp only; exact ⟨Nat.le_refl _, rfl, (fun i hi => hcv.2 i hi), rfl⟩)) ⟨⟨rfl, rfl⟩, ⟨intEq (by omega), trivial⟩, ⟨rfl, trivial⟩, ⟨rfl, rfl⟩, ⟨rfl, rfl⟩⟩ ?_
 rintro ⟨k, e⟩ hk; dsimp only at hk ⊢
 refine a_seq ?_
 refine a_seq ?_
 refine a_region (by kernel_rfl) ?_
 refine op_v' (j_move (evo rfl)) ?_
 refine op_v' (j_ge rfl rfl) ?_
 refine op_nil ?_
 refine a_cond rfl (fun h1 => ?_) (fun h1 => ?_)
 ·
  have h1r := h1
  try simp only [nq, nr, nl] at h1
  refine a_skip ?_
  refine a_seq ?_
  refine a_block ?_
  refine a_seq ?_
  refine a_seq ?_
  obtain ⟨j, rfl⟩ : ∃ j, k = j + 1 := ⟨k - 1, by omega⟩
  have hsj := hms.2 j (by omega)
  have hej := hk.2.2.1 j (by omega)
  refine a_draw mixed (by kernel_rfl) (by kernel_rfl) fun vf => ?_
  refine d_v' (j_move (evo rfl)) ?_
  refine d_v' (j_move (evo rfl)) ?_
  refine d_v' (j_elem_ownN (n := j) slt23 rfl rfl rfl (by omega) (by first | omega | (simp only [nr, nl]; omega))) ?_
  refine d_v' (j_load_pel leaf3 rfl rfl (at_map (by first | omega | (simp only [nr, nl]; omega))) rfl) ?_
  refine d_v' (j_fldp fld26f0 rfl rfl) ?_
  refine d_v' (j_load_box leaf23 rfl rfl rfl) ?_
  refine d_v' (j_move (evo rfl)) ?_
  refine d_v' (j_elemN (n := j) slt23 rfl rfl (by omega) (at_map (by first | omega | (simp only [nr, nl]; omega))) rfl) ?_
  refine d_v' (j_load_el leaf3 rfl (at_map (by first | omega | (simp only [nr, nl]; omega))) rfl) ?_
  refine d_v' (j_lt rfl rfl) ?_
  refine d_nil (by kernel_rfl) (by kernel_rfl) ?_
  refine a_cond rfl (fun h2 => ?_) (fun h2 => ?_)
  ·
   have h2r := h2
   try simp only [nq, nr, nl] at h2
   refine a_seq ?_
   have hq : (nxt m.1 c c.length) = (e.set j (e.getD j default + 1), true) := by rw [← hk.2.2.2, nxt, if_pos (by assumption)]
   refine a_region (by kernel_rfl) ?_
   refine op_v' (j_move (evo rfl)) ?_
   refine op_v' (j_move (evo rfl)) ?_
   refine op_v' (j_move (evo rfl)) ?_
   refine op_v' (j_move (evo rfl)) ?_
   refine op_v' (j_elem_ownN (n := j) slt23 rfl rfl rfl (by omega) (by first | omega | (simp only [nr, nl]; omega))) ?_
   refine op_v' (j_load_pel leaf3 rfl rfl (at_map (by first | omega | (simp only [nr, nl]; omega))) rfl) ?_
   refine op_v' (j_add rfl rfl (by first | omega | (simp only [nr, nl]; omega)) (by first | omega | (simp only [nr, nl]; omega))) ?_
   refine op_v' (j_elem_ownN (n := j) slt23 rfl rfl rfl (by omega) (by first | omega | (simp only [nr, nl]; omega))) ?_
   refine op_s' (j_store_row leaf3 rfl rfl (by first | omega | (simp only [nr, nl]; omega)) (evo rfl) rfl rfl) ?_
   refine op_nil ?_
   refine a_seq ?_
   refine a_row 8 (es' := (e.set j (e.getD j default + 1)).map dI) rfl (List.map_set ..).symm ?_
   refine a_freeze' 6 (noA _ _ _ _ _) rfl rfl ?_
   refine a_region (by kernel_rfl) ?_
   refine op_v' (j_loada_box (ys := [.sl _, .sl _]) agg26 rfl rfl rfl (Nat.le_of_ble_eq_true rfl)) ?_
   refine op_v' (j_move (evo rfl)) ?_
   refine op_v0' (j_call0 (v := .tup [.sl _, .p _]) (hp1 := []) [] false [] ent33 (f_nx m (e.set j (e.getD j default + 1)) hw) ⟨.inl ⟨rfl, rfl⟩, .inl ⟨rfl, rfl⟩, trivial⟩ trivial rfl rfl (fun h => by cases h) rfl (fun _ h => by cases h) (.inl rfl) rfl rfl) ?_
   refine op_v' (j_extract rfl rfl) ?_
   refine op_v' (j_extract rfl rfl) ?_
   refine op_v' (j_assign (evo rfl)) ?_
   refine op_v' (j_assign (evo rfl)) ?_
   refine op_nil ?_
   refine a_ret ?_
   exact ⟨[.sl _, .p _], .tup [.sl _, .p _], [], [], [], ⟨rfl, rfl, trivial⟩, rfl, rfl, trivial, rfl, rfl, ⟨by have hcq : caV m c = nmV m (e.set j (e.getD j default + 1)) := (by unfold caV; rw [hq, if_pos rfl]); rw [hcq], rfl, rfl⟩⟩
  ·
   have h2r := h2
   try simp only [nq, nr, nl] at h2
   refine a_skip ?_
   refine a_region (by kernel_rfl) ?_
   refine op_v' (j_move (evo rfl)) ?_
   refine op_v' (j_move (evo rfl)) ?_
   refine op_v' (j_elem_ownN (n := j) slt23 rfl rfl rfl (by omega) (by first | omega | (simp only [nr, nl]; omega))) ?_
   refine op_s' (j_store_row leaf3 rfl rfl (by first | omega | (simp only [nr, nl]; omega)) (evo rfl) rfl rfl) ?_
   refine op_nil ?_
   refine a_region (by kernel_rfl) ?_
   refine op_v' (j_move (evo rfl)) ?_
   refine op_v' (j_sub rfl rfl (by first | omega | (simp only [nr, nl]; omega)) (by first | omega | (simp only [nr, nl]; omega))) ?_
   refine op_v' (j_assign (evo rfl)) ?_
   refine op_nil ?_
   exact ⟨(j, e.set j 0), (by first | exact ⟨by omega, by rw [List.length_set]; exact hk.2.1, fun i hi => by rw [getD_setne (by omega)]; exact hk.2.2.1 i (by omega), by rw [← hk.2.2.2, nxt, if_neg (by assumption)]⟩ | (dsimp only; exact ⟨by omega, by rw [List.length_set]; exact hk.2.1, fun i hi => by rw [getD_setne (by omega)]; exact hk.2.2.1 i (by omega), by rw [← hk.2.2.2, nxt, if_neg (by assumption)]⟩)), ⟨⟨rfl, rfl⟩, ⟨intEq (by omega), trivial⟩, ⟨rowEq (List.map_set ..).symm, trivial⟩, ⟨rfl, rfl⟩, ⟨rfl, rfl⟩⟩, (by first | exact (by first | omega | (simp only [nr, nl]; omega)) | (dsimp only; exact (by first | omega | (simp only [nr, nl]; omega))))⟩
 ·
  have h1r := h1
  try simp only [nq, nr, nl] at h1
  refine a_exit ?_
  refine a_seq ?_
  obtain rfl : k = 0 := by omega
  have hq : (nxt m.1 c c.length) = (e, false) := hk.2.2.2.symm
  refine a_region (by kernel_rfl) ?_
  refine op_n' (fun ver => j_buildSlice (parts := []) (es := []) slt23 elt3 rfl rfl (by decide) (by decide) rfl rfl (by simp) rfl) fun v44x4 => ?_
  refine op_v' (j_assign (evo rfl)) ?_
  refine op_v' (j_assign (evo rfl)) ?_
  refine op_nil ?_
  refine a_freeze' 4 (noA _ _ _ _ _) rfl rfl ?_
  refine a_ret ?_
  exact ⟨[.sl _, .p _], .tup [.sl _, .p _], [], [], [], ⟨rfl, rfl, trivial⟩, rfl, rfl, trivial, rfl, rfl, ⟨by have hcq : caV m c = none := (by unfold caV; rw [hq]; rfl); rw [hcq]; rfl, rfl, rfl⟩⟩


end Go.Ab

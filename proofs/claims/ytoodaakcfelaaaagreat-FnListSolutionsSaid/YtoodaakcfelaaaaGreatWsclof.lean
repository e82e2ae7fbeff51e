/- Walks. -/
import Derived.Test.YtoodaakcfelaaaaGreatBase
import Derived.Test.YtoodaakcfelaaaaGreatCub
import Derived.Test.YtoodaakcfelaaaaGreatWsprop
import Derived.Test.YtoodaakcfelaaaaGreatWsmod
namespace Go.Ab
open Go.Proofs
set_option maxRecDepth 100000
set_option maxHeartbeats 8000000
set_option linter.unusedSimpArgs false
set_option linter.unusedVariables false
theorem f_len64 (x : Nat) (hx : x ≤ 12) : Fn Tryz.prog 218 [.p (.int .u64 (x : Nat))] [] (fun rr ii nn => ∃ x : Int, (0 ≤ x ∧ x ≤ 1000) ∧ rr = .p (.int .i64 (x)) ∧ ii = [] ∧ nn = []) := by
 refine fn_of Tryz.func218 rfl (Nat.le_of_ble_eq_true rfl) fun w X g => ?_
 show AWp _ _ _ ⟨[(0, .p (.int .u64 (x : Nat)))], []⟩
 have hlt := (lenT x).toNat_lt
 have hwl : IntKind.i64.wrap ((lenT x).toNat : Int) = (lenT x).toNat := wrap64_of (by omega) (by omega)
 refine rs ?_
 refine oa rfl ?_
 refine on ?_
 refine a_seq ?_
 refine rs ?_
 refine om rfl ?_
 refine op_v' (j_ge rfl rfl) ?_
 refine on ?_
 refine ac rfl (fun h1 => ?_) fun h1 => ?_
 ·
  have h1r := h1
  try simp only [nq, nr] at h1
  exact absurd (of_decide_eq_true h1r) (by omega)
 have h1r := h1
 try simp only [nq, nr] at h1
 refine a_skip ?_
 refine a_seq ?_
 refine rs ?_
 refine om rfl ?_
 refine op_v' (j_ge rfl rfl) ?_
 refine on ?_
 refine ac rfl (fun h2 => ?_) fun h2 => ?_
 ·
  have h2r := h2
  try simp only [nq, nr] at h2
  exact absurd (of_decide_eq_true h2r) (by omega)
 have h2r := h2
 try simp only [nq, nr] at h2
 refine a_skip ?_
 refine a_seq ?_
 refine rs ?_
 refine om rfl ?_
 refine op_v' (j_ge rfl rfl) ?_
 refine on ?_
 refine ac rfl (fun h3 => ?_) fun h3 => ?_
 ·
  have h3r := h3
  try simp only [nq, nr] at h3
  exact absurd (of_decide_eq_true h3r) (by omega)
 have h3r := h3
 try simp only [nq, nr] at h3
 refine a_skip ?_
 refine rs ?_
 refine om rfl ?_
 refine om rfl ?_
 refine op_v' (j_conv Tryz.underlying225 Tryz.underlying5 rfl) ?_
 refine op_v' (j_index_strN (n := x) (c := lenT x) Tryz.underlying9 rfl rfl (wrapU8 hx) (by rcases (by omega : x = 0 ∨ x = 1 ∨ x = 2 ∨ x = 3 ∨ x = 4 ∨ x = 5 ∨ x = 6 ∨ x = 7 ∨ x = 8 ∨ x = 9 ∨ x = 10 ∨ x = 11 ∨ x = 12) with h | h | h | h | h | h | h | h | h | h | h | h | h <;> (subst h; rfl))) ?_
 refine op_v' (j_conv Tryz.underlying5 Tryz.underlying3 rfl) ?_
 refine op_v' (j_add rfl rfl (by omega) (by omega)) ?_
 refine oa rfl ?_
 refine on ?_
 refine a_ret ?_
 exact fin_p rfl ⟨_, (by omega), rfl, rfl, rfl⟩
theorem f_bitsLen (x : Nat) (hx : x ≤ 12) : Fn Tryz.prog 168 [.p (.int .u64 (x : Nat))] [] (fun rr ii nn => ∃ x : Int, (0 ≤ x ∧ x ≤ 1000) ∧ rr = .p (.int .i64 (x)) ∧ ii = [] ∧ nn = []) := by
 refine fn_of Tryz.func168 rfl (Nat.le_of_ble_eq_true rfl) fun w X g => ?_
 show AWp _ _ _ ⟨[(0, .p (.int .u64 (x : Nat)))], []⟩
 refine rs ?_
 refine oa rfl ?_
 refine on ?_
 refine a_seq ?_
 refine a_ff rfl ?_
 refine a_skip ?_
 refine rs ?_
 refine om rfl ?_
 refine op_callE (v := fun x => .p _) (hp1 := fun x => []) [] false ent218 (f_len64 x hx) ⟨.inl ⟨rfl, rfl⟩, trivial⟩ trivial rfl (fun _ => rfl) (fun _ => rfl) (.inl rfl) (fun _ => rfl) (fun _ => rfl) ?_
 rintro z7 hz7
 try dsimp only at hz7
 dsimp only [List.cons_append, List.nil_append]
 refine oa rfl ?_
 refine on ?_
 refine a_ret ?_
 exact fin_p rfl ⟨z7, hz7, rfl, rfl, rfl⟩
theorem f_clCmp (a b : Int) (ha : litOk a = true) (hb : litOk b = true) : Fn Tryz.prog 110 [.p (.int .i64 (a)), .p (.int .i64 (b))] [] (fun rr ii nn => rr = .p (.int .i64 (varOf a - varOf b)) ∧ ii = [] ∧ nn = []) := by
 refine fn_of Tryz.func110 rfl (Nat.le_of_ble_eq_true rfl) fun w X g => ?_
 show AWp _ _ _ ⟨[(0, .p (.int .i64 (a))), (1, .p (.int .i64 (b)))], []⟩
 have h1 := litOk_iff.1 ha
 have h2 := litOk_iff.1 hb
 have h3 : 0 ≤ varOf a ∧ varOf a ≤ 12 := by unfold varOf; omega
 have h4 : 0 ≤ varOf b ∧ varOf b ≤ 12 := by unfold varOf; omega
 refine rs ?_
 refine oa rfl ?_
 refine on ?_
 refine rs ?_
 refine om rfl ?_
 refine op_v0' (j_call0 (v := .p _) (hp1 := []) [] false [] ent111 (f_varOf _ (by omega)) ⟨.inl ⟨rfl, rfl⟩, trivial⟩ trivial rfl rfl (fun h => by cases h) rfl (fun _ h => by cases h) (.inl rfl) rfl rfl) ?_
 refine om rfl ?_
 refine op_v0' (j_call0 (v := .p _) (hp1 := []) [] false [] ent111 (f_varOf _ (by omega)) ⟨.inl ⟨rfl, rfl⟩, trivial⟩ trivial rfl rfl (fun h => by cases h) rfl (fun _ h => by cases h) (.inl rfl) rfl rfl) ?_
 refine op_v' (j_sub rfl rfl (by omega) (by omega)) ?_
 refine oa rfl ?_
 refine on ?_
 refine a_ret ?_
 exact fin_p rfl ⟨rfl, rfl, rfl⟩
theorem f_insSort (L : List Int) (h : asc L) : Fn Tryz.prog 209 [.own 0 0, .p (.int .i64 (0)), .p (.int .i64 ((L.length : Nat))), .fn 110 []] [.row 3 1 (L.map dI)] (fun rr ii nn => rr = .tup [] ∧ ii = [.row 3 1 (L.map dI)] ∧ nn = []) := by
 refine fn_of Tryz.func209 rfl (Nat.le_of_ble_eq_true rfl) fun w X g => ?_
 show AWp _ _ _ ⟨[(0, .own 0 0), (1, .p (.int .i64 (0))), (2, .p (.int .i64 ((L.length : Nat)))), (3, .fn 110 [])], [(0, some (0, .row 3 1 (L.map dI)))]⟩
 have hl12 := asc_len h
 refine rs ?_
 refine om rfl ?_
 refine op_v' (j_add rfl rfl (by first | omega | (simp only [nr]; omega)) (by first | omega | (simp only [nr]; omega))) ?_
 refine oa rfl ?_
 refine on ?_
 refine a_block ?_
 refine a_loopF' (ι := Nat) (fun k => 1 ≤ k) (fun k r => (8, .p (.int .i64 ((k : Nat)))) :: r) (fun k r => (0, some (0, .row 3 1 (L.map dI))) :: r) (fun k => L.length - k) (fun _ _ => rfl) (fun _ _ => rfl) 1 (Nat.le_refl _) ⟨⟨rfl, rfl⟩, ⟨rfl, trivial⟩, ⟨rfl, trivial⟩, ⟨rfl, rfl⟩, ⟨rfl, rfl⟩⟩ ?_
 intro k hk
 refine a_seq ?_
 refine rs ?_
 refine om rfl ?_
 refine om rfl ?_
 refine op_v' (j_lt rfl rfl) ?_
 refine on ?_
 refine ac rfl (fun h1 => ?_) fun h1 => ?_
 ·
  have h1r := h1
  try simp only [nq, nr] at h1
  refine a_skip ?_
  refine a_seq ?_
  refine a_block ?_
  refine rs ?_
  refine om rfl ?_
  refine oa rfl ?_
  refine on ?_
  refine a_block ?_
  refine a_loopF' (ι := Nat) (fun j => j = k) (fun j r => (9, .p (.int .i64 ((k : Nat)))) :: r) (fun j r => (0, some (0, .row 3 1 (L.map dI))) :: r) (fun j => 0) (fun _ _ => rfl) (fun _ _ => rfl) k rfl ⟨⟨rfl, rfl⟩, ⟨rfl, trivial⟩, ⟨rfl, trivial⟩, ⟨rfl, rfl⟩, ⟨rfl, rfl⟩⟩ ?_
  intro j hj
  refine a_seq ?_
  refine a_seq ?_
  refine a_draw mixed (by kernel_rfl) (by kernel_rfl) fun vf => ?_
  refine d_v' (j_move (evo rfl)) ?_
  refine d_v' (j_move (evo rfl)) ?_
  refine d_v' (j_gt rfl rfl) ?_
  refine d_v' (j_move (evo rfl)) ?_
  refine d_split' 21 rfl (fun h2 => ?_) (fun h2 => ?_)
  ·
   have h2r := h2
   try simp only [nq, nr] at h2
   refine d_v' (j_want rfl rfl h2r (j_move (evo rfl))) ?_
   refine d_v' (j_want rfl rfl h2r (j_move (evo rfl))) ?_
   refine d_v' (j_want rfl rfl h2r (j_move (evo rfl))) ?_
   refine d_v' (j_want rfl rfl h2r (j_elem_ownN (n := k) slt23 rfl rfl rfl (by first | omega | (simp only [nr]; omega)) (by first | omega | (simp only [nr]; omega)))) ?_
   refine d_v' (j_want rfl rfl h2r (j_load_pel leaf3 rfl rfl (at_map (by first | omega | (simp only [nr]; omega))) rfl)) ?_
   refine d_v' (j_want rfl rfl h2r (j_move (evo rfl))) ?_
   refine d_v' (j_want rfl rfl h2r (j_move (evo rfl))) ?_
   refine d_v' (j_want rfl rfl h2r (j_sub rfl rfl (by first | omega | (simp only [nr]; omega)) (by first | omega | (simp only [nr]; omega)))) ?_
   refine d_v' (j_want rfl rfl h2r (j_elem_ownN (n := k - 1) slt23 rfl rfl rfl (by omega) (by first | omega | (simp only [nr]; omega)))) ?_
   refine d_v' (j_want rfl rfl h2r (j_load_pel leaf3 rfl rfl (at_map (by first | omega | (simp only [nr]; omega))) rfl)) ?_
   refine d_v0' (j_want rfl rfl h2r (j_callF0 (v := .p _) (hp1 := []) [] false [] rfl ent110 (f_clCmp (L.getD k default) (L.getD (k - 1) default) (asc_at h (by omega)) (asc_at h (by omega))) ⟨.inl ⟨rfl, rfl⟩, .inl ⟨rfl, rfl⟩, trivial⟩ trivial rfl rfl (fun h => by cases h) rfl (fun _ h => by cases h) (.inl rfl) rfl rfl)) ?_
   refine d_v' (j_want rfl rfl h2r (j_lt rfl rfl)) ?_
   refine d_v' (j_pick_t rfl h2r (evo rfl)) ?_
   refine d_nil (by kernel_rfl) (by kernel_rfl) ?_
   refine ac rfl (fun h3 => ?_) fun h3 => ?_
   ·
    have h3r := h3
    try simp only [nq, nr] at h3
    exact absurd h3r (by have h9 := asc_lt' h (k := k) (by omega) (by omega); simp; omega)
   have h3r := h3
   try simp only [nq, nr] at h3
   refine a_exit ?_
   refine ar ?_
   refine om rfl ?_
   refine op_v' (j_add rfl rfl (by first | omega | (simp only [nr]; omega)) (by first | omega | (simp only [nr]; omega))) ?_
   refine oa rfl ?_
   refine on ?_
   exact ⟨k + 1, (by first | omega | (simp only [nr]; omega)), ⟨⟨rfl, rfl⟩, ⟨rfl, trivial⟩, ⟨rfl, trivial⟩, ⟨rfl, rfl⟩, ⟨rfl, rfl⟩⟩, (by first | omega | (simp only [nr]; omega))⟩
  have h2r := h2
  try simp only [nq, nr] at h2
  refine d_v' (j_unwantV rfl rfl h2r) ?_
  refine d_v' (j_unwantV rfl rfl h2r) ?_
  refine d_v' (j_unwantV rfl rfl h2r) ?_
  refine d_v' (j_unwantV rfl rfl h2r) ?_
  refine d_v' (j_unwantV rfl rfl h2r) ?_
  refine d_v' (j_unwantV rfl rfl h2r) ?_
  refine d_v' (j_unwantV rfl rfl h2r) ?_
  refine d_v' (j_unwantV rfl rfl h2r) ?_
  refine d_v' (j_unwantV rfl rfl h2r) ?_
  refine d_v' (j_unwantV rfl rfl h2r) ?_
  refine d_v' (j_unwantV rfl rfl h2r) ?_
  refine d_v' (j_unwantV rfl rfl h2r) ?_
  refine d_v' (j_pick_f rfl h2r (evo rfl)) ?_
  refine d_nil (by kernel_rfl) (by kernel_rfl) ?_
  refine a_ff rfl ?_
  refine a_exit ?_
  refine ar ?_
  refine om rfl ?_
  refine op_v' (j_add rfl rfl (by first | omega | (simp only [nr]; omega)) (by first | omega | (simp only [nr]; omega))) ?_
  refine oa rfl ?_
  refine on ?_
  exact ⟨k + 1, (by first | omega | (simp only [nr]; omega)), ⟨⟨rfl, rfl⟩, ⟨rfl, trivial⟩, ⟨rfl, trivial⟩, ⟨rfl, rfl⟩, ⟨rfl, rfl⟩⟩, (by first | omega | (simp only [nr]; omega))⟩
 have h1r := h1
 try simp only [nq, nr] at h1
 refine a_exit ?_
 exact ⟨[], .tup [], [.row 3 1 _], [], [], trivial, rfl, rfl, ⟨⟨rfl, rfl⟩, trivial⟩, rfl, rfl, ⟨rfl, rfl, rfl⟩⟩
theorem f_pdq (L : List Int) (h : asc L) (m : Int) : Fn Tryz.prog 167 [.own 0 0, .p (.int .i64 (0)), .p (.int .i64 ((L.length : Nat))), .p (.int .i64 (m)), .fn 110 []] [.row 3 1 (L.map dI)] (fun rr ii nn => rr = .tup [] ∧ ii = [.row 3 1 (L.map dI)] ∧ nn = []) := by
 refine fn_of Tryz.func167 rfl (Nat.le_of_ble_eq_true rfl) fun w X g => ?_
 show AWp _ _ _ ⟨[(0, .own 0 0), (1, .p (.int .i64 (0))), (2, .p (.int .i64 ((L.length : Nat)))), (3, .p (.int .i64 (m))), (4, .fn 110 [])], [(0, some (0, .row 3 1 (L.map dI)))]⟩
 have hl12 := asc_len h
 refine rs ?_
 refine oa rfl ?_
 refine on ?_
 refine rs ?_
 refine oa rfl ?_
 refine on ?_
 refine a_block ?_
 refine a_loopF' (ι := Nat) (fun k => k = 0) (fun k r => r) (fun k r => (0, some (0, .row 3 1 (L.map dI))) :: r) (fun k => 0) (fun _ _ => rfl) (fun _ _ => rfl) 0 rfl ⟨⟨rfl, rfl⟩, trivial, ⟨rfl, trivial⟩, ⟨rfl, rfl⟩, ⟨rfl, rfl⟩⟩ ?_
 intro k hk
 refine a_block ?_
 refine rs ?_
 refine om rfl ?_
 refine om rfl ?_
 refine op_v' (j_sub rfl rfl (by first | omega | (simp only [nr]; omega)) (by first | omega | (simp only [nr]; omega))) ?_
 refine oa rfl ?_
 refine on ?_
 refine a_seq ?_
 refine rs ?_
 refine om rfl ?_
 refine op_v' (j_le rfl rfl) ?_
 refine on ?_
 refine ac rfl (fun h1 => ?_) fun h1 => ?_
 ·
  have h1r := h1
  try simp only [nq, nr] at h1
  refine rs ?_
  refine om rfl ?_
  refine om rfl ?_
  refine om rfl ?_
  refine om rfl ?_
  refine op_v0' (j_call0 (v := .tup []) (hp1 := [(0, some (0, .row 3 1 _))]) [(0, 0)] false [0] ent209 (f_insSort L h) ⟨.inl ⟨rfl, rfl⟩, .inl ⟨rfl, rfl⟩, .inl ⟨rfl, rfl⟩, .inl ⟨rfl, rfl⟩, trivial⟩ ⟨⟨rfl, rfl⟩, trivial⟩ rfl rfl (fun h => by cases h) rfl (List.all_eq_true.1 rfl) (.inl rfl) rfl rfl) ?_
  refine on ?_
  refine a_ret ?_
  exact ⟨[], .tup [], [.row 3 1 _], [], [], trivial, rfl, rfl, ⟨⟨rfl, rfl⟩, trivial⟩, rfl, rfl, ⟨rfl, rfl, rfl⟩⟩
 have h1r := h1
 try simp only [nq, nr] at h1
 exact absurd (of_decide_eq_false h1r) (by omega)
theorem f_sortFunc (L : List Int) (h : asc L) : Fn Tryz.prog 109 [.own 0 0, .fn 110 []] [.row 3 1 (L.map dI)] (fun rr ii nn => rr = .tup [] ∧ ii = [.row 3 1 (L.map dI)] ∧ nn = []) := by
 refine fn_of Tryz.func109 rfl (Nat.le_of_ble_eq_true rfl) fun w X g => ?_
 show AWp _ _ _ ⟨[(0, .own 0 0), (1, .fn 110 [])], [(0, some (0, .row 3 1 (L.map dI)))]⟩
 have hl12 := asc_len h
 have hb9 := f_bitsLen L.length hl12
 rw [← wrapU64 hl12] at hb9
 refine rs ?_
 refine om rfl ?_
 refine op_v' (j_len_own_map Tryz.underlying23 rfl rfl) ?_
 refine oa rfl ?_
 refine on ?_
 refine ar ?_
 refine om rfl ?_
 refine om rfl ?_
 refine om rfl ?_
 refine op_v' (j_conv Tryz.underlying3 Tryz.underlying187 rfl) ?_
 refine op_callE (v := fun x => .p _) (hp1 := fun x => []) [] false ent168 hb9 ⟨.inl ⟨rfl, rfl⟩, trivial⟩ trivial rfl (fun _ => rfl) (fun _ => rfl) (.inl rfl) (fun _ => rfl) (fun _ => rfl) ?_
 rintro z11 hz11
 try dsimp only at hz11
 dsimp only [List.cons_append, List.nil_append]
 refine om rfl ?_
 refine op_v0' (j_call0 (v := .tup []) (hp1 := [(0, some (0, .row 3 1 _))]) [(0, 0)] false [0] ent167 (f_pdq L h z11) ⟨.inl ⟨rfl, rfl⟩, .inl ⟨rfl, rfl⟩, .inl ⟨rfl, rfl⟩, .inl ⟨rfl, rfl⟩, .inl ⟨rfl, rfl⟩, trivial⟩ ⟨⟨rfl, rfl⟩, trivial⟩ rfl rfl (fun h => by cases h) rfl (List.all_eq_true.1 rfl) (.inl rfl) rfl rfl) ?_
 refine on ?_
 exact ⟨[], .tup [], [.row 3 1 _], [], [], trivial, rfl, rfl, ⟨⟨rfl, rfl⟩, trivial⟩, rfl, rfl, ⟨rfl, rfl, rfl⟩⟩
theorem f_compact (L : List Int) (h : asc L) : Fn Tryz.prog 112 [.own 0 0] [.row 3 1 (L.map dI)] (fun rr ii nn => rr = .own 0 0 ∧ ii = [.row 3 1 (L.map dI)] ∧ nn = []) := by
 refine fn_of Tryz.func112 rfl (Nat.le_of_ble_eq_true rfl) fun w X g => ?_
 show AWp _ _ _ ⟨[(0, .own 0 0)], [(0, some (0, .row 3 1 (L.map dI)))]⟩
 have hl12 := asc_len h
 refine rs ?_
 refine oa rfl ?_
 refine on ?_
 refine a_seq ?_
 refine rs ?_
 refine om rfl ?_
 refine op_v' (j_len_own_map Tryz.underlying23 rfl rfl) ?_
 refine op_v' (j_lt rfl rfl) ?_
 refine on ?_
 refine ac rfl (fun h1 => ?_) fun h1 => ?_
 ·
  have h1r := h1
  try simp only [nq, nr] at h1
  refine rs ?_
  refine om rfl ?_
  refine oa rfl ?_
  refine on ?_
  refine a_ret ?_
  exact ⟨[.own 0 0], .own 0 0, [.row 3 1 _], [], [], ⟨rfl, trivial⟩, rfl, rfl, ⟨⟨rfl, rfl⟩, trivial⟩, rfl, rfl, ⟨rfl, rfl, rfl⟩⟩
 have h1r := h1
 try simp only [nq, nr] at h1
 refine a_skip ?_
 refine a_seq ?_
 refine rs ?_
 refine oa rfl ?_
 refine on ?_
 refine a_block ?_
 refine a_loopF' (ι := Nat) (fun k => 1 ≤ k ∧ k ≤ L.length) (fun k r => (3, .p (.int .i64 ((k : Nat)))) :: r) (fun k r => (0, some (0, .row 3 1 (L.map dI))) :: r) (fun k => L.length - k) (fun _ _ => rfl) (fun _ _ => rfl) 1 ⟨Nat.le_refl _, (by first | omega | (simp only [nr]; omega))⟩ ⟨⟨rfl, rfl⟩, ⟨rfl, trivial⟩, ⟨rfl, trivial⟩, ⟨rfl, rfl⟩, ⟨rfl, rfl⟩⟩ ?_
 intro k hk
 refine a_seq ?_
 refine rs ?_
 refine om rfl ?_
 refine om rfl ?_
 refine op_v' (j_len_own_map Tryz.underlying23 rfl rfl) ?_
 refine op_v' (j_lt rfl rfl) ?_
 refine on ?_
 refine ac rfl (fun h2 => ?_) fun h2 => ?_
 ·
  have h2r := h2
  try simp only [nq, nr] at h2
  refine a_skip ?_
  refine a_seq ?_
  refine a_block ?_
  refine a_seq ?_
  refine a_draw mixed (by kernel_rfl) (by kernel_rfl) fun vf => ?_
  refine d_v' (j_move (evo rfl)) ?_
  refine d_v' (j_move (evo rfl)) ?_
  refine d_v' (j_elem_ownN (n := k) slt23 rfl rfl rfl rfl (by first | omega | (simp only [nr]; omega))) ?_
  refine d_v' (j_load_pel leaf3 rfl rfl (at_map (by first | omega | (simp only [nr]; omega))) rfl) ?_
  refine d_v' (j_move (evo rfl)) ?_
  refine d_v' (j_move (evo rfl)) ?_
  refine d_v' (j_sub rfl rfl (by first | omega | (simp only [nr]; omega)) (by first | omega | (simp only [nr]; omega))) ?_
  refine d_v' (j_elem_ownN (n := k - 1) slt23 rfl rfl rfl (by omega) (by first | omega | (simp only [nr]; omega))) ?_
  refine d_v' (j_load_pel leaf3 rfl rfl (at_map (by first | omega | (simp only [nr]; omega))) rfl) ?_
  refine d_v' (j_eq rfl rfl) ?_
  refine d_nil (by kernel_rfl) (by kernel_rfl) ?_
  refine ac rfl (fun h3 => ?_) fun h3 => ?_
  ·
   have h3r := h3
   try simp only [nq, nr] at h3
   exact absurd (of_decide_eq_true h3r) (asc_ne h (by omega) (by omega))
  have h3r := h3
  try simp only [nq, nr] at h3
  refine a_skip ?_
  refine ar ?_
  refine om rfl ?_
  refine op_v' (j_add rfl rfl (by first | omega | (simp only [nr]; omega)) (by first | omega | (simp only [nr]; omega))) ?_
  refine oa rfl ?_
  refine on ?_
  exact ⟨k + 1, ⟨by omega, by first | omega | (simp only [nr]; omega)⟩, ⟨⟨rfl, rfl⟩, ⟨rfl, trivial⟩, ⟨rfl, trivial⟩, ⟨rfl, rfl⟩, ⟨rfl, rfl⟩⟩, (by first | omega | (simp only [nr]; omega))⟩
 have h2r := h2
 try simp only [nq, nr] at h2
 refine a_exit ?_
 refine rs ?_
 refine om rfl ?_
 refine oa rfl ?_
 refine on ?_
 refine a_ret ?_
 exact ⟨[.own 0 0], .own 0 0, [.row 3 1 _], [], [], ⟨rfl, trivial⟩, rfl, rfl, ⟨⟨rfl, rfl⟩, trivial⟩, rfl, rfl, ⟨rfl, rfl, rfl⟩⟩
theorem f_clauseImpl (L : List Int) (h : asc L) : Fn Tryz.prog 42 [.sl (L.map dI)] [] (fun rr ii nn => rr = .tup [.agg [.sl ((L.map oneL).map dT), .p (.int .i64 1)], .p (.bool true)] ∧ ii = [] ∧ nn = []) := by
 refine fn_of Tryz.func42 rfl (Nat.le_of_ble_eq_true rfl) fun w X g => ?_
 show AWp _ _ _ ⟨[(0, .sl (L.map dI))], []⟩
 have hl12 := asc_len h
 refine rs ?_
 refine op_n' (fun ver => j_alloc elt69 rfl) fun v2x1 => ?_
 refine oa rfl ?_
 refine on ?_
 refine a_seq ?_
 refine rs ?_
 refine om rfl ?_
 refine op_v' (j_len_map Tryz.underlying23 rfl) ?_
 refine op_v' (j_gt rfl rfl) ?_
 refine on ?_
 refine ac rfl (fun h1 => ?_) fun h1 => ?_
 ·
  have h1r := h1
  try simp only [nq, nr, nl] at h1
  exact absurd (of_decide_eq_true h1r) (by omega)
 have h1r := h1
 try simp only [nq, nr, nl] at h1
 refine a_skip ?_
 refine a_seq ?_
 refine rs ?_
 refine om rfl ?_
 refine op_v' (j_len_map Tryz.underlying23 rfl) ?_
 refine om rfl ?_
 refine on ?_
 refine a_block ?_
 refine a_loopF' (ι := Nat) (fun k => k ≤ L.length) (fun k r => (16, .p (.int .i64 ((k : Nat)))) :: r) (fun k r => r) (fun k => L.length - k) (fun _ _ => rfl) (fun _ _ => rfl) 0 (Nat.zero_le _) ⟨⟨rfl, rfl⟩, ⟨rfl, trivial⟩, trivial, ⟨rfl, rfl⟩, ⟨rfl, rfl⟩⟩ ?_
 intro k hk
 refine rs ?_
 refine op_v' (j_lt rfl rfl) ?_
 refine on ?_
 refine a_seq ?_
 refine ac rfl (fun h2 => ?_) fun h2 => ?_
 ·
  have h2r := h2
  try simp only [nq, nr, nl] at h2
  refine a_skip ?_
  refine a_seq ?_
  refine a_block ?_
  refine rs ?_
  refine op_v' (j_elemN slt23 rfl rfl rfl (at_map (by first | omega | (simp only [nr, nl]; omega))) rfl) ?_
  refine op_v' (j_load_el leaf3 rfl (at_map (by first | omega | (simp only [nr, nl]; omega))) rfl) ?_
  refine oa rfl ?_
  refine on ?_
  refine a_seq ?_
  have hli := litOk_iff.1 (asc_at h (k := k) (by first | omega | (simp only [nr, nl]; omega)))
  refine ar ?_
  refine om rfl ?_
  refine op_v0' (j_call0 (v := .p _) (hp1 := []) [] false [] ent106 (f_isLit (L.getD k default)) ⟨.inl ⟨rfl, rfl⟩, trivial⟩ trivial rfl rfl (fun h => by cases h) rfl (fun _ h => by cases h) (.inl rfl) rfl rfl) ?_
  refine op_v' (j_not rfl) ?_
  refine om rfl ?_
  refine op_split' 23 rfl (fun h3 => ?_) (fun h3 => ?_)
  ·
   have h3r := h3
   try simp only [nq, nr, nl] at h3
   exact absurd h3r (by first | (rw [asc_at h (k := k) (by omega)]; decide) | (rw [decide_eq_true_eq]; exact asc_noneg h (by omega)))
  have h3r := h3
  try simp only [nq, nr, nl] at h3
  refine op_v' (j_want rfl rfl h3r (j_move (evo rfl))) ?_
  refine op_v' (j_want rfl rfl h3r (j_move (evo rfl))) ?_
  refine op_v' (j_want rfl rfl h3r (j_neg rfl (by first | omega | (simp only [nr, nl]; omega)) (by first | omega | (simp only [nr, nl]; omega)))) ?_
  refine op_v0' (j_want rfl rfl h3r (j_call0 (v := .p _) (hp1 := []) [] false [] ent107 (f_containsInt L (-(L.getD k default))) ⟨.inl ⟨rfl, rfl⟩, .inl ⟨rfl, rfl⟩, trivial⟩ trivial rfl rfl (fun h => by cases h) rfl (fun _ h => by cases h) (.inl rfl) rfl rfl)) ?_
  refine op_v' (j_pick_f rfl h3r (evo rfl)) ?_
  refine on ?_
  refine ac rfl (fun h4 => ?_) fun h4 => ?_
  ·
   have h4r := h4
   try simp only [nq, nr, nl] at h4
   exact absurd h4r (by first | (rw [asc_at h (k := k) (by omega)]; decide) | (rw [decide_eq_true_eq]; exact asc_noneg h (by omega)))
  have h4r := h4
  try simp only [nq, nr, nl] at h4
  refine a_skip ?_
  refine ar ?_
  refine op_v' (j_add rfl rfl (by first | omega | (simp only [nr, nl]; omega)) (by first | omega | (simp only [nr, nl]; omega))) ?_
  refine om rfl ?_
  refine on ?_
  exact ⟨k + 1, (by first | omega | (simp only [nr, nl]; omega)), ⟨⟨rfl, rfl⟩, ⟨rfl, trivial⟩, trivial, ⟨rfl, rfl⟩, ⟨rfl, rfl⟩⟩, (by first | omega | (simp only [nr, nl]; omega))⟩
 have h2r := h2
 try simp only [nq, nr, nl] at h2
 refine a_exit ?_
 refine rs ?_
 refine om rfl ?_
 refine op_n1' (fun ver => j_call1 (v := .own 32 ver) (hp1 := [(32, some (ver, .row 3 1 _))]) [] false [] ent108 (f_cloneI L (by omega)) ⟨.inl ⟨rfl, rfl⟩, trivial⟩ trivial rfl rfl rfl (fun h => by cases h) rfl (List.all_eq_true.1 rfl) (.inl rfl) rfl rfl) fun v32x2 => ?_
 refine oa rfl ?_
 refine on ?_
 refine rs ?_
 refine om rfl ?_
 refine op_v0' (j_call0 (v := .tup []) (hp1 := [(32, some (v32x2, .row 3 1 _))]) [(32, v32x2)] false [32] ent109 (f_sortFunc L h) ⟨.inl ⟨rfl, rfl⟩, .inl ⟨rfl, rfl⟩, trivial⟩ ⟨⟨rfl, rfl⟩, trivial⟩ rfl rfl (fun h => by cases h) rfl (List.all_eq_true.1 rfl) (.inl rfl) rfl rfl) ?_
 refine on ?_
 refine rs ?_
 refine op_v' (j_build (parts := [(1, .const (.int .i64 1))]) str69 elt69 rfl rfl) ?_
 refine op_n' (fun ver => j_alloc elt69 rfl) fun v7x3 => ?_
 refine op_s' (j_storea_box0 agg69 rfl rfl rfl rfl rfl rfl) ?_
 refine on ?_
 refine a_adopt_box' 0 1007 135 2 (by decide) (id := 7) rfl rfl fun v1007x4 => ?_
 refine a_seq ?_
 refine rs ?_
 refine om rfl ?_
 refine op_v0' (j_call0 (v := .own 32 v32x2) (hp1 := [(32, some (v32x2, .row 3 1 _))]) [(32, v32x2)] false [32] ent112 (f_compact L h) ⟨.inl ⟨rfl, rfl⟩, trivial⟩ ⟨⟨rfl, rfl⟩, trivial⟩ rfl rfl (fun h => by cases h) rfl (List.all_eq_true.1 rfl) (.inl rfl) rfl rfl) ?_
 refine op_v' (j_len_own_map Tryz.underlying23 rfl rfl) ?_
 refine om rfl ?_
 refine on ?_
 refine a_block ?_
 refine a_loopF' (ι := Nat × Nat) (fun x => x.1 ≤ L.length) (fun x r => (39, .p (.int .i64 ((x.1 : Nat)))) :: r) (fun x r => (7, some (v7x3, .box 69 [.own 1007 x.2, .p (.int .i64 1)])) :: (1007, some (x.2, .row 135 2 (((L.take x.1).map oneL).map dT))) :: r) (fun x => L.length - x.1) (fun _ _ => rfl) (fun _ _ => rfl) (0, v1007x4) (by first | exact (Nat.zero_le _) | (dsimp only; exact (Nat.zero_le _))) ⟨⟨rfl, rfl⟩, ⟨rfl, trivial⟩, ⟨rfl, rfl, trivial⟩, ⟨rfl, rfl⟩, ⟨rfl, rfl⟩⟩ ?_
 rintro ⟨j, w⟩ hj; dsimp only at hj ⊢
 refine rs ?_
 refine op_v' (j_lt rfl rfl) ?_
 refine on ?_
 refine a_seq ?_
 refine ac rfl (fun h5 => ?_) fun h5 => ?_
 ·
  have h5r := h5
  try simp only [nq, nr, nl] at h5
  refine a_skip ?_
  refine a_seq ?_
  refine a_block ?_
  refine rs ?_
  refine op_v' (j_elem_ownN slt23 rfl rfl rfl rfl (by first | omega | (simp only [nr, nl]; omega))) ?_
  refine op_v' (j_load_pel leaf3 rfl rfl (at_map (by first | omega | (simp only [nr, nl]; omega))) rfl) ?_
  refine oa rfl ?_
  refine on ?_
  refine ar ?_
  refine op_v' (j_fldp fld69f0 rfl rfl) ?_
  refine op_v' (j_load_box leaf67 rfl rfl rfl) ?_
  refine om rfl ?_
  refine op_v' (j_build (parts := [(0, .const (.int .i64 1)), (1, .tmp 45)]) str135 elt135 rfl rfl) ?_
  refine op_n' (fun ver => j_buildSlice (parts := [(0, .tmp 46)]) (es := [[_, _]]) slt67 elt135 rfl rfl (by decide) (by decide) rfl rfl (by simp) rfl) fun v47x5 => ?_
  refine op_n' (fun ver => j_append_own slt67 elt135 rfl rfl rfl rfl rfl rfl (by rw [maxLen_eq]; first | omega | (simp only [nr, nl]; omega)) (by first | omega | (simp only [nr, nl]; omega))) fun v1007x6 => ?_
  refine op_v' (j_fldp fld69f0 rfl rfl) ?_
  refine op_s' (j_store_box leaf67 rfl rfl (Nat.le_of_ble_eq_true rfl) (evo rfl) rfl) ?_
  refine on ?_
  refine ar ?_
  refine op_v' (j_add rfl rfl (by first | omega | (simp only [nr, nl]; omega)) (by first | omega | (simp only [nr, nl]; omega))) ?_
  refine om rfl ?_
  refine on ?_
  exact ⟨(j + 1, v1007x6), (by first | exact (by first | omega | (simp only [nr, nl]; omega)) | (dsimp only; exact (by first | omega | (simp only [nr, nl]; omega)))), ⟨⟨rfl, rfl⟩, ⟨rfl, trivial⟩, ⟨rfl, rowEq (by dsimp only; rw [take_succD (d := (default : Int)) (by first | omega | (simp only [nr, nl]; omega)), List.map_append, List.map_append]; rfl), trivial⟩, ⟨rfl, rfl⟩, ⟨rfl, rfl⟩⟩, (by first | exact (by first | omega | (simp only [nr, nl]; omega)) | (dsimp only; exact (by first | omega | (simp only [nr, nl]; omega))))⟩
 have h5r := h5
 try simp only [nq, nr, nl] at h5
 refine a_exit ?_
 refine a_seq ?_
 refine a_freezeboxK 0 7 (by decide) trivial rfl rfl rfl rfl ?_
 try dsimp only [List.set]
 refine ar ?_
 refine op_v' (j_loada_box (ys := [.sl _, .p _]) agg69 rfl rfl rfl (Nat.le_of_ble_eq_true rfl)) ?_
 refine op_s' (j_storea_box0 agg69 rfl rfl rfl rfl rfl rfl) ?_
 refine oa rfl ?_
 refine on ?_
 refine a_ret ?_
 exact ⟨[.agg [.sl _, .p _], .p _], .tup [.agg [.sl _, .p _], .p _], [], [], [], ⟨⟨_, _, _, _, rfl, rfl, agg69, rfl⟩, rfl, trivial⟩, rfl, rfl, trivial, rfl, rfl, ⟨by rw [List.take_of_length_le (by first | omega | (simp only [nr, nl]; omega))], rfl, rfl⟩⟩
end Go.Ab

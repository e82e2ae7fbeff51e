/- Walks. -/
import Derived.Test.YtoodaakcfelaaaaGreatBase
import Derived.Test.YtoodaakcfelaaaaGreatSimp
import Derived.Test.YtoodaakcfelaaaaGreatWsdraw
import Derived.Test.YtoodaakcfelaaaaGreatWsexcl2
import Derived.Test.YtoodaakcfelaaaaGreatWstab
namespace Go.Ab
open Go.Proofs
set_option maxRecDepth 100000
set_option maxHeartbeats 8000000
set_option linter.unusedSimpArgs false
set_option linter.unusedVariables false
theorem f_eqTerms (a b : List Term) : Fn Tryz.prog 137 [.sl (a.map dT), .sl (b.map dT)] [] (fun rr ii nn => rr = .p (.bool (decide (a = b))) ∧ ii = [] ∧ nn = []) := by
 refine fn_of Tryz.func137 rfl (Nat.le_of_ble_eq_true rfl) fun w X g => ?_
 show AWp _ _ _ ⟨[(0, .sl (a.map dT)), (1, .sl (b.map dT))], []⟩
 refine a_len_map 0 rfl fun hla => ?_
 refine rs ?_
 refine oa rfl ?_
 refine on ?_
 refine a_seq ?_
 refine rs ?_
 refine om rfl ?_
 refine op_v' (j_len_map Tryz.underlying67 rfl) ?_
 refine om rfl ?_
 refine op_v' (j_len_map Tryz.underlying67 rfl) ?_
 refine op_v' (j_ne rfl rfl) ?_
 refine on ?_
 refine ac rfl (fun h1 => ?_) fun h1 => ?_
 ·
  have h1r := h1
  try simp only [nq, nr] at h1
  refine rs ?_
  refine oa rfl ?_
  refine on ?_
  refine a_ret ?_
  exact fin_p rfl ⟨boolEq (by symm; rw [decide_eq_false_iff_not]; rintro rfl; exact h1 rfl), rfl, rfl⟩
 have h1r := h1
 try simp only [nq, nr] at h1
 refine a_skip ?_
 refine a_seq ?_
 refine rs ?_
 refine om rfl ?_
 refine op_v' (j_len_map Tryz.underlying67 rfl) ?_
 refine om rfl ?_
 refine on ?_
 refine a_block ?_
 refine a_loopF' (ι := Nat) (fun k => k ≤ a.length ∧ a.take k = b.take k) (fun k r => (13, .p (.int .i64 ((k : Nat)))) :: r) (fun k r => r) (fun k => a.length - k) (fun _ _ => rfl) (fun _ _ => rfl) 0 ⟨Nat.zero_le _, rfl⟩ ⟨⟨rfl, rfl⟩, ⟨rfl, trivial⟩, trivial, ⟨rfl, rfl⟩, ⟨rfl, rfl⟩⟩ ?_
 intro k hpre0
 refine rs ?_
 refine op_v' (j_lt rfl rfl) ?_
 refine on ?_
 refine a_seq ?_
 refine ac rfl (fun h2 => ?_) fun h2 => ?_
 ·
  have h2r := h2
  try simp only [nq, nr] at h2
  refine a_skip ?_
  refine a_seq ?_
  refine a_block ?_
  refine rs ?_
  refine om rfl ?_
  refine oa rfl ?_
  refine on ?_
  refine a_seq ?_
  refine a_draw mixed (by kernel_rfl) (by kernel_rfl) fun vf => ?_
  refine d_v' (j_move (evo rfl)) ?_
  refine d_v' (j_move (evo rfl)) ?_
  refine d_v' (j_elemN slt67 rfl rfl rfl (at_map (by omega)) rfl) ?_
  refine d_v' (j_loada_el (ys := [.p _, .p _]) agg135 rfl (at_map (by omega)) rfl (Nat.le_refl _)) ?_
  refine d_v' (j_move (evo rfl)) ?_
  refine d_v' (j_move (evo rfl)) ?_
  refine d_v' (j_elemN slt67 rfl rfl rfl (at_map (by omega)) rfl) ?_
  refine d_v' (j_loada_el (ys := [.p _, .p _]) agg135 rfl (at_map (by omega)) rfl (Nat.le_refl _)) ?_
  refine d_v' (j_ne2 eqt135 rfl rfl) ?_
  refine d_nil (by kernel_rfl) (by kernel_rfl) ?_
  refine ac rfl (fun h3 => ?_) fun h3 => ?_
  ·
   have h3r := h3
   try simp only [nq, nr] at h3
   refine rs ?_
   refine oa rfl ?_
   refine on ?_
   refine a_ret ?_
   exact fin_p rfl ⟨boolEq (by symm; rw [decide_eq_false_iff_not]; rintro rfl; exact of_decide_eq_true h3r rfl), rfl, rfl⟩
  have h3r := h3
  try simp only [nq, nr] at h3
  refine a_skip ?_
  refine ar ?_
  refine op_v' (j_add rfl rfl (by omega) (by omega)) ?_
  refine om rfl ?_
  refine on ?_
  exact ⟨k + 1, ⟨(by omega), take_next hpre0.2 (by omega) (by omega) (Classical.not_not.1 (of_decide_eq_false h3r))⟩, ⟨⟨rfl, rfl⟩, ⟨rfl, trivial⟩, trivial, ⟨rfl, rfl⟩, ⟨rfl, rfl⟩⟩, (by omega)⟩
 have h2r := h2
 try simp only [nq, nr] at h2
 refine a_exit ?_
 refine rs ?_
 refine oa rfl ?_
 refine on ?_
 refine a_ret ?_
 exact fin_p rfl ⟨boolEq (by symm; rw [decide_eq_true_eq]; exact take_eq hpre0.2 (by omega) (by omega)), rfl, rfl⟩
theorem f_same (c d : Con) : Fn Tryz.prog 78 [.agg [.sl (c.1.map dT), .p (.int .i64 c.2)], .agg [.sl (d.1.map dT), .p (.int .i64 d.2)]] [] (fun rr ii nn => rr = .p (.bool (decide (c = d))) ∧ ii = [] ∧ nn = []) := by
 refine fn_of Tryz.func78 rfl (Nat.le_of_ble_eq_true rfl) fun w X g => ?_
 show AWp _ _ _ ⟨[(0, .agg [.sl (c.1.map dT), .p (.int .i64 c.2)]), (1, .agg [.sl (d.1.map dT), .p (.int .i64 d.2)])], []⟩
 refine rs ?_
 refine op_n' (fun ver => j_boxa rfl) fun v2x1 => ?_
 refine op_n' (fun ver => j_boxa rfl) fun v3x2 => ?_
 refine oa rfl ?_
 refine on ?_
 refine rs ?_
 refine op_v' (j_fldp fld69f1 rfl rfl) ?_
 refine op_v' (j_load_box leaf3 rfl rfl rfl) ?_
 refine op_v' (j_fldp fld69f1 rfl rfl) ?_
 refine op_v' (j_load_box leaf3 rfl rfl rfl) ?_
 refine op_v' (j_eq rfl rfl) ?_
 refine om rfl ?_
 refine op_split' 10 rfl (fun h1 => ?_) (fun h1 => ?_)
 ·
  have h1r := h1
  try simp only [nq, nr] at h1
  refine op_v' (j_want rfl rfl h1r (j_fldp fld69f0 rfl rfl)) ?_
  refine op_v' (j_want rfl rfl h1r (j_load_box leaf67 rfl rfl rfl)) ?_
  refine op_v' (j_want rfl rfl h1r (j_fldp fld69f0 rfl rfl)) ?_
  refine op_v' (j_want rfl rfl h1r (j_load_box leaf67 rfl rfl rfl)) ?_
  refine op_v0' (j_want rfl rfl h1r (j_call0 (v := .p _) (hp1 := []) [] false [] ent137 (f_eqTerms c.1 d.1) ⟨.inl ⟨rfl, rfl⟩, .inl ⟨rfl, rfl⟩, trivial⟩ trivial rfl rfl (fun h => by cases h) rfl (fun _ h => by cases h) (.inl rfl) rfl rfl)) ?_
  refine op_v' (j_pick_t rfl h1r (evo rfl)) ?_
  refine oa rfl ?_
  refine on ?_
  refine a_ret ?_
  exact fin_p rfl ⟨boolEq (by first | exact decide_eq_decide.2 ⟨fun h => Prod.ext h h1, fun h => congrArg Prod.fst h⟩ | exact (decide_eq_false (fun h => h1 (congrArg Prod.snd h))).symm), rfl, rfl⟩
 have h1r := h1
 try simp only [nq, nr] at h1
 refine op_v' (j_unwantV rfl rfl h1r) ?_
 refine op_v' (j_unwantV rfl rfl h1r) ?_
 refine op_v' (j_unwantV rfl rfl h1r) ?_
 refine op_v' (j_unwantV rfl rfl h1r) ?_
 refine op_v' (j_unwantV rfl rfl h1r) ?_
 refine op_v' (j_pick_f rfl h1r (evo rfl)) ?_
 refine oa rfl ?_
 refine on ?_
 refine a_ret ?_
 exact fin_p rfl ⟨boolEq (by first | exact decide_eq_decide.2 ⟨fun h => Prod.ext h h1, fun h => congrArg Prod.fst h⟩ | exact (decide_eq_false (fun h => h1 (congrArg Prod.snd h))).symm), rfl, rfl⟩
theorem f_dVars (b : List Int) (p : Nat) (hb : okB b) (hp : p ≤ 1099511620000) : Fn Tryz.prog 66 [.ptr 0 0 0] [.box 151 [.sl (b.map dU), .p (.int .i64 ((p : Nat) : Int))]] (fun rr ii nn => ∃ x : List Int × Nat, (x.1.length ≤ 6 ∧ p ≤ x.2 ∧ x.2 ≤ p + 10) ∧ rr = .sl (x.1.map dI) ∧ ii = [.box 151 [.sl (b.map dU), .p (.int .i64 ((x.2 : Nat) : Int))]] ∧ nn = []) := by
 refine fn_of Tryz.func66 rfl (Nat.le_of_ble_eq_true rfl) fun w X g => ?_
 show AWp _ _ _ ⟨[(0, .ptr 0 0 0)], [(0, some (0, .box 151 [.sl (b.map dU), .p (.int .i64 ((p : Nat) : Int))]))]⟩
 refine rs ?_
 refine oa rfl ?_
 refine on ?_
 refine rs ?_
 refine op_n' (fun ver => j_buildSlice (parts := []) (es := []) slt23 elt3 rfl rfl (by decide) (by decide) rfl rfl (by simp) rfl) fun v5x1 => ?_
 refine oa rfl ?_
 refine on ?_
 refine a_seq ?_
 refine rs ?_
 refine oa rfl ?_
 refine on ?_
 refine a_block ?_
 refine a_loopF' (ι := List Int × Nat × Nat × Nat) (fun x => x.2.1 ≤ 5 ∧ x.1.length ≤ x.2.1 ∧ x.2.2.1 = p + x.2.1) (fun x r => (4, .p (.int .i64 ((x.2.1 : Nat) + 1))) :: (3, .own 5 x.2.2.2) :: r) (fun x r => (0, some (0, .box 151 [.sl (b.map dU), .p (.int .i64 ((x.2.2.1 : Nat) : Int))])) :: (5, some (x.2.2.2, .row 3 1 (x.1.map dI))) :: r) (fun x => 5 - x.2.1) (fun _ _ => rfl) (fun _ _ => rfl) ([], 0, p, v5x1) (by first | exact ⟨Nat.zero_le _, Nat.zero_le _, rfl⟩ | (dsimp only; exact ⟨Nat.zero_le _, Nat.zero_le _, rfl⟩)) ⟨⟨rfl, rfl⟩, ⟨rfl, rfl, trivial⟩, ⟨rfl, rfl, trivial⟩, ⟨rfl, rfl⟩, ⟨rfl, rfl⟩⟩ ?_
 rintro ⟨l, k, q, v⟩ hpre; dsimp only at hpre ⊢
 refine a_seq ?_
 refine rs ?_
 refine om rfl ?_
 refine op_v' (j_le rfl rfl) ?_
 refine on ?_
 refine ac rfl (fun h1 => ?_) fun h1 => ?_
 ·
  have h1r := h1
  try simp only [nq, nr, nl] at h1
  refine a_skip ?_
  refine a_seq ?_
  refine a_block ?_
  refine rs ?_
  refine om rfl ?_
  refine op_v0' (j_call0 (v := .p _) (hp1 := [(0, some (0, .box 151 [.sl _, .p _]))]) [(0, 0)] false [0] ent67 (f_pick _ _ _ (by assumption) (by omega)) ⟨.inl ⟨rfl, rfl⟩, .inl ⟨rfl, rfl⟩, trivial⟩ ⟨⟨rfl, rfl⟩, trivial⟩ rfl rfl (fun h => by cases h) rfl (List.all_eq_true.1 rfl) (.inl rfl) rfl rfl) ?_
  refine op_v' (j_eq rfl rfl) ?_
  refine on ?_
  refine ac rfl (fun h2 => ?_) fun h2 => ?_
  ·
   have h2r := h2
   try simp only [nq, nr, nl] at h2
   refine ar ?_
   refine om rfl ?_
   refine om rfl ?_
   refine op_n' (fun ver => j_buildSlice (parts := [(0, .tmp 14)]) (es := [[_]]) slt23 elt3 rfl rfl (by decide) (by decide) rfl rfl (by simp) rfl) fun v15x2 => ?_
   refine op_n' (fun ver => j_append_own slt23 elt3 rfl rfl rfl rfl rfl rfl (by rw [maxLen_eq]; first | omega | (simp only [nr, nl]; omega)) (by first | omega | (simp only [nr, nl]; omega))) fun v5x3 => ?_
   refine oa rfl ?_
   refine on ?_
   refine ar ?_
   refine om rfl ?_
   refine op_v' (j_add rfl rfl (by first | omega | (simp only [nr, nl]; omega)) (by first | omega | (simp only [nr, nl]; omega))) ?_
   refine oa rfl ?_
   refine on ?_
   exact ⟨(l ++ [(k : Int) + 1], k + 1, q + 1, v5x3), (by first | exact ⟨by first | omega | (simp only [nr, nl]; omega), by first | omega | (simp only [nr, nl]; omega), by first | omega | (simp only [nr, nl]; omega)⟩ | (dsimp only; exact ⟨by first | omega | (simp only [nr, nl]; omega), by first | omega | (simp only [nr, nl]; omega), by first | omega | (simp only [nr, nl]; omega)⟩)), ⟨⟨rfl, rfl⟩, ⟨rfl, rfl, trivial⟩, ⟨rfl, rowEq (by rw [List.map_append]; rfl), trivial⟩, ⟨rfl, rfl⟩, ⟨rfl, rfl⟩⟩, (by first | exact (by first | omega | (simp only [nr, nl]; omega)) | (dsimp only; exact (by first | omega | (simp only [nr, nl]; omega))))⟩
  have h2r := h2
  try simp only [nq, nr, nl] at h2
  refine a_skip ?_
  refine ar ?_
  refine om rfl ?_
  refine op_v' (j_add rfl rfl (by first | omega | (simp only [nr, nl]; omega)) (by first | omega | (simp only [nr, nl]; omega))) ?_
  refine oa rfl ?_
  refine on ?_
  exact ⟨(l, k + 1, q + 1, v), (by first | exact ⟨by first | omega | (simp only [nr, nl]; omega), by first | omega | (simp only [nr, nl]; omega), by first | omega | (simp only [nr, nl]; omega)⟩ | (dsimp only; exact ⟨by first | omega | (simp only [nr, nl]; omega), by first | omega | (simp only [nr, nl]; omega), by first | omega | (simp only [nr, nl]; omega)⟩)), ⟨⟨rfl, rfl⟩, ⟨rfl, rfl, trivial⟩, ⟨rfl, rfl, trivial⟩, ⟨rfl, rfl⟩, ⟨rfl, rfl⟩⟩, (by first | exact (by first | omega | (simp only [nr, nl]; omega)) | (dsimp only; exact (by first | omega | (simp only [nr, nl]; omega))))⟩
 have h1r := h1
 try simp only [nq, nr, nl] at h1
 refine a_exit ?_
 refine a_seq ?_
 refine rs ?_
 refine om rfl ?_
 refine op_v0' (j_call0 (v := .p _) (hp1 := [(0, some (0, .box 151 [.sl _, .p _]))]) [(0, 0)] false [0] ent67 (f_pick _ _ _ (by assumption) (by omega)) ⟨.inl ⟨rfl, rfl⟩, .inl ⟨rfl, rfl⟩, trivial⟩ ⟨⟨rfl, rfl⟩, trivial⟩ rfl rfl (fun h => by cases h) rfl (List.all_eq_true.1 rfl) (.inl rfl) rfl rfl) ?_
 refine op_v' (j_eq rfl rfl) ?_
 refine on ?_
 refine ac rfl (fun h3 => ?_) fun h3 => ?_
 ·
  have h3r := h3
  try simp only [nq, nr, nl] at h3
  refine ar ?_
  refine om rfl ?_
  refine om rfl ?_
  refine op_n' (fun ver => j_buildSlice (parts := [(0, .const (.int .i64 12)), (1, .const (.int .i64 13)), (2, .const (.int .i64 0)), (3, .const (.int .i64 1))]) (es := [[_], [_], [_], [_]]) slt23 elt3 rfl rfl (by decide) (by decide) rfl rfl (by simp) rfl) fun v22x4 => ?_
  refine op_v0' (j_call0 (v := .p _) (hp1 := [(0, some (0, .box 151 [.sl _, .p _])), (22, some (v22x4, .row 3 1 _))]) [(0, 0), (22, v22x4)] false [0, 22] ent130 (f_num b (q + 1) [12, 13, 0, 1] hb (by omega) (by decide) (by decide)) ⟨.inl ⟨rfl, rfl⟩, .inl ⟨rfl, rfl⟩, trivial⟩ ⟨⟨rfl, rfl⟩, ⟨rfl, rfl⟩, trivial⟩ rfl rfl (fun h => by cases h) rfl (List.all_eq_true.1 rfl) (.inl rfl) rfl rfl) ?_
  refine op_n' (fun ver => j_buildSlice (parts := [(0, .tmp 23)]) (es := [[_]]) slt23 elt3 rfl rfl (by decide) (by decide) rfl rfl (by simp) rfl) fun v24x5 => ?_
  refine op_n' (fun ver => j_append_own slt23 elt3 rfl rfl rfl rfl rfl rfl (by rw [maxLen_eq]; first | omega | (simp only [nr, nl]; omega)) (by first | omega | (simp only [nr, nl]; omega))) fun v5x6 => ?_
  refine oa rfl ?_
  refine on ?_
  refine rs ?_
  refine om rfl ?_
  refine oa rfl ?_
  refine on ?_
  refine a_freezeK 2 ⟨⟨_, _, rfl⟩, trivial⟩ rfl rfl rfl ?_
  refine a_ret ?_
  exact ⟨[.sl _], .sl _, [.box 151 [.sl _, .p _]], [], [], ⟨rfl, trivial⟩, rfl, rfl, ⟨⟨rfl, rfl⟩, trivial⟩, rfl, rfl, ⟨(l ++ [ofV b (q + 1) [12, 13, 0, 1]], q + 2), ⟨by first | omega | (simp only [nr, nl]; omega), by dsimp only; omega⟩, slEq (by rw [List.map_append]; rfl), rfl, rfl⟩⟩
 have h3r := h3
 try simp only [nq, nr, nl] at h3
 refine a_skip ?_
 refine rs ?_
 refine om rfl ?_
 refine oa rfl ?_
 refine on ?_
 refine a_freezeK 2 ⟨⟨_, _, rfl⟩, trivial⟩ rfl rfl rfl ?_
 refine a_ret ?_
 exact ⟨[.sl _], .sl _, [.box 151 [.sl _, .p _]], [], [], ⟨rfl, trivial⟩, rfl, rfl, ⟨⟨rfl, rfl⟩, trivial⟩, rfl, rfl, ⟨(l, q + 1), ⟨by dsimp only; omega, by dsimp only; omega⟩, rfl, rfl, rfl⟩⟩
end Go.Ab

/- Walks. -/
import Derived.Test.YtoodaakcfelaaaaGreatBase2
import Derived.Test.YtoodaakcfelaaaaGreatPf4
import Derived.Test.YtoodaakcfelaaaaGreatWsrun7
import Derived.Test.YtoodaakcfelaaaaGreatWscp
import Derived.Test.YtoodaakcfelaaaaGreatBase
import Derived.Test.YtoodaakcfelaaaaGreatMod3
import Derived.Test.YtoodaakcfelaaaaGreatWsmod
import Derived.Test.YtoodaakcfelaaaaGreatVals
import Derived.Test.YtoodaakcfelaaaaGreatSimp
import Derived.Test.YtoodaakcfelaaaaGreatWscons
namespace Go.Ab
open Go.Proofs
set_option maxRecDepth 100000
set_option maxHeartbeats 8000000
set_option linter.unusedSimpArgs false
set_option linter.unusedVariables false
theorem f_eqfSt (a b : List Stp) : Fn Tryz.prog 76 [.sl (a.map dStp), .sl (b.map dStp), .fn 77 []] [] (fun rr ii nn => rr = .p (.bool (decide (a = b))) ∧ ii = [] ∧ nn = []) := by
 refine fn_of Tryz.func76 rfl (Nat.le_of_ble_eq_true rfl) fun w X g => ?_
 show AWp _ _ _ ⟨[(0, .sl (a.map dStp)), (1, .sl (b.map dStp)), (2, .fn 77 [])], []⟩
 refine a_len_map 0 rfl fun hla => ?_
 refine rs ?_
 refine oa rfl ?_
 refine on ?_
 refine a_seq ?_
 refine rs ?_
 refine om rfl ?_
 refine op_v' (j_len_map Tryz.underlying34 rfl) ?_
 refine om rfl ?_
 refine op_v' (j_len_map Tryz.underlying34 rfl) ?_
 refine op_v' (j_ne rfl rfl) ?_
 refine on ?_
 refine ac rfl (fun h1 => ?_) fun h1 => ?_
 ·
  have h1r := h1
  try simp only [nq, nr] at h1
  refine rs ?_
  refine oa rfl ?_
  refine on ?_
  refine a_ret ?_
  exact fin_p rfl ⟨boolEq (by symm; rw [decide_eq_false_iff_not]; rintro rfl; exact h1 rfl), rfl, rfl⟩
 have h1r := h1
 try simp only [nq, nr] at h1
 refine a_skip ?_
 refine a_seq ?_
 refine rs ?_
 refine om rfl ?_
 refine op_v' (j_len_map Tryz.underlying34 rfl) ?_
 refine om rfl ?_
 refine on ?_
 refine a_block ?_
 refine a_loopF' (ι := Nat) (fun k => k ≤ a.length ∧ a.take k = b.take k) (fun k r => (17, .p (.int .i64 ((k : Nat)))) :: r) (fun k r => r) (fun k => a.length - k) (fun _ _ => rfl) (fun _ _ => rfl) 0 ⟨Nat.zero_le _, rfl⟩ ⟨⟨rfl, rfl⟩, ⟨rfl, trivial⟩, trivial, ⟨rfl, rfl⟩, ⟨rfl, rfl⟩⟩ ?_
 intro k hpre0
 refine rs ?_
 refine op_v' (j_lt rfl rfl) ?_
 refine on ?_
 refine a_seq ?_
 refine ac rfl (fun h2 => ?_) fun h2 => ?_
 ·
  have h2r := h2
  try simp only [nq, nr] at h2
  refine a_skip ?_
  refine a_seq ?_
  refine a_block ?_
  refine rs ?_
  refine om rfl ?_
  refine op_v' (j_elemN slt34 rfl rfl rfl (at_map (by omega)) rfl) ?_
  refine op_v' (j_loada_el (ys := [.p _, .p _, .p _, .sl _, .p _]) agg89 rfl (at_map (by omega)) rfl (Nat.le_refl _)) ?_
  refine op_n' (fun ver => j_alloc elt89 rfl) fun v8x1 => ?_
  refine oa rfl ?_
  refine op_s' (j_storea_box0 agg89 rfl rfl rfl rfl rfl rfl) ?_
  refine on ?_
  refine rs ?_
  refine om rfl ?_
  refine om rfl ?_
  refine op_v' (j_elemN slt34 rfl rfl rfl (at_map (by omega)) rfl) ?_
  refine op_v' (j_loada_el (ys := [.p _, .p _, .p _, .sl _, .p _]) agg89 rfl (at_map (by omega)) rfl (Nat.le_refl _)) ?_
  refine op_n' (fun ver => j_alloc elt89 rfl) fun v9x2 => ?_
  refine op_s' (j_storea_box0 agg89 rfl rfl rfl rfl rfl rfl) ?_
  refine on ?_
  refine rs ?_
  refine om rfl ?_
  refine op_v' (j_loada_box (ys := [.p _, .p _, .p _, .sl _, .p _]) agg89 rfl rfl rfl (Nat.le_of_ble_eq_true rfl)) ?_
  refine op_v' (j_loada_box (ys := [.p _, .p _, .p _, .sl _, .p _]) agg89 rfl rfl rfl (Nat.le_of_ble_eq_true rfl)) ?_
  refine op_v0' (j_callF0 (v := .p _) (hp1 := []) [] false [] rfl ent77 (f_psame1 (a.getD k default) (b.getD k default)) ⟨.inl ⟨rfl, rfl⟩, .inl ⟨rfl, rfl⟩, trivial⟩ trivial rfl rfl (fun h => by cases h) rfl (fun _ h => by cases h) (.inl rfl) rfl rfl) ?_
  refine op_v' (j_not rfl) ?_
  refine on ?_
  refine ac rfl (fun h3 => ?_) fun h3 => ?_
  ·
   have h3r := h3
   try simp only [nq, nr] at h3
   refine rs ?_
   refine oa rfl ?_
   refine on ?_
   refine a_ret ?_
   exact fin_p rfl ⟨boolEq (by symm; rw [decide_eq_false_iff_not]; rintro rfl; exact h3 rfl), rfl, rfl⟩
  have h3r := h3
  try simp only [nq, nr] at h3
  refine a_skip ?_
  refine ar ?_
  refine op_v' (j_add rfl rfl (by omega) (by omega)) ?_
  refine om rfl ?_
  refine on ?_
  exact ⟨k + 1, ⟨(by omega), take_next hpre0.2 (by omega) (by omega) h3⟩, ⟨⟨rfl, rfl⟩, ⟨rfl, trivial⟩, trivial, ⟨rfl, rfl⟩, ⟨rfl, rfl⟩⟩, (by omega)⟩
 have h2r := h2
 try simp only [nq, nr] at h2
 refine a_exit ?_
 refine rs ?_
 refine oa rfl ?_
 refine on ?_
 refine a_ret ?_
 exact fin_p rfl ⟨boolEq (by symm; rw [decide_eq_true_eq]; exact take_eq hpre0.2 (by omega) (by omega)), rfl, rfl⟩
theorem f_psame (a b : List Stp) : Fn Tryz.prog 29 [.sl (a.map dStp), .sl (b.map dStp)] [] (fun rr ii nn => rr = .p (.bool (decide (a = b))) ∧ ii = [] ∧ nn = []) := by
 refine fn_of Tryz.func29 rfl (Nat.le_of_ble_eq_true rfl) fun w X g => ?_
 show AWp _ _ _ ⟨[(0, .sl (a.map dStp)), (1, .sl (b.map dStp))], []⟩
 refine rs ?_
 refine oa rfl ?_
 refine on ?_
 refine rs ?_
 refine om rfl ?_
 refine om rfl ?_
 refine op_v0' (j_call0 (v := .p _) (hp1 := []) [] false [] ent76 (f_eqfSt a b) ⟨.inl ⟨rfl, rfl⟩, .inl ⟨rfl, rfl⟩, .inl ⟨rfl, rfl⟩, trivial⟩ trivial rfl rfl (fun h => by cases h) rfl (fun _ h => by cases h) (.inl rfl) rfl rfl) ?_
 refine oa rfl ?_
 refine on ?_
 refine a_ret ?_
 exact fin_p rfl ⟨rfl, rfl, rfl⟩
theorem f_cpRows (a b : List (List Bool)) : Fn Tryz.prog 28 [.sl (a.map dD), .sl (b.map dD)] [] (fun rr ii nn => rr = .p (.bool (decide (a = b))) ∧ ii = [] ∧ nn = []) := by
 refine fn_of Tryz.func28 rfl (Nat.le_of_ble_eq_true rfl) fun w X g => ?_
 show AWp _ _ _ ⟨[(0, .sl (a.map dD)), (1, .sl (b.map dD))], []⟩
 refine a_len_map 0 rfl fun hla => ?_
 refine rs ?_
 refine oa rfl ?_
 refine on ?_
 refine a_seq ?_
 refine rs ?_
 refine om rfl ?_
 refine op_v' (j_len_map Tryz.underlying24 rfl) ?_
 refine om rfl ?_
 refine op_v' (j_len_map Tryz.underlying24 rfl) ?_
 refine op_v' (j_ne rfl rfl) ?_
 refine on ?_
 refine ac rfl (fun h1 => ?_) fun h1 => ?_
 ·
  have h1r := h1
  try simp only [nq, nr] at h1
  refine rs ?_
  refine oa rfl ?_
  refine on ?_
  refine a_ret ?_
  exact fin_p rfl ⟨boolEq (by symm; rw [decide_eq_false_iff_not]; rintro rfl; exact h1 rfl), rfl, rfl⟩
 have h1r := h1
 try simp only [nq, nr] at h1
 refine a_skip ?_
 refine a_seq ?_
 refine rs ?_
 refine oa rfl ?_
 refine on ?_
 refine a_block ?_
 refine a_loopF' (ι := Nat) (fun k => k ≤ a.length ∧ a.take k = b.take k) (fun k r => (5, .p (.int .i64 ((k : Nat)))) :: r) (fun k r => r) (fun k => a.length - k) (fun _ _ => rfl) (fun _ _ => rfl) 0 ⟨Nat.zero_le _, rfl⟩ ⟨⟨rfl, rfl⟩, ⟨rfl, trivial⟩, trivial, ⟨rfl, rfl⟩, ⟨rfl, rfl⟩⟩ ?_
 intro k hpre0
 refine a_seq ?_
 refine rs ?_
 refine om rfl ?_
 refine om rfl ?_
 refine op_v' (j_len_map Tryz.underlying24 rfl) ?_
 refine op_v' (j_lt rfl rfl) ?_
 refine on ?_
 refine ac rfl (fun h2 => ?_) fun h2 => ?_
 ·
  have h2r := h2
  try simp only [nq, nr] at h2
  refine a_skip ?_
  refine a_seq ?_
  refine a_block ?_
  refine a_seq ?_
  refine a_draw mixed (by kernel_rfl) (by kernel_rfl) fun vf => ?_
  refine d_v' (j_move (evo rfl)) ?_
  refine d_v' (j_move (evo rfl)) ?_
  refine d_v' (j_elemN slt24 rfl rfl rfl (at_map (by omega)) rfl) ?_
  refine d_v' (j_load_el leaf44 rfl (at_map (by omega)) rfl) ?_
  refine d_v' (j_move (evo rfl)) ?_
  refine d_v' (j_move (evo rfl)) ?_
  refine d_v' (j_elemN slt24 rfl rfl rfl (at_map (by omega)) rfl) ?_
  refine d_v' (j_load_el leaf44 rfl (at_map (by omega)) rfl) ?_
  refine d_v0' (j_call0 (v := .p _) (hp1 := []) [] false [] ent33 (f_cpBools (a.getD k default) (b.getD k default)) ⟨.inl ⟨rfl, rfl⟩, .inl ⟨rfl, rfl⟩, trivial⟩ trivial rfl rfl (fun h => by cases h) rfl (fun _ h => by cases h) (.inl rfl) rfl rfl) ?_
  refine d_v' (j_not rfl) ?_
  refine d_nil (by kernel_rfl) (by kernel_rfl) ?_
  refine ac rfl (fun h3 => ?_) fun h3 => ?_
  ·
   have h3r := h3
   try simp only [nq, nr] at h3
   refine rs ?_
   refine oa rfl ?_
   refine on ?_
   refine a_ret ?_
   exact fin_p rfl ⟨boolEq (by symm; rw [decide_eq_false_iff_not]; rintro rfl; exact h3 rfl), rfl, rfl⟩
  have h3r := h3
  try simp only [nq, nr] at h3
  refine a_skip ?_
  refine ar ?_
  refine om rfl ?_
  refine op_v' (j_add rfl rfl (by omega) (by omega)) ?_
  refine oa rfl ?_
  refine on ?_
  exact ⟨k + 1, ⟨(by omega), take_next hpre0.2 (by omega) (by omega) h3⟩, ⟨⟨rfl, rfl⟩, ⟨rfl, trivial⟩, trivial, ⟨rfl, rfl⟩, ⟨rfl, rfl⟩⟩, (by omega)⟩
 have h2r := h2
 try simp only [nq, nr] at h2
 refine a_exit ?_
 refine rs ?_
 refine oa rfl ?_
 refine on ?_
 refine a_ret ?_
 exact fin_p rfl ⟨boolEq (by symm; rw [decide_eq_true_eq]; exact take_eq hpre0.2 (by omega) (by omega)), rfl, rfl⟩
theorem f_lawLSo (b1 : List Int) (hb1 : ∀ a ∈ b1, 0 ≤ a ∧ a ≤ 255) : Fn Tryz.prog 5 [.sl (b1.map dU)] [] (fun rr ii nn => rr = .p (.bool true) ∧ ii = [] ∧ nn = []) := by
 refine fn_of Tryz.func5 rfl (Nat.le_of_ble_eq_true rfl) fun w X g => ?_
 show AWp _ _ _ ⟨[(0, .sl (b1.map dU))], []⟩
 refine rs ?_
 refine oa rfl ?_
 refine on ?_
 refine a_seq ?_
 refine rs ?_
 refine om rfl ?_
 refine op_v' (j_len_map Tryz.underlying41 rfl) ?_
 refine op_v' (j_gt rfl rfl) ?_
 refine on ?_
 refine ac rfl (fun h1 => ?_) fun h1 => ?_
 ·
  have h1r := h1
  try simp only [nq, nr] at h1
  refine rs ?_
  refine oa rfl ?_
  refine on ?_
  refine a_ret ?_
  exact fin_p rfl ⟨rfl, rfl, rfl⟩
 have h1r := h1
 try simp only [nq, nr] at h1
 refine a_skip ?_
 refine rs ?_
 refine om rfl ?_
 refine op_callE (v := fun x => .tup [.sl _, .sl _, .p _]) (hp1 := fun x => []) [] false ent25 (f_dLS b1 hb1) ⟨.inl ⟨rfl, rfl⟩, trivial⟩ trivial rfl (fun _ => rfl) (fun _ => rfl) (.inl rfl) (fun _ => rfl) (fun _ => rfl) ?_
 rintro ⟨l17, vs17, fu17⟩ ⟨ho17, hv17, hf17⟩
 try dsimp only at ho17
 try dsimp only at hv17
 try dsimp only at hf17
 dsimp only [List.cons_append, List.nil_append]
 refine om rfl ?_
 refine op_v' (j_extract rfl rfl) ?_
 refine op_v' (j_extract rfl rfl) ?_
 refine op_v' (j_extract rfl rfl) ?_
 refine oa rfl ?_
 refine oa rfl ?_
 refine oa rfl ?_
 refine on ?_
 refine a_seq ?_
 have HT1 := f_listImpl l17 vs17 fu17
 have HT2 := f_listSpec l17 vs17 fu17
 rw [dSt_rups] at HT1 HT2
 refine ar ?_
 refine om rfl ?_
 refine om rfl ?_
 refine om rfl ?_
 refine op_v0' (j_call0 (v := .tup [.p _, .sl _, .sl _]) (hp1 := []) [] false [] ent26 HT1 ⟨.inl ⟨rfl, rfl⟩, .inl ⟨rfl, rfl⟩, .inl ⟨rfl, rfl⟩, trivial⟩ trivial rfl rfl (fun h => by cases h) rfl (fun _ h => by cases h) (.inl rfl) rfl rfl) ?_
 refine om rfl ?_
 refine op_v' (j_extract rfl rfl) ?_
 refine op_v' (j_extract rfl rfl) ?_
 refine op_v' (j_extract rfl rfl) ?_
 refine oa rfl ?_
 refine oa rfl ?_
 refine oa rfl ?_
 refine on ?_
 refine rs ?_
 refine om rfl ?_
 refine om rfl ?_
 refine om rfl ?_
 refine op_v0' (j_call0 (v := .tup [.p _, .sl _, .sl _]) (hp1 := []) [] false [] ent27 HT2 ⟨.inl ⟨rfl, rfl⟩, .inl ⟨rfl, rfl⟩, .inl ⟨rfl, rfl⟩, trivial⟩ trivial rfl rfl (fun h => by cases h) rfl (fun _ h => by cases h) (.inl rfl) rfl rfl) ?_
 refine om rfl ?_
 refine op_v' (j_extract rfl rfl) ?_
 refine op_v' (j_extract rfl rfl) ?_
 refine op_v' (j_extract rfl rfl) ?_
 refine oa rfl ?_
 refine oa rfl ?_
 refine oa rfl ?_
 refine on ?_
 refine a_seq ?_
 refine rs ?_
 refine om rfl ?_
 refine om rfl ?_
 refine op_v' (j_ne rfl rfl) ?_
 refine om rfl ?_
 refine op_split' 40 rfl (fun h2 => ?_) (fun h2 => ?_)
 ·
  have h2r := h2
  try simp only [nq, nr] at h2
  exact absurd h2r (by simp)
 have h2r := h2
 try simp only [nq, nr] at h2
 refine op_v' (j_want rfl rfl h2r (j_move (evo rfl))) ?_
 refine op_v' (j_want rfl rfl h2r (j_move (evo rfl))) ?_
 refine op_v0' (j_want rfl rfl h2r (j_call0 (v := .p _) (hp1 := []) [] false [] ent28 (f_cpRows (lsV l17 vs17 fu17).2.1 (lsV l17 vs17 fu17).2.1) ⟨.inl ⟨rfl, rfl⟩, .inl ⟨rfl, rfl⟩, trivial⟩ trivial rfl rfl (fun h => by cases h) rfl (fun _ h => by cases h) (.inl rfl) rfl rfl)) ?_
 refine op_v' (j_want rfl rfl h2r (j_not rfl)) ?_
 refine op_v' (j_pick_f rfl h2r (evo rfl)) ?_
 refine om rfl ?_
 refine op_split' 46 rfl (fun h3 => ?_) (fun h3 => ?_)
 ·
  have h3r := h3
  try simp only [nq, nr] at h3
  exact absurd h3r (by simp)
 have h3r := h3
 try simp only [nq, nr] at h3
 refine op_v' (j_want rfl rfl h3r (j_move (evo rfl))) ?_
 refine op_v' (j_want rfl rfl h3r (j_move (evo rfl))) ?_
 refine op_v0' (j_want rfl rfl h3r (j_call0 (v := .p _) (hp1 := []) [] false [] ent29 (f_psame ((lsV l17 vs17 fu17).2.2.map rupS) ((lsV l17 vs17 fu17).2.2.map rupS)) ⟨.inl ⟨rfl, rfl⟩, .inl ⟨rfl, rfl⟩, trivial⟩ trivial rfl rfl (fun h => by cases h) rfl (fun _ h => by cases h) (.inl rfl) rfl rfl)) ?_
 refine op_v' (j_want rfl rfl h3r (j_not rfl)) ?_
 refine op_v' (j_pick_f rfl h3r (evo rfl)) ?_
 refine om rfl ?_
 refine op_split' 52 rfl (fun h4 => ?_) (fun h4 => ?_)
 ·
  have h4r := h4
  try simp only [nq, nr] at h4
  exact absurd h4r (by simp)
 have h4r := h4
 try simp only [nq, nr] at h4
 refine op_v' (j_want rfl rfl h4r (j_move (evo rfl))) ?_
 refine op_v' (j_want rfl rfl h4r (j_ne rfl rfl)) ?_
 refine op_v' (j_pick_f rfl h4r (evo rfl)) ?_
 refine on ?_
 refine ac rfl (fun h5 => ?_) fun h5 => ?_
 ·
  have h5r := h5
  try simp only [nq, nr] at h5
  refine rs ?_
  refine om rfl ?_
  refine om rfl ?_
  refine op_v' (j_eq rfl rfl) ?_
  refine om rfl ?_
  refine op_split' 59 rfl (fun h6 => ?_) (fun h6 => ?_)
  ·
   have h6r := h6
   try simp only [nq, nr] at h6
   refine op_v' (j_want rfl rfl h6r (j_move (evo rfl))) ?_
   refine op_v' (j_want rfl rfl h6r (j_move (evo rfl))) ?_
   refine op_v0' (j_want rfl rfl h6r (j_call0 (v := .p _) (hp1 := []) [] false [] ent28 (f_cpRows (lsV l17 vs17 fu17).2.1 (lsV l17 vs17 fu17).2.1) ⟨.inl ⟨rfl, rfl⟩, .inl ⟨rfl, rfl⟩, trivial⟩ trivial rfl rfl (fun h => by cases h) rfl (fun _ h => by cases h) (.inl rfl) rfl rfl)) ?_
   refine op_v' (j_pick_t rfl h6r (evo rfl)) ?_
   refine om rfl ?_
   refine op_split' 64 rfl (fun h7 => ?_) (fun h7 => ?_)
   ·
    have h7r := h7
    try simp only [nq, nr] at h7
    refine op_v' (j_want rfl rfl h7r (j_move (evo rfl))) ?_
    refine op_v' (j_want rfl rfl h7r (j_move (evo rfl))) ?_
    refine op_v0' (j_want rfl rfl h7r (j_call0 (v := .p _) (hp1 := []) [] false [] ent29 (f_psame ((lsV l17 vs17 fu17).2.2.map rupS) ((lsV l17 vs17 fu17).2.2.map rupS)) ⟨.inl ⟨rfl, rfl⟩, .inl ⟨rfl, rfl⟩, trivial⟩ trivial rfl rfl (fun h => by cases h) rfl (fun _ h => by cases h) (.inl rfl) rfl rfl)) ?_
    refine op_v' (j_pick_t rfl h7r (evo rfl)) ?_
    refine oa rfl ?_
    refine on ?_
    refine a_ret ?_
    exact fin_p rfl ⟨boolEq (by first | (simp; done) | (simp_all; done)), rfl, rfl⟩
   have h7r := h7
   try simp only [nq, nr] at h7
   exact absurd h7r (by simp)
  have h6r := h6
  try simp only [nq, nr] at h6
  exact absurd h6r (by simp)
 have h5r := h5
 try simp only [nq, nr] at h5
 refine a_skip ?_
 refine a_seq ?_
 have hk2 : (lsV l17 vs17 fu17).1 = 2 := by simp_all
 have hlc := ls_lc hk2
 have hct := ls_count hk2
 refine ar ?_
 refine om rfl ?_
 refine om rfl ?_
 refine om rfl ?_
 refine om rfl ?_
 refine op_v0' (j_call0 (v := .p _) (hp1 := []) [] false [] ent16 (f_clImplL l17 vs17 (lsV l17 vs17 fu17).2.1 ((lsV l17 vs17 fu17).2.2.map rupS)) ⟨.inl ⟨rfl, rfl⟩, .inl ⟨rfl, rfl⟩, .inl ⟨rfl, rfl⟩, .inl ⟨rfl, rfl⟩, trivial⟩ trivial rfl rfl (fun h => by cases h) rfl (fun _ h => by cases h) (.inl rfl) rfl rfl) ?_
 refine om rfl ?_
 refine op_split' 74 rfl (fun h8 => ?_) (fun h8 => ?_)
 ·
  have h8r := h8
  try simp only [nq, nr] at h8
  refine op_v' (j_want rfl rfl h8r (j_move (evo rfl))) ?_
  refine op_v' (j_want rfl rfl h8r (j_len_map Tryz.underlying24 rfl)) ?_
  refine op_v' (j_want rfl rfl h8r (j_move (evo rfl))) ?_
  refine op_v' (j_want rfl rfl h8r (j_move (evo rfl))) ?_
  refine op_v0' (j_want rfl rfl h8r (j_call0 (v := .p _) (hp1 := []) [] false [] ent24 (f_cpImpl l17 vs17) ⟨.inl ⟨rfl, rfl⟩, .inl ⟨rfl, rfl⟩, trivial⟩ trivial rfl rfl (fun h => by cases h) rfl (fun _ h => by cases h) (.inl rfl) rfl rfl)) ?_
  refine op_v' (j_want rfl rfl h8r (j_eq rfl rfl)) ?_
  refine op_v' (j_pick_t rfl h8r (evo rfl)) ?_
  refine oa rfl ?_
  refine on ?_
  refine a_ret ?_
  exact fin_p rfl ⟨boolEq (by rw [hct]; simp), rfl, rfl⟩
 have h8r := h8
 try simp only [nq, nr] at h8
 exact absurd h8r (by rw [hlc]; decide)
end Go.Ab

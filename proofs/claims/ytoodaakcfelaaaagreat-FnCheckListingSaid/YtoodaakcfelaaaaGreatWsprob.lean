/- Walks. -/
import Derived.Test.YtoodaakcfelaaaaGreatBase
import Derived.Test.YtoodaakcfelaaaaGreatSimp
import Derived.Test.YtoodaakcfelaaaaGreatWsfun
import Derived.Test.YtoodaakcfelaaaaGreatWsdrawd
import Derived.Test.YtoodaakcfelaaaaGreatWsenum
namespace Go.Ab
open Go.Proofs
set_option maxRecDepth 100000
set_option maxHeartbeats 8000000
set_option linter.unusedSimpArgs false
set_option linter.unusedVariables false
theorem f_allV1 (c : Con) : Fn Tryz.prog 181 [.agg [.sl (c.1.map dT), .p (.int .i64 c.2)]] [] (fun rr ii nn => rr = .p (.bool (!cOk c)) ∧ ii = [] ∧ nn = []) := by
 refine fn_of Tryz.func181 rfl (Nat.le_of_ble_eq_true rfl) fun w X g => ?_
 show AWp _ _ _ ⟨[(0, .agg [.sl (c.1.map dT), .p (.int .i64 c.2)])], []⟩
 refine rs ?_
 refine op_n' (fun ver => j_boxa rfl) fun v1x1 => ?_
 refine oa rfl ?_
 refine on ?_
 refine rs ?_
 refine op_v' (j_loada_box (ys := [.sl _, .p _]) agg69 rfl rfl rfl (Nat.le_of_ble_eq_true rfl)) ?_
 refine op_v0' (j_call0 (v := .p _) (hp1 := []) [] false [] ent115 (f_cvImpl _) ⟨.inl ⟨rfl, rfl⟩, trivial⟩ trivial rfl rfl (fun h => by cases h) rfl (fun _ h => by cases h) (.inl rfl) rfl rfl) ?_
 refine op_v' (j_not rfl) ?_
 refine oa rfl ?_
 refine on ?_
 refine a_ret ?_
 exact fin_p rfl ⟨rfl, rfl, rfl⟩
theorem f_allV (l : List Con) : Fn Tryz.prog 133 [.sl (l.map dC)] [] (fun rr ii nn => rr = .p (.bool (l.all cOk)) ∧ ii = [] ∧ nn = []) := by
 refine fn_of Tryz.func133 rfl (Nat.le_of_ble_eq_true rfl) fun w X g => ?_
 show AWp _ _ _ ⟨[(0, .sl (l.map dC))], []⟩
 refine rs ?_
 refine oa rfl ?_
 refine on ?_
 refine rs ?_
 refine om rfl ?_
 refine op_v0' (j_call0 (v := .p _) (hp1 := []) [] false [] ent124 (f_ctf_Con_0 181 l (fun c => !cOk c) ent181 (fun c _ => f_allV1 c)) ⟨.inl ⟨rfl, rfl⟩, .inl ⟨rfl, rfl⟩, trivial⟩ trivial rfl rfl (fun h => by cases h) rfl (fun _ h => by cases h) (.inl rfl) rfl rfl) ?_
 refine op_v' (j_not rfl) ?_
 refine oa rfl ?_
 refine on ?_
 refine a_ret ?_
 exact fin_p rfl ⟨boolEq not_any_not, rfl, rfl⟩
theorem f_pvImpl (l : List Con) : Fn Tryz.prog 69 [.sl (l.map dC)] [] (fun rr ii nn => rr = .p (.bool (pOk l)) ∧ ii = [] ∧ nn = []) := by
 refine fn_of Tryz.func69 rfl (Nat.le_of_ble_eq_true rfl) fun w X g => ?_
 show AWp _ _ _ ⟨[(0, .sl (l.map dC))], []⟩
 refine rs ?_
 refine oa rfl ?_
 refine on ?_
 refine rs ?_
 refine om rfl ?_
 refine op_v' (j_len_map Tryz.underlying30 rfl) ?_
 refine op_v' (j_le rfl rfl) ?_
 refine om rfl ?_
 refine op_split' 6 rfl (fun h1 => ?_) (fun h1 => ?_)
 ·
  have h1r := h1
  try simp only [nq, nr] at h1
  refine op_v' (j_want rfl rfl h1r (j_move (evo rfl))) ?_
  refine op_v0' (j_want rfl rfl h1r (j_call0 (v := .p _) (hp1 := []) [] false [] ent133 (f_allV _) ⟨.inl ⟨rfl, rfl⟩, trivial⟩ trivial rfl rfl (fun h => by cases h) rfl (fun _ h => by cases h) (.inl rfl) rfl rfl)) ?_
  refine op_v' (j_pick_t rfl h1r (evo rfl)) ?_
  refine oa rfl ?_
  refine on ?_
  refine a_ret ?_
  exact fin_p rfl ⟨boolEq (by unfold pOk; first | (rw [decide_eq_true (show l.length ≤ 400 by omega), Bool.true_and]) | (rw [decide_eq_false (show ¬ l.length ≤ 400 by omega), Bool.false_and])), rfl, rfl⟩
 have h1r := h1
 try simp only [nq, nr] at h1
 refine op_v' (j_unwantV rfl rfl h1r) ?_
 refine op_v' (j_unwantV rfl rfl h1r) ?_
 refine op_v' (j_pick_f rfl h1r (evo rfl)) ?_
 refine oa rfl ?_
 refine on ?_
 refine a_ret ?_
 exact fin_p rfl ⟨boolEq (by unfold pOk; first | (rw [decide_eq_true (show l.length ≤ 400 by omega), Bool.true_and]) | (rw [decide_eq_false (show ¬ l.length ≤ 400 by omega), Bool.false_and])), rfl, rfl⟩
theorem f_pvSpec (l : List Con) : Fn Tryz.prog 48 [.sl (l.map dC)] [] (fun rr ii nn => rr = .p (.bool (pOk l)) ∧ ii = [] ∧ nn = []) := by
 refine fn_of Tryz.func48 rfl (Nat.le_of_ble_eq_true rfl) fun w X g => ?_
 show AWp _ _ _ ⟨[(0, .sl (l.map dC))], []⟩
 refine a_len_map 0 rfl fun hlen => ?_
 refine rs ?_
 refine oa rfl ?_
 refine on ?_
 refine a_seq ?_
 refine rs ?_
 refine oa rfl ?_
 refine on ?_
 refine a_block ?_
 refine a_loopF' (ι := Nat) (fun k => k ≤ l.length ∧ (l.take k).all cOk = true) (fun k r => (3, .p (.int .i64 ((k : Nat)))) :: r) (fun k r => r) (fun k => l.length - k) (fun _ _ => rfl) (fun _ _ => rfl) 0 ⟨Nat.zero_le _, rfl⟩ ⟨⟨rfl, rfl⟩, ⟨rfl, trivial⟩, trivial, ⟨rfl, rfl⟩, ⟨rfl, rfl⟩⟩ ?_
 intro k hpre
 refine a_seq ?_
 refine rs ?_
 refine om rfl ?_
 refine om rfl ?_
 refine op_v' (j_len_map Tryz.underlying30 rfl) ?_
 refine op_v' (j_lt rfl rfl) ?_
 refine on ?_
 refine ac rfl (fun h1 => ?_) fun h1 => ?_
 ·
  have h1r := h1
  try simp only [nq, nr] at h1
  refine a_skip ?_
  refine a_seq ?_
  refine a_block ?_
  refine rs ?_
  refine om rfl ?_
  refine om rfl ?_
  refine op_v' (j_elemN slt30 rfl rfl rfl (at_map (by omega)) rfl) ?_
  refine op_v' (j_loada_el (ys := [.sl _, .p _]) agg69 rfl (at_map (by omega)) rfl (Nat.le_refl _)) ?_
  refine op_v0' (j_call0 (v := .p _) (hp1 := []) [] false [] ent118 (f_cvSpec (l.getD k default)) ⟨.inl ⟨rfl, rfl⟩, trivial⟩ trivial rfl rfl (fun h => by cases h) rfl (fun _ h => by cases h) (.inl rfl) rfl rfl) ?_
  refine op_v' (j_not rfl) ?_
  refine on ?_
  refine ac rfl (fun h2 => ?_) fun h2 => ?_
  ·
   have h2r := h2
   try simp only [nq, nr] at h2
   refine rs ?_
   refine oa rfl ?_
   refine on ?_
   refine a_ret ?_
   exact fin_p rfl ⟨boolEq (by unfold pOk; rw [all_no (d := default) (k := k) (by omega) (by assumption), Bool.and_false]), rfl, rfl⟩
  have h2r := h2
  try simp only [nq, nr] at h2
  refine a_skip ?_
  refine ar ?_
  refine om rfl ?_
  refine op_v' (j_add rfl rfl (by omega) (by omega)) ?_
  refine oa rfl ?_
  refine on ?_
  exact ⟨k + 1, ⟨by omega, all_next (d := default) hpre.2 (by omega) (by assumption)⟩, ⟨⟨rfl, rfl⟩, ⟨rfl, trivial⟩, trivial, ⟨rfl, rfl⟩, ⟨rfl, rfl⟩⟩, (by omega)⟩
 have h1r := h1
 try simp only [nq, nr] at h1
 refine a_exit ?_
 refine rs ?_
 refine om rfl ?_
 refine op_v' (j_len_map Tryz.underlying30 rfl) ?_
 refine op_v' (j_le rfl rfl) ?_
 refine oa rfl ?_
 refine on ?_
 refine a_ret ?_
 exact fin_p rfl ⟨boolEq (by unfold pOk; rw [all_full hpre.2 (by omega), Bool.and_true]; exact decide_eq_decide.2 (by omega)), rfl, rfl⟩
theorem f_sat1 (c : Con) (bs : List Bool) (hc : cOk c = true) (hb : bs.length = 12) : Fn Tryz.prog 125 [.agg [.sl (c.1.map dT), .p (.int .i64 c.2)], .ptr 0 0 0] [.box 44 [.sl (bs.map dB)]] (fun rr ii nn => rr = .p (.bool (!holdsV c bs)) ∧ ii = [.box 44 [.sl (bs.map dB)]] ∧ nn = []) := by
 refine fn_of Tryz.func125 rfl (Nat.le_of_ble_eq_true rfl) fun w X g => ?_
 show AWp _ _ _ ⟨[(0, .agg [.sl (c.1.map dT), .p (.int .i64 c.2)]), (1, .ptr 0 0 0)], [(0, some (0, .box 44 [.sl (bs.map dB)]))]⟩
 refine rs ?_
 refine op_n' (fun ver => j_boxa rfl) fun v2x1 => ?_
 refine oa rfl ?_
 refine on ?_
 refine rs ?_
 refine op_v' (j_loada_box (ys := [.sl _, .p _]) agg69 rfl rfl rfl (Nat.le_of_ble_eq_true rfl)) ?_
 refine op_v' (j_load_box leaf44 rfl rfl rfl) ?_
 refine op_v0' (j_call0 (v := .p _) (hp1 := []) [] false [] ent126 (f_holdsC c bs hc hb) ⟨.inl ⟨rfl, rfl⟩, .inl ⟨rfl, rfl⟩, trivial⟩ trivial rfl rfl (fun h => by cases h) rfl (fun _ h => by cases h) (.inl rfl) rfl rfl) ?_
 refine op_v' (j_not rfl) ?_
 refine oa rfl ?_
 refine on ?_
 refine a_ret ?_
 exact ⟨[.p _], .p _, [.box 44 [.sl _]], [], [], ⟨rfl, trivial⟩, rfl, rfl, ⟨⟨rfl, rfl⟩, trivial⟩, rfl, rfl, ⟨rfl, rfl, rfl⟩⟩
theorem f_sat (l : List Con) (bs : List Bool) (hl : l.all cOk = true) (hb : bs.length = 12) : Fn Tryz.prog 58 [.sl (l.map dC), .sl (bs.map dB)] [] (fun rr ii nn => rr = .p (.bool (satV l bs)) ∧ ii = [] ∧ nn = []) := by
 refine fn_of Tryz.func58 rfl (Nat.le_of_ble_eq_true rfl) fun w X g => ?_
 show AWp _ _ _ ⟨[(0, .sl (l.map dC)), (1, .sl (bs.map dB))], []⟩
 refine rs ?_
 refine op_n' (fun ver => j_box (evo rfl) rfl) fun v3x1 => ?_
 refine oa rfl ?_
 refine on ?_
 refine rs ?_
 refine om rfl ?_
 refine op_v' (j_makeFunc (f := 125) (xs := [.tmp 3]) (caps := [.ptr 3 v3x1 0]) rfl) ?_
 refine op_v0' (j_call0 (v := .p _) (hp1 := [(3, some (v3x1, .box 44 [.sl _]))]) [(3, v3x1)] false [3] ent124 (f_ctf_Con_sl 44 (bs.map dB) 125 l (fun c => !holdsV c bs) ent125 (fun c hc => f_sat1 c bs (List.all_eq_true.1 hl c hc) hb)) ⟨.inl ⟨rfl, rfl⟩, .inl ⟨rfl, rfl⟩, trivial⟩ ⟨⟨rfl, rfl⟩, trivial⟩ rfl rfl (fun h => by cases h) rfl (List.all_eq_true.1 rfl) (.inl rfl) rfl rfl) ?_
 refine op_v' (j_not rfl) ?_
 refine oa rfl ?_
 refine on ?_
 refine a_ret ?_
 exact fin_p rfl ⟨boolEq not_any_not, rfl, rfl⟩
theorem f_l3All (l : List Con) (bs : List Bool) (hl : l.all cOk = true) (hb : bs.length = 12) : Fn Tryz.prog 50 [.sl (l.map dC), .sl (bs.map dB)] [] (fun rr ii nn => rr = .p (.bool (satV l bs)) ∧ ii = [] ∧ nn = []) := by
 refine fn_of Tryz.func50 rfl (Nat.le_of_ble_eq_true rfl) fun w X g => ?_
 show AWp _ _ _ ⟨[(0, .sl (l.map dC)), (1, .sl (bs.map dB))], []⟩
 refine a_len_map 0 rfl fun hlen => ?_
 refine rs ?_
 refine oa rfl ?_
 refine on ?_
 refine a_seq ?_
 refine rs ?_
 refine oa rfl ?_
 refine on ?_
 refine a_block ?_
 refine a_loopF' (ι := Nat) (fun k => k ≤ l.length ∧ (l.take k).all (fun c => holdsV c bs) = true) (fun k r => (5, .p (.int .i64 ((k : Nat)))) :: r) (fun k r => r) (fun k => l.length - k) (fun _ _ => rfl) (fun _ _ => rfl) 0 ⟨Nat.zero_le _, rfl⟩ ⟨⟨rfl, rfl⟩, ⟨rfl, trivial⟩, trivial, ⟨rfl, rfl⟩, ⟨rfl, rfl⟩⟩ ?_
 intro k hpre
 refine a_seq ?_
 refine rs ?_
 refine om rfl ?_
 refine om rfl ?_
 refine op_v' (j_len_map Tryz.underlying30 rfl) ?_
 refine op_v' (j_lt rfl rfl) ?_
 refine on ?_
 refine ac rfl (fun h1 => ?_) fun h1 => ?_
 ·
  have h1r := h1
  try simp only [nq, nr] at h1
  refine a_skip ?_
  refine a_seq ?_
  refine a_block ?_
  refine rs ?_
  refine om rfl ?_
  refine om rfl ?_
  refine op_v' (j_elemN slt30 rfl rfl rfl (at_map (by omega)) rfl) ?_
  refine op_v' (j_loada_el (ys := [.sl _, .p _]) agg69 rfl (at_map (by omega)) rfl (Nat.le_refl _)) ?_
  refine om rfl ?_
  refine op_v0' (j_call0 (v := .p _) (hp1 := []) [] false [] ent119 (f_l1Eval (l.getD k default) bs (all_at hl (by omega)) hb) ⟨.inl ⟨rfl, rfl⟩, .inl ⟨rfl, rfl⟩, trivial⟩ trivial rfl rfl (fun h => by cases h) rfl (fun _ h => by cases h) (.inl rfl) rfl rfl) ?_
  refine op_v' (j_not rfl) ?_
  refine on ?_
  refine ac rfl (fun h2 => ?_) fun h2 => ?_
  ·
   have h2r := h2
   try simp only [nq, nr] at h2
   refine rs ?_
   refine oa rfl ?_
   refine on ?_
   refine a_ret ?_
   exact fin_p rfl ⟨boolEq (by unfold satV; rw [all_no (p := fun c => holdsV c bs) (d := default) (k := k) (by omega) (by assumption)]), rfl, rfl⟩
  have h2r := h2
  try simp only [nq, nr] at h2
  refine a_skip ?_
  refine ar ?_
  refine om rfl ?_
  refine op_v' (j_add rfl rfl (by omega) (by omega)) ?_
  refine oa rfl ?_
  refine on ?_
  exact ⟨k + 1, ⟨by omega, all_next (d := default) hpre.2 (by omega) (by assumption)⟩, ⟨⟨rfl, rfl⟩, ⟨rfl, trivial⟩, trivial, ⟨rfl, rfl⟩, ⟨rfl, rfl⟩⟩, (by omega)⟩
 have h1r := h1
 try simp only [nq, nr] at h1
 refine a_exit ?_
 refine rs ?_
 refine oa rfl ?_
 refine on ?_
 refine a_ret ?_
 exact fin_p rfl ⟨boolEq (by symm; exact all_full (p := fun c => holdsV c bs) hpre.2 (by omega)), rfl, rfl⟩
theorem f_sa (l : List Con) (bs : List Bool) : Fn Tryz.prog 23 [.sl (l.map dC), .sl (bs.map dB)] [] (fun rr ii nn => rr = .p (.bool (saV l bs)) ∧ ii = [] ∧ nn = []) := by
 refine fn_of Tryz.func23 rfl (Nat.le_of_ble_eq_true rfl) fun w X g => ?_
 show AWp _ _ _ ⟨[(0, .sl (l.map dC)), (1, .sl (bs.map dB))], []⟩
 refine rs ?_
 refine oa rfl ?_
 refine on ?_
 refine rs ?_
 refine om rfl ?_
 refine op_v0' (j_call0 (v := .p _) (hp1 := []) [] false [] ent69 (f_pvImpl _) ⟨.inl ⟨rfl, rfl⟩, trivial⟩ trivial rfl rfl (fun h => by cases h) rfl (fun _ h => by cases h) (.inl rfl) rfl rfl) ?_
 refine om rfl ?_
 refine op_split' 7 rfl (fun h1 => ?_) (fun h1 => ?_)
 ·
  have h1r := h1
  try simp only [nq, nr] at h1
  refine op_v' (j_want rfl rfl h1r (j_move (evo rfl))) ?_
  refine op_v' (j_want rfl rfl h1r (j_len_map Tryz.underlying44 rfl)) ?_
  refine op_v' (j_want rfl rfl h1r (j_eq rfl rfl)) ?_
  refine op_v' (j_pick_t rfl h1r (evo rfl)) ?_
  refine om rfl ?_
  refine op_split' 12 rfl (fun h2 => ?_) (fun h2 => ?_)
  ·
   have h2r := h2
   try simp only [nq, nr] at h2
   refine op_v' (j_want rfl rfl h2r (j_move (evo rfl))) ?_
   refine op_v' (j_want rfl rfl h2r (j_move (evo rfl))) ?_
   refine op_v0' (j_want rfl rfl h2r (j_call0 (v := .p _) (hp1 := []) [] false [] ent58 (f_sat l bs (pOk_all (by assumption)) (by omega)) ⟨.inl ⟨rfl, rfl⟩, .inl ⟨rfl, rfl⟩, trivial⟩ trivial rfl rfl (fun h => by cases h) rfl (fun _ h => by cases h) (.inl rfl) rfl rfl)) ?_
   refine op_v' (j_pick_t rfl h2r (evo rfl)) ?_
   refine oa rfl ?_
   refine on ?_
   refine a_ret ?_
   exact fin_p rfl ⟨boolEq (by unfold saV; rw [show pOk l = _ by assumption]; first | rfl | (rw [decide_eq_true (show bs.length = 12 by omega)]; rfl) | (rw [decide_eq_false (show ¬ bs.length = 12 by omega)]; rfl)), rfl, rfl⟩
  have h2r := h2
  try simp only [nq, nr] at h2
  refine op_v' (j_unwantV rfl rfl h2r) ?_
  refine op_v' (j_unwantV rfl rfl h2r) ?_
  refine op_v' (j_unwantV rfl rfl h2r) ?_
  refine op_v' (j_pick_f rfl h2r (evo rfl)) ?_
  refine oa rfl ?_
  refine on ?_
  refine a_ret ?_
  exact fin_p rfl ⟨boolEq (by unfold saV; rw [show pOk l = _ by assumption]; first | rfl | (rw [decide_eq_true (show bs.length = 12 by omega)]; rfl) | (rw [decide_eq_false (show ¬ bs.length = 12 by omega)]; rfl)), rfl, rfl⟩
 have h1r := h1
 try simp only [nq, nr] at h1
 refine op_v' (j_unwantV rfl rfl h1r) ?_
 refine op_v' (j_unwantV rfl rfl h1r) ?_
 refine op_v' (j_unwantV rfl rfl h1r) ?_
 refine op_v' (j_pick_f rfl h1r (evo rfl)) ?_
 refine om rfl ?_
 refine op_v' (j_unwantV rfl rfl rfl) ?_
 refine op_v' (j_unwantV rfl rfl rfl) ?_
 refine op_v' (j_unwantV rfl rfl rfl) ?_
 refine op_v' (j_pick_f rfl rfl (evo rfl)) ?_
 refine oa rfl ?_
 refine on ?_
 refine a_ret ?_
 exact fin_p rfl ⟨boolEq (by unfold saV; rw [show pOk l = _ by assumption]; first | rfl | (rw [decide_eq_true (show bs.length = 12 by omega)]; rfl) | (rw [decide_eq_false (show ¬ bs.length = 12 by omega)]; rfl)), rfl, rfl⟩
end Go.Ab

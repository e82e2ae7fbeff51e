/- Walks. -/
import Derived.Test.YtoodaakcfelaaaaGreatBase
import Derived.Test.YtoodaakcfelaaaaGreatSimp
import Derived.Test.YtoodaakcfelaaaaGreatWsprob
import Derived.Test.YtoodaakcfelaaaaGreatWsdrawc
namespace Go.Ab
open Go.Proofs
set_option maxRecDepth 100000
set_option maxHeartbeats 8000000
set_option linter.unusedSimpArgs false
set_option linter.unusedVariables false
theorem f_under (l : Int) (p : List Int) (hl : litOk l = true) (hp : paOk p = true) : Fn Tryz.prog 265 [.p (.int .i64 (l)), .sl (p.map dI)] [] (fun rr ii nn => rr = .p (.int .i64 (stV p l)) ∧ ii = [] ∧ nn = []) := by
 refine fn_of Tryz.func265 rfl (Nat.le_of_ble_eq_true rfl) fun w X g => ?_
 show AWp _ _ _ ⟨[(0, .p (.int .i64 (l))), (1, .sl (p.map dI))], []⟩
 have hpl := paOk_len hp
 have hli := litOk_iff.1 hl
 have ha1 := paOk_at hp (-l - 1).toNat
 have ha2 := paOk_at hp (l - 1).toNat
 refine rs ?_
 refine oa rfl ?_
 refine on ?_
 refine a_seq ?_
 refine rs ?_
 refine om rfl ?_
 refine op_v' (j_lt rfl rfl) ?_
 refine on ?_
 refine ac rfl (fun h1 => ?_) fun h1 => ?_
 ·
  have h1r := h1
  try simp only [nq, nr] at h1
  refine rs ?_
  refine om rfl ?_
  refine om rfl ?_
  refine op_v' (j_neg rfl (by first | omega | (simp only [nr]; omega)) (by first | omega | (simp only [nr]; omega))) ?_
  refine op_v' (j_sub rfl rfl (by first | omega | (simp only [nr]; omega)) (by first | omega | (simp only [nr]; omega))) ?_
  refine op_v' (j_elemN (n := (-l - 1).toNat) slt23 rfl rfl (by first | omega | (simp only [nr]; omega)) (at_map (by first | omega | (simp only [nr]; omega))) rfl) ?_
  refine op_v' (j_load_el leaf3 rfl (at_map (by first | omega | (simp only [nr]; omega))) rfl) ?_
  refine op_v' (j_neg rfl (by first | omega | (simp only [nr]; omega)) (by first | omega | (simp only [nr]; omega))) ?_
  refine oa rfl ?_
  refine on ?_
  refine a_ret ?_
  exact fin_p rfl ⟨intEq (by unfold stV; first | rw [if_pos (by omega)] | rw [if_neg (by omega)]), rfl, rfl⟩
 have h1r := h1
 try simp only [nq, nr] at h1
 refine a_skip ?_
 refine rs ?_
 refine om rfl ?_
 refine om rfl ?_
 refine op_v' (j_sub rfl rfl (by first | omega | (simp only [nr]; omega)) (by first | omega | (simp only [nr]; omega))) ?_
 refine op_v' (j_elemN (n := (l - 1).toNat) slt23 rfl rfl (by first | omega | (simp only [nr]; omega)) (at_map (by first | omega | (simp only [nr]; omega))) rfl) ?_
 refine op_v' (j_load_el leaf3 rfl (at_map (by first | omega | (simp only [nr]; omega))) rfl) ?_
 refine oa rfl ?_
 refine on ?_
 refine a_ret ?_
 exact fin_p rfl ⟨intEq (by unfold stV; first | rw [if_pos (by omega)] | rw [if_neg (by omega)]), rfl, rfl⟩
theorem f_l3State (p : List Int) (l : Int) (hl : litOk l = true) (hp : paOk p = true) : Fn Tryz.prog 266 [.sl (p.map dI), .p (.int .i64 (l))] [] (fun rr ii nn => rr = .p (.int .i64 (stV p l)) ∧ ii = [] ∧ nn = []) := by
 refine fn_of Tryz.func266 rfl (Nat.le_of_ble_eq_true rfl) fun w X g => ?_
 show AWp _ _ _ ⟨[(0, .sl (p.map dI)), (1, .p (.int .i64 (l)))], []⟩
 have hpl := paOk_len hp
 have hli := litOk_iff.1 hl
 have ha1 := paOk_at hp (-l - 1).toNat
 have ha2 := paOk_at hp (l - 1).toNat
 refine rs ?_
 refine oa rfl ?_
 refine on ?_
 refine a_seq ?_
 refine rs ?_
 refine om rfl ?_
 refine op_v' (j_gt rfl rfl) ?_
 refine on ?_
 refine ac rfl (fun h1 => ?_) fun h1 => ?_
 ·
  have h1r := h1
  try simp only [nq, nr] at h1
  refine rs ?_
  refine om rfl ?_
  refine om rfl ?_
  refine op_v' (j_sub rfl rfl (by first | omega | (simp only [nr]; omega)) (by first | omega | (simp only [nr]; omega))) ?_
  refine op_v' (j_elemN (n := (l - 1).toNat) slt23 rfl rfl (by first | omega | (simp only [nr]; omega)) (at_map (by first | omega | (simp only [nr]; omega))) rfl) ?_
  refine op_v' (j_load_el leaf3 rfl (at_map (by first | omega | (simp only [nr]; omega))) rfl) ?_
  refine oa rfl ?_
  refine on ?_
  refine a_ret ?_
  exact fin_p rfl ⟨intEq (by unfold stV; first | rw [if_pos (by omega)] | rw [if_neg (by omega)]), rfl, rfl⟩
 have h1r := h1
 try simp only [nq, nr] at h1
 refine a_skip ?_
 refine rs ?_
 refine om rfl ?_
 refine om rfl ?_
 refine op_v' (j_neg rfl (by first | omega | (simp only [nr]; omega)) (by first | omega | (simp only [nr]; omega))) ?_
 refine op_v' (j_sub rfl rfl (by first | omega | (simp only [nr]; omega)) (by first | omega | (simp only [nr]; omega))) ?_
 refine op_v' (j_elemN (n := (-l - 1).toNat) slt23 rfl rfl (by first | omega | (simp only [nr]; omega)) (at_map (by first | omega | (simp only [nr]; omega))) rfl) ?_
 refine op_v' (j_load_el leaf3 rfl (at_map (by first | omega | (simp only [nr]; omega))) rfl) ?_
 refine op_v' (j_neg rfl (by first | omega | (simp only [nr]; omega)) (by first | omega | (simp only [nr]; omega))) ?_
 refine oa rfl ?_
 refine on ?_
 refine a_ret ?_
 exact fin_p rfl ⟨intEq (by unfold stV; first | rw [if_pos (by omega)] | rw [if_neg (by omega)]), rfl, rfl⟩
theorem f_l3Assign (p : List Int) (l : Int) (hl : litOk l = true) (hp : p.length = 12) : Fn Tryz.prog 185 [.own 0 0, .p (.int .i64 (l))] [.row 3 1 (p.map dI)] (fun rr ii nn => rr = .tup [] ∧ ii = [.row 3 1 ((p.set (varOf l - 1).toNat (if l < 0 then -1 else 1)).map dI)] ∧ nn = []) := by
 refine fn_of Tryz.func185 rfl (Nat.le_of_ble_eq_true rfl) fun w X g => ?_
 show AWp _ _ _ ⟨[(0, .own 0 0), (1, .p (.int .i64 (l)))], [(0, some (0, .row 3 1 (p.map dI)))]⟩
 have hli := litOk_iff.1 hl
 have hvo : varOf l = max l (-l) := rfl
 refine rs ?_
 refine om rfl ?_
 refine op_v' (j_gt rfl rfl) ?_
 refine on ?_
 refine ac rfl (fun h1 => ?_) fun h1 => ?_
 ·
  have h1r := h1
  try simp only [nq, nr] at h1
  refine ar ?_
  refine om rfl ?_
  refine om rfl ?_
  refine op_v' (j_sub rfl rfl (by first | omega | (simp only [nr]; omega)) (by first | omega | (simp only [nr]; omega))) ?_
  refine op_v' (j_elem_ownN (n := (varOf l - 1).toNat) slt23 rfl rfl rfl (by first | omega | (simp only [nr]; omega)) (by first | omega | (simp only [nr]; omega))) ?_
  refine op_s' (j_store_row leaf3 rfl rfl (by first | omega | (simp only [nr]; omega)) (evo rfl) rfl rfl) ?_
  refine on ?_
  exact ⟨[], .tup [], [.row 3 1 _], [], [], trivial, rfl, rfl, ⟨⟨rfl, rfl⟩, trivial⟩, rfl, rfl, ⟨rfl, by rw [if_neg (by omega), List.map_set]; rfl, rfl⟩⟩
 have h1r := h1
 try simp only [nq, nr] at h1
 refine ar ?_
 refine om rfl ?_
 refine om rfl ?_
 refine op_v' (j_neg rfl (by first | omega | (simp only [nr]; omega)) (by first | omega | (simp only [nr]; omega))) ?_
 refine op_v' (j_sub rfl rfl (by first | omega | (simp only [nr]; omega)) (by first | omega | (simp only [nr]; omega))) ?_
 refine op_v' (j_elem_ownN (n := (varOf l - 1).toNat) slt23 rfl rfl rfl (by first | omega | (simp only [nr]; omega)) (by first | omega | (simp only [nr]; omega))) ?_
 refine op_s' (j_store_row leaf3 rfl rfl (by first | omega | (simp only [nr]; omega)) (evo rfl) rfl rfl) ?_
 refine on ?_
 exact ⟨[], .tup [], [.row 3 1 _], [], [], trivial, rfl, rfl, ⟨⟨rfl, rfl⟩, trivial⟩, rfl, rfl, ⟨rfl, by rw [if_pos (by omega), List.map_set]; rfl, rfl⟩⟩
end Go.Ab

/- Walks. -/
import Derived.Test.YtoodaakcfelaaaaGreatBase
import Derived.Test.YtoodaakcfelaaaaGreatCub
import Derived.Test.YtoodaakcfelaaaaGreatWsrun1
import Derived.Test.YtoodaakcfelaaaaGreatWssolve
namespace Go.Ab
open Go.Proofs
set_option maxRecDepth 100000
set_option maxHeartbeats 8000000
set_option linter.unusedSimpArgs false
set_option linter.unusedVariables false
theorem f_has (D : Db) (i : Int) (hl2 : D.2.length = D.1.length) (hll : D.1.length ≤ 2000) : Fn Tryz.prog 234 [.ptr 0 0 0, .p (.int .i64 (i))] [.box 170 [.own 1 0, .own 2 0], .row 69 2 ((D.1).map dC), .row 4 1 ((D.2).map dB)] (fun rr ii nn => rr = .p (.bool (livV D i)) ∧ ii = [.box 170 [.own 1 0, .own 2 0], .row 69 2 ((D.1).map dC), .row 4 1 ((D.2).map dB)] ∧ nn = []) := by
 refine fn_of Tryz.func234 rfl (Nat.le_of_ble_eq_true rfl) fun w X g => ?_
 show AWp _ _ _ ⟨[(0, .ptr 0 0 0), (1, .p (.int .i64 (i)))], [(0, some (0, .box 170 [.own 1 0, .own 2 0])), (1, some (0, .row 69 2 ((D.1).map dC))), (2, some (0, .row 4 1 ((D.2).map dB)))]⟩
 refine rs ?_
 refine oa rfl ?_
 refine on ?_
 refine rs ?_
 refine om rfl ?_
 refine om rfl ?_
 refine op_v' (j_nil_ptr rfl rfl) ?_
 refine op_v' (j_fldp fld170f0 rfl rfl) ?_
 refine op_v' (j_load_box leaf30 rfl rfl rfl) ?_
 refine op_v' (j_len_own_map Tryz.underlying30 rfl rfl) ?_
 refine op_v' (j_sub rfl rfl (by first | omega | (simp only [nr, nl]; omega)) (by first | omega | (simp only [nr, nl]; omega))) ?_
 refine op_v0' (j_call0 (v := .p _) (hp1 := []) [] false [] ent113 (f_within i 0 ((D.1.length : Int) - 1)) ⟨.inl ⟨rfl, rfl⟩, .inl ⟨rfl, rfl⟩, .inl ⟨rfl, rfl⟩, trivial⟩ trivial rfl rfl (fun h => by cases h) rfl (fun _ h => by cases h) (.inl rfl) rfl rfl) ?_
 refine om rfl ?_
 refine op_split' 13 rfl (fun h1 => ?_) (fun h1 => ?_)
 ·
  have h1r := h1
  try simp only [nq, nr, nl] at h1
  refine op_v' (j_want rfl rfl h1r (j_move (evo rfl))) ?_
  refine op_v' (j_want rfl rfl h1r (j_nil_ptr rfl rfl)) ?_
  refine op_v' (j_want rfl rfl h1r (j_fldp fld170f1 rfl rfl)) ?_
  refine op_v' (j_want rfl rfl h1r (j_load_box leaf44 rfl rfl rfl)) ?_
  refine op_v' (j_want rfl rfl h1r (j_move (evo rfl))) ?_
  refine op_v' (j_want rfl rfl h1r (j_elem_ownN (n := i.toNat) slt44 rfl rfl rfl (by first | omega | (simp only [nr, nl]; omega)) (by first | omega | (simp only [nr, nl]; omega)))) ?_
  refine op_v' (j_want rfl rfl h1r (j_load_pel leaf4 rfl rfl (at_map (by first | omega | (simp only [nr, nl]; omega))) rfl)) ?_
  refine op_v' (j_want rfl rfl h1r (j_not rfl)) ?_
  refine op_v' (j_pick_t rfl h1r (evo rfl)) ?_
  refine oa rfl ?_
  refine on ?_
  refine a_ret ?_
  exact ⟨[.p _], .p _, [.box 170 [.own 1 0, .own 2 0], .row 69 2 _, .row 4 1 _], [], [], ⟨rfl, trivial⟩, rfl, rfl, ⟨⟨rfl, rfl⟩, ⟨rfl, rfl⟩, ⟨rfl, rfl⟩, trivial⟩, rfl, rfl, ⟨boolEq (by first | exact (liv_y (D := D) (i := i) (by omega) rfl).symm | exact (liv_n (D := D) (i := i) (by omega)).symm), rfl, rfl⟩⟩
 have h1r := h1
 try simp only [nq, nr, nl] at h1
 refine op_v' (j_unwantV rfl rfl h1r) ?_
 refine op_v' (j_unwantV rfl rfl h1r) ?_
 refine op_v' (j_unwantV rfl rfl h1r) ?_
 refine op_v' (j_unwantV rfl rfl h1r) ?_
 refine op_v' (j_unwantV rfl rfl h1r) ?_
 refine op_v' (j_unwantV rfl rfl h1r) ?_
 refine op_v' (j_unwantV rfl rfl h1r) ?_
 refine op_v' (j_unwantV rfl rfl h1r) ?_
 refine op_v' (j_pick_f rfl h1r (evo rfl)) ?_
 refine oa rfl ?_
 refine on ?_
 refine a_ret ?_
 exact ⟨[.p _], .p _, [.box 170 [.own 1 0, .own 2 0], .row 69 2 _, .row 4 1 _], [], [], ⟨rfl, trivial⟩, rfl, rfl, ⟨⟨rfl, rfl⟩, ⟨rfl, rfl⟩, ⟨rfl, rfl⟩, trivial⟩, rfl, rfl, ⟨boolEq (by first | exact (liv_y (D := D) (i := i) (by omega) rfl).symm | exact (liv_n (D := D) (i := i) (by omega)).symm), rfl, rfl⟩⟩
theorem f_left (D : Db) (hl2 : D.2.length = D.1.length) (hll : D.1.length ≤ 2000) : Fn Tryz.prog 242 [.ptr 0 0 0] [.box 170 [.own 1 0, .own 2 0], .row 69 2 ((D.1).map dC), .row 4 1 ((D.2).map dB)] (fun rr ii nn => rr = .own 3 0 ∧ ii = [.box 170 [.own 1 0, .own 2 0], .row 69 2 ((D.1).map dC), .row 4 1 ((D.2).map dB)] ∧ nn = [.row 69 2 ((kepV D).map dC)]) := by
 refine fn_of Tryz.func242 rfl (Nat.le_of_ble_eq_true rfl) fun w X g => ?_
 show AWp _ _ _ ⟨[(0, .ptr 0 0 0)], [(0, some (0, .box 170 [.own 1 0, .own 2 0])), (1, some (0, .row 69 2 ((D.1).map dC))), (2, some (0, .row 4 1 ((D.2).map dB)))]⟩
 refine rs ?_
 refine oa rfl ?_
 refine on ?_
 refine rs ?_
 refine oa rfl ?_
 refine on ?_
 refine a_adopt' 3 3 69 2 rfl fun v3 => ?_
 refine a_seq ?_
 refine rs ?_
 refine om rfl ?_
 refine op_v' (j_nil_ptr rfl rfl) ?_
 refine op_v' (j_fldp fld170f0 rfl rfl) ?_
 refine op_v' (j_load_box leaf30 rfl rfl rfl) ?_
 refine op_v' (j_len_own_map Tryz.underlying30 rfl rfl) ?_
 refine om rfl ?_
 refine on ?_
 refine a_block ?_
 refine a_loopF' (ι := Nat × Nat) (fun x => x.1 ≤ D.1.length) (fun x r => (11, .p (.int .i64 ((x.1 : Nat)))) :: (3, .own 3 x.2) :: r) (fun x r => (3, some (x.2, .row 69 2 ((kepN D x.1).map dC))) :: r) (fun x => D.1.length - x.1) (fun _ _ => rfl) (fun _ _ => rfl) (0, v3) (by first | exact (Nat.zero_le _) | (dsimp only; exact (Nat.zero_le _))) ⟨⟨rfl, rfl⟩, ⟨rfl, rfl, trivial⟩, ⟨rfl, trivial⟩, ⟨rfl, rfl⟩, ⟨rfl, rfl⟩⟩ ?_
 rintro ⟨k, v⟩ hk; dsimp only at hk ⊢
 refine rs ?_
 refine op_v' (j_lt rfl rfl) ?_
 refine on ?_
 refine a_seq ?_
 refine ac rfl (fun h1 => ?_) fun h1 => ?_
 ·
  have h1r := h1
  try simp only [nq, nr, nl] at h1
  refine a_skip ?_
  refine a_seq ?_
  refine a_block ?_
  refine a_seq ?_
  have hkl := kepN_len (D := D) (n := k)
  refine ar ?_
  refine om rfl ?_
  refine op_v' (j_elem_ownN (n := k) slt30 rfl rfl rfl (by first | omega | (simp only [nr, nl]; omega)) (by first | omega | (simp only [nr, nl]; omega))) ?_
  refine op_v' (j_loada_pel (ys := [.sl _, .p _]) agg69 rfl rfl (at_map (by first | omega | (simp only [nr, nl]; omega))) rfl (Nat.le_refl _)) ?_
  refine op_n' (fun ver => j_alloc elt69 rfl) fun v5x1 => ?_
  refine oa rfl ?_
  refine op_s' (j_storea_box0 agg69 rfl rfl rfl rfl rfl rfl) ?_
  refine on ?_
  refine rs ?_
  refine om rfl ?_
  refine op_v' (j_nil_ptr rfl rfl) ?_
  refine op_v' (j_fldp fld170f1 rfl rfl) ?_
  refine op_v' (j_load_box leaf44 rfl rfl rfl) ?_
  refine om rfl ?_
  refine op_v' (j_elem_ownN (n := k) slt44 rfl rfl rfl (by first | omega | (simp only [nr, nl]; omega)) (by first | omega | (simp only [nr, nl]; omega))) ?_
  refine op_v' (j_load_pel leaf4 rfl rfl (at_map (by first | omega | (simp only [nr, nl]; omega))) rfl) ?_
  refine op_v' (j_not rfl) ?_
  refine on ?_
  refine ac rfl (fun h2 => ?_) fun h2 => ?_
  ·
   have h2r := h2
   try simp only [nq, nr, nl] at h2
   refine ar ?_
   refine om rfl ?_
   refine op_v' (j_loada_box (ys := [.sl _, .p _]) agg69 rfl rfl rfl (Nat.le_of_ble_eq_true rfl)) ?_
   refine op_n' (fun ver => j_buildSlice (parts := [(0, .tmp 25)]) (es := [[_, _]]) slt30 elt69 rfl rfl (by decide) (by decide) rfl rfl (by simp) rfl) fun v26x2 => ?_
   refine op_n' (fun ver => j_append_own slt30 elt69 rfl rfl rfl rfl rfl rfl (by rw [maxLen_eq]; first | omega | (simp only [nr, nl]; omega)) (by first | omega | (simp only [nr, nl]; omega))) fun v3x3 => ?_
   refine oa rfl ?_
   refine on ?_
   refine ar ?_
   refine op_v' (j_add rfl rfl (by first | omega | (simp only [nr, nl]; omega)) (by first | omega | (simp only [nr, nl]; omega))) ?_
   refine om rfl ?_
   refine on ?_
   exact ⟨(k + 1, v3x3), (by first | exact (by first | omega | (simp only [nr, nl]; omega)) | (dsimp only; exact (by first | omega | (simp only [nr, nl]; omega)))), ⟨⟨rfl, rfl⟩, ⟨rfl, rfl, trivial⟩, ⟨rowEq (by dsimp only; rw [kepN_n (by assumption), List.map_append]; rfl), trivial⟩, ⟨rfl, rfl⟩, ⟨rfl, rfl⟩⟩, (by first | exact (by first | omega | (simp only [nr, nl]; omega)) | (dsimp only; exact (by first | omega | (simp only [nr, nl]; omega))))⟩
  have h2r := h2
  try simp only [nq, nr, nl] at h2
  refine a_skip ?_
  refine ar ?_
  refine op_v' (j_add rfl rfl (by first | omega | (simp only [nr, nl]; omega)) (by first | omega | (simp only [nr, nl]; omega))) ?_
  refine om rfl ?_
  refine on ?_
  exact ⟨(k + 1, v), (by first | exact (by first | omega | (simp only [nr, nl]; omega)) | (dsimp only; exact (by first | omega | (simp only [nr, nl]; omega)))), ⟨⟨rfl, rfl⟩, ⟨rfl, rfl, trivial⟩, ⟨rowEq (by dsimp only; rw [kepN_y (by assumption)]), trivial⟩, ⟨rfl, rfl⟩, ⟨rfl, rfl⟩⟩, (by first | exact (by first | omega | (simp only [nr, nl]; omega)) | (dsimp only; exact (by first | omega | (simp only [nr, nl]; omega))))⟩
 have h1r := h1
 try simp only [nq, nr, nl] at h1
 refine a_exit ?_
 refine rs ?_
 refine om rfl ?_
 refine oa rfl ?_
 refine on ?_
 refine a_ret ?_
 exact ⟨[.own 3 v], .own 3 0, [.box 170 [.own 1 0, .own 2 0], .row 69 2 _, .row 4 1 _], [.row 69 2 _], [(3, v)], ⟨rfl, trivial⟩, rfl, rfl, ⟨⟨rfl, rfl⟩, ⟨rfl, rfl⟩, ⟨rfl, rfl⟩, ⟨rfl, rfl⟩, trivial⟩, rfl, rfl, ⟨rfl, rfl, by rw [show k = D.1.length by omega]; rfl⟩⟩
end Go.Ab

/- Walks. -/
import Derived.Test.YtoodaakcfelaaaaGreatBase2
import Derived.Test.YtoodaakcfelaaaaGreatCub
import Derived.Test.YtoodaakcfelaaaaGreatWsrun3
import Derived.Test.YtoodaakcfelaaaaGreatWsrun1
import Derived.Test.YtoodaakcfelaaaaGreatWssolve
namespace Go.Ab
open Go.Proofs
set_option maxRecDepth 100000
set_option maxHeartbeats 8000000
set_option linter.unusedSimpArgs false
set_option linter.unusedVariables false
theorem f_l4Fits (l : List Con) (ss : List Stp) : Fn Tryz.prog 120 [.sl (l.map dC), .sl (ss.map dStp)] [] (fun rr ii nn => rr = .p (.bool (pOk l && decide (ss.length ≤ 1000))) ∧ ii = [] ∧ nn = []) := by
 refine fn_of Tryz.func120 rfl (Nat.le_of_ble_eq_true rfl) fun w X g => ?_
 show AWp _ _ _ ⟨[(0, .sl (l.map dC)), (1, .sl (ss.map dStp))], []⟩
 refine rs ?_
 refine oa rfl ?_
 refine on ?_
 refine rs ?_
 refine om rfl ?_
 refine op_v0' (j_call0 (v := .p _) (hp1 := []) [] false [] ent48 (f_pvSpec l) ⟨.inl ⟨rfl, rfl⟩, trivial⟩ trivial rfl rfl (fun h => by cases h) rfl (fun _ h => by cases h) (.inl rfl) rfl rfl) ?_
 refine om rfl ?_
 refine op_split' 7 rfl (fun h1 => ?_) (fun h1 => ?_)
 ·
  have h1r := h1
  try simp only [nq, nr, nl] at h1
  refine op_v' (j_want rfl rfl h1r (j_move (evo rfl))) ?_
  refine op_v' (j_want rfl rfl h1r (j_len_map Tryz.underlying34 rfl)) ?_
  refine op_v' (j_want rfl rfl h1r (j_le rfl rfl)) ?_
  refine op_v' (j_pick_t rfl h1r (evo rfl)) ?_
  refine oa rfl ?_
  refine on ?_
  refine a_ret ?_
  exact fin_p rfl ⟨boolEq (by first | (simp_all; done) | (simp_all; omega)), rfl, rfl⟩
 have h1r := h1
 try simp only [nq, nr, nl] at h1
 refine op_v' (j_unwantV rfl rfl h1r) ?_
 refine op_v' (j_unwantV rfl rfl h1r) ?_
 refine op_v' (j_unwantV rfl rfl h1r) ?_
 refine op_v' (j_pick_f rfl h1r (evo rfl)) ?_
 refine oa rfl ?_
 refine on ?_
 refine a_ret ?_
 exact fin_p rfl ⟨boolEq (by first | (simp_all; done) | (simp_all; omega)), rfl, rfl⟩
theorem f_l4Live (D : Db) (i : Int) (hl2 : D.2.length = D.1.length) (hll : D.1.length ≤ 2000) : Fn Tryz.prog 174 [.agg [.sl (D.1.map dC), .sl (D.2.map dB)], .p (.int .i64 (i))] [] (fun rr ii nn => rr = .p (.bool (livV D i)) ∧ ii = [] ∧ nn = []) := by
 refine fn_of Tryz.func174 rfl (Nat.le_of_ble_eq_true rfl) fun w X g => ?_
 show AWp _ _ _ ⟨[(0, .agg [.sl (D.1.map dC), .sl (D.2.map dB)]), (1, .p (.int .i64 (i)))], []⟩
 refine rs ?_
 refine op_n' (fun ver => j_boxa rfl) fun v2x1 => ?_
 refine oa rfl ?_
 refine on ?_
 refine rs ?_
 refine om rfl ?_
 refine op_v' (j_ge rfl rfl) ?_
 refine om rfl ?_
 refine op_split' 7 rfl (fun h1 => ?_) (fun h1 => ?_)
 ·
  have h1r := h1
  try simp only [nq, nr, nl] at h1
  refine op_v' (j_want rfl rfl h1r (j_move (evo rfl))) ?_
  refine op_v' (j_want rfl rfl h1r (j_fldp fld142f0 rfl rfl)) ?_
  refine op_v' (j_want rfl rfl h1r (j_load_box leaf30 rfl rfl rfl)) ?_
  refine op_v' (j_want rfl rfl h1r (j_len_map Tryz.underlying30 rfl)) ?_
  refine op_v' (j_want rfl rfl h1r (j_lt rfl rfl)) ?_
  refine op_v' (j_pick_t rfl h1r (evo rfl)) ?_
  refine om rfl ?_
  refine op_split' 14 rfl (fun h2 => ?_) (fun h2 => ?_)
  ·
   have h2r := h2
   try simp only [nq, nr, nl] at h2
   refine op_v' (j_want rfl rfl h2r (j_fldp fld142f1 rfl rfl)) ?_
   refine op_v' (j_want rfl rfl h2r (j_load_box leaf44 rfl rfl rfl)) ?_
   refine op_v' (j_want rfl rfl h2r (j_move (evo rfl))) ?_
   refine op_v' (j_want rfl rfl h2r (j_elemN (n := i.toNat) slt44 rfl rfl (by first | omega | (simp only [nr, nl]; omega)) (at_map (by first | omega | (simp only [nr, nl]; omega))) rfl)) ?_
   refine op_v' (j_want rfl rfl h2r (j_load_el leaf4 rfl (at_map (by first | omega | (simp only [nr, nl]; omega))) rfl)) ?_
   refine op_v' (j_want rfl rfl h2r (j_not rfl)) ?_
   refine op_v' (j_pick_t rfl h2r (evo rfl)) ?_
   refine oa rfl ?_
   refine on ?_
   refine a_ret ?_
   exact fin_p rfl ⟨boolEq (by first | exact (liv_y (D := D) (i := i) (by omega) rfl).symm | exact (liv_n (D := D) (i := i) (by omega)).symm), rfl, rfl⟩
  have h2r := h2
  try simp only [nq, nr, nl] at h2
  refine op_v' (j_unwantV rfl rfl h2r) ?_
  refine op_v' (j_unwantV rfl rfl h2r) ?_
  refine op_v' (j_unwantV rfl rfl h2r) ?_
  refine op_v' (j_unwantV rfl rfl h2r) ?_
  refine op_v' (j_unwantV rfl rfl h2r) ?_
  refine op_v' (j_unwantV rfl rfl h2r) ?_
  refine op_v' (j_pick_f rfl h2r (evo rfl)) ?_
  refine oa rfl ?_
  refine on ?_
  refine a_ret ?_
  exact fin_p rfl ⟨boolEq (by first | exact (liv_y (D := D) (i := i) (by omega) rfl).symm | exact (liv_n (D := D) (i := i) (by omega)).symm), rfl, rfl⟩
 have h1r := h1
 try simp only [nq, nr, nl] at h1
 refine op_v' (j_unwantV rfl rfl h1r) ?_
 refine op_v' (j_unwantV rfl rfl h1r) ?_
 refine op_v' (j_unwantV rfl rfl h1r) ?_
 refine op_v' (j_unwantV rfl rfl h1r) ?_
 refine op_v' (j_unwantV rfl rfl h1r) ?_
 refine op_v' (j_pick_f rfl h1r (evo rfl)) ?_
 refine om rfl ?_
 refine op_v' (j_unwantV rfl rfl rfl) ?_
 refine op_v' (j_unwantV rfl rfl rfl) ?_
 refine op_v' (j_unwantV rfl rfl rfl) ?_
 refine op_v' (j_unwantV rfl rfl rfl) ?_
 refine op_v' (j_unwantV rfl rfl rfl) ?_
 refine op_v' (j_unwantV rfl rfl rfl) ?_
 refine op_v' (j_pick_f rfl rfl (evo rfl)) ?_
 refine oa rfl ?_
 refine on ?_
 refine a_ret ?_
 exact fin_p rfl ⟨boolEq (by first | exact (liv_y (D := D) (i := i) (by omega) rfl).symm | exact (liv_n (D := D) (i := i) (by omega)).symm), rfl, rfl⟩
theorem f_l4Kept (D : Db) (hl2 : D.2.length = D.1.length) (hll : D.1.length ≤ 2000) : Fn Tryz.prog 221 [.agg [.own 0 0, .own 1 0]] [.row 69 2 ((D.1).map dC), .row 4 1 ((D.2).map dB)] (fun rr ii nn => rr = .own 2 0 ∧ ii = [.row 69 2 ((D.1).map dC), .row 4 1 ((D.2).map dB)] ∧ nn = [.row 69 2 ((kepV D).map dC)]) := by
 refine fn_of Tryz.func221 rfl (Nat.le_of_ble_eq_true rfl) fun w X g => ?_
 show AWp _ _ _ ⟨[(0, .agg [.own 0 0, .own 1 0])], [(0, some (0, .row 69 2 ((D.1).map dC))), (1, some (0, .row 4 1 ((D.2).map dB)))]⟩
 refine rs ?_
 refine op_n' (fun ver => j_boxaI 1010 rfl) fun v1010x1 => ?_
 refine oa rfl ?_
 refine on ?_
 refine rs ?_
 refine op_n' (fun ver => j_buildSlice (parts := []) (es := []) slt30 elt69 rfl rfl (by decide) (by decide) rfl rfl (by simp) rfl) fun v5x2 => ?_
 refine oa rfl ?_
 refine on ?_
 refine a_seq ?_
 refine rs ?_
 refine oa rfl ?_
 refine on ?_
 refine a_block ?_
 refine a_loopF' (ι := Nat × Nat) (fun x => x.1 ≤ D.1.length) (fun x r => (4, .p (.int .i64 ((x.1 : Nat)))) :: (3, .own 5 x.2) :: r) (fun x r => (5, some (x.2, .row 69 2 ((kepN D x.1).map dC))) :: r) (fun x => D.1.length - x.1) (fun _ _ => rfl) (fun _ _ => rfl) (0, v5x2) (by first | exact (Nat.zero_le _) | (dsimp only; exact (Nat.zero_le _))) ⟨⟨rfl, rfl⟩, ⟨rfl, rfl, trivial⟩, ⟨rfl, trivial⟩, ⟨rfl, rfl⟩, ⟨rfl, rfl⟩⟩ ?_
 rintro ⟨k, v⟩ hk; dsimp only at hk ⊢
 refine a_seq ?_
 refine rs ?_
 refine om rfl ?_
 refine op_v' (j_fldp fld142f0 rfl rfl) ?_
 refine op_v' (j_load_box leaf30 rfl rfl rfl) ?_
 refine op_v' (j_len_own_map Tryz.underlying30 rfl rfl) ?_
 refine op_v' (j_lt rfl rfl) ?_
 refine on ?_
 refine ac rfl (fun h1 => ?_) fun h1 => ?_
 ·
  have h1r := h1
  try simp only [nq, nr, nl] at h1
  refine a_skip ?_
  refine a_seq ?_
  refine a_block ?_
  refine a_seq ?_
  have hkl := kepN_len (D := D) (n := k)
  refine ar ?_
  refine op_v' (j_fldp fld142f1 rfl rfl) ?_
  refine op_v' (j_load_box leaf44 rfl rfl rfl) ?_
  refine om rfl ?_
  refine op_v' (j_elem_ownN (n := k) slt44 rfl rfl rfl (by first | omega | (simp only [nr, nl]; omega)) (by first | omega | (simp only [nr, nl]; omega))) ?_
  refine op_v' (j_load_pel leaf4 rfl rfl (at_map (by first | omega | (simp only [nr, nl]; omega))) rfl) ?_
  refine op_v' (j_not rfl) ?_
  refine on ?_
  refine ac rfl (fun h2 => ?_) fun h2 => ?_
  ·
   have h2r := h2
   try simp only [nq, nr, nl] at h2
   refine ar ?_
   refine om rfl ?_
   refine op_v' (j_fldp fld142f0 rfl rfl) ?_
   refine op_v' (j_load_box leaf30 rfl rfl rfl) ?_
   refine om rfl ?_
   refine op_v' (j_elem_ownN (n := k) slt30 rfl rfl rfl (by first | omega | (simp only [nr, nl]; omega)) (by first | omega | (simp only [nr, nl]; omega))) ?_
   refine op_v' (j_loada_pel (ys := [.sl _, .p _]) agg69 rfl rfl (at_map (by first | omega | (simp only [nr, nl]; omega))) rfl (Nat.le_refl _)) ?_
   refine op_n' (fun ver => j_buildSlice (parts := [(0, .tmp 24)]) (es := [[_, _]]) slt30 elt69 rfl rfl (by decide) (by decide) rfl rfl (by simp) rfl) fun v25x3 => ?_
   refine op_n' (fun ver => j_append_own slt30 elt69 rfl rfl rfl rfl rfl rfl (by rw [maxLen_eq]; first | omega | (simp only [nr, nl]; omega)) (by first | omega | (simp only [nr, nl]; omega))) fun v5x4 => ?_
   refine oa rfl ?_
   refine on ?_
   refine ar ?_
   refine om rfl ?_
   refine op_v' (j_add rfl rfl (by first | omega | (simp only [nr, nl]; omega)) (by first | omega | (simp only [nr, nl]; omega))) ?_
   refine oa rfl ?_
   refine on ?_
   exact ⟨(k + 1, v5x4), (by first | exact (by first | omega | (simp only [nr, nl]; omega)) | (dsimp only; exact (by first | omega | (simp only [nr, nl]; omega)))), ⟨⟨rfl, rfl⟩, ⟨rfl, rfl, trivial⟩, ⟨rowEq (by dsimp only; rw [kepN_n (by assumption), List.map_append]; rfl), trivial⟩, ⟨rfl, rfl⟩, ⟨rfl, rfl⟩⟩, (by first | exact (by first | omega | (simp only [nr, nl]; omega)) | (dsimp only; exact (by first | omega | (simp only [nr, nl]; omega))))⟩
  have h2r := h2
  try simp only [nq, nr, nl] at h2
  refine a_skip ?_
  refine ar ?_
  refine om rfl ?_
  refine op_v' (j_add rfl rfl (by first | omega | (simp only [nr, nl]; omega)) (by first | omega | (simp only [nr, nl]; omega))) ?_
  refine oa rfl ?_
  refine on ?_
  exact ⟨(k + 1, v), (by first | exact (by first | omega | (simp only [nr, nl]; omega)) | (dsimp only; exact (by first | omega | (simp only [nr, nl]; omega)))), ⟨⟨rfl, rfl⟩, ⟨rfl, rfl, trivial⟩, ⟨rowEq (by dsimp only; rw [kepN_y (by assumption)]), trivial⟩, ⟨rfl, rfl⟩, ⟨rfl, rfl⟩⟩, (by first | exact (by first | omega | (simp only [nr, nl]; omega)) | (dsimp only; exact (by first | omega | (simp only [nr, nl]; omega))))⟩
 have h1r := h1
 try simp only [nq, nr, nl] at h1
 refine a_exit ?_
 refine rs ?_
 refine om rfl ?_
 refine oa rfl ?_
 refine on ?_
 refine a_ret ?_
 exact ⟨[.own 5 v], .own 2 0, [.row 69 2 _, .row 4 1 _], [.row 69 2 _], [(5, v)], ⟨rfl, trivial⟩, rfl, rfl, ⟨⟨rfl, rfl⟩, ⟨rfl, rfl⟩, ⟨rfl, rfl⟩, trivial⟩, rfl, rfl, ⟨rfl, rfl, by rw [show k = D.1.length by omega]; rfl⟩⟩
theorem f_l4False (D : Db) (hl2 : D.2.length = D.1.length) (hll : D.1.length ≤ 2000) : Fn Tryz.prog 122 [.agg [.sl (D.1.map dC), .sl (D.2.map dB)]] [] (fun rr ii nn => rr = .p (.int .i64 (falI D)) ∧ ii = [] ∧ nn = []) := by
 refine fn_of Tryz.func122 rfl (Nat.le_of_ble_eq_true rfl) fun w X g => ?_
 show AWp _ _ _ ⟨[(0, .agg [.sl (D.1.map dC), .sl (D.2.map dB)])], []⟩
 refine rs ?_
 refine op_n' (fun ver => j_boxa rfl) fun v1x1 => ?_
 refine oa rfl ?_
 refine on ?_
 refine a_seq ?_
 refine rs ?_
 refine oa rfl ?_
 refine on ?_
 refine a_block ?_
 refine a_loopF' (ι := Nat) (fun k => k ≤ D.1.length ∧ falI D = idxF (falN D) ((List.range D.1.length).drop k) (k : Int)) (fun k r => (3, .p (.int .i64 ((k : Nat)))) :: r) (fun k r => r) (fun k => D.1.length - k) (fun _ _ => rfl) (fun _ _ => rfl) 0 ⟨Nat.zero_le _, falI_start⟩ ⟨⟨rfl, rfl⟩, ⟨rfl, trivial⟩, trivial, ⟨rfl, rfl⟩, ⟨rfl, rfl⟩⟩ ?_
 intro k hk
 refine a_seq ?_
 refine rs ?_
 refine om rfl ?_
 refine op_v' (j_fldp fld142f0 rfl rfl) ?_
 refine op_v' (j_load_box leaf30 rfl rfl rfl) ?_
 refine op_v' (j_len_map Tryz.underlying30 rfl) ?_
 refine op_v' (j_lt rfl rfl) ?_
 refine on ?_
 refine ac rfl (fun h1 => ?_) fun h1 => ?_
 ·
  have h1r := h1
  try simp only [nq, nr, nl] at h1
  refine a_skip ?_
  refine a_seq ?_
  refine a_block ?_
  refine rs ?_
  refine op_v' (j_fldp fld142f1 rfl rfl) ?_
  refine op_v' (j_load_box leaf44 rfl rfl rfl) ?_
  refine om rfl ?_
  refine op_v' (j_elemN (n := k) slt44 rfl rfl (by first | omega | (simp only [nr, nl]; omega)) (at_map (by first | omega | (simp only [nr, nl]; omega))) rfl) ?_
  refine op_v' (j_load_el leaf4 rfl (at_map (by first | omega | (simp only [nr, nl]; omega))) rfl) ?_
  refine op_v' (j_not rfl) ?_
  refine om rfl ?_
  refine op_split' 17 rfl (fun h2 => ?_) (fun h2 => ?_)
  ·
   have h2r := h2
   try simp only [nq, nr, nl] at h2
   refine op_v' (j_want rfl rfl h2r (j_fldp fld142f0 rfl rfl)) ?_
   refine op_v' (j_want rfl rfl h2r (j_load_box leaf30 rfl rfl rfl)) ?_
   refine op_v' (j_want rfl rfl h2r (j_move (evo rfl))) ?_
   refine op_v' (j_want rfl rfl h2r (j_elemN (n := k) slt30 rfl rfl (by first | omega | (simp only [nr, nl]; omega)) (at_map (by first | omega | (simp only [nr, nl]; omega))) rfl)) ?_
   refine op_v' (j_want rfl rfl h2r (j_loada_el (ys := [.sl _, .p _]) agg69 rfl (at_map (by first | omega | (simp only [nr, nl]; omega))) rfl (Nat.le_refl _))) ?_
   refine op_v0' (j_want rfl rfl h2r (j_call0 (v := .p _) (hp1 := []) [] false [] ent176 (f_falSpec (D.1.getD k default)) ⟨.inl ⟨rfl, rfl⟩, trivial⟩ trivial rfl rfl (fun h => by cases h) rfl (fun _ h => by cases h) (.inl rfl) rfl rfl)) ?_
   refine op_v' (j_pick_t rfl h2r (evo rfl)) ?_
   refine on ?_
   refine ac rfl (fun h3 => ?_) fun h3 => ?_
   ·
    have h3r := h3
    try simp only [nq, nr, nl] at h3
    refine rs ?_
    refine om rfl ?_
    refine oa rfl ?_
    refine on ?_
    refine a_ret ?_
    have hf := falI_hit (by first | omega | (simp only [nr, nl]; omega)) hk.2 (falN_y (by assumption) (by assumption))
    exact fin_p rfl ⟨by rw [hf], rfl, rfl⟩
   have h3r := h3
   try simp only [nq, nr, nl] at h3
   refine a_skip ?_
   refine ar ?_
   refine om rfl ?_
   refine op_v' (j_add rfl rfl (by first | omega | (simp only [nr, nl]; omega)) (by first | omega | (simp only [nr, nl]; omega))) ?_
   refine oa rfl ?_
   refine on ?_
   exact ⟨k + 1, ⟨by first | omega | (simp only [nr, nl]; omega), falI_skip (by first | omega | (simp only [nr, nl]; omega)) hk.2 (falN_n (by first | exact .inr (by assumption) | exact .inl (by assumption)))⟩, ⟨⟨rfl, rfl⟩, ⟨rfl, trivial⟩, trivial, ⟨rfl, rfl⟩, ⟨rfl, rfl⟩⟩, (by first | omega | (simp only [nr, nl]; omega))⟩
  have h2r := h2
  try simp only [nq, nr, nl] at h2
  refine op_v' (j_unwantV rfl rfl h2r) ?_
  refine op_v' (j_unwantV rfl rfl h2r) ?_
  refine op_v' (j_unwantV rfl rfl h2r) ?_
  refine op_v' (j_unwantV rfl rfl h2r) ?_
  refine op_v' (j_unwantV rfl rfl h2r) ?_
  refine op_v' (j_unwantV rfl rfl h2r) ?_
  refine op_v' (j_pick_f rfl h2r (evo rfl)) ?_
  refine on ?_
  refine a_ff rfl ?_
  refine a_skip ?_
  refine ar ?_
  refine om rfl ?_
  refine op_v' (j_add rfl rfl (by first | omega | (simp only [nr, nl]; omega)) (by first | omega | (simp only [nr, nl]; omega))) ?_
  refine oa rfl ?_
  refine on ?_
  exact ⟨k + 1, ⟨by first | omega | (simp only [nr, nl]; omega), falI_skip (by first | omega | (simp only [nr, nl]; omega)) hk.2 (falN_n (by first | exact .inr (by assumption) | exact .inl (by assumption)))⟩, ⟨⟨rfl, rfl⟩, ⟨rfl, trivial⟩, trivial, ⟨rfl, rfl⟩, ⟨rfl, rfl⟩⟩, (by first | omega | (simp only [nr, nl]; omega))⟩
 have h1r := h1
 try simp only [nq, nr, nl] at h1
 refine a_exit ?_
 refine rs ?_
 refine oa rfl ?_
 refine on ?_
 refine a_ret ?_
 have hf := falI_end (by first | omega | (simp only [nr, nl]; omega)) hk.2
 exact fin_p rfl ⟨by rw [hf], rfl, rfl⟩
theorem f_derive (D : Db) (s : Stp) (hD : D.1.all cOk = true) (hl2 : D.2.length = D.1.length) (hll : D.1.length ≤ 1500) (hg : s.2.2.2.1.length ≤ 1048576) (hsh : shpV s = true) (h8 : ¬ s.1 = 8) : Fn Tryz.prog 175 [.agg [.own 0 0, .own 1 0], .agg [.p (.int .i64 s.1), .p (.int .i64 s.2.1), .p (.int .i64 s.2.2.1), .sl (s.2.2.2.1.map dT), .p (.int .i64 s.2.2.2.2)]] [.row 69 2 ((D.1).map dC), .row 4 1 ((D.2).map dB)] (fun rr ii nn => rr = .tup [.agg [.sl ((drvX D s).1.map dT), .p (.int .i64 (drvX D s).2)], .p (.bool (drvY D s))] ∧ ii = [.row 69 2 ((D.1).map dC), .row 4 1 ((D.2).map dB)] ∧ nn = []) := by
 refine fn_of Tryz.func175 rfl (Nat.le_of_ble_eq_true rfl) fun w X g => ?_
 show AWp _ _ _ ⟨[(0, .agg [.own 0 0, .own 1 0]), (1, .agg [.p (.int .i64 s.1), .p (.int .i64 s.2.1), .p (.int .i64 s.2.2.1), .sl (s.2.2.2.1.map dT), .p (.int .i64 s.2.2.2.2)])], [(0, some (0, .row 69 2 ((D.1).map dC))), (1, some (0, .row 4 1 ((D.2).map dB)))]⟩
 have hsc := shp_cases hsh
 refine rs ?_
 refine op_n' (fun ver => j_boxaI 1010 rfl) fun v1010x1 => ?_
 refine op_n' (fun ver => j_boxa rfl) fun v3x2 => ?_
 refine op_n' (fun ver => j_alloc elt69 rfl) fun v4x3 => ?_
 refine oa rfl ?_
 refine on ?_
 refine a_seq ?_
 refine rs ?_
 refine op_v' (j_fldp fld89f0 rfl rfl) ?_
 refine op_v' (j_load_box leaf3 rfl rfl rfl) ?_
 refine op_v' (j_eq rfl rfl) ?_
 refine on ?_
 refine ac rfl (fun h1 => ?_) fun h1 => ?_
 ·
  have h1r := h1
  try simp only [nq, nr, nl] at h1
  refine rs ?_
  refine op_v' (j_fldp fld89f1 rfl rfl) ?_
  refine op_v' (j_load_box leaf3 rfl rfl rfl) ?_
  refine op_v0' (j_call0 (v := .tup [.agg [.sl _, .p _], .p _]) (hp1 := []) [] false [] ent219 (f_axSpec s.2.1) ⟨.inl ⟨rfl, rfl⟩, trivial⟩ trivial rfl rfl (fun h => by cases h) rfl (fun _ h => by cases h) (.inl rfl) rfl rfl) ?_
  refine op_v' (j_extract rfl rfl) ?_
  refine op_v' (j_extract rfl rfl) ?_
  refine op_s' (j_storea_box0 agg69 rfl rfl rfl rfl rfl rfl) ?_
  refine oa rfl ?_
  refine on ?_
  refine a_ret ?_
  exact ⟨[.agg [.sl _, .p _], .p _], .tup [.agg [.sl _, .p _], .p _], [.row 69 2 _, .row 4 1 _], [], [], ⟨⟨_, _, _, _, rfl, rfl, agg69, rfl⟩, rfl, trivial⟩, rfl, rfl, ⟨⟨rfl, rfl⟩, ⟨rfl, rfl⟩, trivial⟩, rfl, rfl, ⟨by rw [(drvX_6 (by assumption)).1, (drvX_6 (by assumption)).2], rfl, rfl⟩⟩
 have h1r := h1
 try simp only [nq, nr, nl] at h1
 refine a_skip ?_
 refine a_seq ?_
 refine rs ?_
 refine op_v' (j_fldp fld89f0 rfl rfl) ?_
 refine op_v' (j_load_box leaf3 rfl rfl rfl) ?_
 refine op_v' (j_eq rfl rfl) ?_
 refine on ?_
 refine ac rfl (fun h2 => ?_) fun h2 => ?_
 ·
  have h2r := h2
  try simp only [nq, nr, nl] at h2
  refine a_seq ?_
  refine a_draw mixed (by kernel_rfl) (by kernel_rfl) fun vf => ?_
  refine d_v' (j_fldp fld89f3 rfl rfl) ?_
  refine d_v' (j_loada_box (ys := [.sl _, .p _]) agg69 rfl rfl rfl (Nat.le_of_ble_eq_true rfl)) ?_
  refine d_v0' (j_call0 (v := .agg [.sl _, .p _]) (hp1 := []) [] false [] ent136 (f_copyF s.2.2.2 hg) ⟨.inl ⟨rfl, rfl⟩, trivial⟩ trivial rfl rfl (fun h => by cases h) rfl (fun _ h => by cases h) (.inl rfl) rfl rfl) ?_
  refine d_v' (j_fldp fld89f3 rfl rfl) ?_
  refine d_v' (j_loada_box (ys := [.sl _, .p _]) agg69 rfl rfl rfl (Nat.le_of_ble_eq_true rfl)) ?_
  refine d_v0' (j_call0 (v := .p _) (hp1 := []) [] false [] ent118 (f_cvSpec s.2.2.2) ⟨.inl ⟨rfl, rfl⟩, trivial⟩ trivial rfl rfl (fun h => by cases h) rfl (fun _ h => by cases h) (.inl rfl) rfl rfl) ?_
  refine d_v' (j_move (evo rfl)) ?_
  refine d_split' 24 rfl (fun h3 => ?_) (fun h3 => ?_)
  ·
   have h3r := h3
   try simp only [nq, nr, nl] at h3
   refine d_v' (j_want rfl rfl h3r (j_loada_box (ys := [.own 0 0, .own 1 0]) agg142 rfl rfl rfl (Nat.le_of_ble_eq_true rfl))) ?_
   refine d_n1' (fun ver => j_want rfl rfl h3r (j_call1 (v := .own 26 ver) (hp1 := [(0, some (0, .row 69 2 _)), (1, some (0, .row 4 1 _)), (26, some (ver, .row 69 2 _))]) [(0, 0), (1, 0)] false [0, 1] ent221 (f_l4Kept D hl2 (by omega)) ⟨.inl ⟨rfl, rfl⟩, trivial⟩ ⟨⟨rfl, rfl⟩, ⟨rfl, rfl⟩, trivial⟩ rfl rfl rfl (fun h => by cases h) rfl (List.all_eq_true.1 rfl) (.inl rfl) rfl rfl)) ?_
   refine d_v' (j_want rfl rfl h3r (j_fldp fld89f3 rfl rfl)) ?_
   refine d_v' (j_want rfl rfl h3r (j_loada_box (ys := [.sl _, .p _]) agg69 rfl rfl rfl (Nat.le_of_ble_eq_true rfl))) ?_
   refine d_v0' (j_want rfl rfl h3r (j_call0 (v := .p _) (hp1 := []) [] true [26] ent220 (f_l3Rup (kepV D) s.2.2.2 (kepV_all hD) (by have h9 := kepV_len (D := D); omega) (by assumption)) ⟨.inr ⟨rfl, view_own rfl rfl, rfl⟩, .inl ⟨rfl, rfl⟩, trivial⟩ trivial rfl rfl (fun _ => rfl) rfl (fun _ h => by cases h) (.inr ⟨rfl, by first | exact pl_new1 (fun _ => rfl) | exact pl_newC | (simp [plO, plV, plV.plL]; done)⟩) rfl rfl)) ?_
   refine d_v' (j_pick_t rfl h3r (evo rfl)) ?_
   refine d_s' (j_storea_box0 agg69 rfl rfl rfl rfl rfl rfl) ?_
   refine d_v' (j_assign (evo rfl)) ?_
   refine d_nil (by kernel_rfl) (by kernel_rfl) ?_
   refine a_ret ?_
   exact ⟨[.agg [.sl _, .p _], .p _], .tup [.agg [.sl _, .p _], .p _], [.row 69 2 _, .row 4 1 _], [], [], ⟨⟨_, _, _, _, rfl, rfl, agg69, rfl⟩, rfl, trivial⟩, rfl, rfl, ⟨⟨rfl, rfl⟩, ⟨rfl, rfl⟩, trivial⟩, rfl, rfl, ⟨by rw [(drvX_7 (by assumption)).1, (drvX_7 (by assumption)).2]; first | rfl | (simp_all; done), rfl, rfl⟩⟩
  have h3r := h3
  try simp only [nq, nr, nl] at h3
  refine d_v' (j_unwantV rfl rfl h3r) ?_
  refine d_v' (j_unwantV rfl rfl h3r) ?_
  refine d_v' (j_unwantV rfl rfl h3r) ?_
  refine d_v' (j_unwantV rfl rfl h3r) ?_
  refine d_v' (j_unwantV rfl rfl h3r) ?_
  refine d_v' (j_pick_f rfl h3r (evo rfl)) ?_
  refine d_s' (j_storea_box0 agg69 rfl rfl rfl rfl rfl rfl) ?_
  refine d_v' (j_assign (evo rfl)) ?_
  refine d_nil (by kernel_rfl) (by kernel_rfl) ?_
  refine a_ret ?_
  exact ⟨[.agg [.sl _, .p _], .p _], .tup [.agg [.sl _, .p _], .p _], [.row 69 2 _, .row 4 1 _], [], [], ⟨⟨_, _, _, _, rfl, rfl, agg69, rfl⟩, rfl, trivial⟩, rfl, rfl, ⟨⟨rfl, rfl⟩, ⟨rfl, rfl⟩, trivial⟩, rfl, rfl, ⟨by rw [(drvX_7 (by assumption)).1, (drvX_7 (by assumption)).2]; first | rfl | (simp_all; done), rfl, rfl⟩⟩
 have h2r := h2
 try simp only [nq, nr, nl] at h2
 refine a_skip ?_
 refine a_seq ?_
 refine rs ?_
 refine op_v' (j_loada_box (ys := [.own 0 0, .own 1 0]) agg142 rfl rfl rfl (Nat.le_of_ble_eq_true rfl)) ?_
 refine op_v' (j_fldp fld89f1 rfl rfl) ?_
 refine op_v' (j_load_box leaf3 rfl rfl rfl) ?_
 refine op_v0' (j_call0 (v := .p _) (hp1 := []) [] true [0, 1] ent174 (f_l4Live D s.2.1 hl2 (by omega)) ⟨.inr ⟨rfl, view_agg rfl (view_cons (view_own rfl rfl) (view_cons (view_own rfl rfl) rfl)), rfl⟩, .inl ⟨rfl, rfl⟩, trivial⟩ trivial rfl rfl (fun _ => rfl) rfl (fun _ h => by cases h) (.inr ⟨rfl, by first | exact pl_new1 (fun _ => rfl) | exact pl_newC | (simp [plO, plV, plV.plL]; done)⟩) rfl rfl) ?_
 refine op_v' (j_not rfl) ?_
 refine on ?_
 refine ac rfl (fun h4 => ?_) fun h4 => ?_
 ·
  have h4r := h4
  try simp only [nq, nr, nl] at h4
  refine rs ?_
  refine op_v' (j_build (parts := []) str69 elt69 rfl rfl) ?_
  refine op_s' (j_storea_box0 agg69 rfl rfl rfl rfl rfl rfl) ?_
  refine oa rfl ?_
  refine on ?_
  refine a_adopt_box' 0 1006 135 2 (by decide) (id := 4) rfl rfl fun v1006x4 => ?_
  refine a_freezeboxK 0 4 (by decide) ⟨⟨_, _, _, rfl⟩, ⟨_, _, _, rfl⟩, trivial⟩ rfl rfl rfl rfl ?_
  try dsimp only [List.set]
  refine a_ret ?_
  exact ⟨[.agg [.sl _, .p _], .p _], .tup [.agg [.sl _, .p _], .p _], [.row 69 2 _, .row 4 1 _], [], [], ⟨⟨_, _, _, _, rfl, rfl, agg69, rfl⟩, rfl, trivial⟩, rfl, rfl, ⟨⟨rfl, rfl⟩, ⟨rfl, rfl⟩, trivial⟩, rfl, rfl, ⟨by rw [(drvX_a hsc (by assumption) (by assumption) h8 (by simp_all)).1, (drvX_a hsc (by assumption) (by assumption) h8 (by simp_all)).2]; rfl, rfl, rfl⟩⟩
 have h4r := h4
 try simp only [nq, nr, nl] at h4
 refine a_skip ?_
 refine a_seq ?_
 have hA : livV D s.2.1 = true := by simp_all
 have hAr := liv_rng hA
 have hAc := invD_at hD hA
 refine ar ?_
 refine op_v' (j_fldp fld142f0 rfl rfl) ?_
 refine op_v' (j_load_box leaf30 rfl rfl rfl) ?_
 refine op_v' (j_fldp fld89f1 rfl rfl) ?_
 refine op_v' (j_load_box leaf3 rfl rfl rfl) ?_
 refine op_v' (j_elem_ownN (n := s.2.1.toNat) slt30 rfl rfl rfl (by first | omega | (simp only [nr, nl]; omega)) (by first | omega | (simp only [nr, nl]; omega))) ?_
 refine op_v' (j_loada_pel (ys := [.sl _, .p _]) agg69 rfl rfl (at_map (by first | omega | (simp only [nr, nl]; omega))) rfl (Nat.le_refl _)) ?_
 refine op_n' (fun ver => j_alloc elt69 rfl) fun v6x5 => ?_
 refine op_s' (j_storea_box0 agg69 rfl rfl rfl rfl rfl rfl) ?_
 refine on ?_
 refine a_seq ?_
 refine rs ?_
 refine op_v' (j_fldp fld89f0 rfl rfl) ?_
 refine op_v' (j_load_box leaf3 rfl rfl rfl) ?_
 refine on ?_
 refine a_block ?_
 refine rs ?_
 refine op_v' (j_eq rfl rfl) ?_
 refine oa rfl ?_
 refine on ?_
 refine ac rfl (fun h5 => ?_) fun h5 => ?_
 ·
  have h5r := h5
  try simp only [nq, nr, nl] at h5
  refine a_seq ?_
  refine rs ?_
  refine op_v' (j_loada_box (ys := [.own 0 0, .own 1 0]) agg142 rfl rfl rfl (Nat.le_of_ble_eq_true rfl)) ?_
  refine op_v' (j_fldp fld89f2 rfl rfl) ?_
  refine op_v' (j_load_box leaf3 rfl rfl rfl) ?_
  refine op_v0' (j_call0 (v := .p _) (hp1 := []) [] true [0, 1] ent174 (f_l4Live D s.2.2.1 hl2 (by omega)) ⟨.inr ⟨rfl, view_agg rfl (view_cons (view_own rfl rfl) (view_cons (view_own rfl rfl) rfl)), rfl⟩, .inl ⟨rfl, rfl⟩, trivial⟩ trivial rfl rfl (fun _ => rfl) rfl (fun _ h => by cases h) (.inr ⟨rfl, by first | exact pl_new1 (fun _ => rfl) | exact pl_newC | (simp [plO, plV, plV.plL]; done)⟩) rfl rfl) ?_
  refine op_v' (j_not rfl) ?_
  refine on ?_
  refine ac rfl (fun h6 => ?_) fun h6 => ?_
  ·
   have h6r := h6
   try simp only [nq, nr, nl] at h6
   refine rs ?_
   refine op_v' (j_build (parts := []) str69 elt69 rfl rfl) ?_
   refine op_s' (j_storea_box0 agg69 rfl rfl rfl rfl rfl rfl) ?_
   refine oa rfl ?_
   refine on ?_
   refine a_adopt_box' 0 1006 135 2 (by decide) (id := 4) rfl rfl fun v1006x6 => ?_
   refine a_freezeboxK 0 4 (by decide) ⟨⟨_, _, _, rfl⟩, ⟨_, _, _, rfl⟩, trivial⟩ rfl rfl rfl rfl ?_
   try dsimp only [List.set]
   refine a_ret ?_
   exact ⟨[.agg [.sl _, .p _], .p _], .tup [.agg [.sl _, .p _], .p _], [.row 69 2 _, .row 4 1 _], [], [], ⟨⟨_, _, _, _, rfl, rfl, agg69, rfl⟩, rfl, trivial⟩, rfl, rfl, ⟨⟨rfl, rfl⟩, ⟨rfl, rfl⟩, trivial⟩, rfl, rfl, ⟨by rw [(drvX_b (by assumption) (by simp_all)).1, (drvX_b (by assumption) (by simp_all)).2]; rfl, rfl, rfl⟩⟩
  have h6r := h6
  try simp only [nq, nr, nl] at h6
  refine a_skip ?_
  refine a_seq ?_
  have hB : livV D s.2.2.1 = true := by simp_all
  have hBr := liv_rng hB
  refine a_draw mixed (by kernel_rfl) (by kernel_rfl) fun vf => ?_
  refine d_v' (j_loada_box (ys := [.sl _, .p _]) agg69 rfl rfl rfl (Nat.le_of_ble_eq_true rfl)) ?_
  refine d_v' (j_fldp fld142f0 rfl rfl) ?_
  refine d_v' (j_load_box leaf30 rfl rfl rfl) ?_
  refine d_v' (j_fldp fld89f2 rfl rfl) ?_
  refine d_v' (j_load_box leaf3 rfl rfl rfl) ?_
  refine d_v' (j_elem_ownN (n := s.2.2.1.toNat) slt30 rfl rfl rfl (by first | omega | (simp only [nr, nl]; omega)) (by first | omega | (simp only [nr, nl]; omega))) ?_
  refine d_v' (j_loada_pel (ys := [.sl _, .p _]) agg69 rfl rfl (at_map (by first | omega | (simp only [nr, nl]; omega))) rfl (Nat.le_refl _)) ?_
  refine d_v0' (j_call0 (v := .tup [.agg [.sl _, .p _], .p _]) (hp1 := []) [] false [] ent222 (f_addSpec (atI D s.2.1) (atI D s.2.2.1) hAc (invD_at hD (by assumption))) ⟨.inl ⟨rfl, rfl⟩, .inl ⟨rfl, rfl⟩, trivial⟩ trivial rfl rfl (fun h => by cases h) rfl (fun _ h => by cases h) (.inl rfl) rfl rfl) ?_
  refine d_v' (j_extract rfl rfl) ?_
  refine d_v' (j_extract rfl rfl) ?_
  refine d_s' (j_storea_box0 agg69 rfl rfl rfl rfl rfl rfl) ?_
  refine d_v' (j_assign (evo rfl)) ?_
  refine d_nil (by kernel_rfl) (by kernel_rfl) ?_
  refine a_ret ?_
  exact ⟨[.agg [.sl _, .p _], .p _], .tup [.agg [.sl _, .p _], .p _], [.row 69 2 _, .row 4 1 _], [], [], ⟨⟨_, _, _, _, rfl, rfl, agg69, rfl⟩, rfl, trivial⟩, rfl, rfl, ⟨⟨rfl, rfl⟩, ⟨rfl, rfl⟩, trivial⟩, rfl, rfl, ⟨by rw [(drvX_1 (by assumption) hA hB).1, (drvX_1 (by assumption) hA hB).2], rfl, rfl⟩⟩
 have h5r := h5
 try simp only [nq, nr, nl] at h5
 refine rs ?_
 refine op_v' (j_eq rfl rfl) ?_
 refine oa rfl ?_
 refine on ?_
 refine ac rfl (fun h7 => ?_) fun h7 => ?_
 ·
  have h7r := h7
  try simp only [nq, nr, nl] at h7
  refine rs ?_
  refine op_v' (j_loada_box (ys := [.sl _, .p _]) agg69 rfl rfl rfl (Nat.le_of_ble_eq_true rfl)) ?_
  refine op_v' (j_fldp fld89f2 rfl rfl) ?_
  refine op_v' (j_load_box leaf3 rfl rfl rfl) ?_
  refine op_v0' (j_call0 (v := .tup [.agg [.sl _, .p _], .p _]) (hp1 := []) [] false [] ent223 (f_mulSpec (atI D s.2.1) s.2.2.1) ⟨.inl ⟨rfl, rfl⟩, .inl ⟨rfl, rfl⟩, trivial⟩ trivial rfl rfl (fun h => by cases h) rfl (fun _ h => by cases h) (.inl rfl) rfl rfl) ?_
  refine op_v' (j_extract rfl rfl) ?_
  refine op_v' (j_extract rfl rfl) ?_
  refine op_s' (j_storea_box0 agg69 rfl rfl rfl rfl rfl rfl) ?_
  refine oa rfl ?_
  refine on ?_
  refine a_ret ?_
  exact ⟨[.agg [.sl _, .p _], .p _], .tup [.agg [.sl _, .p _], .p _], [.row 69 2 _, .row 4 1 _], [], [], ⟨⟨_, _, _, _, rfl, rfl, agg69, rfl⟩, rfl, trivial⟩, rfl, rfl, ⟨⟨rfl, rfl⟩, ⟨rfl, rfl⟩, trivial⟩, rfl, rfl, ⟨by rw [(drvX_n (.inl (by assumption)) hA).1, (drvX_n (.inl (by assumption)) hA).2, (drv_2 (by assumption)).1, (drv_2 (by assumption)).2], rfl, rfl⟩⟩
 have h7r := h7
 try simp only [nq, nr, nl] at h7
 refine rs ?_
 refine op_v' (j_eq rfl rfl) ?_
 refine oa rfl ?_
 refine on ?_
 refine ac rfl (fun h8 => ?_) fun h8 => ?_
 ·
  have h8r := h8
  try simp only [nq, nr, nl] at h8
  refine rs ?_
  refine op_v' (j_loada_box (ys := [.sl _, .p _]) agg69 rfl rfl rfl (Nat.le_of_ble_eq_true rfl)) ?_
  refine op_v' (j_fldp fld89f2 rfl rfl) ?_
  refine op_v' (j_load_box leaf3 rfl rfl rfl) ?_
  refine op_v0' (j_call0 (v := .tup [.agg [.sl _, .p _], .p _]) (hp1 := []) [] false [] ent224 (f_divSpec (atI D s.2.1) s.2.2.1) ⟨.inl ⟨rfl, rfl⟩, .inl ⟨rfl, rfl⟩, trivial⟩ trivial rfl rfl (fun h => by cases h) rfl (fun _ h => by cases h) (.inl rfl) rfl rfl) ?_
  refine op_v' (j_extract rfl rfl) ?_
  refine op_v' (j_extract rfl rfl) ?_
  refine op_s' (j_storea_box0 agg69 rfl rfl rfl rfl rfl rfl) ?_
  refine oa rfl ?_
  refine on ?_
  refine a_ret ?_
  exact ⟨[.agg [.sl _, .p _], .p _], .tup [.agg [.sl _, .p _], .p _], [.row 69 2 _, .row 4 1 _], [], [], ⟨⟨_, _, _, _, rfl, rfl, agg69, rfl⟩, rfl, trivial⟩, rfl, rfl, ⟨⟨rfl, rfl⟩, ⟨rfl, rfl⟩, trivial⟩, rfl, rfl, ⟨by rw [(drvX_n (.inr (.inl (by assumption))) hA).1, (drvX_n (.inr (.inl (by assumption))) hA).2, (drv_3 (by assumption)).1, (drv_3 (by assumption)).2], rfl, rfl⟩⟩
 have h8r := h8
 try simp only [nq, nr, nl] at h8
 refine rs ?_
 refine op_v' (j_eq rfl rfl) ?_
 refine oa rfl ?_
 refine on ?_
 refine ac rfl (fun h9 => ?_) fun h9 => ?_
 ·
  have h9r := h9
  try simp only [nq, nr, nl] at h9
  refine rs ?_
  refine op_v' (j_loada_box (ys := [.sl _, .p _]) agg69 rfl rfl rfl (Nat.le_of_ble_eq_true rfl)) ?_
  refine op_v0' (j_call0 (v := .tup [.agg [.sl _, .p _], .p _]) (hp1 := []) [] false [] ent225 (f_satSpec (atI D s.2.1) hAc) ⟨.inl ⟨rfl, rfl⟩, trivial⟩ trivial rfl rfl (fun h => by cases h) rfl (fun _ h => by cases h) (.inl rfl) rfl rfl) ?_
  refine op_v' (j_extract rfl rfl) ?_
  refine op_v' (j_extract rfl rfl) ?_
  refine op_s' (j_storea_box0 agg69 rfl rfl rfl rfl rfl rfl) ?_
  refine oa rfl ?_
  refine on ?_
  refine a_ret ?_
  exact ⟨[.agg [.sl _, .p _], .p _], .tup [.agg [.sl _, .p _], .p _], [.row 69 2 _, .row 4 1 _], [], [], ⟨⟨_, _, _, _, rfl, rfl, agg69, rfl⟩, rfl, trivial⟩, rfl, rfl, ⟨⟨rfl, rfl⟩, ⟨rfl, rfl⟩, trivial⟩, rfl, rfl, ⟨by rw [(drvX_n (.inr (.inr (.inl (by assumption)))) hA).1, (drvX_n (.inr (.inr (.inl (by assumption)))) hA).2, (drv_4 (by assumption) hAc).1, (drv_4 (by assumption) hAc).2], rfl, rfl⟩⟩
 have h9r := h9
 try simp only [nq, nr, nl] at h9
 refine a_skip ?_
 refine rs ?_
 refine op_v' (j_loada_box (ys := [.sl _, .p _]) agg69 rfl rfl rfl (Nat.le_of_ble_eq_true rfl)) ?_
 refine op_v' (j_fldp fld89f2 rfl rfl) ?_
 refine op_v' (j_load_box leaf3 rfl rfl rfl) ?_
 refine op_v0' (j_call0 (v := .tup [.agg [.sl _, .p _], .p _]) (hp1 := []) [] false [] ent226 (f_weakSpec (atI D s.2.1) s.2.2.1) ⟨.inl ⟨rfl, rfl⟩, .inl ⟨rfl, rfl⟩, trivial⟩ trivial rfl rfl (fun h => by cases h) rfl (fun _ h => by cases h) (.inl rfl) rfl rfl) ?_
 refine op_v' (j_extract rfl rfl) ?_
 refine op_v' (j_extract rfl rfl) ?_
 refine op_s' (j_storea_box0 agg69 rfl rfl rfl rfl rfl rfl) ?_
 refine oa rfl ?_
 refine on ?_
 refine a_ret ?_
 have hk5 : s.1 = 5 := by omega
 exact ⟨[.agg [.sl _, .p _], .p _], .tup [.agg [.sl _, .p _], .p _], [.row 69 2 _, .row 4 1 _], [], [], ⟨⟨_, _, _, _, rfl, rfl, agg69, rfl⟩, rfl, trivial⟩, rfl, rfl, ⟨⟨rfl, rfl⟩, ⟨rfl, rfl⟩, trivial⟩, rfl, rfl, ⟨by rw [(drvX_n (.inr (.inr (.inr hk5))) hA).1, (drvX_n (.inr (.inr (.inr hk5))) hA).2, (drv_5 hk5).1, (drv_5 hk5).2], rfl, rfl⟩⟩
theorem f_l4Run (l : List Con) (ss : List Stp) (hpo : pOk l = true) (hsl : ss.length ≤ 1000) (hgs : ∀ s ∈ ss, s.2.2.2.1.length ≤ 1048576) : Fn Tryz.prog 121 [.sl (l.map dC), .sl (ss.map dStp)] [] (fun rr ii nn => ∃ x : Db × Int, ((x.2 < 0 → runV l ss = some x.1) ∧ (0 ≤ x.2 → runV l ss = none) ∧ x.1.2.length = x.1.1.length ∧ x.1.1.length ≤ 1400) ∧ rr = .tup [.agg [.own 0 0, .own 1 0], .p (.int .i64 (x.2))] ∧ ii = [] ∧ nn = [.row 69 2 ((x.1.1).map dC), .row 4 1 ((x.1.2).map dB)]) := by
 refine fn_of Tryz.func121 rfl (Nat.le_of_ble_eq_true rfl) fun w X g => ?_
 show AWp _ _ _ ⟨[(0, .sl (l.map dC)), (1, .sl (ss.map dStp))], []⟩
 have hrp := runI_0 (ss := ss) hpo
 have hln := pOk_len hpo
 rw [runV_y hpo hsl]
 refine rs ?_
 refine op_n' (fun ver => j_alloc elt142 rfl) fun v4x1 => ?_
 refine oa rfl ?_
 refine on ?_
 refine a_seq ?_
 refine a_draw mixed (by kernel_rfl) (by kernel_rfl) fun vf => ?_
 refine d_n' (fun ver => j_buildSlice (parts := []) (es := []) slt30 elt69 rfl rfl (by decide) (by decide) rfl rfl (by simp) rfl) ?_
 refine d_v' (j_move (evo rfl)) ?_
 refine d_n1' (fun ver => j_append_slN (by decide) slt30 elt69 rfl rfl rfl rfl len_dC (all_lf_dC _) (by rw [maxLen_eq]; first | omega | (simp only [nr, nl]; omega)) (by first | omega | (simp only [nr, nl]; omega))) ?_
 refine d_v' (j_move (evo rfl)) ?_
 refine d_v' (j_len_map Tryz.underlying30 rfl) ?_
 refine d_n' (fun ver => j_make (n := l.length) slt44 elt4 rfl rfl (by decide) rfl rfl rfl rfl (by first | omega | (simp only [nr, nl]; omega)) (by rw [maxLen_eq]; first | omega | (simp only [nr, nl]; omega))) ?_
 refine d_v' (j_build (parts := [(0, .tmp 13), (1, .tmp 16)]) str142 elt142 rfl rfl) ?_
 refine d_n' (fun ver => j_alloc elt142 rfl) ?_
 refine d_s' (j_storea_box0 agg142 rfl rfl rfl rfl rfl rfl) ?_
 refine d_nil (by kernel_rfl) (by kernel_rfl) ?_
 refine a_seq ?_
 refine rs ?_
 refine oa rfl ?_
 refine on ?_
 refine a_block ?_
 refine a_loopF' (ι := Nat × Db × Nat × Nat) (fun x => runI l ss x.1 x.2.1) (fun x r => (7, .p (.int .i64 ((x.1 : Nat)))) :: r) (fun x r => (6, some ((vf 6), .box 142 [.own 13 x.2.2.1, .own 16 x.2.2.2])) :: (13, some (x.2.2.1, .row 69 2 ((x.2.1.1).map dC))) :: (16, some (x.2.2.2, .row 4 1 ((x.2.1.2).map dB))) :: r) (fun x => ss.length - x.1) (fun _ _ => rfl) (fun _ _ => rfl) (0, run0 l, (vf 13), (vf 16)) (by first | exact hrp | (dsimp only; exact hrp)) ⟨⟨rfl, rfl⟩, ⟨rfl, trivial⟩, ⟨rfl, rfl, rowEq (by unfold run0; dsimp only; rw [List.map_replicate]; rfl), trivial⟩, ⟨rfl, rfl⟩, ⟨rfl, rfl⟩⟩ ?_
 rintro ⟨k, D, v1, v2⟩ hi; dsimp only at hi ⊢
 refine a_seq ?_
 refine rs ?_
 refine om rfl ?_
 refine om rfl ?_
 refine op_v' (j_len_map Tryz.underlying34 rfl) ?_
 refine op_v' (j_lt rfl rfl) ?_
 refine on ?_
 refine ac rfl (fun h1 => ?_) fun h1 => ?_
 ·
  have h1r := h1
  try simp only [nq, nr, nl] at h1
  refine a_skip ?_
  refine a_seq ?_
  refine a_block ?_
  refine a_seq ?_
  have hi1 := hi.1
  have hid := hi.2.2.1
  have hig := hi.2.2.2.1
  have hil := hi.2.2.2.2
  refine ar ?_
  refine om rfl ?_
  refine om rfl ?_
  refine op_v' (j_elemN (n := k) slt34 rfl rfl (by first | omega | (simp only [nr, nl]; omega)) (at_map (by first | omega | (simp only [nr, nl]; omega))) rfl) ?_
  refine op_v' (j_loada_el (ys := [.p _, .p _, .p _, .sl _, .p _]) agg89 rfl (at_map (by first | omega | (simp only [nr, nl]; omega))) rfl (Nat.le_refl _)) ?_
  refine op_n' (fun ver => j_alloc elt89 rfl) fun v8x2 => ?_
  refine op_s' (j_storea_box0 agg89 rfl rfl rfl rfl rfl rfl) ?_
  refine on ?_
  refine a_seq ?_
  refine rs ?_
  refine op_v' (j_loada_box (ys := [.p _, .p _, .p _, .sl _, .p _]) agg89 rfl rfl rfl (Nat.le_of_ble_eq_true rfl)) ?_
  refine op_v0' (j_call0 (v := .p _) (hp1 := []) [] false [] ent173 (f_l4Parts (ss.getD k default)) ⟨.inl ⟨rfl, rfl⟩, trivial⟩ trivial rfl rfl (fun h => by cases h) rfl (fun _ h => by cases h) (.inl rfl) rfl rfl) ?_
  refine op_v' (j_not rfl) ?_
  refine on ?_
  refine ac rfl (fun h2 => ?_) fun h2 => ?_
  ·
   have h2r := h2
   try simp only [nq, nr, nl] at h2
   refine rs ?_
   refine op_v' (j_loada_box (ys := [.own 13 v1, .own 16 v2]) agg142 rfl rfl rfl (Nat.le_of_ble_eq_true rfl)) ?_
   refine om rfl ?_
   refine op_s' (j_storea_box0 agg142 rfl rfl rfl rfl rfl rfl) ?_
   refine oa rfl ?_
   refine on ?_
   refine a_ret ?_
   have hst : stpO D (ss.getD k default) = false := by unfold stpO; simp_all
   exact ⟨[.agg [.own 13 v1, .own 16 v2], .p _], .tup [.agg [.own 0 0, .own 1 0], .p _], [], [.row 69 2 _, .row 4 1 _], [(13, v1), (16, v2)], ⟨⟨_, _, _, _, rfl, rfl, agg142, rfl⟩, rfl, trivial⟩, rfl, rfl, ⟨⟨rfl, rfl⟩, ⟨rfl, rfl⟩, trivial⟩, rfl, rfl, ⟨(D, (k : Nat)), ⟨fun q => absurd q (by dsimp only; omega), fun _ => runI_stop hi (by first | omega | (simp only [nr, nl]; omega)) hst, hig, (by dsimp only; omega)⟩, rfl, rfl, rfl⟩⟩
  have h2r := h2
  try simp only [nq, nr, nl] at h2
  refine a_skip ?_
  refine a_seq ?_
  refine rs ?_
  refine op_v' (j_fldp fld89f0 rfl rfl) ?_
  refine op_v' (j_load_box leaf3 rfl rfl rfl) ?_
  refine op_v' (j_eq rfl rfl) ?_
  refine on ?_
  refine ac rfl (fun h3 => ?_) fun h3 => ?_
  ·
   have h3r := h3
   try simp only [nq, nr, nl] at h3
   refine a_seq ?_
   refine rs ?_
   refine op_v' (j_loada_box (ys := [.own 13 v1, .own 16 v2]) agg142 rfl rfl rfl (Nat.le_of_ble_eq_true rfl)) ?_
   refine op_v' (j_fldp fld89f1 rfl rfl) ?_
   refine op_v' (j_load_box leaf3 rfl rfl rfl) ?_
   refine op_v0' (j_call0 (v := .p _) (hp1 := []) [] true [13, 16] ent174 (f_l4Live D (ss.getD k default).2.1 hig (by omega)) ⟨.inr ⟨rfl, view_agg rfl (view_cons (view_own rfl rfl) (view_cons (view_own rfl rfl) rfl)), rfl⟩, .inl ⟨rfl, rfl⟩, trivial⟩ trivial rfl rfl (fun _ => rfl) rfl (fun _ h => by cases h) (.inr ⟨rfl, by first | exact pl_new1 (fun _ => rfl) | exact pl_newC | (simp [plO, plV, plV.plL]; done)⟩) rfl rfl) ?_
   refine op_v' (j_not rfl) ?_
   refine on ?_
   refine ac rfl (fun h4 => ?_) fun h4 => ?_
   ·
    have h4r := h4
    try simp only [nq, nr, nl] at h4
    refine rs ?_
    refine op_v' (j_loada_box (ys := [.own 13 v1, .own 16 v2]) agg142 rfl rfl rfl (Nat.le_of_ble_eq_true rfl)) ?_
    refine om rfl ?_
    refine op_s' (j_storea_box0 agg142 rfl rfl rfl rfl rfl rfl) ?_
    refine oa rfl ?_
    refine on ?_
    refine a_ret ?_
    have hst : stpO D (ss.getD k default) = false := stpO_d (by assumption) (by simp_all)
    exact ⟨[.agg [.own 13 v1, .own 16 v2], .p _], .tup [.agg [.own 0 0, .own 1 0], .p _], [], [.row 69 2 _, .row 4 1 _], [(13, v1), (16, v2)], ⟨⟨_, _, _, _, rfl, rfl, agg142, rfl⟩, rfl, trivial⟩, rfl, rfl, ⟨⟨rfl, rfl⟩, ⟨rfl, rfl⟩, trivial⟩, rfl, rfl, ⟨(D, (k : Nat)), ⟨fun q => absurd q (by dsimp only; omega), fun _ => runI_stop hi (by first | omega | (simp only [nr, nl]; omega)) hst, hig, (by dsimp only; omega)⟩, rfl, rfl, rfl⟩⟩
   have h4r := h4
   try simp only [nq, nr, nl] at h4
   refine a_skip ?_
   refine a_seq ?_
   have hlv := liv_rng (show livV D (ss.getD k default).2.1 = true by simp_all)
   refine ar ?_
   refine op_v' (j_fldp fld142f1 rfl rfl) ?_
   refine op_v' (j_load_box leaf44 rfl rfl rfl) ?_
   refine op_v' (j_fldp fld89f1 rfl rfl) ?_
   refine op_v' (j_load_box leaf3 rfl rfl rfl) ?_
   refine op_v' (j_elem_ownN (n := (ss.getD k default).2.1.toNat) slt44 rfl rfl rfl (by first | omega | (simp only [nr, nl]; omega)) (by first | omega | (simp only [nr, nl]; omega))) ?_
   refine op_s' (j_store_row leaf4 rfl rfl (by first | omega | (simp only [nr, nl]; omega)) (evo rfl) rfl rfl) ?_
   refine on ?_
   refine a_exit ?_
   refine ar ?_
   refine om rfl ?_
   refine op_v' (j_add rfl rfl (by first | omega | (simp only [nr, nl]; omega)) (by first | omega | (simp only [nr, nl]; omega))) ?_
   refine oa rfl ?_
   refine on ?_
   have hst : stpO D (ss.getD k default) = true := stpO_d8 (by simp_all) (by assumption) (by simp_all)
   exact ⟨(k + 1, stpD D (ss.getD k default), v1, v2), (by first | exact (runI_next hi (by first | omega | (simp only [nr, nl]; omega)) hst) | (dsimp only; exact (runI_next hi (by first | omega | (simp only [nr, nl]; omega)) hst))), ⟨⟨rfl, rfl⟩, ⟨rfl, trivial⟩, ⟨rfl, rowEq (by rw [stpD_8 (by assumption)]), rowEq (by rw [stpD_8 (by assumption), List.map_set]; rfl), trivial⟩, ⟨rfl, rfl⟩, ⟨rfl, rfl⟩⟩, (by first | exact (by first | omega | (simp only [nr, nl]; omega)) | (dsimp only; exact (by first | omega | (simp only [nr, nl]; omega))))⟩
  have h3r := h3
  try simp only [nq, nr, nl] at h3
  refine a_skip ?_
  refine rs ?_
  refine op_v' (j_loada_box (ys := [.own 13 v1, .own 16 v2]) agg142 rfl rfl rfl (Nat.le_of_ble_eq_true rfl)) ?_
  refine op_v' (j_loada_box (ys := [.p _, .p _, .p _, .sl _, .p _]) agg89 rfl rfl rfl (Nat.le_of_ble_eq_true rfl)) ?_
  refine op_v0' (j_call0 (v := .tup [.agg [.sl _, .p _], .p _]) (hp1 := [(13, some (v1, .row 69 2 _)), (16, some (v2, .row 4 1 _))]) [(13, v1), (16, v2)] false [13, 16] ent175 (f_derive D (ss.getD k default) hid hig (by omega) (hgs _ (getD_mem (by first | omega | (simp only [nr, nl]; omega)))) (by simp_all) (by assumption)) ⟨.inl ⟨rfl, rfl⟩, .inl ⟨rfl, rfl⟩, trivial⟩ ⟨⟨rfl, rfl⟩, ⟨rfl, rfl⟩, trivial⟩ rfl rfl (fun h => by cases h) rfl (List.all_eq_true.1 rfl) (.inl rfl) rfl rfl) ?_
  refine om rfl ?_
  refine op_v' (j_extract rfl rfl) ?_
  refine op_v' (j_extract rfl rfl) ?_
  refine op_n' (fun ver => j_alloc elt69 rfl) fun v9x3 => ?_
  refine op_s' (j_storea_box0 agg69 rfl rfl rfl rfl rfl rfl) ?_
  refine oa rfl ?_
  refine on ?_
  refine a_seq ?_
  refine rs ?_
  refine om rfl ?_
  refine op_v' (j_not rfl) ?_
  refine on ?_
  refine ac rfl (fun h5 => ?_) fun h5 => ?_
  ·
   have h5r := h5
   try simp only [nq, nr, nl] at h5
   refine rs ?_
   refine op_v' (j_loada_box (ys := [.own 13 v1, .own 16 v2]) agg142 rfl rfl rfl (Nat.le_of_ble_eq_true rfl)) ?_
   refine om rfl ?_
   refine op_s' (j_storea_box0 agg142 rfl rfl rfl rfl rfl rfl) ?_
   refine oa rfl ?_
   refine on ?_
   refine a_ret ?_
   have hst : stpO D (ss.getD k default) = false := (stpO_e (by simp_all) (by assumption)).trans (by simp_all)
   exact ⟨[.agg [.own 13 v1, .own 16 v2], .p _], .tup [.agg [.own 0 0, .own 1 0], .p _], [], [.row 69 2 _, .row 4 1 _], [(13, v1), (16, v2)], ⟨⟨_, _, _, _, rfl, rfl, agg142, rfl⟩, rfl, trivial⟩, rfl, rfl, ⟨⟨rfl, rfl⟩, ⟨rfl, rfl⟩, trivial⟩, rfl, rfl, ⟨(D, (k : Nat)), ⟨fun q => absurd q (by dsimp only; omega), fun _ => runI_stop hi (by first | omega | (simp only [nr, nl]; omega)) hst, hig, (by dsimp only; omega)⟩, rfl, rfl, rfl⟩⟩
  have h5r := h5
  try simp only [nq, nr, nl] at h5
  refine a_skip ?_
  refine rs ?_
  refine op_v' (j_fldp fld142f0 rfl rfl) ?_
  refine op_v' (j_load_box leaf30 rfl rfl rfl) ?_
  refine op_v' (j_loada_box (ys := [.sl _, .p _]) agg69 rfl rfl rfl (Nat.le_of_ble_eq_true rfl)) ?_
  refine op_n' (fun ver => j_buildSlice (parts := [(0, .tmp 60)]) (es := [[_, _]]) slt30 elt69 rfl rfl (by decide) (by decide) rfl rfl (by simp) rfl) fun v61x4 => ?_
  refine op_n' (fun ver => j_append_own slt30 elt69 rfl rfl rfl rfl rfl rfl (by rw [maxLen_eq]; first | omega | (simp only [nr, nl]; omega)) (by first | omega | (simp only [nr, nl]; omega))) fun v13x5 => ?_
  refine op_v' (j_fldp fld142f0 rfl rfl) ?_
  refine op_s' (j_store_box leaf30 rfl rfl (Nat.le_of_ble_eq_true rfl) (evo rfl) rfl) ?_
  refine on ?_
  refine ar ?_
  refine op_v' (j_fldp fld142f1 rfl rfl) ?_
  refine op_v' (j_load_box leaf44 rfl rfl rfl) ?_
  refine op_n' (fun ver => j_buildSlice (parts := [(0, .const (.bool false))]) (es := [[_]]) slt44 elt4 rfl rfl (by decide) (by decide) rfl rfl (by simp) rfl) fun v66x6 => ?_
  refine op_n' (fun ver => j_append_own slt44 elt4 rfl rfl rfl rfl rfl rfl (by rw [maxLen_eq]; first | omega | (simp only [nr, nl]; omega)) (by first | omega | (simp only [nr, nl]; omega))) fun v16x7 => ?_
  refine op_v' (j_fldp fld142f1 rfl rfl) ?_
  refine op_s' (j_store_box leaf44 rfl rfl (Nat.le_of_ble_eq_true rfl) (evo rfl) rfl) ?_
  refine on ?_
  refine ar ?_
  refine om rfl ?_
  refine op_v' (j_add rfl rfl (by first | omega | (simp only [nr, nl]; omega)) (by first | omega | (simp only [nr, nl]; omega))) ?_
  refine oa rfl ?_
  refine on ?_
  have hst : stpO D (ss.getD k default) = true := (stpO_e (by simp_all) (by assumption)).trans (by simp_all)
  exact ⟨(k + 1, stpD D (ss.getD k default), v13x5, v16x7), (by first | exact (runI_next hi (by first | omega | (simp only [nr, nl]; omega)) hst) | (dsimp only; exact (runI_next hi (by first | omega | (simp only [nr, nl]; omega)) hst))), ⟨⟨rfl, rfl⟩, ⟨rfl, trivial⟩, ⟨rfl, rowEq (by rw [stpD_e (by assumption) (by simp_all), List.map_append]; rfl), rowEq (by rw [stpD_e (by assumption) (by simp_all), List.map_append]; rfl), trivial⟩, ⟨rfl, rfl⟩, ⟨rfl, rfl⟩⟩, (by first | exact (by first | omega | (simp only [nr, nl]; omega)) | (dsimp only; exact (by first | omega | (simp only [nr, nl]; omega))))⟩
 have h1r := h1
 try simp only [nq, nr, nl] at h1
 refine a_exit ?_
 refine rs ?_
 refine op_v' (j_loada_box (ys := [.own 13 v1, .own 16 v2]) agg142 rfl rfl rfl (Nat.le_of_ble_eq_true rfl)) ?_
 refine op_s' (j_storea_box0 agg142 rfl rfl rfl rfl rfl rfl) ?_
 refine oa rfl ?_
 refine on ?_
 refine a_ret ?_
 have hi1 := hi.1
 have hid := hi.2.2.1
 have hig := hi.2.2.2.1
 have hil := hi.2.2.2.2
 have hre := runI_end hi (by first | omega | (simp only [nr, nl]; omega))
 exact ⟨[.agg [.own 13 v1, .own 16 v2], .p _], .tup [.agg [.own 0 0, .own 1 0], .p _], [], [.row 69 2 _, .row 4 1 _], [(13, v1), (16, v2)], ⟨⟨_, _, _, _, rfl, rfl, agg142, rfl⟩, rfl, trivial⟩, rfl, rfl, ⟨⟨rfl, rfl⟩, ⟨rfl, rfl⟩, trivial⟩, rfl, rfl, ⟨(D, -1), ⟨fun _ => hre, fun q => absurd q (show ¬ (0 : Int) ≤ -1 by decide), hig, (by dsimp only; omega)⟩, rfl, rfl, rfl⟩⟩
theorem f_crSpec (l : List Con) (ss : List Stp) (hgs : ∀ s ∈ ss, s.2.2.2.1.length ≤ 1048576) : Fn Tryz.prog 52 [.sl (l.map dC), .sl (ss.map dStp)] [] (fun rr ii nn => rr = .p (.bool (crV l ss)) ∧ ii = [] ∧ nn = []) := by
 refine fn_of Tryz.func52 rfl (Nat.le_of_ble_eq_true rfl) fun w X g => ?_
 show AWp _ _ _ ⟨[(0, .sl (l.map dC)), (1, .sl (ss.map dStp))], []⟩
 refine rs ?_
 refine oa rfl ?_
 refine on ?_
 refine a_seq ?_
 refine rs ?_
 refine om rfl ?_
 refine om rfl ?_
 refine op_v0' (j_call0 (v := .p _) (hp1 := []) [] false [] ent120 (f_l4Fits l ss) ⟨.inl ⟨rfl, rfl⟩, .inl ⟨rfl, rfl⟩, trivial⟩ trivial rfl rfl (fun h => by cases h) rfl (fun _ h => by cases h) (.inl rfl) rfl rfl) ?_
 refine op_v' (j_not rfl) ?_
 refine on ?_
 refine ac rfl (fun h1 => ?_) fun h1 => ?_
 ·
  have h1r := h1
  try simp only [nq, nr, nl] at h1
  refine rs ?_
  refine oa rfl ?_
  refine on ?_
  refine a_ret ?_
  exact fin_p rfl ⟨boolEq (by rw [crV_n (runV_n (by by_cases hq : pOk l = true; (· right; simp_all); (· left; simp_all)))]), rfl, rfl⟩
 have h1r := h1
 try simp only [nq, nr, nl] at h1
 refine a_skip ?_
 refine a_seq ?_
 have hpo : pOk l = true := by simp_all
 have hsl : ss.length ≤ 1000 := by simp_all
 refine ar ?_
 refine om rfl ?_
 refine om rfl ?_
 refine op_callE2 (v := fun x ver ver2 => .tup [.agg [.own 14 ver, .own 100014 ver2], .p _]) (hp1 := fun x ver ver2 => [(14, some (ver, .row 69 2 _)), (100014, some (ver2, .row 4 1 _))]) [] false ent121 (f_l4Run l ss hpo hsl hgs) ⟨.inl ⟨rfl, rfl⟩, .inl ⟨rfl, rfl⟩, trivial⟩ trivial rfl rfl (fun _ => rfl) (fun _ => rfl) (.inl rfl) (fun _ _ _ => rfl) (fun _ _ _ => rfl) ?_
 rintro ⟨E14, i14⟩ ⟨hr14, hq14, hl14, hm14⟩ v14x1 v100014x1
 try dsimp only at hr14
 try dsimp only at hq14
 try dsimp only at hl14
 try dsimp only at hm14
 dsimp only [List.cons_append, List.nil_append]
 refine om rfl ?_
 refine op_v' (j_extract rfl rfl) ?_
 refine op_v' (j_extract rfl rfl) ?_
 refine op_n' (fun ver => j_alloc elt142 rfl) fun v5x2 => ?_
 refine op_s' (j_storea_box0 agg142 rfl rfl rfl rfl rfl rfl) ?_
 refine oa rfl ?_
 refine on ?_
 refine rs ?_
 refine om rfl ?_
 refine op_v' (j_lt rfl rfl) ?_
 refine om rfl ?_
 refine op_split' 19 rfl (fun h2 => ?_) (fun h2 => ?_)
 ·
  have h2r := h2
  try simp only [nq, nr, nl] at h2
  refine op_v' (j_want rfl rfl h2r (j_loada_box (ys := [.own 14 v14x1, .own 100014 v100014x1]) agg142 rfl rfl rfl (Nat.le_of_ble_eq_true rfl))) ?_
  refine op_v0' (j_want rfl rfl h2r (j_call0 (v := .p _) (hp1 := []) [] true [14, 100014] ent122 (f_l4False E14 hl14 (by omega)) ⟨.inr ⟨rfl, view_agg rfl (view_cons (view_own rfl rfl) (view_cons (view_own rfl rfl) rfl)), rfl⟩, trivial⟩ trivial rfl rfl (fun _ => rfl) rfl (fun _ h => by cases h) (.inr ⟨rfl, by first | exact pl_new1 (fun _ => rfl) | exact pl_newC | (simp [plO, plV, plV.plL]; done)⟩) rfl rfl)) ?_
  refine op_v' (j_want rfl rfl h2r (j_ge rfl rfl)) ?_
  refine op_v' (j_pick_t rfl h2r (evo rfl)) ?_
  refine oa rfl ?_
  refine on ?_
  refine a_ret ?_
  exact fin_p rfl ⟨boolEq (by first | (rw [crV_y (hr14 (by assumption)), ← falI_fal]; done) | (rw [crV_n (hq14 (by omega))])), rfl, rfl⟩
 have h2r := h2
 try simp only [nq, nr, nl] at h2
 refine op_v' (j_unwantV rfl rfl h2r) ?_
 refine op_v' (j_unwantV rfl rfl h2r) ?_
 refine op_v' (j_unwantV rfl rfl h2r) ?_
 refine op_v' (j_pick_f rfl h2r (evo rfl)) ?_
 refine oa rfl ?_
 refine on ?_
 refine a_ret ?_
 exact fin_p rfl ⟨boolEq (by first | (rw [crV_y (hr14 (by assumption)), ← falI_fal]; done) | (rw [crV_n (hq14 (by omega))])), rfl, rfl⟩
end Go.Ab

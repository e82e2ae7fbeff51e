/- Walks. -/
import Derived.Test.YtoodaakcfelaaaaGreatBase
import Derived.Test.YtoodaakcfelaaaaGreatCub
import Derived.Test.YtoodaakcfelaaaaGreatWsrup
import Derived.Test.YtoodaakcfelaaaaGreatWsmul
import Derived.Test.YtoodaakcfelaaaaGreatWssimp
import Derived.Test.YtoodaakcfelaaaaGreatWstight
namespace Go.Ab
open Go.Proofs
set_option maxRecDepth 100000
set_option maxHeartbeats 8000000
set_option linter.unusedSimpArgs false
set_option linter.unusedVariables false
theorem f_refers (k : Int) : Fn Tryz.prog 232 [.p (.int .i64 (k))] [] (fun rr ii nn => rr = .tup [.p (.int .i64 (refK k).1), .p (.bool (refK k).2)] ∧ ii = [] ∧ nn = []) := by
 refine fn_of Tryz.func232 rfl (Nat.le_of_ble_eq_true rfl) fun w X g => ?_
 show AWp _ _ _ ⟨[(0, .p (.int .i64 (k)))], []⟩
 refine rs ?_
 refine oa rfl ?_
 refine oa rfl ?_
 refine on ?_
 refine a_seq ?_
 refine rs ?_
 refine om rfl ?_
 refine on ?_
 refine a_block ?_
 refine rs ?_
 refine op_v' (j_eq rfl rfl) ?_
 refine oa rfl ?_
 refine on ?_
 refine ac rfl (fun h1 => ?_) fun h1 => ?_
 ·
  have h1r := h1
  try simp only [nq, nr] at h1
  refine rs ?_
  refine oa rfl ?_
  refine oa rfl ?_
  refine on ?_
  refine a_ret ?_
  exact ⟨[.p _, .p _], .tup [.p _, .p _], [], [], [], ⟨rfl, rfl, trivial⟩, rfl, rfl, trivial, rfl, rfl, ⟨by have e : refK k = (2, false) := (by unfold refK; (repeat' split) <;> first | rfl | (exfalso; omega)); rw [e], rfl, rfl⟩⟩
 have h1r := h1
 try simp only [nq, nr] at h1
 refine a_seq ?_
 refine rs ?_
 refine op_v' (j_eq rfl rfl) ?_
 refine oa rfl ?_
 refine on ?_
 refine ac rfl (fun h2 => ?_) fun h2 => ?_
 ·
  have h2r := h2
  try simp only [nq, nr] at h2
  refine a_skip ?_
  refine a_cond rfl (fun hh => ?_) (fun hh => absurd (Eq.trans (Eq.symm h2r) hh) (by decide))
  refine rs ?_
  refine oa rfl ?_
  refine oa rfl ?_
  refine on ?_
  refine a_ret ?_
  exact ⟨[.p _, .p _], .tup [.p _, .p _], [], [], [], ⟨rfl, rfl, trivial⟩, rfl, rfl, trivial, rfl, rfl, ⟨by have e : refK k = (1, true) := (by unfold refK; (repeat' split) <;> first | rfl | (exfalso; omega)); rw [e], rfl, rfl⟩⟩
 have h2r := h2
 try simp only [nq, nr] at h2
 refine rs ?_
 refine op_v' (j_eq rfl rfl) ?_
 refine oa rfl ?_
 refine on ?_
 refine ac rfl (fun h3 => ?_) fun h3 => ?_
 ·
  have h3r := h3
  try simp only [nq, nr] at h3
  refine a_skip ?_
  refine a_cond rfl (fun hh => ?_) (fun hh => absurd (Eq.trans (Eq.symm h3r) hh) (by decide))
  refine rs ?_
  refine oa rfl ?_
  refine oa rfl ?_
  refine on ?_
  refine a_ret ?_
  exact ⟨[.p _, .p _], .tup [.p _, .p _], [], [], [], ⟨rfl, rfl, trivial⟩, rfl, rfl, trivial, rfl, rfl, ⟨by have e : refK k = (1, true) := (by unfold refK; (repeat' split) <;> first | rfl | (exfalso; omega)); rw [e], rfl, rfl⟩⟩
 have h3r := h3
 try simp only [nq, nr] at h3
 refine ar ?_
 refine op_v' (j_eq rfl rfl) ?_
 refine oa rfl ?_
 refine on ?_
 refine ac rfl (fun h4 => ?_) fun h4 => ?_
 ·
  have h4r := h4
  try simp only [nq, nr] at h4
  refine rs ?_
  refine oa rfl ?_
  refine oa rfl ?_
  refine on ?_
  refine a_ret ?_
  exact ⟨[.p _, .p _], .tup [.p _, .p _], [], [], [], ⟨rfl, rfl, trivial⟩, rfl, rfl, trivial, rfl, rfl, ⟨by have e : refK k = (1, true) := (by unfold refK; (repeat' split) <;> first | rfl | (exfalso; omega)); rw [e], rfl, rfl⟩⟩
 have h4r := h4
 try simp only [nq, nr] at h4
 refine a_seq ?_
 refine rs ?_
 refine op_v' (j_eq rfl rfl) ?_
 refine oa rfl ?_
 refine on ?_
 refine ac rfl (fun h5 => ?_) fun h5 => ?_
 ·
  have h5r := h5
  try simp only [nq, nr] at h5
  refine a_skip ?_
  refine a_cond rfl (fun hh => ?_) (fun hh => absurd (Eq.trans (Eq.symm h5r) hh) (by decide))
  refine rs ?_
  refine oa rfl ?_
  refine oa rfl ?_
  refine on ?_
  refine a_ret ?_
  exact ⟨[.p _, .p _], .tup [.p _, .p _], [], [], [], ⟨rfl, rfl, trivial⟩, rfl, rfl, trivial, rfl, rfl, ⟨by have e : refK k = (1, false) := (by unfold refK; (repeat' split) <;> first | rfl | (exfalso; omega)); rw [e], rfl, rfl⟩⟩
 have h5r := h5
 try simp only [nq, nr] at h5
 refine ar ?_
 refine op_v' (j_eq rfl rfl) ?_
 refine oa rfl ?_
 refine on ?_
 refine ac rfl (fun h6 => ?_) fun h6 => ?_
 ·
  have h6r := h6
  try simp only [nq, nr] at h6
  refine rs ?_
  refine oa rfl ?_
  refine oa rfl ?_
  refine on ?_
  refine a_ret ?_
  exact ⟨[.p _, .p _], .tup [.p _, .p _], [], [], [], ⟨rfl, rfl, trivial⟩, rfl, rfl, trivial, rfl, rfl, ⟨by have e : refK k = (1, false) := (by unfold refK; (repeat' split) <;> first | rfl | (exfalso; omega)); rw [e], rfl, rfl⟩⟩
 have h6r := h6
 try simp only [nq, nr] at h6
 refine a_seq ?_
 refine rs ?_
 refine op_v' (j_eq rfl rfl) ?_
 refine oa rfl ?_
 refine on ?_
 refine ac rfl (fun h7 => ?_) fun h7 => ?_
 ·
  have h7r := h7
  try simp only [nq, nr] at h7
  refine a_skip ?_
  refine a_cond rfl (fun hh => ?_) (fun hh => absurd (Eq.trans (Eq.symm h7r) hh) (by decide))
  refine rs ?_
  refine oa rfl ?_
  refine oa rfl ?_
  refine on ?_
  refine a_ret ?_
  exact ⟨[.p _, .p _], .tup [.p _, .p _], [], [], [], ⟨rfl, rfl, trivial⟩, rfl, rfl, trivial, rfl, rfl, ⟨by have e : refK k = (0, false) := (by unfold refK; (repeat' split) <;> first | rfl | (exfalso; omega)); rw [e], rfl, rfl⟩⟩
 have h7r := h7
 try simp only [nq, nr] at h7
 refine ar ?_
 refine op_v' (j_eq rfl rfl) ?_
 refine oa rfl ?_
 refine on ?_
 refine ac rfl (fun h8 => ?_) fun h8 => ?_
 ·
  have h8r := h8
  try simp only [nq, nr] at h8
  refine rs ?_
  refine oa rfl ?_
  refine oa rfl ?_
  refine on ?_
  refine a_ret ?_
  exact ⟨[.p _, .p _], .tup [.p _, .p _], [], [], [], ⟨rfl, rfl, trivial⟩, rfl, rfl, trivial, rfl, rfl, ⟨by have e : refK k = (0, false) := (by unfold refK; (repeat' split) <;> first | rfl | (exfalso; omega)); rw [e], rfl, rfl⟩⟩
 have h8r := h8
 try simp only [nq, nr] at h8
 refine a_skip ?_
 refine rs ?_
 refine oa rfl ?_
 refine oa rfl ?_
 refine on ?_
 refine a_ret ?_
 exact ⟨[.p _, .p _], .tup [.p _, .p _], [], [], [], ⟨rfl, rfl, trivial⟩, rfl, rfl, trivial, rfl, rfl, ⟨by have e : refK k = (-1, false) := (by unfold refK; (repeat' split) <;> first | rfl | (exfalso; omega)); rw [e], rfl, rfl⟩⟩
theorem f_shaped (s : Stp) : Fn Tryz.prog 233 [.agg [.p (.int .i64 s.1), .p (.int .i64 s.2.1), .p (.int .i64 s.2.2.1), .sl (s.2.2.2.1.map dT), .p (.int .i64 s.2.2.2.2)]] [] (fun rr ii nn => rr = .p (.bool (shpV s)) ∧ ii = [] ∧ nn = []) := by
 refine fn_of Tryz.func233 rfl (Nat.le_of_ble_eq_true rfl) fun w X g => ?_
 show AWp _ _ _ ⟨[(0, .agg [.p (.int .i64 s.1), .p (.int .i64 s.2.1), .p (.int .i64 s.2.2.1), .sl (s.2.2.2.1.map dT), .p (.int .i64 s.2.2.2.2)])], []⟩
 refine rs ?_
 refine op_n' (fun ver => j_boxa rfl) fun v1x1 => ?_
 refine oa rfl ?_
 refine on ?_
 refine rs ?_
 refine op_v' (j_fldp fld89f0 rfl rfl) ?_
 refine op_v' (j_load_box leaf3 rfl rfl rfl) ?_
 refine op_v0' (j_call0 (v := .tup [.p _, .p _]) (hp1 := []) [] false [] ent232 (f_refers s.1) ⟨.inl ⟨rfl, rfl⟩, trivial⟩ trivial rfl rfl (fun h => by cases h) rfl (fun _ h => by cases h) (.inl rfl) rfl rfl) ?_
 refine om rfl ?_
 refine op_v' (j_extract rfl rfl) ?_
 refine op_v' (j_extract rfl rfl) ?_
 refine oa rfl ?_
 refine oa rfl ?_
 refine on ?_
 refine rs ?_
 refine om rfl ?_
 refine op_v' (j_ge rfl rfl) ?_
 refine om rfl ?_
 refine op_split' 13 rfl (fun h1 => ?_) (fun h1 => ?_)
 ·
  have h1r := h1
  try simp only [nq, nr] at h1
  refine op_v' (j_want rfl rfl h1r (j_move (evo rfl))) ?_
  refine op_v' (j_want rfl rfl h1r (j_gt rfl rfl)) ?_
  refine op_v' (j_want rfl rfl h1r (j_move (evo rfl))) ?_
  refine op_split' 16 rfl (fun h2 => ?_) (fun h2 => ?_)
  ·
   have h2r := h2
   try simp only [nq, nr] at h2
   refine op_v' (j_unwantV rfl rfl h2r) ?_
   refine op_v' (j_unwantV rfl rfl h2r) ?_
   refine op_v' (j_unwantV rfl rfl h2r) ?_
   refine op_v' (j_want rfl rfl h1r (j_pick_t rfl h2r (evo rfl))) ?_
   refine op_v' (j_want rfl rfl h1r (j_move (evo rfl))) ?_
   refine op_v' (j_unwantV rfl rfl rfl) ?_
   refine op_v' (j_unwantV rfl rfl rfl) ?_
   refine op_v' (j_unwantV rfl rfl rfl) ?_
   refine op_v' (j_want rfl rfl h1r (j_pick_t rfl rfl (evo rfl))) ?_
   refine op_v' (j_pick_t rfl h1r (evo rfl)) ?_
   refine om rfl ?_
   refine op_v' (j_want rfl rfl rfl (j_move (evo rfl))) ?_
   refine op_v' (j_want rfl rfl rfl (j_eq rfl rfl)) ?_
   refine op_v' (j_want rfl rfl rfl (j_move (evo rfl))) ?_
   refine op_split' 30 rfl (fun h3 => ?_) (fun h3 => ?_)
   ·
    have h3r := h3
    try simp only [nq, nr] at h3
    refine op_v' (j_unwantV rfl rfl h3r) ?_
    refine op_v' (j_want rfl rfl rfl (j_pick_t rfl h3r (evo rfl))) ?_
    refine op_v' (j_want rfl rfl rfl (j_move (evo rfl))) ?_
    refine op_v' (j_unwantV rfl rfl rfl) ?_
    refine op_v' (j_unwantV rfl rfl rfl) ?_
    refine op_v' (j_unwantV rfl rfl rfl) ?_
    refine op_v' (j_want rfl rfl rfl (j_pick_t rfl rfl (evo rfl))) ?_
    refine op_v' (j_pick_t rfl rfl (evo rfl)) ?_
    refine om rfl ?_
    refine op_v' (j_want rfl rfl rfl (j_fldp fld89f0 rfl rfl)) ?_
    refine op_v' (j_want rfl rfl rfl (j_load_box leaf3 rfl rfl rfl)) ?_
    refine op_v' (j_want rfl rfl rfl (j_eq rfl rfl)) ?_
    refine op_v' (j_want rfl rfl rfl (j_move (evo rfl))) ?_
    refine op_split' 43 rfl (fun h4 => ?_) (fun h4 => ?_)
    ·
     have h4r := h4
     try simp only [nq, nr] at h4
     refine op_v' (j_unwantV rfl rfl h4r) ?_
     refine op_v' (j_unwantV rfl rfl h4r) ?_
     refine op_v' (j_unwantV rfl rfl h4r) ?_
     refine op_v' (j_unwantV rfl rfl h4r) ?_
     refine op_v' (j_want rfl rfl rfl (j_pick_t rfl h4r (evo rfl))) ?_
     refine op_v' (j_pick_t rfl rfl (evo rfl)) ?_
     refine oa rfl ?_
     refine on ?_
     refine a_ret ?_
     exact fin_p rfl ⟨boolEq (by rw [shp_eq]; first | (simp_all; done) | (simp_all; omega)), rfl, rfl⟩
    have h4r := h4
    try simp only [nq, nr] at h4
    refine op_v' (j_want rfl rfl h4r (j_fldp fld89f3 rfl rfl)) ?_
    refine op_v' (j_want rfl rfl h4r (j_loada_box (ys := [.sl _, .p _]) agg69 rfl rfl rfl (Nat.le_of_ble_eq_true rfl))) ?_
    refine op_v' (j_want rfl rfl h4r (j_build (parts := []) str69 elt69 rfl rfl)) ?_
    refine op_nila 46 0 rfl rfl ?_
    try dsimp only [List.set]
    refine op_v0' (j_want rfl rfl h4r (j_call0 (v := .p _) (hp1 := []) [] false [] ent78 (f_same s.2.2.2 ([], 0)) ⟨.inl ⟨rfl, rfl⟩, .inl ⟨rfl, rfl⟩, trivial⟩ trivial rfl rfl (fun h => by cases h) rfl (fun _ h => by cases h) (.inl rfl) rfl rfl)) ?_
    refine op_v' (j_want rfl rfl rfl (j_pick_f rfl h4r (evo rfl))) ?_
    refine op_v' (j_pick_t rfl rfl (evo rfl)) ?_
    refine oa rfl ?_
    refine on ?_
    refine a_ret ?_
    exact fin_p rfl ⟨boolEq (by rw [shp_eq]; first | (simp_all; done) | (simp_all; omega)), rfl, rfl⟩
   have h3r := h3
   try simp only [nq, nr] at h3
   refine op_v' (j_want rfl rfl h3r (j_move (evo rfl))) ?_
   refine op_v' (j_want rfl rfl rfl (j_pick_f rfl h3r (evo rfl))) ?_
   refine op_v' (j_want rfl rfl rfl (j_move (evo rfl))) ?_
   refine op_split' 33 rfl (fun h5 => ?_) (fun h5 => ?_)
   ·
    have h5r := h5
    try simp only [nq, nr] at h5
    refine op_v' (j_unwantV rfl rfl h5r) ?_
    refine op_v' (j_unwantV rfl rfl h5r) ?_
    refine op_v' (j_unwantV rfl rfl h5r) ?_
    refine op_v' (j_want rfl rfl rfl (j_pick_t rfl h5r (evo rfl))) ?_
    refine op_v' (j_pick_t rfl rfl (evo rfl)) ?_
    refine om rfl ?_
    refine op_v' (j_want rfl rfl rfl (j_fldp fld89f0 rfl rfl)) ?_
    refine op_v' (j_want rfl rfl rfl (j_load_box leaf3 rfl rfl rfl)) ?_
    refine op_v' (j_want rfl rfl rfl (j_eq rfl rfl)) ?_
    refine op_v' (j_want rfl rfl rfl (j_move (evo rfl))) ?_
    refine op_split' 43 rfl (fun h6 => ?_) (fun h6 => ?_)
    ·
     have h6r := h6
     try simp only [nq, nr] at h6
     refine op_v' (j_unwantV rfl rfl h6r) ?_
     refine op_v' (j_unwantV rfl rfl h6r) ?_
     refine op_v' (j_unwantV rfl rfl h6r) ?_
     refine op_v' (j_unwantV rfl rfl h6r) ?_
     refine op_v' (j_want rfl rfl rfl (j_pick_t rfl h6r (evo rfl))) ?_
     refine op_v' (j_pick_t rfl rfl (evo rfl)) ?_
     refine oa rfl ?_
     refine on ?_
     refine a_ret ?_
     exact fin_p rfl ⟨boolEq (by rw [shp_eq]; first | (simp_all; done) | (simp_all; omega)), rfl, rfl⟩
    have h6r := h6
    try simp only [nq, nr] at h6
    refine op_v' (j_want rfl rfl h6r (j_fldp fld89f3 rfl rfl)) ?_
    refine op_v' (j_want rfl rfl h6r (j_loada_box (ys := [.sl _, .p _]) agg69 rfl rfl rfl (Nat.le_of_ble_eq_true rfl))) ?_
    refine op_v' (j_want rfl rfl h6r (j_build (parts := []) str69 elt69 rfl rfl)) ?_
    refine op_nila 46 0 rfl rfl ?_
    try dsimp only [List.set]
    refine op_v0' (j_want rfl rfl h6r (j_call0 (v := .p _) (hp1 := []) [] false [] ent78 (f_same s.2.2.2 ([], 0)) ⟨.inl ⟨rfl, rfl⟩, .inl ⟨rfl, rfl⟩, trivial⟩ trivial rfl rfl (fun h => by cases h) rfl (fun _ h => by cases h) (.inl rfl) rfl rfl)) ?_
    refine op_v' (j_want rfl rfl rfl (j_pick_f rfl h6r (evo rfl))) ?_
    refine op_v' (j_pick_t rfl rfl (evo rfl)) ?_
    refine oa rfl ?_
    refine on ?_
    refine a_ret ?_
    exact fin_p rfl ⟨boolEq (by rw [shp_eq]; first | (simp_all; done) | (simp_all; omega)), rfl, rfl⟩
   have h5r := h5
   try simp only [nq, nr] at h5
   refine op_v' (j_want rfl rfl h5r (j_fldp fld89f2 rfl rfl)) ?_
   refine op_v' (j_want rfl rfl h5r (j_load_box leaf3 rfl rfl rfl)) ?_
   refine op_v' (j_want rfl rfl h5r (j_eq rfl rfl)) ?_
   refine op_v' (j_want rfl rfl rfl (j_pick_f rfl h5r (evo rfl))) ?_
   refine op_v' (j_pick_t rfl rfl (evo rfl)) ?_
   refine om rfl ?_
   refine op_split' 39 rfl (fun h7 => ?_) (fun h7 => ?_)
   ·
    have h7r := h7
    try simp only [nq, nr] at h7
    refine op_v' (j_want rfl rfl h7r (j_fldp fld89f0 rfl rfl)) ?_
    refine op_v' (j_want rfl rfl h7r (j_load_box leaf3 rfl rfl rfl)) ?_
    refine op_v' (j_want rfl rfl h7r (j_eq rfl rfl)) ?_
    refine op_v' (j_want rfl rfl h7r (j_move (evo rfl))) ?_
    refine op_split' 43 rfl (fun h8 => ?_) (fun h8 => ?_)
    ·
     have h8r := h8
     try simp only [nq, nr] at h8
     refine op_v' (j_unwantV rfl rfl h8r) ?_
     refine op_v' (j_unwantV rfl rfl h8r) ?_
     refine op_v' (j_unwantV rfl rfl h8r) ?_
     refine op_v' (j_unwantV rfl rfl h8r) ?_
     refine op_v' (j_want rfl rfl h7r (j_pick_t rfl h8r (evo rfl))) ?_
     refine op_v' (j_pick_t rfl h7r (evo rfl)) ?_
     refine oa rfl ?_
     refine on ?_
     refine a_ret ?_
     exact fin_p rfl ⟨boolEq (by rw [shp_eq]; first | (simp_all; done) | (simp_all; omega)), rfl, rfl⟩
    have h8r := h8
    try simp only [nq, nr] at h8
    refine op_v' (j_want rfl rfl h8r (j_fldp fld89f3 rfl rfl)) ?_
    refine op_v' (j_want rfl rfl h8r (j_loada_box (ys := [.sl _, .p _]) agg69 rfl rfl rfl (Nat.le_of_ble_eq_true rfl))) ?_
    refine op_v' (j_want rfl rfl h8r (j_build (parts := []) str69 elt69 rfl rfl)) ?_
    refine op_nila 46 0 rfl rfl ?_
    try dsimp only [List.set]
    refine op_v0' (j_want rfl rfl h8r (j_call0 (v := .p _) (hp1 := []) [] false [] ent78 (f_same s.2.2.2 ([], 0)) ⟨.inl ⟨rfl, rfl⟩, .inl ⟨rfl, rfl⟩, trivial⟩ trivial rfl rfl (fun h => by cases h) rfl (fun _ h => by cases h) (.inl rfl) rfl rfl)) ?_
    refine op_v' (j_want rfl rfl h7r (j_pick_f rfl h8r (evo rfl))) ?_
    refine op_v' (j_pick_t rfl h7r (evo rfl)) ?_
    refine oa rfl ?_
    refine on ?_
    refine a_ret ?_
    exact fin_p rfl ⟨boolEq (by rw [shp_eq]; first | (simp_all; done) | (simp_all; omega)), rfl, rfl⟩
   have h7r := h7
   try simp only [nq, nr] at h7
   refine op_v' (j_unwantV rfl rfl h7r) ?_
   refine op_v' (j_unwantV rfl rfl h7r) ?_
   refine op_v' (j_unwantV rfl rfl h7r) ?_
   refine op_v' (j_unwantV rfl rfl h7r) ?_
   refine op_v' (j_unwantU rfl rfl) ?_
   refine op_v' (j_unwantU rfl rfl) ?_
   refine op_v' (j_unwantU rfl rfl) ?_
   refine op_v' (j_unwantU rfl rfl) ?_
   refine op_v' (j_unwantV rfl rfl h7r) ?_
   refine op_v' (j_pick_f rfl h7r (evo rfl)) ?_
   refine oa rfl ?_
   refine on ?_
   refine a_ret ?_
   exact fin_p rfl ⟨boolEq (by rw [shp_eq]; first | (simp_all; done) | (simp_all; omega)), rfl, rfl⟩
  have h2r := h2
  try simp only [nq, nr] at h2
  refine op_v' (j_want rfl rfl h2r (j_fldp fld89f0 rfl rfl)) ?_
  refine op_v' (j_want rfl rfl h2r (j_load_box leaf3 rfl rfl rfl)) ?_
  refine op_v' (j_want rfl rfl h2r (j_eq rfl rfl)) ?_
  refine op_v' (j_want rfl rfl h1r (j_pick_f rfl h2r (evo rfl))) ?_
  refine op_v' (j_want rfl rfl h1r (j_move (evo rfl))) ?_
  refine op_split' 21 rfl (fun h9 => ?_) (fun h9 => ?_)
  ·
   have h9r := h9
   try simp only [nq, nr] at h9
   refine op_v' (j_unwantV rfl rfl h9r) ?_
   refine op_v' (j_unwantV rfl rfl h9r) ?_
   refine op_v' (j_unwantV rfl rfl h9r) ?_
   refine op_v' (j_want rfl rfl h1r (j_pick_t rfl h9r (evo rfl))) ?_
   refine op_v' (j_pick_t rfl h1r (evo rfl)) ?_
   refine om rfl ?_
   refine op_v' (j_want rfl rfl rfl (j_move (evo rfl))) ?_
   refine op_v' (j_want rfl rfl rfl (j_eq rfl rfl)) ?_
   refine op_v' (j_want rfl rfl rfl (j_move (evo rfl))) ?_
   refine op_split' 30 rfl (fun h10 => ?_) (fun h10 => ?_)
   ·
    have h10r := h10
    try simp only [nq, nr] at h10
    refine op_v' (j_unwantV rfl rfl h10r) ?_
    refine op_v' (j_want rfl rfl rfl (j_pick_t rfl h10r (evo rfl))) ?_
    refine op_v' (j_want rfl rfl rfl (j_move (evo rfl))) ?_
    refine op_v' (j_unwantV rfl rfl rfl) ?_
    refine op_v' (j_unwantV rfl rfl rfl) ?_
    refine op_v' (j_unwantV rfl rfl rfl) ?_
    refine op_v' (j_want rfl rfl rfl (j_pick_t rfl rfl (evo rfl))) ?_
    refine op_v' (j_pick_t rfl rfl (evo rfl)) ?_
    refine om rfl ?_
    refine op_v' (j_want rfl rfl rfl (j_fldp fld89f0 rfl rfl)) ?_
    refine op_v' (j_want rfl rfl rfl (j_load_box leaf3 rfl rfl rfl)) ?_
    refine op_v' (j_want rfl rfl rfl (j_eq rfl rfl)) ?_
    refine op_v' (j_want rfl rfl rfl (j_move (evo rfl))) ?_
    refine op_split' 43 rfl (fun h11 => ?_) (fun h11 => ?_)
    ·
     have h11r := h11
     try simp only [nq, nr] at h11
     refine op_v' (j_unwantV rfl rfl h11r) ?_
     refine op_v' (j_unwantV rfl rfl h11r) ?_
     refine op_v' (j_unwantV rfl rfl h11r) ?_
     refine op_v' (j_unwantV rfl rfl h11r) ?_
     refine op_v' (j_want rfl rfl rfl (j_pick_t rfl h11r (evo rfl))) ?_
     refine op_v' (j_pick_t rfl rfl (evo rfl)) ?_
     refine oa rfl ?_
     refine on ?_
     refine a_ret ?_
     exact fin_p rfl ⟨boolEq (by rw [shp_eq]; first | (simp_all; done) | (simp_all; omega)), rfl, rfl⟩
    have h11r := h11
    try simp only [nq, nr] at h11
    refine op_v' (j_want rfl rfl h11r (j_fldp fld89f3 rfl rfl)) ?_
    refine op_v' (j_want rfl rfl h11r (j_loada_box (ys := [.sl _, .p _]) agg69 rfl rfl rfl (Nat.le_of_ble_eq_true rfl))) ?_
    refine op_v' (j_want rfl rfl h11r (j_build (parts := []) str69 elt69 rfl rfl)) ?_
    refine op_nila 46 0 rfl rfl ?_
    try dsimp only [List.set]
    refine op_v0' (j_want rfl rfl h11r (j_call0 (v := .p _) (hp1 := []) [] false [] ent78 (f_same s.2.2.2 ([], 0)) ⟨.inl ⟨rfl, rfl⟩, .inl ⟨rfl, rfl⟩, trivial⟩ trivial rfl rfl (fun h => by cases h) rfl (fun _ h => by cases h) (.inl rfl) rfl rfl)) ?_
    refine op_v' (j_want rfl rfl rfl (j_pick_f rfl h11r (evo rfl))) ?_
    refine op_v' (j_pick_t rfl rfl (evo rfl)) ?_
    refine oa rfl ?_
    refine on ?_
    refine a_ret ?_
    exact fin_p rfl ⟨boolEq (by rw [shp_eq]; first | (simp_all; done) | (simp_all; omega)), rfl, rfl⟩
   have h10r := h10
   try simp only [nq, nr] at h10
   refine op_v' (j_want rfl rfl h10r (j_move (evo rfl))) ?_
   refine op_v' (j_want rfl rfl rfl (j_pick_f rfl h10r (evo rfl))) ?_
   refine op_v' (j_want rfl rfl rfl (j_move (evo rfl))) ?_
   refine op_split' 33 rfl (fun h12 => ?_) (fun h12 => ?_)
   ·
    have h12r := h12
    try simp only [nq, nr] at h12
    refine op_v' (j_unwantV rfl rfl h12r) ?_
    refine op_v' (j_unwantV rfl rfl h12r) ?_
    refine op_v' (j_unwantV rfl rfl h12r) ?_
    refine op_v' (j_want rfl rfl rfl (j_pick_t rfl h12r (evo rfl))) ?_
    refine op_v' (j_pick_t rfl rfl (evo rfl)) ?_
    refine om rfl ?_
    refine op_v' (j_want rfl rfl rfl (j_fldp fld89f0 rfl rfl)) ?_
    refine op_v' (j_want rfl rfl rfl (j_load_box leaf3 rfl rfl rfl)) ?_
    refine op_v' (j_want rfl rfl rfl (j_eq rfl rfl)) ?_
    refine op_v' (j_want rfl rfl rfl (j_move (evo rfl))) ?_
    refine op_split' 43 rfl (fun h13 => ?_) (fun h13 => ?_)
    ·
     have h13r := h13
     try simp only [nq, nr] at h13
     refine op_v' (j_unwantV rfl rfl h13r) ?_
     refine op_v' (j_unwantV rfl rfl h13r) ?_
     refine op_v' (j_unwantV rfl rfl h13r) ?_
     refine op_v' (j_unwantV rfl rfl h13r) ?_
     refine op_v' (j_want rfl rfl rfl (j_pick_t rfl h13r (evo rfl))) ?_
     refine op_v' (j_pick_t rfl rfl (evo rfl)) ?_
     refine oa rfl ?_
     refine on ?_
     refine a_ret ?_
     exact fin_p rfl ⟨boolEq (by rw [shp_eq]; first | (simp_all; done) | (simp_all; omega)), rfl, rfl⟩
    have h13r := h13
    try simp only [nq, nr] at h13
    refine op_v' (j_want rfl rfl h13r (j_fldp fld89f3 rfl rfl)) ?_
    refine op_v' (j_want rfl rfl h13r (j_loada_box (ys := [.sl _, .p _]) agg69 rfl rfl rfl (Nat.le_of_ble_eq_true rfl))) ?_
    refine op_v' (j_want rfl rfl h13r (j_build (parts := []) str69 elt69 rfl rfl)) ?_
    refine op_nila 46 0 rfl rfl ?_
    try dsimp only [List.set]
    refine op_v0' (j_want rfl rfl h13r (j_call0 (v := .p _) (hp1 := []) [] false [] ent78 (f_same s.2.2.2 ([], 0)) ⟨.inl ⟨rfl, rfl⟩, .inl ⟨rfl, rfl⟩, trivial⟩ trivial rfl rfl (fun h => by cases h) rfl (fun _ h => by cases h) (.inl rfl) rfl rfl)) ?_
    refine op_v' (j_want rfl rfl rfl (j_pick_f rfl h13r (evo rfl))) ?_
    refine op_v' (j_pick_t rfl rfl (evo rfl)) ?_
    refine oa rfl ?_
    refine on ?_
    refine a_ret ?_
    exact fin_p rfl ⟨boolEq (by rw [shp_eq]; first | (simp_all; done) | (simp_all; omega)), rfl, rfl⟩
   have h12r := h12
   try simp only [nq, nr] at h12
   refine op_v' (j_want rfl rfl h12r (j_fldp fld89f2 rfl rfl)) ?_
   refine op_v' (j_want rfl rfl h12r (j_load_box leaf3 rfl rfl rfl)) ?_
   refine op_v' (j_want rfl rfl h12r (j_eq rfl rfl)) ?_
   refine op_v' (j_want rfl rfl rfl (j_pick_f rfl h12r (evo rfl))) ?_
   refine op_v' (j_pick_t rfl rfl (evo rfl)) ?_
   refine om rfl ?_
   refine op_split' 39 rfl (fun h14 => ?_) (fun h14 => ?_)
   ·
    have h14r := h14
    try simp only [nq, nr] at h14
    refine op_v' (j_want rfl rfl h14r (j_fldp fld89f0 rfl rfl)) ?_
    refine op_v' (j_want rfl rfl h14r (j_load_box leaf3 rfl rfl rfl)) ?_
    refine op_v' (j_want rfl rfl h14r (j_eq rfl rfl)) ?_
    refine op_v' (j_want rfl rfl h14r (j_move (evo rfl))) ?_
    refine op_split' 43 rfl (fun h15 => ?_) (fun h15 => ?_)
    ·
     have h15r := h15
     try simp only [nq, nr] at h15
     refine op_v' (j_unwantV rfl rfl h15r) ?_
     refine op_v' (j_unwantV rfl rfl h15r) ?_
     refine op_v' (j_unwantV rfl rfl h15r) ?_
     refine op_v' (j_unwantV rfl rfl h15r) ?_
     refine op_v' (j_want rfl rfl h14r (j_pick_t rfl h15r (evo rfl))) ?_
     refine op_v' (j_pick_t rfl h14r (evo rfl)) ?_
     refine oa rfl ?_
     refine on ?_
     refine a_ret ?_
     exact fin_p rfl ⟨boolEq (by rw [shp_eq]; first | (simp_all; done) | (simp_all; omega)), rfl, rfl⟩
    have h15r := h15
    try simp only [nq, nr] at h15
    refine op_v' (j_want rfl rfl h15r (j_fldp fld89f3 rfl rfl)) ?_
    refine op_v' (j_want rfl rfl h15r (j_loada_box (ys := [.sl _, .p _]) agg69 rfl rfl rfl (Nat.le_of_ble_eq_true rfl))) ?_
    refine op_v' (j_want rfl rfl h15r (j_build (parts := []) str69 elt69 rfl rfl)) ?_
    refine op_nila 46 0 rfl rfl ?_
    try dsimp only [List.set]
    refine op_v0' (j_want rfl rfl h15r (j_call0 (v := .p _) (hp1 := []) [] false [] ent78 (f_same s.2.2.2 ([], 0)) ⟨.inl ⟨rfl, rfl⟩, .inl ⟨rfl, rfl⟩, trivial⟩ trivial rfl rfl (fun h => by cases h) rfl (fun _ h => by cases h) (.inl rfl) rfl rfl)) ?_
    refine op_v' (j_want rfl rfl h14r (j_pick_f rfl h15r (evo rfl))) ?_
    refine op_v' (j_pick_t rfl h14r (evo rfl)) ?_
    refine oa rfl ?_
    refine on ?_
    refine a_ret ?_
    exact fin_p rfl ⟨boolEq (by rw [shp_eq]; first | (simp_all; done) | (simp_all; omega)), rfl, rfl⟩
   have h14r := h14
   try simp only [nq, nr] at h14
   refine op_v' (j_unwantV rfl rfl h14r) ?_
   refine op_v' (j_unwantV rfl rfl h14r) ?_
   refine op_v' (j_unwantV rfl rfl h14r) ?_
   refine op_v' (j_unwantV rfl rfl h14r) ?_
   refine op_v' (j_unwantU rfl rfl) ?_
   refine op_v' (j_unwantU rfl rfl) ?_
   refine op_v' (j_unwantU rfl rfl) ?_
   refine op_v' (j_unwantU rfl rfl) ?_
   refine op_v' (j_unwantV rfl rfl h14r) ?_
   refine op_v' (j_pick_f rfl h14r (evo rfl)) ?_
   refine oa rfl ?_
   refine on ?_
   refine a_ret ?_
   exact fin_p rfl ⟨boolEq (by rw [shp_eq]; first | (simp_all; done) | (simp_all; omega)), rfl, rfl⟩
  have h9r := h9
  try simp only [nq, nr] at h9
  refine op_v' (j_want rfl rfl h9r (j_fldp fld89f1 rfl rfl)) ?_
  refine op_v' (j_want rfl rfl h9r (j_load_box leaf3 rfl rfl rfl)) ?_
  refine op_v' (j_want rfl rfl h9r (j_eq rfl rfl)) ?_
  refine op_v' (j_want rfl rfl h1r (j_pick_f rfl h9r (evo rfl))) ?_
  refine op_v' (j_pick_t rfl h1r (evo rfl)) ?_
  refine om rfl ?_
  refine op_split' 27 rfl (fun h16 => ?_) (fun h16 => ?_)
  ·
   have h16r := h16
   try simp only [nq, nr] at h16
   refine op_v' (j_want rfl rfl h16r (j_move (evo rfl))) ?_
   refine op_v' (j_want rfl rfl h16r (j_eq rfl rfl)) ?_
   refine op_v' (j_want rfl rfl h16r (j_move (evo rfl))) ?_
   refine op_split' 30 rfl (fun h17 => ?_) (fun h17 => ?_)
   ·
    have h17r := h17
    try simp only [nq, nr] at h17
    refine op_v' (j_unwantV rfl rfl h17r) ?_
    refine op_v' (j_want rfl rfl h16r (j_pick_t rfl h17r (evo rfl))) ?_
    refine op_v' (j_want rfl rfl h16r (j_move (evo rfl))) ?_
    refine op_v' (j_unwantV rfl rfl rfl) ?_
    refine op_v' (j_unwantV rfl rfl rfl) ?_
    refine op_v' (j_unwantV rfl rfl rfl) ?_
    refine op_v' (j_want rfl rfl h16r (j_pick_t rfl rfl (evo rfl))) ?_
    refine op_v' (j_pick_t rfl h16r (evo rfl)) ?_
    refine om rfl ?_
    refine op_v' (j_want rfl rfl rfl (j_fldp fld89f0 rfl rfl)) ?_
    refine op_v' (j_want rfl rfl rfl (j_load_box leaf3 rfl rfl rfl)) ?_
    refine op_v' (j_want rfl rfl rfl (j_eq rfl rfl)) ?_
    refine op_v' (j_want rfl rfl rfl (j_move (evo rfl))) ?_
    refine op_split' 43 rfl (fun h18 => ?_) (fun h18 => ?_)
    ·
     have h18r := h18
     try simp only [nq, nr] at h18
     refine op_v' (j_unwantV rfl rfl h18r) ?_
     refine op_v' (j_unwantV rfl rfl h18r) ?_
     refine op_v' (j_unwantV rfl rfl h18r) ?_
     refine op_v' (j_unwantV rfl rfl h18r) ?_
     refine op_v' (j_want rfl rfl rfl (j_pick_t rfl h18r (evo rfl))) ?_
     refine op_v' (j_pick_t rfl rfl (evo rfl)) ?_
     refine oa rfl ?_
     refine on ?_
     refine a_ret ?_
     exact fin_p rfl ⟨boolEq (by rw [shp_eq]; first | (simp_all; done) | (simp_all; omega)), rfl, rfl⟩
    have h18r := h18
    try simp only [nq, nr] at h18
    refine op_v' (j_want rfl rfl h18r (j_fldp fld89f3 rfl rfl)) ?_
    refine op_v' (j_want rfl rfl h18r (j_loada_box (ys := [.sl _, .p _]) agg69 rfl rfl rfl (Nat.le_of_ble_eq_true rfl))) ?_
    refine op_v' (j_want rfl rfl h18r (j_build (parts := []) str69 elt69 rfl rfl)) ?_
    refine op_nila 46 0 rfl rfl ?_
    try dsimp only [List.set]
    refine op_v0' (j_want rfl rfl h18r (j_call0 (v := .p _) (hp1 := []) [] false [] ent78 (f_same s.2.2.2 ([], 0)) ⟨.inl ⟨rfl, rfl⟩, .inl ⟨rfl, rfl⟩, trivial⟩ trivial rfl rfl (fun h => by cases h) rfl (fun _ h => by cases h) (.inl rfl) rfl rfl)) ?_
    refine op_v' (j_want rfl rfl rfl (j_pick_f rfl h18r (evo rfl))) ?_
    refine op_v' (j_pick_t rfl rfl (evo rfl)) ?_
    refine oa rfl ?_
    refine on ?_
    refine a_ret ?_
    exact fin_p rfl ⟨boolEq (by rw [shp_eq]; first | (simp_all; done) | (simp_all; omega)), rfl, rfl⟩
   have h17r := h17
   try simp only [nq, nr] at h17
   refine op_v' (j_want rfl rfl h17r (j_move (evo rfl))) ?_
   refine op_v' (j_want rfl rfl h16r (j_pick_f rfl h17r (evo rfl))) ?_
   refine op_v' (j_want rfl rfl h16r (j_move (evo rfl))) ?_
   refine op_split' 33 rfl (fun h19 => ?_) (fun h19 => ?_)
   ·
    have h19r := h19
    try simp only [nq, nr] at h19
    refine op_v' (j_unwantV rfl rfl h19r) ?_
    refine op_v' (j_unwantV rfl rfl h19r) ?_
    refine op_v' (j_unwantV rfl rfl h19r) ?_
    refine op_v' (j_want rfl rfl h16r (j_pick_t rfl h19r (evo rfl))) ?_
    refine op_v' (j_pick_t rfl h16r (evo rfl)) ?_
    refine om rfl ?_
    refine op_v' (j_want rfl rfl rfl (j_fldp fld89f0 rfl rfl)) ?_
    refine op_v' (j_want rfl rfl rfl (j_load_box leaf3 rfl rfl rfl)) ?_
    refine op_v' (j_want rfl rfl rfl (j_eq rfl rfl)) ?_
    refine op_v' (j_want rfl rfl rfl (j_move (evo rfl))) ?_
    refine op_split' 43 rfl (fun h20 => ?_) (fun h20 => ?_)
    ·
     have h20r := h20
     try simp only [nq, nr] at h20
     refine op_v' (j_unwantV rfl rfl h20r) ?_
     refine op_v' (j_unwantV rfl rfl h20r) ?_
     refine op_v' (j_unwantV rfl rfl h20r) ?_
     refine op_v' (j_unwantV rfl rfl h20r) ?_
     refine op_v' (j_want rfl rfl rfl (j_pick_t rfl h20r (evo rfl))) ?_
     refine op_v' (j_pick_t rfl rfl (evo rfl)) ?_
     refine oa rfl ?_
     refine on ?_
     refine a_ret ?_
     exact fin_p rfl ⟨boolEq (by rw [shp_eq]; first | (simp_all; done) | (simp_all; omega)), rfl, rfl⟩
    have h20r := h20
    try simp only [nq, nr] at h20
    refine op_v' (j_want rfl rfl h20r (j_fldp fld89f3 rfl rfl)) ?_
    refine op_v' (j_want rfl rfl h20r (j_loada_box (ys := [.sl _, .p _]) agg69 rfl rfl rfl (Nat.le_of_ble_eq_true rfl))) ?_
    refine op_v' (j_want rfl rfl h20r (j_build (parts := []) str69 elt69 rfl rfl)) ?_
    refine op_nila 46 0 rfl rfl ?_
    try dsimp only [List.set]
    refine op_v0' (j_want rfl rfl h20r (j_call0 (v := .p _) (hp1 := []) [] false [] ent78 (f_same s.2.2.2 ([], 0)) ⟨.inl ⟨rfl, rfl⟩, .inl ⟨rfl, rfl⟩, trivial⟩ trivial rfl rfl (fun h => by cases h) rfl (fun _ h => by cases h) (.inl rfl) rfl rfl)) ?_
    refine op_v' (j_want rfl rfl rfl (j_pick_f rfl h20r (evo rfl))) ?_
    refine op_v' (j_pick_t rfl rfl (evo rfl)) ?_
    refine oa rfl ?_
    refine on ?_
    refine a_ret ?_
    exact fin_p rfl ⟨boolEq (by rw [shp_eq]; first | (simp_all; done) | (simp_all; omega)), rfl, rfl⟩
   have h19r := h19
   try simp only [nq, nr] at h19
   refine op_v' (j_want rfl rfl h19r (j_fldp fld89f2 rfl rfl)) ?_
   refine op_v' (j_want rfl rfl h19r (j_load_box leaf3 rfl rfl rfl)) ?_
   refine op_v' (j_want rfl rfl h19r (j_eq rfl rfl)) ?_
   refine op_v' (j_want rfl rfl h16r (j_pick_f rfl h19r (evo rfl))) ?_
   refine op_v' (j_pick_t rfl h16r (evo rfl)) ?_
   refine om rfl ?_
   refine op_split' 39 rfl (fun h21 => ?_) (fun h21 => ?_)
   ·
    have h21r := h21
    try simp only [nq, nr] at h21
    refine op_v' (j_want rfl rfl h21r (j_fldp fld89f0 rfl rfl)) ?_
    refine op_v' (j_want rfl rfl h21r (j_load_box leaf3 rfl rfl rfl)) ?_
    refine op_v' (j_want rfl rfl h21r (j_eq rfl rfl)) ?_
    refine op_v' (j_want rfl rfl h21r (j_move (evo rfl))) ?_
    refine op_split' 43 rfl (fun h22 => ?_) (fun h22 => ?_)
    ·
     have h22r := h22
     try simp only [nq, nr] at h22
     refine op_v' (j_unwantV rfl rfl h22r) ?_
     refine op_v' (j_unwantV rfl rfl h22r) ?_
     refine op_v' (j_unwantV rfl rfl h22r) ?_
     refine op_v' (j_unwantV rfl rfl h22r) ?_
     refine op_v' (j_want rfl rfl h21r (j_pick_t rfl h22r (evo rfl))) ?_
     refine op_v' (j_pick_t rfl h21r (evo rfl)) ?_
     refine oa rfl ?_
     refine on ?_
     refine a_ret ?_
     exact fin_p rfl ⟨boolEq (by rw [shp_eq]; first | (simp_all; done) | (simp_all; omega)), rfl, rfl⟩
    have h22r := h22
    try simp only [nq, nr] at h22
    refine op_v' (j_want rfl rfl h22r (j_fldp fld89f3 rfl rfl)) ?_
    refine op_v' (j_want rfl rfl h22r (j_loada_box (ys := [.sl _, .p _]) agg69 rfl rfl rfl (Nat.le_of_ble_eq_true rfl))) ?_
    refine op_v' (j_want rfl rfl h22r (j_build (parts := []) str69 elt69 rfl rfl)) ?_
    refine op_nila 46 0 rfl rfl ?_
    try dsimp only [List.set]
    refine op_v0' (j_want rfl rfl h22r (j_call0 (v := .p _) (hp1 := []) [] false [] ent78 (f_same s.2.2.2 ([], 0)) ⟨.inl ⟨rfl, rfl⟩, .inl ⟨rfl, rfl⟩, trivial⟩ trivial rfl rfl (fun h => by cases h) rfl (fun _ h => by cases h) (.inl rfl) rfl rfl)) ?_
    refine op_v' (j_want rfl rfl h21r (j_pick_f rfl h22r (evo rfl))) ?_
    refine op_v' (j_pick_t rfl h21r (evo rfl)) ?_
    refine oa rfl ?_
    refine on ?_
    refine a_ret ?_
    exact fin_p rfl ⟨boolEq (by rw [shp_eq]; first | (simp_all; done) | (simp_all; omega)), rfl, rfl⟩
   have h21r := h21
   try simp only [nq, nr] at h21
   refine op_v' (j_unwantV rfl rfl h21r) ?_
   refine op_v' (j_unwantV rfl rfl h21r) ?_
   refine op_v' (j_unwantV rfl rfl h21r) ?_
   refine op_v' (j_unwantV rfl rfl h21r) ?_
   refine op_v' (j_unwantU rfl rfl) ?_
   refine op_v' (j_unwantU rfl rfl) ?_
   refine op_v' (j_unwantU rfl rfl) ?_
   refine op_v' (j_unwantU rfl rfl) ?_
   refine op_v' (j_unwantV rfl rfl h21r) ?_
   refine op_v' (j_pick_f rfl h21r (evo rfl)) ?_
   refine oa rfl ?_
   refine on ?_
   refine a_ret ?_
   exact fin_p rfl ⟨boolEq (by rw [shp_eq]; first | (simp_all; done) | (simp_all; omega)), rfl, rfl⟩
  have h16r := h16
  try simp only [nq, nr] at h16
  refine op_v' (j_unwantV rfl rfl h16r) ?_
  refine op_v' (j_unwantV rfl rfl h16r) ?_
  refine op_v' (j_unwantV rfl rfl h16r) ?_
  refine op_v' (j_unwantU rfl rfl) ?_
  refine op_v' (j_unwantV rfl rfl h16r) ?_
  refine op_v' (j_unwantV rfl rfl h16r) ?_
  refine op_v' (j_unwantU rfl rfl) ?_
  refine op_v' (j_unwantU rfl rfl) ?_
  refine op_v' (j_unwantU rfl rfl) ?_
  refine op_v' (j_unwantV rfl rfl h16r) ?_
  refine op_v' (j_pick_f rfl h16r (evo rfl)) ?_
  refine om rfl ?_
  refine op_v' (j_unwantV rfl rfl rfl) ?_
  refine op_v' (j_unwantV rfl rfl rfl) ?_
  refine op_v' (j_unwantV rfl rfl rfl) ?_
  refine op_v' (j_unwantV rfl rfl rfl) ?_
  refine op_v' (j_unwantU rfl rfl) ?_
  refine op_v' (j_unwantU rfl rfl) ?_
  refine op_v' (j_unwantU rfl rfl) ?_
  refine op_v' (j_unwantU rfl rfl) ?_
  refine op_v' (j_unwantV rfl rfl rfl) ?_
  refine op_v' (j_pick_f rfl rfl (evo rfl)) ?_
  refine oa rfl ?_
  refine on ?_
  refine a_ret ?_
  exact fin_p rfl ⟨boolEq (by rw [shp_eq]; first | (simp_all; done) | (simp_all; omega)), rfl, rfl⟩
 have h1r := h1
 try simp only [nq, nr] at h1
 refine op_v' (j_unwantV rfl rfl h1r) ?_
 refine op_v' (j_unwantV rfl rfl h1r) ?_
 refine op_v' (j_unwantV rfl rfl h1r) ?_
 refine op_v' (j_unwantU rfl rfl) ?_
 refine op_v' (j_unwantU rfl rfl) ?_
 refine op_v' (j_unwantU rfl rfl) ?_
 refine op_v' (j_unwantV rfl rfl h1r) ?_
 refine op_v' (j_unwantV rfl rfl h1r) ?_
 refine op_v' (j_unwantU rfl rfl) ?_
 refine op_v' (j_unwantU rfl rfl) ?_
 refine op_v' (j_unwantU rfl rfl) ?_
 refine op_v' (j_unwantV rfl rfl h1r) ?_
 refine op_v' (j_pick_f rfl h1r (evo rfl)) ?_
 refine om rfl ?_
 refine op_v' (j_unwantV rfl rfl rfl) ?_
 refine op_v' (j_unwantV rfl rfl rfl) ?_
 refine op_v' (j_unwantV rfl rfl rfl) ?_
 refine op_v' (j_unwantU rfl rfl) ?_
 refine op_v' (j_unwantV rfl rfl rfl) ?_
 refine op_v' (j_unwantV rfl rfl rfl) ?_
 refine op_v' (j_unwantU rfl rfl) ?_
 refine op_v' (j_unwantU rfl rfl) ?_
 refine op_v' (j_unwantU rfl rfl) ?_
 refine op_v' (j_unwantV rfl rfl rfl) ?_
 refine op_v' (j_pick_f rfl rfl (evo rfl)) ?_
 refine om rfl ?_
 refine op_v' (j_unwantV rfl rfl rfl) ?_
 refine op_v' (j_unwantV rfl rfl rfl) ?_
 refine op_v' (j_unwantV rfl rfl rfl) ?_
 refine op_v' (j_unwantV rfl rfl rfl) ?_
 refine op_v' (j_unwantU rfl rfl) ?_
 refine op_v' (j_unwantU rfl rfl) ?_
 refine op_v' (j_unwantU rfl rfl) ?_
 refine op_v' (j_unwantU rfl rfl) ?_
 refine op_v' (j_unwantV rfl rfl rfl) ?_
 refine op_v' (j_pick_f rfl rfl (evo rfl)) ?_
 refine oa rfl ?_
 refine on ?_
 refine a_ret ?_
 exact fin_p rfl ⟨boolEq (by rw [shp_eq]; first | (simp_all; done) | (simp_all; omega)), rfl, rfl⟩
theorem f_l4Parts (s : Stp) : Fn Tryz.prog 173 [.agg [.p (.int .i64 s.1), .p (.int .i64 s.2.1), .p (.int .i64 s.2.2.1), .sl (s.2.2.2.1.map dT), .p (.int .i64 s.2.2.2.2)]] [] (fun rr ii nn => rr = .p (.bool (shpV s)) ∧ ii = [] ∧ nn = []) := by
 refine fn_of Tryz.func173 rfl (Nat.le_of_ble_eq_true rfl) fun w X g => ?_
 show AWp _ _ _ ⟨[(0, .agg [.p (.int .i64 s.1), .p (.int .i64 s.2.1), .p (.int .i64 s.2.2.1), .sl (s.2.2.2.1.map dT), .p (.int .i64 s.2.2.2.2)])], []⟩
 refine rs ?_
 refine op_n' (fun ver => j_boxa rfl) fun v1x1 => ?_
 refine oa rfl ?_
 refine on ?_
 refine rs ?_
 refine op_v' (j_fldp fld89f3 rfl rfl) ?_
 refine op_v' (j_fldp fld69f0 rfl rfl) ?_
 refine op_v' (j_load_box leaf67 rfl rfl rfl) ?_
 refine op_v' (j_len_map Tryz.underlying67 rfl) ?_
 refine op_v' (j_eq rfl rfl) ?_
 refine om rfl ?_
 refine op_split' 9 rfl (fun h1 => ?_) (fun h1 => ?_)
 ·
  have h1r := h1
  try simp only [nq, nr] at h1
  refine op_v' (j_want rfl rfl h1r (j_fldp fld89f3 rfl rfl)) ?_
  refine op_v' (j_want rfl rfl h1r (j_fldp fld69f1 rfl rfl)) ?_
  refine op_v' (j_want rfl rfl h1r (j_load_box leaf3 rfl rfl rfl)) ?_
  refine op_v' (j_want rfl rfl h1r (j_eq rfl rfl)) ?_
  refine op_v' (j_pick_t rfl h1r (evo rfl)) ?_
  refine oa rfl ?_
  refine on ?_
  refine a_seq ?_
  refine rs ?_
  refine op_v' (j_fldp fld89f0 rfl rfl) ?_
  refine op_v' (j_load_box leaf3 rfl rfl rfl) ?_
  refine on ?_
  refine a_block ?_
  refine a_seq ?_
  refine rs ?_
  refine op_v' (j_eq rfl rfl) ?_
  refine oa rfl ?_
  refine on ?_
  refine ac rfl (fun h2 => ?_) fun h2 => ?_
  ·
   have h2r := h2
   try simp only [nq, nr] at h2
   refine a_skip ?_
   refine a_cond rfl (fun hh => ?_) (fun hh => absurd (Eq.trans (Eq.symm h2r) hh) (by decide))
   refine rs ?_
   refine om rfl ?_
   refine oa rfl ?_
   refine on ?_
   refine a_ret ?_
   exact fin_p rfl ⟨boolEq (by unfold shpV noC; first | (simp_all; done) | (simp_all; omega)), rfl, rfl⟩
  have h2r := h2
  try simp only [nq, nr] at h2
  refine rs ?_
  refine op_v' (j_eq rfl rfl) ?_
  refine oa rfl ?_
  refine on ?_
  refine ac rfl (fun h3 => ?_) fun h3 => ?_
  ·
   have h3r := h3
   try simp only [nq, nr] at h3
   refine a_skip ?_
   refine a_cond rfl (fun hh => ?_) (fun hh => absurd (Eq.trans (Eq.symm h3r) hh) (by decide))
   refine rs ?_
   refine om rfl ?_
   refine oa rfl ?_
   refine on ?_
   refine a_ret ?_
   exact fin_p rfl ⟨boolEq (by unfold shpV noC; first | (simp_all; done) | (simp_all; omega)), rfl, rfl⟩
  have h3r := h3
  try simp only [nq, nr] at h3
  refine rs ?_
  refine op_v' (j_eq rfl rfl) ?_
  refine oa rfl ?_
  refine on ?_
  refine ac rfl (fun h4 => ?_) fun h4 => ?_
  ·
   have h4r := h4
   try simp only [nq, nr] at h4
   refine a_skip ?_
   refine a_cond rfl (fun hh => ?_) (fun hh => absurd (Eq.trans (Eq.symm h4r) hh) (by decide))
   refine rs ?_
   refine om rfl ?_
   refine oa rfl ?_
   refine on ?_
   refine a_ret ?_
   exact fin_p rfl ⟨boolEq (by unfold shpV noC; first | (simp_all; done) | (simp_all; omega)), rfl, rfl⟩
  have h4r := h4
  try simp only [nq, nr] at h4
  refine ar ?_
  refine op_v' (j_eq rfl rfl) ?_
  refine oa rfl ?_
  refine on ?_
  refine ac rfl (fun h5 => ?_) fun h5 => ?_
  ·
   have h5r := h5
   try simp only [nq, nr] at h5
   refine rs ?_
   refine om rfl ?_
   refine oa rfl ?_
   refine on ?_
   refine a_ret ?_
   exact fin_p rfl ⟨boolEq (by unfold shpV noC; first | (simp_all; done) | (simp_all; omega)), rfl, rfl⟩
  have h5r := h5
  try simp only [nq, nr] at h5
  refine a_seq ?_
  refine rs ?_
  refine op_v' (j_eq rfl rfl) ?_
  refine oa rfl ?_
  refine on ?_
  refine ac rfl (fun h6 => ?_) fun h6 => ?_
  ·
   have h6r := h6
   try simp only [nq, nr] at h6
   refine a_skip ?_
   refine a_cond rfl (fun hh => ?_) (fun hh => absurd (Eq.trans (Eq.symm h6r) hh) (by decide))
   refine rs ?_
   refine om rfl ?_
   refine om rfl ?_
   refine op_split' 28 rfl (fun h7 => ?_) (fun h7 => ?_)
   ·
    have h7r := h7
    try simp only [nq, nr] at h7
    refine op_v' (j_want rfl rfl h7r (j_fldp fld89f2 rfl rfl)) ?_
    refine op_v' (j_want rfl rfl h7r (j_load_box leaf3 rfl rfl rfl)) ?_
    refine op_v' (j_want rfl rfl h7r (j_eq rfl rfl)) ?_
    refine op_v' (j_pick_t rfl h7r (evo rfl)) ?_
    refine oa rfl ?_
    refine on ?_
    refine a_ret ?_
    exact fin_p rfl ⟨boolEq (by unfold shpV noC; first | (simp_all; done) | (simp_all; omega)), rfl, rfl⟩
   have h7r := h7
   try simp only [nq, nr] at h7
   refine op_v' (j_unwantV rfl rfl h7r) ?_
   refine op_v' (j_unwantV rfl rfl h7r) ?_
   refine op_v' (j_unwantV rfl rfl h7r) ?_
   refine op_v' (j_pick_f rfl h7r (evo rfl)) ?_
   refine oa rfl ?_
   refine on ?_
   refine a_ret ?_
   exact fin_p rfl ⟨boolEq (by unfold shpV noC; first | (simp_all; done) | (simp_all; omega)), rfl, rfl⟩
  have h6r := h6
  try simp only [nq, nr] at h6
  refine rs ?_
  refine op_v' (j_eq rfl rfl) ?_
  refine oa rfl ?_
  refine on ?_
  refine ac rfl (fun h8 => ?_) fun h8 => ?_
  ·
   have h8r := h8
   try simp only [nq, nr] at h8
   refine a_skip ?_
   refine a_cond rfl (fun hh => ?_) (fun hh => absurd (Eq.trans (Eq.symm h8r) hh) (by decide))
   refine rs ?_
   refine om rfl ?_
   refine om rfl ?_
   refine op_split' 28 rfl (fun h9 => ?_) (fun h9 => ?_)
   ·
    have h9r := h9
    try simp only [nq, nr] at h9
    refine op_v' (j_want rfl rfl h9r (j_fldp fld89f2 rfl rfl)) ?_
    refine op_v' (j_want rfl rfl h9r (j_load_box leaf3 rfl rfl rfl)) ?_
    refine op_v' (j_want rfl rfl h9r (j_eq rfl rfl)) ?_
    refine op_v' (j_pick_t rfl h9r (evo rfl)) ?_
    refine oa rfl ?_
    refine on ?_
    refine a_ret ?_
    exact fin_p rfl ⟨boolEq (by unfold shpV noC; first | (simp_all; done) | (simp_all; omega)), rfl, rfl⟩
   have h9r := h9
   try simp only [nq, nr] at h9
   refine op_v' (j_unwantV rfl rfl h9r) ?_
   refine op_v' (j_unwantV rfl rfl h9r) ?_
   refine op_v' (j_unwantV rfl rfl h9r) ?_
   refine op_v' (j_pick_f rfl h9r (evo rfl)) ?_
   refine oa rfl ?_
   refine on ?_
   refine a_ret ?_
   exact fin_p rfl ⟨boolEq (by unfold shpV noC; first | (simp_all; done) | (simp_all; omega)), rfl, rfl⟩
  have h8r := h8
  try simp only [nq, nr] at h8
  refine ar ?_
  refine op_v' (j_eq rfl rfl) ?_
  refine oa rfl ?_
  refine on ?_
  refine ac rfl (fun h10 => ?_) fun h10 => ?_
  ·
   have h10r := h10
   try simp only [nq, nr] at h10
   refine rs ?_
   refine om rfl ?_
   refine om rfl ?_
   refine op_split' 28 rfl (fun h11 => ?_) (fun h11 => ?_)
   ·
    have h11r := h11
    try simp only [nq, nr] at h11
    refine op_v' (j_want rfl rfl h11r (j_fldp fld89f2 rfl rfl)) ?_
    refine op_v' (j_want rfl rfl h11r (j_load_box leaf3 rfl rfl rfl)) ?_
    refine op_v' (j_want rfl rfl h11r (j_eq rfl rfl)) ?_
    refine op_v' (j_pick_t rfl h11r (evo rfl)) ?_
    refine oa rfl ?_
    refine on ?_
    refine a_ret ?_
    exact fin_p rfl ⟨boolEq (by unfold shpV noC; first | (simp_all; done) | (simp_all; omega)), rfl, rfl⟩
   have h11r := h11
   try simp only [nq, nr] at h11
   refine op_v' (j_unwantV rfl rfl h11r) ?_
   refine op_v' (j_unwantV rfl rfl h11r) ?_
   refine op_v' (j_unwantV rfl rfl h11r) ?_
   refine op_v' (j_pick_f rfl h11r (evo rfl)) ?_
   refine oa rfl ?_
   refine on ?_
   refine a_ret ?_
   exact fin_p rfl ⟨boolEq (by unfold shpV noC; first | (simp_all; done) | (simp_all; omega)), rfl, rfl⟩
  have h10r := h10
  try simp only [nq, nr] at h10
  refine rs ?_
  refine op_v' (j_eq rfl rfl) ?_
  refine oa rfl ?_
  refine on ?_
  refine ac rfl (fun h12 => ?_) fun h12 => ?_
  ·
   have h12r := h12
   try simp only [nq, nr] at h12
   refine rs ?_
   refine op_v' (j_fldp fld89f1 rfl rfl) ?_
   refine op_v' (j_load_box leaf3 rfl rfl rfl) ?_
   refine op_v' (j_eq rfl rfl) ?_
   refine om rfl ?_
   refine op_split' 38 rfl (fun h13 => ?_) (fun h13 => ?_)
   ·
    have h13r := h13
    try simp only [nq, nr] at h13
    refine op_v' (j_want rfl rfl h13r (j_fldp fld89f2 rfl rfl)) ?_
    refine op_v' (j_want rfl rfl h13r (j_load_box leaf3 rfl rfl rfl)) ?_
    refine op_v' (j_want rfl rfl h13r (j_eq rfl rfl)) ?_
    refine op_v' (j_pick_t rfl h13r (evo rfl)) ?_
    refine oa rfl ?_
    refine on ?_
    refine a_ret ?_
    exact fin_p rfl ⟨boolEq (by unfold shpV noC; first | (simp_all; done) | (simp_all; omega)), rfl, rfl⟩
   have h13r := h13
   try simp only [nq, nr] at h13
   refine op_v' (j_unwantV rfl rfl h13r) ?_
   refine op_v' (j_unwantV rfl rfl h13r) ?_
   refine op_v' (j_unwantV rfl rfl h13r) ?_
   refine op_v' (j_pick_f rfl h13r (evo rfl)) ?_
   refine oa rfl ?_
   refine on ?_
   refine a_ret ?_
   exact fin_p rfl ⟨boolEq (by unfold shpV noC; first | (simp_all; done) | (simp_all; omega)), rfl, rfl⟩
  have h12r := h12
  try simp only [nq, nr] at h12
  refine a_skip ?_
  refine rs ?_
  refine oa rfl ?_
  refine on ?_
  refine a_ret ?_
  exact fin_p rfl ⟨boolEq (by unfold shpV noC; first | (simp_all; done) | (simp_all; omega)), rfl, rfl⟩
 have h1r := h1
 try simp only [nq, nr] at h1
 refine op_v' (j_unwantV rfl rfl h1r) ?_
 refine op_v' (j_unwantV rfl rfl h1r) ?_
 refine op_v' (j_unwantV rfl rfl h1r) ?_
 refine op_v' (j_unwantV rfl rfl h1r) ?_
 refine op_v' (j_pick_f rfl h1r (evo rfl)) ?_
 refine oa rfl ?_
 refine on ?_
 refine a_seq ?_
 refine rs ?_
 refine op_v' (j_fldp fld89f0 rfl rfl) ?_
 refine op_v' (j_load_box leaf3 rfl rfl rfl) ?_
 refine on ?_
 refine a_block ?_
 refine a_seq ?_
 refine rs ?_
 refine op_v' (j_eq rfl rfl) ?_
 refine oa rfl ?_
 refine on ?_
 refine ac rfl (fun h14 => ?_) fun h14 => ?_
 ·
  have h14r := h14
  try simp only [nq, nr] at h14
  refine a_skip ?_
  refine a_cond rfl (fun hh => ?_) (fun hh => absurd (Eq.trans (Eq.symm h14r) hh) (by decide))
  refine rs ?_
  refine om rfl ?_
  refine oa rfl ?_
  refine on ?_
  refine a_ret ?_
  exact fin_p rfl ⟨boolEq (by unfold shpV noC; first | (simp_all; done) | (simp_all; omega)), rfl, rfl⟩
 have h14r := h14
 try simp only [nq, nr] at h14
 refine rs ?_
 refine op_v' (j_eq rfl rfl) ?_
 refine oa rfl ?_
 refine on ?_
 refine ac rfl (fun h15 => ?_) fun h15 => ?_
 ·
  have h15r := h15
  try simp only [nq, nr] at h15
  refine a_skip ?_
  refine a_cond rfl (fun hh => ?_) (fun hh => absurd (Eq.trans (Eq.symm h15r) hh) (by decide))
  refine rs ?_
  refine om rfl ?_
  refine oa rfl ?_
  refine on ?_
  refine a_ret ?_
  exact fin_p rfl ⟨boolEq (by unfold shpV noC; first | (simp_all; done) | (simp_all; omega)), rfl, rfl⟩
 have h15r := h15
 try simp only [nq, nr] at h15
 refine rs ?_
 refine op_v' (j_eq rfl rfl) ?_
 refine oa rfl ?_
 refine on ?_
 refine ac rfl (fun h16 => ?_) fun h16 => ?_
 ·
  have h16r := h16
  try simp only [nq, nr] at h16
  refine a_skip ?_
  refine a_cond rfl (fun hh => ?_) (fun hh => absurd (Eq.trans (Eq.symm h16r) hh) (by decide))
  refine rs ?_
  refine om rfl ?_
  refine oa rfl ?_
  refine on ?_
  refine a_ret ?_
  exact fin_p rfl ⟨boolEq (by unfold shpV noC; first | (simp_all; done) | (simp_all; omega)), rfl, rfl⟩
 have h16r := h16
 try simp only [nq, nr] at h16
 refine ar ?_
 refine op_v' (j_eq rfl rfl) ?_
 refine oa rfl ?_
 refine on ?_
 refine ac rfl (fun h17 => ?_) fun h17 => ?_
 ·
  have h17r := h17
  try simp only [nq, nr] at h17
  refine rs ?_
  refine om rfl ?_
  refine oa rfl ?_
  refine on ?_
  refine a_ret ?_
  exact fin_p rfl ⟨boolEq (by unfold shpV noC; first | (simp_all; done) | (simp_all; omega)), rfl, rfl⟩
 have h17r := h17
 try simp only [nq, nr] at h17
 refine a_seq ?_
 refine rs ?_
 refine op_v' (j_eq rfl rfl) ?_
 refine oa rfl ?_
 refine on ?_
 refine ac rfl (fun h18 => ?_) fun h18 => ?_
 ·
  have h18r := h18
  try simp only [nq, nr] at h18
  refine a_skip ?_
  refine a_cond rfl (fun hh => ?_) (fun hh => absurd (Eq.trans (Eq.symm h18r) hh) (by decide))
  refine rs ?_
  refine om rfl ?_
  refine om rfl ?_
  refine op_v' (j_unwantV rfl rfl rfl) ?_
  refine op_v' (j_unwantV rfl rfl rfl) ?_
  refine op_v' (j_unwantV rfl rfl rfl) ?_
  refine op_v' (j_pick_f rfl rfl (evo rfl)) ?_
  refine oa rfl ?_
  refine on ?_
  refine a_ret ?_
  exact fin_p rfl ⟨boolEq (by unfold shpV noC; first | (simp_all; done) | (simp_all; omega)), rfl, rfl⟩
 have h18r := h18
 try simp only [nq, nr] at h18
 refine rs ?_
 refine op_v' (j_eq rfl rfl) ?_
 refine oa rfl ?_
 refine on ?_
 refine ac rfl (fun h19 => ?_) fun h19 => ?_
 ·
  have h19r := h19
  try simp only [nq, nr] at h19
  refine a_skip ?_
  refine a_cond rfl (fun hh => ?_) (fun hh => absurd (Eq.trans (Eq.symm h19r) hh) (by decide))
  refine rs ?_
  refine om rfl ?_
  refine om rfl ?_
  refine op_v' (j_unwantV rfl rfl rfl) ?_
  refine op_v' (j_unwantV rfl rfl rfl) ?_
  refine op_v' (j_unwantV rfl rfl rfl) ?_
  refine op_v' (j_pick_f rfl rfl (evo rfl)) ?_
  refine oa rfl ?_
  refine on ?_
  refine a_ret ?_
  exact fin_p rfl ⟨boolEq (by unfold shpV noC; first | (simp_all; done) | (simp_all; omega)), rfl, rfl⟩
 have h19r := h19
 try simp only [nq, nr] at h19
 refine ar ?_
 refine op_v' (j_eq rfl rfl) ?_
 refine oa rfl ?_
 refine on ?_
 refine ac rfl (fun h20 => ?_) fun h20 => ?_
 ·
  have h20r := h20
  try simp only [nq, nr] at h20
  refine rs ?_
  refine om rfl ?_
  refine om rfl ?_
  refine op_v' (j_unwantV rfl rfl rfl) ?_
  refine op_v' (j_unwantV rfl rfl rfl) ?_
  refine op_v' (j_unwantV rfl rfl rfl) ?_
  refine op_v' (j_pick_f rfl rfl (evo rfl)) ?_
  refine oa rfl ?_
  refine on ?_
  refine a_ret ?_
  exact fin_p rfl ⟨boolEq (by unfold shpV noC; first | (simp_all; done) | (simp_all; omega)), rfl, rfl⟩
 have h20r := h20
 try simp only [nq, nr] at h20
 refine rs ?_
 refine op_v' (j_eq rfl rfl) ?_
 refine oa rfl ?_
 refine on ?_
 refine ac rfl (fun h21 => ?_) fun h21 => ?_
 ·
  have h21r := h21
  try simp only [nq, nr] at h21
  refine rs ?_
  refine op_v' (j_fldp fld89f1 rfl rfl) ?_
  refine op_v' (j_load_box leaf3 rfl rfl rfl) ?_
  refine op_v' (j_eq rfl rfl) ?_
  refine om rfl ?_
  refine op_split' 38 rfl (fun h22 => ?_) (fun h22 => ?_)
  ·
   have h22r := h22
   try simp only [nq, nr] at h22
   refine op_v' (j_want rfl rfl h22r (j_fldp fld89f2 rfl rfl)) ?_
   refine op_v' (j_want rfl rfl h22r (j_load_box leaf3 rfl rfl rfl)) ?_
   refine op_v' (j_want rfl rfl h22r (j_eq rfl rfl)) ?_
   refine op_v' (j_pick_t rfl h22r (evo rfl)) ?_
   refine oa rfl ?_
   refine on ?_
   refine a_ret ?_
   exact fin_p rfl ⟨boolEq (by unfold shpV noC; first | (simp_all; done) | (simp_all; omega)), rfl, rfl⟩
  have h22r := h22
  try simp only [nq, nr] at h22
  refine op_v' (j_unwantV rfl rfl h22r) ?_
  refine op_v' (j_unwantV rfl rfl h22r) ?_
  refine op_v' (j_unwantV rfl rfl h22r) ?_
  refine op_v' (j_pick_f rfl h22r (evo rfl)) ?_
  refine oa rfl ?_
  refine on ?_
  refine a_ret ?_
  exact fin_p rfl ⟨boolEq (by unfold shpV noC; first | (simp_all; done) | (simp_all; omega)), rfl, rfl⟩
 have h21r := h21
 try simp only [nq, nr] at h21
 refine a_skip ?_
 refine rs ?_
 refine oa rfl ?_
 refine on ?_
 refine a_ret ?_
 exact fin_p rfl ⟨boolEq (by unfold shpV noC; first | (simp_all; done) | (simp_all; omega)), rfl, rfl⟩
theorem f_falImpl (c : Con) : Fn Tryz.prog 146 [.agg [.sl (c.1.map dT), .p (.int .i64 c.2)]] [] (fun rr ii nn => rr = .p (.bool (falC c)) ∧ ii = [] ∧ nn = []) := by
 refine fn_of Tryz.func146 rfl (Nat.le_of_ble_eq_true rfl) fun w X g => ?_
 show AWp _ _ _ ⟨[(0, .agg [.sl (c.1.map dT), .p (.int .i64 c.2)])], []⟩
 refine rs ?_
 refine op_n' (fun ver => j_boxa rfl) fun v1x1 => ?_
 refine oa rfl ?_
 refine on ?_
 refine a_seq ?_
 refine a_draw mixed (by kernel_rfl) (by kernel_rfl) fun vf => ?_
 refine d_v' (j_loada_box (ys := [.sl _, .p _]) agg69 rfl rfl rfl (Nat.le_of_ble_eq_true rfl)) ?_
 refine d_v0' (j_call0 (v := .p _) (hp1 := []) [] false [] ent115 (f_cvImpl c) ⟨.inl ⟨rfl, rfl⟩, trivial⟩ trivial rfl rfl (fun h => by cases h) rfl (fun _ h => by cases h) (.inl rfl) rfl rfl) ?_
 refine d_v' (j_move (evo rfl)) ?_
 refine d_split' 5 rfl (fun h1 => ?_) (fun h1 => ?_)
 ·
  have h1r := h1
  try simp only [nq, nr] at h1
  refine d_v' (j_want rfl rfl h1r (j_fldp fld69f1 rfl rfl)) ?_
  refine d_v' (j_want rfl rfl h1r (j_load_box leaf3 rfl rfl rfl)) ?_
  refine d_v' (j_want rfl rfl h1r (j_loada_box (ys := [.sl _, .p _]) agg69 rfl rfl rfl (Nat.le_of_ble_eq_true rfl))) ?_
  refine d_v0' (j_want rfl rfl h1r (j_call0 (v := .p _) (hp1 := []) [] false [] ent169 (f_totImpl c (by assumption)) ⟨.inl ⟨rfl, rfl⟩, trivial⟩ trivial rfl rfl (fun h => by cases h) rfl (fun _ h => by cases h) (.inl rfl) rfl rfl)) ?_
  refine d_v' (j_want rfl rfl h1r (j_gt rfl rfl)) ?_
  refine d_v' (j_pick_t rfl h1r (evo rfl)) ?_
  refine d_v' (j_assign (evo rfl)) ?_
  refine d_nil (by kernel_rfl) (by kernel_rfl) ?_
  refine a_ret ?_
  exact fin_p rfl ⟨boolEq (by unfold falC; first | (simp_all; done) | (simp_all; omega)), rfl, rfl⟩
 have h1r := h1
 try simp only [nq, nr] at h1
 refine d_v' (j_unwantV rfl rfl h1r) ?_
 refine d_v' (j_unwantV rfl rfl h1r) ?_
 refine d_v' (j_unwantV rfl rfl h1r) ?_
 refine d_v' (j_unwantV rfl rfl h1r) ?_
 refine d_v' (j_unwantV rfl rfl h1r) ?_
 refine d_v' (j_pick_f rfl h1r (evo rfl)) ?_
 refine d_v' (j_assign (evo rfl)) ?_
 refine d_nil (by kernel_rfl) (by kernel_rfl) ?_
 refine a_ret ?_
 exact fin_p rfl ⟨boolEq (by unfold falC; first | (simp_all; done) | (simp_all; omega)), rfl, rfl⟩
theorem f_falSpec (c : Con) : Fn Tryz.prog 176 [.agg [.sl (c.1.map dT), .p (.int .i64 c.2)]] [] (fun rr ii nn => rr = .p (.bool (falC c)) ∧ ii = [] ∧ nn = []) := by
 refine fn_of Tryz.func176 rfl (Nat.le_of_ble_eq_true rfl) fun w X g => ?_
 show AWp _ _ _ ⟨[(0, .agg [.sl (c.1.map dT), .p (.int .i64 c.2)])], []⟩
 refine rs ?_
 refine op_n' (fun ver => j_boxa rfl) fun v1x1 => ?_
 refine oa rfl ?_
 refine on ?_
 refine a_seq ?_
 refine a_draw mixed (by kernel_rfl) (by kernel_rfl) fun vf => ?_
 refine d_v' (j_loada_box (ys := [.sl _, .p _]) agg69 rfl rfl rfl (Nat.le_of_ble_eq_true rfl)) ?_
 refine d_v0' (j_call0 (v := .p _) (hp1 := []) [] false [] ent118 (f_cvSpec c) ⟨.inl ⟨rfl, rfl⟩, trivial⟩ trivial rfl rfl (fun h => by cases h) rfl (fun _ h => by cases h) (.inl rfl) rfl rfl) ?_
 refine d_v' (j_move (evo rfl)) ?_
 refine d_split' 5 rfl (fun h1 => ?_) (fun h1 => ?_)
 ·
  have h1r := h1
  try simp only [nq, nr] at h1
  refine d_v' (j_want rfl rfl h1r (j_loada_box (ys := [.sl _, .p _]) agg69 rfl rfl rfl (Nat.le_of_ble_eq_true rfl))) ?_
  refine d_v0' (j_want rfl rfl h1r (j_call0 (v := .p _) (hp1 := []) [] false [] ent132 (f_l1Total c (by assumption)) ⟨.inl ⟨rfl, rfl⟩, trivial⟩ trivial rfl rfl (fun h => by cases h) rfl (fun _ h => by cases h) (.inl rfl) rfl rfl)) ?_
  refine d_v' (j_want rfl rfl h1r (j_fldp fld69f1 rfl rfl)) ?_
  refine d_v' (j_want rfl rfl h1r (j_load_box leaf3 rfl rfl rfl)) ?_
  refine d_v' (j_want rfl rfl h1r (j_lt rfl rfl)) ?_
  refine d_v' (j_pick_t rfl h1r (evo rfl)) ?_
  refine d_v' (j_assign (evo rfl)) ?_
  refine d_nil (by kernel_rfl) (by kernel_rfl) ?_
  refine a_ret ?_
  exact fin_p rfl ⟨boolEq (by unfold falC; first | (simp_all; done) | (simp_all; omega)), rfl, rfl⟩
 have h1r := h1
 try simp only [nq, nr] at h1
 refine d_v' (j_unwantV rfl rfl h1r) ?_
 refine d_v' (j_unwantV rfl rfl h1r) ?_
 refine d_v' (j_unwantV rfl rfl h1r) ?_
 refine d_v' (j_unwantV rfl rfl h1r) ?_
 refine d_v' (j_unwantV rfl rfl h1r) ?_
 refine d_v' (j_pick_f rfl h1r (evo rfl)) ?_
 refine d_v' (j_assign (evo rfl)) ?_
 refine d_nil (by kernel_rfl) (by kernel_rfl) ?_
 refine a_ret ?_
 exact fin_p rfl ⟨boolEq (by unfold falC; first | (simp_all; done) | (simp_all; omega)), rfl, rfl⟩
theorem f_axImpl (a : Int) : Fn Tryz.prog 240 [.p (.int .i64 (a))] [] (fun rr ii nn => rr = .tup [.agg [.sl ((axC a).1.map dT), .p (.int .i64 (axC a).2)], .p (.bool (litOk a))] ∧ ii = [] ∧ nn = []) := by
 refine fn_of Tryz.func240 rfl (Nat.le_of_ble_eq_true rfl) fun w X g => ?_
 show AWp _ _ _ ⟨[(0, .p (.int .i64 (a)))], []⟩
 refine rs ?_
 refine op_n' (fun ver => j_alloc elt69 rfl) fun v2x1 => ?_
 refine oa rfl ?_
 refine on ?_
 refine a_seq ?_
 refine rs ?_
 refine om rfl ?_
 refine op_v0' (j_call0 (v := .p _) (hp1 := []) [] false [] ent106 (f_isLit a) ⟨.inl ⟨rfl, rfl⟩, trivial⟩ trivial rfl rfl (fun h => by cases h) rfl (fun _ h => by cases h) (.inl rfl) rfl rfl) ?_
 refine op_v' (j_not rfl) ?_
 refine on ?_
 refine ac rfl (fun h1 => ?_) fun h1 => ?_
 ·
  have h1r := h1
  try simp only [nq, nr] at h1
  refine rs ?_
  refine op_v' (j_build (parts := []) str69 elt69 rfl rfl) ?_
  refine op_s' (j_storea_box0 agg69 rfl rfl rfl rfl rfl rfl) ?_
  refine oa rfl ?_
  refine on ?_
  refine a_adopt_box' 0 1002 135 2 (by decide) (id := 2) rfl rfl fun v1002x2 => ?_
  refine a_freezeboxK 0 2 (by decide) trivial rfl rfl rfl rfl ?_
  try dsimp only [List.set]
  refine a_ret ?_
  exact ⟨[.agg [.sl _, .p _], .p _], .tup [.agg [.sl _, .p _], .p _], [], [], [], ⟨⟨_, _, _, _, rfl, rfl, agg69, rfl⟩, rfl, trivial⟩, rfl, rfl, trivial, rfl, rfl, ⟨by unfold axC; rw [if_neg (by simp_all)]; simp_all, rfl, rfl⟩⟩
 have h1r := h1
 try simp only [nq, nr] at h1
 refine a_skip ?_
 refine rs ?_
 refine om rfl ?_
 refine op_v' (j_build (parts := [(0, .const (.int .i64 1)), (1, .tmp 8)]) str135 elt135 rfl rfl) ?_
 refine op_n' (fun ver => j_buildSlice (parts := [(0, .tmp 9)]) (es := [[_, _]]) slt67 elt135 rfl rfl (by decide) (by decide) rfl rfl (by simp) rfl) fun v10x3 => ?_
 refine op_v' (j_build (parts := [(0, .tmp 10)]) str69 elt69 rfl rfl) ?_
 refine op_s' (j_storea_box0 agg69 rfl rfl rfl rfl rfl rfl) ?_
 refine oa rfl ?_
 refine on ?_
 refine a_freezeboxK 0 2 (by decide) trivial rfl rfl rfl rfl ?_
 try dsimp only [List.set]
 refine a_ret ?_
 exact ⟨[.agg [.sl _, .p _], .p _], .tup [.agg [.sl _, .p _], .p _], [], [], [], ⟨⟨_, _, _, _, rfl, rfl, agg69, rfl⟩, rfl, trivial⟩, rfl, rfl, trivial, rfl, rfl, ⟨by have hx : litOk a = true := (by simp_all); rw [show axC a = ([(1, a)], 0) from if_pos hx, hx]; rfl, rfl, rfl⟩⟩
theorem f_axSpec (a : Int) : Fn Tryz.prog 219 [.p (.int .i64 (a))] [] (fun rr ii nn => rr = .tup [.agg [.sl ((axC a).1.map dT), .p (.int .i64 (axC a).2)], .p (.bool (litOk a))] ∧ ii = [] ∧ nn = []) := by
 refine fn_of Tryz.func219 rfl (Nat.le_of_ble_eq_true rfl) fun w X g => ?_
 show AWp _ _ _ ⟨[(0, .p (.int .i64 (a)))], []⟩
 refine rs ?_
 refine op_n' (fun ver => j_alloc elt69 rfl) fun v2x1 => ?_
 refine oa rfl ?_
 refine on ?_
 refine a_seq ?_
 refine rs ?_
 refine om rfl ?_
 refine op_v0' (j_call0 (v := .p _) (hp1 := []) [] false [] ent170 (f_l1Lit a) ⟨.inl ⟨rfl, rfl⟩, trivial⟩ trivial rfl rfl (fun h => by cases h) rfl (fun _ h => by cases h) (.inl rfl) rfl rfl) ?_
 refine op_v' (j_not rfl) ?_
 refine on ?_
 refine ac rfl (fun h1 => ?_) fun h1 => ?_
 ·
  have h1r := h1
  try simp only [nq, nr] at h1
  refine rs ?_
  refine op_v' (j_build (parts := []) str69 elt69 rfl rfl) ?_
  refine op_s' (j_storea_box0 agg69 rfl rfl rfl rfl rfl rfl) ?_
  refine oa rfl ?_
  refine on ?_
  refine a_adopt_box' 0 1002 135 2 (by decide) (id := 2) rfl rfl fun v1002x2 => ?_
  refine a_freezeboxK 0 2 (by decide) trivial rfl rfl rfl rfl ?_
  try dsimp only [List.set]
  refine a_ret ?_
  exact ⟨[.agg [.sl _, .p _], .p _], .tup [.agg [.sl _, .p _], .p _], [], [], [], ⟨⟨_, _, _, _, rfl, rfl, agg69, rfl⟩, rfl, trivial⟩, rfl, rfl, trivial, rfl, rfl, ⟨by unfold axC; rw [if_neg (by simp_all)]; simp_all, rfl, rfl⟩⟩
 have h1r := h1
 try simp only [nq, nr] at h1
 refine a_skip ?_
 refine rs ?_
 refine om rfl ?_
 refine op_v' (j_build (parts := [(0, .const (.int .i64 1)), (1, .tmp 8)]) str135 elt135 rfl rfl) ?_
 refine op_n' (fun ver => j_buildSlice (parts := [(0, .tmp 9)]) (es := [[_, _]]) slt67 elt135 rfl rfl (by decide) (by decide) rfl rfl (by simp) rfl) fun v10x3 => ?_
 refine op_v' (j_build (parts := [(0, .tmp 10)]) str69 elt69 rfl rfl) ?_
 refine op_s' (j_storea_box0 agg69 rfl rfl rfl rfl rfl rfl) ?_
 refine oa rfl ?_
 refine on ?_
 refine a_freezeboxK 0 2 (by decide) trivial rfl rfl rfl rfl ?_
 try dsimp only [List.set]
 refine a_ret ?_
 exact ⟨[.agg [.sl _, .p _], .p _], .tup [.agg [.sl _, .p _], .p _], [], [], [], ⟨⟨_, _, _, _, rfl, rfl, agg69, rfl⟩, rfl, trivial⟩, rfl, rfl, trivial, rfl, rfl, ⟨by have hx : litOk a = true := (by simp_all); rw [show axC a = ([(1, a)], 0) from if_pos hx, hx]; rfl, rfl, rfl⟩⟩
theorem f_mulSpec (c : Con) (k : Int) : Fn Tryz.prog 223 [.agg [.sl (c.1.map dT), .p (.int .i64 c.2)], .p (.int .i64 (k))] [] (fun rr ii nn => rr = .tup [.agg [.sl ((chR (mulK k) c k).1.map dT), .p (.int .i64 (chR (mulK k) c k).2)], .p (.bool (chB (mulK k) c k))] ∧ ii = [] ∧ nn = []) := by
 refine fn_of Tryz.func223 rfl (Nat.le_of_ble_eq_true rfl) fun w X g => ?_
 show AWp _ _ _ ⟨[(0, .agg [.sl (c.1.map dT), .p (.int .i64 c.2)]), (1, .p (.int .i64 (k)))], []⟩
 refine rs ?_
 refine op_n' (fun ver => j_boxa rfl) fun v2x1 => ?_
 refine op_n' (fun ver => j_alloc elt69 rfl) fun v4x2 => ?_
 refine oa rfl ?_
 refine on ?_
 refine a_seq ?_
 refine rs ?_
 refine op_v' (j_loada_box (ys := [.sl _, .p _]) agg69 rfl rfl rfl (Nat.le_of_ble_eq_true rfl)) ?_
 refine op_v0' (j_call0 (v := .p _) (hp1 := []) [] false [] ent118 (f_cvSpec _) ⟨.inl ⟨rfl, rfl⟩, trivial⟩ trivial rfl rfl (fun h => by cases h) rfl (fun _ h => by cases h) (.inl rfl) rfl rfl) ?_
 refine op_v' (j_not rfl) ?_
 refine om rfl ?_
 refine op_split' 11 rfl (fun h1 => ?_) (fun h1 => ?_)
 ·
  have h1r := h1
  try simp only [nq, nr, nl] at h1
  refine op_v' (j_unwantV rfl rfl h1r) ?_
  refine op_v' (j_unwantV rfl rfl h1r) ?_
  refine op_v' (j_pick_t rfl h1r (evo rfl)) ?_
  refine om rfl ?_
  refine op_v' (j_unwantV rfl rfl rfl) ?_
  refine op_v' (j_unwantV rfl rfl rfl) ?_
  refine op_v' (j_pick_t rfl rfl (evo rfl)) ?_
  refine on ?_
  refine a_tt rfl ?_
  refine rs ?_
  refine op_v' (j_build (parts := []) str69 elt69 rfl rfl) ?_
  refine op_s' (j_storea_box0 agg69 rfl rfl rfl rfl rfl rfl) ?_
  refine oa rfl ?_
  refine on ?_
  refine a_adopt_box' 0 1004 135 2 (by decide) (id := 4) rfl rfl fun v1004x3 => ?_
  refine a_freezeboxK 0 4 (by decide) trivial rfl rfl rfl rfl ?_
  try dsimp only [List.set]
  refine a_ret ?_
  exact ⟨[.agg [.sl _, .p _], .p _], .tup [.agg [.sl _, .p _], .p _], [], [], [], ⟨⟨_, _, _, _, rfl, rfl, agg69, rfl⟩, rfl, trivial⟩, rfl, rfl, trivial, rfl, rfl, ⟨by have hq : kOk c k = false := kOk_no (by first | exact .inl h1 | exact .inr (by omega)); unfold chR chB; rw [hq]; rfl, rfl, rfl⟩⟩
 have h1r := h1
 try simp only [nq, nr, nl] at h1
 refine op_v' (j_want rfl rfl h1r (j_move (evo rfl))) ?_
 refine op_v' (j_want rfl rfl h1r (j_lt rfl rfl)) ?_
 refine op_v' (j_pick_f rfl h1r (evo rfl)) ?_
 refine om rfl ?_
 refine op_split' 15 rfl (fun h2 => ?_) (fun h2 => ?_)
 ·
  have h2r := h2
  try simp only [nq, nr, nl] at h2
  refine op_v' (j_unwantV rfl rfl h2r) ?_
  refine op_v' (j_unwantV rfl rfl h2r) ?_
  refine op_v' (j_pick_t rfl h2r (evo rfl)) ?_
  refine on ?_
  refine a_tt rfl ?_
  refine rs ?_
  refine op_v' (j_build (parts := []) str69 elt69 rfl rfl) ?_
  refine op_s' (j_storea_box0 agg69 rfl rfl rfl rfl rfl rfl) ?_
  refine oa rfl ?_
  refine on ?_
  refine a_adopt_box' 0 1004 135 2 (by decide) (id := 4) rfl rfl fun v1004x4 => ?_
  refine a_freezeboxK 0 4 (by decide) trivial rfl rfl rfl rfl ?_
  try dsimp only [List.set]
  refine a_ret ?_
  exact ⟨[.agg [.sl _, .p _], .p _], .tup [.agg [.sl _, .p _], .p _], [], [], [], ⟨⟨_, _, _, _, rfl, rfl, agg69, rfl⟩, rfl, trivial⟩, rfl, rfl, trivial, rfl, rfl, ⟨by have hq : kOk c k = false := kOk_no (by first | exact .inl h1 | exact .inr (by omega)); unfold chR chB; rw [hq]; rfl, rfl, rfl⟩⟩
 have h2r := h2
 try simp only [nq, nr, nl] at h2
 refine op_v' (j_want rfl rfl h2r (j_move (evo rfl))) ?_
 refine op_v' (j_want rfl rfl h2r (j_gt rfl rfl)) ?_
 refine op_v' (j_pick_f rfl h2r (evo rfl)) ?_
 refine on ?_
 refine ac rfl (fun h3 => ?_) fun h3 => ?_
 ·
  have h3r := h3
  try simp only [nq, nr, nl] at h3
  refine rs ?_
  refine op_v' (j_build (parts := []) str69 elt69 rfl rfl) ?_
  refine op_s' (j_storea_box0 agg69 rfl rfl rfl rfl rfl rfl) ?_
  refine oa rfl ?_
  refine on ?_
  refine a_adopt_box' 0 1004 135 2 (by decide) (id := 4) rfl rfl fun v1004x5 => ?_
  refine a_freezeboxK 0 4 (by decide) trivial rfl rfl rfl rfl ?_
  try dsimp only [List.set]
  refine a_ret ?_
  exact ⟨[.agg [.sl _, .p _], .p _], .tup [.agg [.sl _, .p _], .p _], [], [], [], ⟨⟨_, _, _, _, rfl, rfl, agg69, rfl⟩, rfl, trivial⟩, rfl, rfl, trivial, rfl, rfl, ⟨by have hq : kOk c k = false := kOk_no (by first | exact .inl h1 | exact .inr (by omega)); unfold chR chB; rw [hq]; rfl, rfl, rfl⟩⟩
 have h3r := h3
 try simp only [nq, nr, nl] at h3
 refine a_skip ?_
 refine a_seq ?_
 have hk : 1 ≤ k ∧ k ≤ 1000 := by omega
 have hln := cOk_len h1
 have hbd := cOk_bound h1
 have hmm := mul_rng hbd hk
 refine ar ?_
 refine op_v' (j_fldp fld69f1 rfl rfl) ?_
 refine op_v' (j_load_box leaf3 rfl rfl rfl) ?_
 refine om rfl ?_
 refine op_v' (j_mul rfl rfl (by first | omega | (simp only [nr, nl]; omega)) (by first | omega | (simp only [nr, nl]; omega))) ?_
 refine op_v' (j_build (parts := [(1, .tmp 23)]) str69 elt69 rfl rfl) ?_
 refine op_n' (fun ver => j_alloc elt69 rfl) fun v6x6 => ?_
 refine op_s' (j_storea_box0 agg69 rfl rfl rfl rfl rfl rfl) ?_
 refine on ?_
 refine a_adopt_box' 0 1006 135 2 (by decide) (id := 6) rfl rfl fun v1006x7 => ?_
 refine a_seq ?_
 refine rs ?_
 refine oa rfl ?_
 refine on ?_
 refine a_block ?_
 refine a_loopF' (ι := Nat × Nat) (fun x => x.1 ≤ c.1.length) (fun x r => (7, .p (.int .i64 ((x.1 : Nat)))) :: r) (fun x r => (6, some (v6x6, .box 69 [.own 1006 x.2, .p (.int .i64 (mulK k c.2))])) :: (1006, some (x.2, .row 135 2 (((c.1.take x.1).map (chT (mulK k))).map dT))) :: r) (fun x => c.1.length - x.1) (fun _ _ => rfl) (fun _ _ => rfl) (0, v1006x7) (by first | exact (Nat.zero_le _) | (dsimp only; exact (Nat.zero_le _))) ⟨⟨rfl, rfl⟩, ⟨rfl, trivial⟩, ⟨rfl, rfl, trivial⟩, ⟨rfl, rfl⟩, ⟨rfl, rfl⟩⟩ ?_
 rintro ⟨i, v⟩ hpre; dsimp only at hpre ⊢
 refine a_seq ?_
 refine rs ?_
 refine om rfl ?_
 refine op_v' (j_fldp fld69f0 rfl rfl) ?_
 refine op_v' (j_load_box leaf67 rfl rfl rfl) ?_
 refine op_v' (j_len_map Tryz.underlying67 rfl) ?_
 refine op_v' (j_lt rfl rfl) ?_
 refine on ?_
 refine ac rfl (fun h4 => ?_) fun h4 => ?_
 ·
  have h4r := h4
  try simp only [nq, nr, nl] at h4
  refine a_skip ?_
  refine a_seq ?_
  refine a_block ?_
  have htm := cOk_terms h1 (k := i) (by omega)
  have hm2 := mul_rng (n := (c.1.getD i default).1) (by omega) hk
  refine a_draw mixed (by kernel_rfl) (by kernel_rfl) fun vf => ?_
  refine d_v' (j_fldp fld69f0 rfl rfl) ?_
  refine d_v' (j_load_box leaf67 rfl rfl rfl) ?_
  refine d_v' (j_fldp fld69f0 rfl rfl) ?_
  refine d_v' (j_load_box leaf67 rfl rfl rfl) ?_
  refine d_v' (j_move (evo rfl)) ?_
  refine d_v' (j_elemN slt67 rfl rfl rfl (at_map (by first | omega | (simp only [nr, nl]; omega))) rfl) ?_
  refine d_v' (j_fldel fld135f0 rfl) ?_
  refine d_v' (j_load_el leaf3 rfl (at_map (by first | omega | (simp only [nr, nl]; omega))) rfl) ?_
  refine d_v' (j_move (evo rfl)) ?_
  refine d_v' (j_mul rfl rfl (by first | omega | (simp only [nr, nl]; omega)) (by first | omega | (simp only [nr, nl]; omega))) ?_
  refine d_v' (j_fldp fld69f0 rfl rfl) ?_
  refine d_v' (j_load_box leaf67 rfl rfl rfl) ?_
  refine d_v' (j_move (evo rfl)) ?_
  refine d_v' (j_elemN slt67 rfl rfl rfl (at_map (by first | omega | (simp only [nr, nl]; omega))) rfl) ?_
  refine d_v' (j_fldel fld135f1 rfl) ?_
  refine d_v' (j_load_el leaf3 rfl (at_map (by first | omega | (simp only [nr, nl]; omega))) rfl) ?_
  refine d_v' (j_build (parts := [(0, .tmp 41), (1, .tmp 47)]) str135 elt135 rfl rfl) ?_
  refine d_n' (fun ver => j_buildSlice (parts := [(0, .tmp 48)]) (es := [[_, _]]) slt67 elt135 rfl rfl (by decide) (by decide) rfl rfl (by simp) rfl) ?_
  refine d_n' (fun ver => j_append_own slt67 elt135 rfl rfl rfl rfl rfl rfl (by rw [maxLen_eq]; first | omega | (simp only [nr, nl]; omega)) (by first | omega | (simp only [nr, nl]; omega))) ?_
  refine d_v' (j_fldp fld69f0 rfl rfl) ?_
  refine d_s' (j_store_box leaf67 rfl rfl (Nat.le_of_ble_eq_true rfl) (evo rfl) rfl) ?_
  refine d_nil (by kernel_rfl) (by kernel_rfl) ?_
  refine ar ?_
  refine om rfl ?_
  refine op_v' (j_add rfl rfl (by first | omega | (simp only [nr, nl]; omega)) (by first | omega | (simp only [nr, nl]; omega))) ?_
  refine oa rfl ?_
  refine on ?_
  exact ⟨(i + 1, (vf 1006)), (by first | exact (by first | omega | (simp only [nr, nl]; omega)) | (dsimp only; exact (by first | omega | (simp only [nr, nl]; omega)))), ⟨⟨rfl, rfl⟩, ⟨rfl, trivial⟩, ⟨rfl, rowEq (ch_next (by omega)), trivial⟩, ⟨rfl, rfl⟩, ⟨rfl, rfl⟩⟩, (by first | exact (by first | omega | (simp only [nr, nl]; omega)) | (dsimp only; exact (by first | omega | (simp only [nr, nl]; omega))))⟩
 have h4r := h4
 try simp only [nq, nr, nl] at h4
 refine a_exit ?_
 refine a_seq ?_
 refine a_seq ?_
 refine a_row 1006 (es' := (chC (mulK k) c).1.map dT) rfl (by rw [List.take_of_length_le (by omega)]; rfl) ?_
 refine a_freezeboxK 0 6 (by decide) trivial rfl rfl rfl rfl ?_
 try dsimp only [List.set]
 refine ar ?_
 refine op_v' (j_loada_box (ys := [.sl _, .p _]) agg69 rfl rfl rfl (Nat.le_of_ble_eq_true rfl)) ?_
 refine op_v0' (j_call0 (v := .p _) (hp1 := []) [] false [] ent118 (f_cvSpec (chC (mulK k) c)) ⟨.inl ⟨rfl, rfl⟩, trivial⟩ trivial rfl rfl (fun h => by cases h) rfl (fun _ h => by cases h) (.inl rfl) rfl rfl) ?_
 refine op_v' (j_not rfl) ?_
 refine on ?_
 refine ac rfl (fun h5 => ?_) fun h5 => ?_
 ·
  have h5r := h5
  try simp only [nq, nr, nl] at h5
  refine rs ?_
  refine op_v' (j_build (parts := []) str69 elt69 rfl rfl) ?_
  refine op_s' (j_storea_box0 agg69 rfl rfl rfl rfl rfl rfl) ?_
  refine oa rfl ?_
  refine on ?_
  refine a_adopt_box' 0 1009 135 2 (by decide) (id := 4) rfl rfl fun v1009x8 => ?_
  refine a_freezeboxK 0 4 (by decide) trivial rfl rfl rfl rfl ?_
  try dsimp only [List.set]
  refine a_ret ?_
  exact ⟨[.agg [.sl _, .p _], .p _], .tup [.agg [.sl _, .p _], .p _], [], [], [], ⟨⟨_, _, _, _, rfl, rfl, agg69, rfl⟩, rfl, trivial⟩, rfl, rfl, trivial, rfl, rfl, ⟨by have hq : cOk (chC (mulK k) c) = false := (by assumption); unfold chR chB; rw [kOk_of h1 hk, vC_bad hq, hq]; rfl, rfl, rfl⟩⟩
 have h5r := h5
 try simp only [nq, nr, nl] at h5
 refine a_skip ?_
 refine rs ?_
 refine op_v' (j_loada_box (ys := [.sl _, .p _]) agg69 rfl rfl rfl (Nat.le_of_ble_eq_true rfl)) ?_
 refine op_s' (j_storea_box0 agg69 rfl rfl rfl rfl rfl rfl) ?_
 refine oa rfl ?_
 refine on ?_
 refine a_ret ?_
 exact ⟨[.agg [.sl _, .p _], .p _], .tup [.agg [.sl _, .p _], .p _], [], [], [], ⟨⟨_, _, _, _, rfl, rfl, agg69, rfl⟩, rfl, trivial⟩, rfl, rfl, trivial, rfl, rfl, ⟨by have hq : cOk (chC (mulK k) c) = true := (by assumption); unfold chR chB; rw [kOk_of h1 hk, vC_ok hq, hq]; rfl, rfl, rfl⟩⟩
theorem f_satSpec (c : Con) (hc : cOk c = true) : Fn Tryz.prog 225 [.agg [.sl (c.1.map dT), .p (.int .i64 c.2)]] [] (fun rr ii nn => rr = .tup [.agg [.sl ((stC c).1.map dT), .p (.int .i64 (stC c).2)], .p (.bool true)] ∧ ii = [] ∧ nn = []) := by
 refine fn_of Tryz.func225 rfl (Nat.le_of_ble_eq_true rfl) fun w X g => ?_
 show AWp _ _ _ ⟨[(0, .agg [.sl (c.1.map dT), .p (.int .i64 c.2)])], []⟩
 refine rs ?_
 refine op_n' (fun ver => j_boxa rfl) fun v1x1 => ?_
 refine op_n' (fun ver => j_alloc elt69 rfl) fun v2x2 => ?_
 refine oa rfl ?_
 refine on ?_
 refine a_seq ?_
 refine rs ?_
 refine op_v' (j_loada_box (ys := [.sl _, .p _]) agg69 rfl rfl rfl (Nat.le_of_ble_eq_true rfl)) ?_
 refine op_v0' (j_call0 (v := .p _) (hp1 := []) [] false [] ent118 (f_cvSpec c) ⟨.inl ⟨rfl, rfl⟩, trivial⟩ trivial rfl rfl (fun h => by cases h) rfl (fun _ h => by cases h) (.inl rfl) rfl rfl) ?_
 refine op_v' (j_not rfl) ?_
 refine on ?_
 refine ac rfl (fun h1 => ?_) fun h1 => ?_
 ·
  have h1r := h1
  try simp only [nq, nr] at h1
  exact absurd h1r (by rw [hc]; decide)
 have h1r := h1
 try simp only [nq, nr] at h1
 refine a_skip ?_
 refine rs ?_
 refine op_v' (j_loada_box (ys := [.sl _, .p _]) agg69 rfl rfl rfl (Nat.le_of_ble_eq_true rfl)) ?_
 refine op_v0' (j_call0 (v := .agg [.sl _, .p _]) (hp1 := []) [] false [] ent264 (f_l2Sat c hc) ⟨.inl ⟨rfl, rfl⟩, trivial⟩ trivial rfl rfl (fun h => by cases h) rfl (fun _ h => by cases h) (.inl rfl) rfl rfl) ?_
 refine op_s' (j_storea_box0 agg69 rfl rfl rfl rfl rfl rfl) ?_
 refine oa rfl ?_
 refine on ?_
 refine a_ret ?_
 exact ⟨[.agg [.sl _, .p _], .p _], .tup [.agg [.sl _, .p _], .p _], [], [], [], ⟨⟨_, _, _, _, rfl, rfl, agg69, rfl⟩, rfl, trivial⟩, rfl, rfl, trivial, rfl, rfl, ⟨rfl, rfl, rfl⟩⟩
theorem f_negSpec (c : Con) (hc : cOk c = true) : Fn Tryz.prog 260 [.agg [.sl (c.1.map dT), .p (.int .i64 c.2)]] [] (fun rr ii nn => rr = .tup [.agg [.sl ((negC c).1.map dT), .p (.int .i64 (negC c).2)], .p (.bool true)] ∧ ii = [] ∧ nn = []) := by
 refine fn_of Tryz.func260 rfl (Nat.le_of_ble_eq_true rfl) fun w X g => ?_
 show AWp _ _ _ ⟨[(0, .agg [.sl (c.1.map dT), .p (.int .i64 c.2)])], []⟩
 have htt := tot_all (coef_wide (cOk_coefs hc) (by decide) (by decide))
 have hln := cOk_len hc
 have hbd := cOk_bound hc
 refine rs ?_
 refine op_n' (fun ver => j_boxa rfl) fun v1x1 => ?_
 refine op_n' (fun ver => j_alloc elt69 rfl) fun v2x2 => ?_
 refine oa rfl ?_
 refine on ?_
 refine a_seq ?_
 refine rs ?_
 refine op_v' (j_loada_box (ys := [.sl _, .p _]) agg69 rfl rfl rfl (Nat.le_of_ble_eq_true rfl)) ?_
 refine op_v0' (j_call0 (v := .p _) (hp1 := []) [] false [] ent118 (f_cvSpec c) ⟨.inl ⟨rfl, rfl⟩, trivial⟩ trivial rfl rfl (fun h => by cases h) rfl (fun _ h => by cases h) (.inl rfl) rfl rfl) ?_
 refine op_v' (j_not rfl) ?_
 refine on ?_
 refine ac rfl (fun h1 => ?_) fun h1 => ?_
 ·
  have h1r := h1
  try simp only [nq, nr, nl] at h1
  exact absurd h1r (by rw [hc]; decide)
 have h1r := h1
 try simp only [nq, nr, nl] at h1
 refine a_skip ?_
 refine a_seq ?_
 refine a_draw mixed (by kernel_rfl) (by kernel_rfl) fun vf => ?_
 refine d_v' (j_loada_box (ys := [.sl _, .p _]) agg69 rfl rfl rfl (Nat.le_of_ble_eq_true rfl)) ?_
 refine d_v0' (j_call0 (v := .p _) (hp1 := []) [] false [] ent132 (f_l1Total c hc) ⟨.inl ⟨rfl, rfl⟩, trivial⟩ trivial rfl rfl (fun h => by cases h) rfl (fun _ h => by cases h) (.inl rfl) rfl rfl) ?_
 refine d_v' (j_fldp fld69f1 rfl rfl) ?_
 refine d_v' (j_load_box leaf3 rfl rfl rfl) ?_
 refine d_v' (j_sub rfl rfl (by first | omega | (simp only [nr, nl]; omega)) (by first | omega | (simp only [nr, nl]; omega))) ?_
 refine d_v' (j_add rfl rfl (by first | omega | (simp only [nr, nl]; omega)) (by first | omega | (simp only [nr, nl]; omega))) ?_
 refine d_v' (j_build (parts := [(1, .tmp 15)]) str69 elt69 rfl rfl) ?_
 refine d_n' (fun ver => j_alloc elt69 rfl) ?_
 refine d_s' (j_storea_box0 agg69 rfl rfl rfl rfl rfl rfl) ?_
 refine d_nil (by kernel_rfl) (by kernel_rfl) ?_
 refine a_adopt_box' 0 1004 135 2 (by decide) (id := 4) rfl rfl fun v1004x3 => ?_
 refine a_seq ?_
 refine rs ?_
 refine oa rfl ?_
 refine on ?_
 refine a_block ?_
 refine a_loopF' (ι := Nat × Nat) (fun x => x.1 ≤ c.1.length) (fun x r => (5, .p (.int .i64 ((x.1 : Nat)))) :: r) (fun x r => (4, some ((vf 4), .box 69 [.own 1004 x.2, .p (.int .i64 (totV c.1 - c.2 + 1))])) :: (1004, some (x.2, .row 135 2 (((c.1.take x.1).map negT).map dT))) :: r) (fun x => c.1.length - x.1) (fun _ _ => rfl) (fun _ _ => rfl) (0, v1004x3) (by first | exact (Nat.zero_le _) | (dsimp only; exact (Nat.zero_le _))) ⟨⟨rfl, rfl⟩, ⟨rfl, trivial⟩, ⟨rfl, rfl, trivial⟩, ⟨rfl, rfl⟩, ⟨rfl, rfl⟩⟩ ?_
 rintro ⟨k, v⟩ hpre; dsimp only at hpre ⊢
 refine a_seq ?_
 refine rs ?_
 refine om rfl ?_
 refine op_v' (j_fldp fld69f0 rfl rfl) ?_
 refine op_v' (j_load_box leaf67 rfl rfl rfl) ?_
 refine op_v' (j_len_map Tryz.underlying67 rfl) ?_
 refine op_v' (j_lt rfl rfl) ?_
 refine on ?_
 refine ac rfl (fun h2 => ?_) fun h2 => ?_
 ·
  have h2r := h2
  try simp only [nq, nr, nl] at h2
  refine a_skip ?_
  refine a_seq ?_
  refine a_block ?_
  have htm := cOk_terms hc (k := k) (by omega)
  have hli := litOk_iff.1 htm.1
  refine a_draw mixed (by kernel_rfl) (by kernel_rfl) fun vf7 => ?_
  refine d_v' (j_fldp fld69f0 rfl rfl) ?_
  refine d_v' (j_load_box leaf67 rfl rfl rfl) ?_
  refine d_v' (j_fldp fld69f0 rfl rfl) ?_
  refine d_v' (j_load_box leaf67 rfl rfl rfl) ?_
  refine d_v' (j_move (evo rfl)) ?_
  refine d_v' (j_elemN slt67 rfl rfl rfl (at_map (by first | omega | (simp only [nr, nl]; omega))) rfl) ?_
  refine d_v' (j_fldel fld135f0 rfl) ?_
  refine d_v' (j_load_el leaf3 rfl (at_map (by first | omega | (simp only [nr, nl]; omega))) rfl) ?_
  refine d_v' (j_fldp fld69f0 rfl rfl) ?_
  refine d_v' (j_load_box leaf67 rfl rfl rfl) ?_
  refine d_v' (j_move (evo rfl)) ?_
  refine d_v' (j_elemN slt67 rfl rfl rfl (at_map (by first | omega | (simp only [nr, nl]; omega))) rfl) ?_
  refine d_v' (j_fldel fld135f1 rfl) ?_
  refine d_v' (j_load_el leaf3 rfl (at_map (by first | omega | (simp only [nr, nl]; omega))) rfl) ?_
  refine d_v' (j_neg rfl (by first | omega | (simp only [nr, nl]; omega)) (by first | omega | (simp only [nr, nl]; omega))) ?_
  refine d_v' (j_build (parts := [(0, .tmp 31), (1, .tmp 38)]) str135 elt135 rfl rfl) ?_
  refine d_n' (fun ver => j_buildSlice (parts := [(0, .tmp 39)]) (es := [[_, _]]) slt67 elt135 rfl rfl (by decide) (by decide) rfl rfl (by simp) rfl) ?_
  refine d_n' (fun ver => j_append_own slt67 elt135 rfl rfl rfl rfl rfl rfl (by rw [maxLen_eq]; first | omega | (simp only [nr, nl]; omega)) (by first | omega | (simp only [nr, nl]; omega))) ?_
  refine d_v' (j_fldp fld69f0 rfl rfl) ?_
  refine d_s' (j_store_box leaf67 rfl rfl (Nat.le_of_ble_eq_true rfl) (evo rfl) rfl) ?_
  refine d_nil (by kernel_rfl) (by kernel_rfl) ?_
  refine ar ?_
  refine om rfl ?_
  refine op_v' (j_add rfl rfl (by first | omega | (simp only [nr, nl]; omega)) (by first | omega | (simp only [nr, nl]; omega))) ?_
  refine oa rfl ?_
  refine on ?_
  exact ⟨(k + 1, (vf7 1004)), (by first | exact (by first | omega | (simp only [nr, nl]; omega)) | (dsimp only; exact (by first | omega | (simp only [nr, nl]; omega)))), ⟨⟨rfl, rfl⟩, ⟨rfl, trivial⟩, ⟨rfl, rowEq (neg_next (by omega)), trivial⟩, ⟨rfl, rfl⟩, ⟨rfl, rfl⟩⟩, (by first | exact (by first | omega | (simp only [nr, nl]; omega)) | (dsimp only; exact (by first | omega | (simp only [nr, nl]; omega))))⟩
 have h2r := h2
 try simp only [nq, nr, nl] at h2
 refine a_exit ?_
 refine a_seq ?_
 refine a_seq ?_
 refine a_freezeboxK 0 4 (by decide) trivial rfl rfl rfl rfl ?_
 try dsimp only [List.set]
 refine ar ?_
 refine op_v' (j_fldp fld69f1 rfl rfl) ?_
 refine op_v' (j_load_box leaf3 rfl rfl rfl) ?_
 refine op_v' (j_lt rfl rfl) ?_
 refine on ?_
 refine ac rfl (fun h3 => ?_) fun h3 => ?_
 ·
  have h3r := h3
  try simp only [nq, nr, nl] at h3
  refine ar ?_
  refine op_v' (j_fldp fld69f1 rfl rfl) ?_
  refine op_s' (j_store_box leaf3 rfl rfl (Nat.le_of_ble_eq_true rfl) (evo rfl) rfl) ?_
  refine on ?_
  refine rs ?_
  refine op_v' (j_loada_box (ys := [.sl _, .p _]) agg69 rfl rfl rfl (Nat.le_of_ble_eq_true rfl)) ?_
  refine op_s' (j_storea_box0 agg69 rfl rfl rfl rfl rfl rfl) ?_
  refine oa rfl ?_
  refine on ?_
  refine a_ret ?_
  exact ⟨[.agg [.sl _, .p _], .p _], .tup [.agg [.sl _, .p _], .p _], [], [], [], ⟨⟨_, _, _, _, rfl, rfl, agg69, rfl⟩, rfl, trivial⟩, rfl, rfl, trivial, rfl, rfl, ⟨by rw [show k = c.1.length by omega, List.take_length]; unfold negC; first | (rw [Int.max_eq_right (by omega)]; done) | (rw [Int.max_eq_left (by omega)]; done) | (rw [Int.max_eq_right (by omega)]; rfl) | (rw [Int.max_eq_left (by omega)]; rfl), rfl, rfl⟩⟩
 have h3r := h3
 try simp only [nq, nr, nl] at h3
 refine a_skip ?_
 refine rs ?_
 refine op_v' (j_loada_box (ys := [.sl _, .p _]) agg69 rfl rfl rfl (Nat.le_of_ble_eq_true rfl)) ?_
 refine op_s' (j_storea_box0 agg69 rfl rfl rfl rfl rfl rfl) ?_
 refine oa rfl ?_
 refine on ?_
 refine a_ret ?_
 exact ⟨[.agg [.sl _, .p _], .p _], .tup [.agg [.sl _, .p _], .p _], [], [], [], ⟨⟨_, _, _, _, rfl, rfl, agg69, rfl⟩, rfl, trivial⟩, rfl, rfl, trivial, rfl, rfl, ⟨by rw [show k = c.1.length by omega, List.take_length]; unfold negC; first | (rw [Int.max_eq_right (by omega)]; done) | (rw [Int.max_eq_left (by omega)]; done) | (rw [Int.max_eq_right (by omega)]; rfl) | (rw [Int.max_eq_left (by omega)]; rfl), rfl, rfl⟩⟩
theorem f_weakImpl (c : Con) (v : Int) : Fn Tryz.prog 239 [.agg [.sl (c.1.map dT), .p (.int .i64 c.2)], .p (.int .i64 (v))] [] (fun rr ii nn => rr = .tup [.agg [.sl ((weakC c v).1.map dT), .p (.int .i64 (weakC c v).2)], .p (.bool (wOk c v))] ∧ ii = [] ∧ nn = []) := by
 refine fn_of Tryz.func239 rfl (Nat.le_of_ble_eq_true rfl) fun w X g => ?_
 show AWp _ _ _ ⟨[(0, .agg [.sl (c.1.map dT), .p (.int .i64 c.2)]), (1, .p (.int .i64 (v)))], []⟩
 refine rs ?_
 refine op_n' (fun ver => j_boxa rfl) fun v2x1 => ?_
 refine op_n' (fun ver => j_alloc elt69 rfl) fun v4x2 => ?_
 refine oa rfl ?_
 refine on ?_
 refine a_seq ?_
 refine rs ?_
 refine op_v' (j_loada_box (ys := [.sl _, .p _]) agg69 rfl rfl rfl (Nat.le_of_ble_eq_true rfl)) ?_
 refine op_v0' (j_call0 (v := .p _) (hp1 := []) [] false [] ent115 (f_cvImpl _) ⟨.inl ⟨rfl, rfl⟩, trivial⟩ trivial rfl rfl (fun h => by cases h) rfl (fun _ h => by cases h) (.inl rfl) rfl rfl) ?_
 refine op_v' (j_not rfl) ?_
 refine om rfl ?_
 refine op_split' 12 rfl (fun h1 => ?_) (fun h1 => ?_)
 ·
  have h1r := h1
  try simp only [nq, nr, nl] at h1
  refine op_v' (j_unwantV rfl rfl h1r) ?_
  refine op_v' (j_unwantV rfl rfl h1r) ?_
  refine op_v' (j_unwantV rfl rfl h1r) ?_
  refine op_v' (j_pick_t rfl h1r (evo rfl)) ?_
  refine on ?_
  refine a_tt rfl ?_
  refine rs ?_
  refine op_v' (j_build (parts := []) str69 elt69 rfl rfl) ?_
  refine op_s' (j_storea_box0 agg69 rfl rfl rfl rfl rfl rfl) ?_
  refine oa rfl ?_
  refine on ?_
  refine a_adopt_box' 0 1004 135 2 (by decide) (id := 4) rfl rfl fun v1004x3 => ?_
  refine a_freezeboxK 0 4 (by decide) trivial rfl rfl rfl rfl ?_
  try dsimp only [List.set]
  refine a_ret ?_
  exact ⟨[.agg [.sl _, .p _], .p _], .tup [.agg [.sl _, .p _], .p _], [], [], [], ⟨⟨_, _, _, _, rfl, rfl, agg69, rfl⟩, rfl, trivial⟩, rfl, rfl, trivial, rfl, rfl, ⟨by have hq : wOk c v = false := wOk_no (by first | exact .inl h1 | exact .inr (by omega)); unfold weakC; rw [hq]; rfl, rfl, rfl⟩⟩
 have h1r := h1
 try simp only [nq, nr, nl] at h1
 refine op_v' (j_want rfl rfl h1r (j_move (evo rfl))) ?_
 refine op_v0' (j_want rfl rfl h1r (j_call0 (v := .p _) (hp1 := []) [] false [] ent113 (f_within _ _ _) ⟨.inl ⟨rfl, rfl⟩, .inl ⟨rfl, rfl⟩, .inl ⟨rfl, rfl⟩, trivial⟩ trivial rfl rfl (fun h => by cases h) rfl (fun _ h => by cases h) (.inl rfl) rfl rfl)) ?_
 refine op_v' (j_want rfl rfl h1r (j_not rfl)) ?_
 refine op_v' (j_pick_f rfl h1r (evo rfl)) ?_
 refine on ?_
 refine ac rfl (fun h2 => ?_) fun h2 => ?_
 ·
  have h2r := h2
  try simp only [nq, nr, nl] at h2
  refine rs ?_
  refine op_v' (j_build (parts := []) str69 elt69 rfl rfl) ?_
  refine op_s' (j_storea_box0 agg69 rfl rfl rfl rfl rfl rfl) ?_
  refine oa rfl ?_
  refine on ?_
  refine a_adopt_box' 0 1004 135 2 (by decide) (id := 4) rfl rfl fun v1004x4 => ?_
  refine a_freezeboxK 0 4 (by decide) trivial rfl rfl rfl rfl ?_
  try dsimp only [List.set]
  refine a_ret ?_
  exact ⟨[.agg [.sl _, .p _], .p _], .tup [.agg [.sl _, .p _], .p _], [], [], [], ⟨⟨_, _, _, _, rfl, rfl, agg69, rfl⟩, rfl, trivial⟩, rfl, rfl, trivial, rfl, rfl, ⟨by have hq : wOk c v = false := wOk_no (by first | exact .inl h1 | exact .inr (by omega)); unfold weakC; rw [hq]; rfl, rfl, rfl⟩⟩
 have h2r := h2
 try simp only [nq, nr, nl] at h2
 refine a_skip ?_
 refine a_seq ?_
 have hk : 1 ≤ v ∧ v ≤ 12 := by omega
 have hln := cOk_len h1
 have hbd := cOk_bound h1
 refine ar ?_
 refine op_v' (j_fldp fld69f1 rfl rfl) ?_
 refine op_v' (j_load_box leaf3 rfl rfl rfl) ?_
 refine op_v' (j_build (parts := [(1, .tmp 19)]) str69 elt69 rfl rfl) ?_
 refine op_n' (fun ver => j_alloc elt69 rfl) fun v6x5 => ?_
 refine op_s' (j_storea_box0 agg69 rfl rfl rfl rfl rfl rfl) ?_
 refine on ?_
 refine a_adopt_box' 0 1006 135 2 (by decide) (id := 6) rfl rfl fun v1006x6 => ?_
 refine a_seq ?_
 refine rs ?_
 refine op_v' (j_fldp fld69f0 rfl rfl) ?_
 refine op_v' (j_load_box leaf67 rfl rfl rfl) ?_
 refine op_v' (j_len_map Tryz.underlying67 rfl) ?_
 refine om rfl ?_
 refine on ?_
 refine a_block ?_
 refine a_loopF' (ι := Nat × Nat) (fun x => x.1 ≤ c.1.length) (fun x r => (24, .p (.int .i64 ((x.1 : Nat)))) :: r) (fun x r => (6, some (v6x5, .box 69 [.own 1006 x.2, .p (.int .i64 (weakM v (c.1.take x.1) c.2))])) :: (1006, some (x.2, .row 135 2 ((weakT v (c.1.take x.1)).map dT))) :: r) (fun x => c.1.length - x.1) (fun _ _ => rfl) (fun _ _ => rfl) (0, v1006x6) (by first | exact (Nat.zero_le _) | (dsimp only; exact (Nat.zero_le _))) ⟨⟨rfl, rfl⟩, ⟨rfl, trivial⟩, ⟨rfl, rfl, trivial⟩, ⟨rfl, rfl⟩, ⟨rfl, rfl⟩⟩ ?_
 rintro ⟨i, vr⟩ hpre; dsimp only at hpre ⊢
 refine rs ?_
 refine op_v' (j_lt rfl rfl) ?_
 refine on ?_
 refine a_seq ?_
 refine ac rfl (fun h3 => ?_) fun h3 => ?_
 ·
  have h3r := h3
  try simp only [nq, nr, nl] at h3
  refine a_skip ?_
  refine a_seq ?_
  refine a_block ?_
  refine a_seq ?_
  have htm := cOk_terms h1 (k := i) (by omega)
  have hli := litOk_iff.1 htm.1
  have hwb := weakB_rng (v := v) (b := c.2) (ts := c.1.take i) (fun t ht => cOk_coefs h1 t (List.mem_of_mem_take ht))
  have hwl := weakT_len (v := v) (ts := c.1.take i)
  rw [List.length_take] at hwb hwl
  refine ar ?_
  refine op_v' (j_elemN slt67 rfl rfl rfl (at_map (by first | omega | (simp only [nr, nl]; omega))) rfl) ?_
  refine op_v' (j_loada_el (ys := [.p _, .p _]) agg135 rfl (at_map (by first | omega | (simp only [nr, nl]; omega))) rfl (Nat.le_refl _)) ?_
  refine op_n' (fun ver => j_alloc elt135 rfl) fun v8x7 => ?_
  refine op_s' (j_storea_box0 agg135 rfl rfl rfl rfl rfl rfl) ?_
  refine on ?_
  refine rs ?_
  refine op_v' (j_fldp fld135f1 rfl rfl) ?_
  refine op_v' (j_load_box leaf3 rfl rfl rfl) ?_
  refine op_v0' (j_call0 (v := .p _) (hp1 := []) [] false [] ent111 (f_varOf _ (by first | omega | (simp only [nr, nl]; omega))) ⟨.inl ⟨rfl, rfl⟩, trivial⟩ trivial rfl rfl (fun h => by cases h) rfl (fun _ h => by cases h) (.inl rfl) rfl rfl) ?_
  refine om rfl ?_
  refine op_v' (j_eq rfl rfl) ?_
  refine on ?_
  refine ac rfl (fun h4 => ?_) fun h4 => ?_
  ·
   have h4r := h4
   try simp only [nq, nr, nl] at h4
   refine ar ?_
   refine op_v' (j_fldp fld69f1 rfl rfl) ?_
   refine op_v' (j_load_box leaf3 rfl rfl rfl) ?_
   refine op_v' (j_fldp fld135f0 rfl rfl) ?_
   refine op_v' (j_load_box leaf3 rfl rfl rfl) ?_
   refine op_v' (j_sub rfl rfl (by first | omega | (simp only [nr, nl]; omega)) (by first | omega | (simp only [nr, nl]; omega))) ?_
   refine op_v' (j_max rfl rfl) ?_
   refine op_v' (j_fldp fld69f1 rfl rfl) ?_
   refine op_s' (j_store_box leaf3 rfl rfl (Nat.le_of_ble_eq_true rfl) (evo rfl) rfl) ?_
   refine on ?_
   refine ar ?_
   refine op_v' (j_add rfl rfl (by first | omega | (simp only [nr, nl]; omega)) (by first | omega | (simp only [nr, nl]; omega))) ?_
   refine om rfl ?_
   refine on ?_
   exact ⟨(i + 1, vr), (by first | exact (by first | omega | (simp only [nr, nl]; omega)) | (dsimp only; exact (by first | omega | (simp only [nr, nl]; omega)))), ⟨⟨rfl, rfl⟩, ⟨rfl, trivial⟩, ⟨box2Eq (by rw [weakM_next (by omega), if_pos (by assumption)]), rowEq (by rw [weakT_next (by omega), if_pos (by assumption), List.append_nil]), trivial⟩, ⟨rfl, rfl⟩, ⟨rfl, rfl⟩⟩, (by first | exact (by first | omega | (simp only [nr, nl]; omega)) | (dsimp only; exact (by first | omega | (simp only [nr, nl]; omega))))⟩
  have h4r := h4
  try simp only [nq, nr, nl] at h4
  refine ar ?_
  refine op_v' (j_fldp fld69f0 rfl rfl) ?_
  refine op_v' (j_load_box leaf67 rfl rfl rfl) ?_
  refine op_v' (j_loada_box (ys := [.p _, .p _]) agg135 rfl rfl rfl (Nat.le_of_ble_eq_true rfl)) ?_
  refine op_n' (fun ver => j_buildSlice (parts := [(0, .tmp 42)]) (es := [[_, _]]) slt67 elt135 rfl rfl (by decide) (by decide) rfl rfl (by simp) rfl) fun v43x8 => ?_
  refine op_n' (fun ver => j_append_own slt67 elt135 rfl rfl rfl rfl rfl rfl (by rw [maxLen_eq]; first | omega | (simp only [nr, nl]; omega)) (by first | omega | (simp only [nr, nl]; omega))) fun v1006x9 => ?_
  refine op_v' (j_fldp fld69f0 rfl rfl) ?_
  refine op_s' (j_store_box leaf67 rfl rfl (Nat.le_of_ble_eq_true rfl) (evo rfl) rfl) ?_
  refine on ?_
  refine ar ?_
  refine op_v' (j_add rfl rfl (by first | omega | (simp only [nr, nl]; omega)) (by first | omega | (simp only [nr, nl]; omega))) ?_
  refine om rfl ?_
  refine on ?_
  exact ⟨(i + 1, v1006x9), (by first | exact (by first | omega | (simp only [nr, nl]; omega)) | (dsimp only; exact (by first | omega | (simp only [nr, nl]; omega)))), ⟨⟨rfl, rfl⟩, ⟨rfl, trivial⟩, ⟨box2Eq (by rw [weakM_next (by omega), if_neg (by assumption)]), rowEq (by rw [weakT_next (by omega), if_neg (by assumption), List.map_append]; rfl), trivial⟩, ⟨rfl, rfl⟩, ⟨rfl, rfl⟩⟩, (by first | exact (by first | omega | (simp only [nr, nl]; omega)) | (dsimp only; exact (by first | omega | (simp only [nr, nl]; omega))))⟩
 have h3r := h3
 try simp only [nq, nr, nl] at h3
 refine a_exit ?_
 refine rs ?_
 refine op_v' (j_loada_box (ys := [.own 1006 vr, .p _]) agg69 rfl rfl rfl (Nat.le_of_ble_eq_true rfl)) ?_
 refine op_s' (j_storea_box0 agg69 rfl rfl rfl rfl rfl rfl) ?_
 refine oa rfl ?_
 refine on ?_
 refine a_freezeboxK 0 4 (by decide) trivial rfl rfl rfl rfl ?_
 try dsimp only [List.set]
 refine a_ret ?_
 exact ⟨[.agg [.sl _, .p _], .p _], .tup [.agg [.sl _, .p _], .p _], [], [], [], ⟨⟨_, _, _, _, rfl, rfl, agg69, rfl⟩, rfl, trivial⟩, rfl, rfl, trivial, rfl, rfl, ⟨by unfold weakC; rw [wOk_of h1 hk, show i = c.1.length by omega, List.take_length, if_pos rfl, weakM_all hk h1], rfl, rfl⟩⟩
theorem f_l3Rup (l : List Con) (c : Con) (hl : l.all cOk = true) (hll : l.length ≤ 2000) (hc : cOk c = true) : Fn Tryz.prog 220 [.sl (l.map dC), .agg [.sl (c.1.map dT), .p (.int .i64 c.2)]] [] (fun rr ii nn => rr = .p (.bool (rupV l c)) ∧ ii = [] ∧ nn = []) := by
 refine fn_of Tryz.func220 rfl (Nat.le_of_ble_eq_true rfl) fun w X g => ?_
 show AWp _ _ _ ⟨[(0, .sl (l.map dC)), (1, .agg [.sl (c.1.map dT), .p (.int .i64 c.2)])], []⟩
 have hnc := negC_ok hc
 have hla : (l ++ [negC c]).all cOk = true := by rw [List.all_append, hl]; simp [hnc]
 refine rs ?_
 refine op_n' (fun ver => j_boxa rfl) fun v3x1 => ?_
 refine oa rfl ?_
 refine on ?_
 refine rs ?_
 refine op_v' (j_loada_box (ys := [.sl _, .p _]) agg69 rfl rfl rfl (Nat.le_of_ble_eq_true rfl)) ?_
 refine op_v0' (j_call0 (v := .tup [.agg [.sl _, .p _], .p _]) (hp1 := []) [] false [] ent260 (f_negSpec c hc) ⟨.inl ⟨rfl, rfl⟩, trivial⟩ trivial rfl rfl (fun h => by cases h) rfl (fun _ h => by cases h) (.inl rfl) rfl rfl) ?_
 refine om rfl ?_
 refine op_v' (j_extract rfl rfl) ?_
 refine op_v' (j_extract rfl rfl) ?_
 refine op_n' (fun ver => j_alloc elt69 rfl) fun v5x2 => ?_
 refine op_s' (j_storea_box0 agg69 rfl rfl rfl rfl rfl rfl) ?_
 refine oa rfl ?_
 refine on ?_
 refine a_seq ?_
 refine a_draw mixed (by kernel_rfl) (by kernel_rfl) fun vf => ?_
 refine d_n' (fun ver => j_buildSlice (parts := []) (es := []) slt30 elt69 rfl rfl (by decide) (by decide) rfl rfl (by simp) rfl) ?_
 refine d_v' (j_move (evo rfl)) ?_
 refine d_n1' (fun ver => j_append_slN (by decide) slt30 elt69 rfl rfl rfl rfl len_dC (all_lf_dC _) (by rw [maxLen_eq]; first | omega | (simp only [nr, nl]; omega)) (by first | omega | (simp only [nr, nl]; omega))) ?_
 refine d_v' (j_loada_box (ys := [.sl _, .p _]) agg69 rfl rfl rfl (Nat.le_of_ble_eq_true rfl)) ?_
 refine d_n' (fun ver => j_buildSlice (parts := [(0, .tmp 16)]) (es := [[_, _]]) slt30 elt69 rfl rfl (by decide) (by decide) rfl rfl (by simp) rfl) ?_
 refine d_n1' (fun ver => j_append_ownN (by decide) slt30 elt69 rfl rfl rfl rfl rfl rfl (by rw [maxLen_eq]; first | omega | (simp only [nr, nl]; omega)) (by first | omega | (simp only [nr, nl]; omega)) (show _ = (l ++ [negC c]).map dC from by rw [List.map_append]; rfl)) ?_
 refine d_v' (j_assign (evo rfl)) ?_
 refine d_nil (by kernel_rfl) (by kernel_rfl) ?_
 refine rs ?_
 refine om rfl ?_
 refine op_n' (fun ver => j_make (n := 12) slt23 elt3 rfl rfl (by decide) rfl rfl rfl rfl (by first | omega | (simp only [nr, nl]; omega)) (by rw [maxLen_eq]; first | omega | (simp only [nr, nl]; omega))) fun v20x3 => ?_
 refine op_v0' (j_call0 (v := .p _) (hp1 := [(20, some (v20x3, .row 3 1 _))]) [(20, v20x3)] true [18, 20] ent186 (f_l3Prop (l ++ [negC c]) zeroP hla (by rw [List.length_append]; simp; omega) zero_ok) ⟨.inr ⟨rfl, view_own rfl rfl, rfl⟩, .inl ⟨rfl, rfl⟩, trivial⟩ ⟨⟨rfl, rfl⟩, trivial⟩ rfl rfl (fun _ => rfl) rfl (List.all_eq_true.1 rfl) (.inr ⟨rfl, by first | exact pl_new1 (fun _ => rfl) | exact pl_newC | (simp [plO, plV, plV.plL]; done)⟩) rfl rfl) ?_
 refine op_v' (j_ge rfl rfl) ?_
 refine oa rfl ?_
 refine on ?_
 refine a_ret ?_
 exact fin_p rfl ⟨rfl, rfl, rfl⟩
end Go.Ab

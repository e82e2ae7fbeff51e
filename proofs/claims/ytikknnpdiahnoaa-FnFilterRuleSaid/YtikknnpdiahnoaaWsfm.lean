/- Walks. -/
import Derived.Test.YtikknnpdiahnoaaBase
import Derived.Test.YtikknnpdiahnoaaLf2
import Derived.Test.YtikknnpdiahnoaaWsflt
import Derived.Test.YtikknnpdiahnoaaSimp
import Derived.Test.YtikknnpdiahnoaaWscons
import Derived.Test.YtikknnpdiahnoaaVals
namespace Go.Ab
open Go.Proofs
set_option maxRecDepth 100000
set_option maxHeartbeats 8000000
set_option linter.unusedSimpArgs false
set_option linter.unusedVariables false
theorem f_cellsIn (m : Md) (d : List (List Bool)) (c : List Int) : Fn Try.prog 19 [.agg [.sl (m.1.map dI), .sl (m.2.map dR)], .sl (d.map dD), .sl (c.map dI)] [] (fun rr ii nn => rr = .p (.bool (ciB m d c)) ∧ ii = [] ∧ nn = []) := by
 refine fn_of Try.func19 rfl (Nat.le_of_ble_eq_true rfl) fun w X g => ?_
 show AWp _ _ _ ⟨[(0, .agg [.sl (m.1.map dI), .sl (m.2.map dR)]), (1, .sl (d.map dD)), (2, .sl (c.map dI))], []⟩
 refine a_seq ?_
 refine a_region (by kernel_rfl) ?_
 refine op_n' (fun ver => j_boxa rfl) fun v3x1 => ?_
 refine op_v' (j_assign (evo rfl)) ?_
 refine op_nil ?_
 refine a_seq ?_
 refine a_region (by kernel_rfl) ?_
 refine op_v' (j_loada_box (ys := [.sl _, .sl _]) agg26 rfl rfl rfl (Nat.le_of_ble_eq_true rfl)) ?_
 refine op_v' (j_move (evo rfl)) ?_
 refine op_v0' (j_call0 (v := .p _) (hp1 := []) [] false [] ent25 (f_dvImpl m d) ⟨.inl ⟨rfl, rfl⟩, .inl ⟨rfl, rfl⟩, trivial⟩ trivial rfl rfl (fun h => by cases h) rfl (fun _ h => by cases h) (.inl rfl) rfl rfl) ?_
 refine op_v' (j_move (evo rfl)) ?_
 refine op_split' 10 rfl (fun h1 => ?_) (fun h1 => ?_)
 ·
  have h1r := h1
  try simp only [nq, nr] at h1
  refine op_v' (j_want rfl rfl h1r (j_loada_box (ys := [.sl _, .sl _]) agg26 rfl rfl rfl (Nat.le_of_ble_eq_true rfl))) ?_
  refine op_v' (j_want rfl rfl h1r (j_move (evo rfl))) ?_
  refine op_v0' (j_want rfl rfl h1r (j_call0 (v := .p _) (hp1 := []) [] false [] ent62 (f_cellsV m c) ⟨.inl ⟨rfl, rfl⟩, .inl ⟨rfl, rfl⟩, trivial⟩ trivial rfl rfl (fun h => by cases h) rfl (fun _ h => by cases h) (.inl rfl) rfl rfl)) ?_
  refine op_v' (j_pick_t rfl h1r (evo rfl)) ?_
  refine op_v' (j_move (evo rfl)) ?_
  refine op_split' 15 rfl (fun h2 => ?_) (fun h2 => ?_)
  ·
   have h2r := h2
   try simp only [nq, nr] at h2
   refine op_v' (j_want rfl rfl h2r (j_move (evo rfl))) ?_
   refine op_v' (j_want rfl rfl h2r (j_move (evo rfl))) ?_
   have hin := in_hyp (m := m) (d := d) (c := c) (by assumption) (by assumption)
   refine op_v0' (j_want rfl rfl h2r (j_call0 (v := .p _) (hp1 := []) [] false [] ent63 (f_inside d c hin.1 hin.2) ⟨.inl ⟨rfl, rfl⟩, .inl ⟨rfl, rfl⟩, trivial⟩ trivial rfl rfl (fun h => by cases h) rfl (fun _ h => by cases h) (.inl rfl) rfl rfl)) ?_
   refine op_v' (j_pick_t rfl h2r (evo rfl)) ?_
   refine op_v' (j_assign (evo rfl)) ?_
   refine op_nil ?_
   refine a_ret ?_
   exact ⟨[.p _], .p _, [], [], [], ⟨rfl, trivial⟩, rfl, rfl, trivial, rfl, rfl, ⟨boolEq (by unfold ciB; simp_all), rfl, rfl⟩⟩
  ·
   have h2r := h2
   try simp only [nq, nr] at h2
   refine op_v' (j_unwantV rfl rfl h2r) ?_
   refine op_v' (j_unwantV rfl rfl h2r) ?_
   refine op_v' (j_unwantV rfl rfl h2r) ?_
   refine op_v' (j_pick_f rfl h2r (evo rfl)) ?_
   refine op_v' (j_assign (evo rfl)) ?_
   refine op_nil ?_
   refine a_ret ?_
   exact ⟨[.p _], .p _, [], [], [], ⟨rfl, trivial⟩, rfl, rfl, trivial, rfl, rfl, ⟨boolEq (by unfold ciB; simp_all), rfl, rfl⟩⟩
 ·
  have h1r := h1
  try simp only [nq, nr] at h1
  refine op_v' (j_unwantV rfl rfl h1r) ?_
  refine op_v' (j_unwantV rfl rfl h1r) ?_
  refine op_v' (j_unwantV rfl rfl h1r) ?_
  refine op_v' (j_pick_f rfl h1r (evo rfl)) ?_
  refine op_v' (j_move (evo rfl)) ?_
  refine op_v' (j_unwantV rfl rfl rfl) ?_
  refine op_v' (j_unwantV rfl rfl rfl) ?_
  refine op_v' (j_unwantV rfl rfl rfl) ?_
  refine op_v' (j_pick_f rfl rfl (evo rfl)) ?_
  refine op_v' (j_assign (evo rfl)) ?_
  refine op_nil ?_
  refine a_ret ?_
  exact ⟨[.p _], .p _, [], [], [], ⟨rfl, trivial⟩, rfl, rfl, trivial, rfl, rfl, ⟨boolEq (by unfold ciB; simp_all), rfl, rfl⟩⟩


end Go.Ab

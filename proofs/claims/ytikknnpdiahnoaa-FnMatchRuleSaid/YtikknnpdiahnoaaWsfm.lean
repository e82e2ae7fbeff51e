/- Walks. -/
import Derived.Test.YtikknnpdiahnoaaBase
import Derived.Test.YtikknnpdiahnoaaMt
import Derived.Test.YtikknnpdiahnoaaWsflt
import Derived.Test.YtikknnpdiahnoaaSimp
import Derived.Test.YtikknnpdiahnoaaWscons
import Derived.Test.YtikknnpdiahnoaaVals
namespace Go.Ab
open Go.Proofs
set_option maxRecDepth 100000
set_option maxHeartbeats 8000000
set_option linter.unusedSimpArgs false
set_option linter.unusedVariables false
theorem f_de1 (x : List Bool) : Fn Try.prog 65 [.sl (x.map dB)] [] (fun rr ii nn => rr = .p (.bool (!decide (true ∈ x))) ∧ ii = [] ∧ nn = []) := by
 refine fn_of Try.func65 rfl (Nat.le_of_ble_eq_true rfl) fun w X g => ?_
 show AWp _ _ _ ⟨[(0, .sl (x.map dB))], []⟩
 refine a_seq ?_
 refine a_region (by kernel_rfl) ?_
 refine op_v' (j_assign (evo rfl)) ?_
 refine op_nil ?_
 refine a_seq ?_
 refine a_region (by kernel_rfl) ?_
 refine op_v' (j_move (evo rfl)) ?_
 refine op_v0' (j_call0 (v := .p _) (hp1 := []) [] false [] ent66 (f_containsBool x true) ⟨.inl ⟨rfl, rfl⟩, .inl ⟨rfl, rfl⟩, trivial⟩ trivial rfl rfl (fun h => by cases h) rfl (fun _ h => by cases h) (.inl rfl) rfl rfl) ?_
 refine op_v' (j_not rfl) ?_
 refine op_v' (j_assign (evo rfl)) ?_
 refine op_nil ?_
 refine a_ret ?_
 exact ⟨[.p _], .p _, [], [], [], ⟨rfl, trivial⟩, rfl, rfl, trivial, rfl, rfl, ⟨rfl, rfl, rfl⟩⟩


theorem f_deImpl (m : Md) (d : List (List Bool)) : Fn Try.prog 20 [.agg [.sl (m.1.map dI), .sl (m.2.map dR)], .sl (d.map dD)] [] (fun rr ii nn => rr = .p (.bool (deB m d)) ∧ ii = [] ∧ nn = []) := by
 refine fn_of Try.func20 rfl (Nat.le_of_ble_eq_true rfl) fun w X g => ?_
 show AWp _ _ _ ⟨[(0, .agg [.sl (m.1.map dI), .sl (m.2.map dR)]), (1, .sl (d.map dD))], []⟩
 refine a_seq ?_
 refine a_region (by kernel_rfl) ?_
 refine op_n' (fun ver => j_boxa rfl) fun v2x1 => ?_
 refine op_v' (j_assign (evo rfl)) ?_
 refine op_nil ?_
 refine a_seq ?_
 refine a_region (by kernel_rfl) ?_
 refine op_v' (j_loada_box (ys := [.sl _, .sl _]) agg26 rfl rfl rfl (Nat.le_of_ble_eq_true rfl)) ?_
 refine op_v' (j_move (evo rfl)) ?_
 refine op_v0' (j_call0 (v := .p _) (hp1 := []) [] false [] ent25 (f_dvImpl m d) ⟨.inl ⟨rfl, rfl⟩, .inl ⟨rfl, rfl⟩, trivial⟩ trivial rfl rfl (fun h => by cases h) rfl (fun _ h => by cases h) (.inl rfl) rfl rfl) ?_
 refine op_v' (j_move (evo rfl)) ?_
 refine op_split' 8 rfl (fun h1 => ?_) (fun h1 => ?_)
 ·
  have h1r := h1
  try simp only [nq, nr] at h1
  refine op_v' (j_want rfl rfl h1r (j_move (evo rfl))) ?_
  refine op_v0' (j_want rfl rfl h1r (j_call0 (v := .p _) (hp1 := []) [] false [] ent64 (f_ctf_LB_0 65 d (fun x => !decide (true ∈ x)) ent65 (fun a _ => f_de1 a)) ⟨.inl ⟨rfl, rfl⟩, .inl ⟨rfl, rfl⟩, trivial⟩ trivial rfl rfl (fun h => by cases h) rfl (fun _ h => by cases h) (.inl rfl) rfl rfl)) ?_
  refine op_v' (j_pick_t rfl h1r (evo rfl)) ?_
  refine op_v' (j_assign (evo rfl)) ?_
  refine op_nil ?_
  refine a_ret ?_
  exact ⟨[.p _], .p _, [], [], [], ⟨rfl, trivial⟩, rfl, rfl, trivial, rfl, rfl, ⟨boolEq (by unfold deB emB; simp_all), rfl, rfl⟩⟩
 ·
  have h1r := h1
  try simp only [nq, nr] at h1
  refine op_v' (j_unwantV rfl rfl h1r) ?_
  refine op_v' (j_unwantV rfl rfl h1r) ?_
  refine op_v' (j_pick_f rfl h1r (evo rfl)) ?_
  refine op_v' (j_assign (evo rfl)) ?_
  refine op_nil ?_
  refine a_ret ?_
  exact ⟨[.p _], .p _, [], [], [], ⟨rfl, trivial⟩, rfl, rfl, trivial, rfl, rfl, ⟨boolEq (by unfold deB emB; simp_all), rfl, rfl⟩⟩


end Go.Ab

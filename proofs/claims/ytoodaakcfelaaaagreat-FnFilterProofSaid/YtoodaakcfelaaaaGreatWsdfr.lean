/- Walks. -/
import Derived.Test.YtoodaakcfelaaaaGreatBase2
import Derived.Test.YtoodaakcfelaaaaGreatDmod2
import Derived.Test.YtoodaakcfelaaaaGreatWsd6
import Derived.Test.YtoodaakcfelaaaaGreatWsflt
import Derived.Test.YtoodaakcfelaaaaGreatBase
import Derived.Test.YtoodaakcfelaaaaGreatWsmod2
import Derived.Test.YtoodaakcfelaaaaGreatSimp
import Derived.Test.YtoodaakcfelaaaaGreatWscons
import Derived.Test.YtoodaakcfelaaaaGreatVals
namespace Go.Ab
open Go.Proofs
set_option maxRecDepth 100000
set_option maxHeartbeats 8000000
set_option linter.unusedSimpArgs false
set_option linter.unusedVariables false
theorem f_cpRows (a b : List (List Bool)) : Fn Tryz.prog 28 [.sl (a.map dD), .sl (b.map dD)] [] (fun rr ii nn => rr = .p (.bool (decide (a = b))) ∧ ii = [] ∧ nn = []) := by
 refine qjm Tryz.func28 rfl (nb rfl) fun w X g => ?_
 show AWp _ _ _ ⟨[(0, .sl (a.map dD)), (1, .sl (b.map dD))], []⟩
 refine qj6 0 rfl fun hla => ?_
 refine rs (oa rfl (on (qqe (rs (om rfl (qqa (qqg Tryz.underlying24 rfl) (om rfl (qqa (qqg Tryz.underlying24 rfl) (qqa (j_ne rfl rfl) (on (ac rfl (fun h1 => ?_) fun h1 => ?_)))))))))))
 ·
  have h1r := h1
  try simp only [nq, nr] at h1
  refine rs (oa rfl (on (qqm ?_)))
  exact qq8 rfl ⟨qqv (by symm; rw [decide_eq_false_iff_not]; rintro rfl; exact h1 rfl), rfl, rfl⟩
 have h1r := h1
 try simp only [nq, nr] at h1
 refine qqj (qqe (rs (oa rfl (on (qqf (qqr (ι := Nat) (fun k => k ≤ a.length ∧ a.take k = b.take k) (fun k r => (5, .p (.int .i64 ((k : Nat)))) :: r) (fun k r => r) (fun k => a.length - k) (fun _ _ => rfl) (fun _ _ => rfl) 0 ⟨Nat.zero_le _, rfl⟩ ⟨⟨rfl, rfl⟩, ⟨rfl, trivial⟩, trivial, ⟨rfl, rfl⟩, ⟨rfl, rfl⟩⟩ ?_))))))
 intro k hpre0
 refine qqe (rs (om rfl (om rfl (qqa (qqg Tryz.underlying24 rfl) (qqa (qzb rfl rfl) (on (ac rfl (fun h2 => ?_) fun h2 => ?_)))))))
 ·
  have h2r := h2
  try simp only [nq, nr] at h2
  refine qqj (qqe (qqf (qqe (qjz qzj (by kernel_rfl) (by kernel_rfl) fun vf => ?_))))
  refine qqq (qql (evo rfl)) (qqq (qql (evo rfl)) (qqq (qqy slt24 rfl rfl rfl (qqh (by omega)) rfl) (qqq (qqp leaf44 rfl (qqh (by omega)) rfl) (qqq (qql (evo rfl)) (qqq (qql (evo rfl)) (qqq (qqy slt24 rfl rfl rfl (qqh (by omega)) rfl) (qqq (qqp leaf44 rfl (qqh (by omega)) rfl) ?_)))))))
  refine d_v0' (qqn (v := .p _) (hp1 := []) [] false [] ent33 (f_cpBools (a.getD k default) (b.getD k default)) ⟨.inl ⟨rfl, rfl⟩, .inl ⟨rfl, rfl⟩, trivial⟩ trivial rfl rfl (fun h => by cases h) rfl (fun _ h => by cases h) (.inl rfl) rfl rfl) ?_
  refine qqq (qzw rfl) (qze (by kernel_rfl) (by kernel_rfl) ?_)
  refine ac rfl (fun h3 => ?_) fun h3 => ?_
  ·
   have h3r := h3
   try simp only [nq, nr] at h3
   refine rs (oa rfl (on (qqm ?_)))
   exact qq8 rfl ⟨qqv (by symm; rw [decide_eq_false_iff_not]; rintro rfl; exact h3 rfl), rfl, rfl⟩
  have h3r := h3
  try simp only [nq, nr] at h3
  refine qqj (ar (om rfl (qqa (qjh rfl rfl (by omega) (by omega)) (oa rfl (on ?_)))))
  exact ⟨k + 1, ⟨(by omega), take_next hpre0.2 (by omega) (by omega) h3⟩, ⟨⟨rfl, rfl⟩, ⟨rfl, trivial⟩, trivial, ⟨rfl, rfl⟩, ⟨rfl, rfl⟩⟩, (by omega)⟩
 have h2r := h2
 try simp only [nq, nr] at h2
 refine qja (rs (oa rfl (on (qqm ?_))))
 exact qq8 rfl ⟨qqv (by symm; rw [decide_eq_true_eq]; exact take_eq hpre0.2 (by omega) (by omega)), rfl, rfl⟩
theorem f_dMV (b : List Int) (hb : ∀ a ∈ b, 0 ≤ a ∧ a ≤ 255) : Fn Tryz.prog 89 [.sl (b.map dU)] [] (fun rr ii nn => ∃ x : Md, (wM x ≤ 3000 ∧ x.2.length ≤ 4) ∧ rr = .agg [.sl (x.1.map dI), .sl (x.2.map dR)] ∧ ii = [] ∧ nn = []) := by
 refine qjm Tryz.func89 rfl (nb rfl) fun w X g => ?_
 show AWp _ _ _ ⟨[(0, .sl (b.map dU))], []⟩
 have hbt := okB_take (b := b) (Nat.le_refl _) hb
 refine rs (qq5 (fun ver => qjv elt60 rfl) fun v2x1 => ?_)
 refine on (rs (om rfl ?_))
 refine qj9 (fun ver => qj8 (v := .ptr 5 ver 0) (hp1 := [(5, some (ver, .box 151 [.sl _, .p _]))]) [] false [] ent63 (f_open _) ⟨.inl ⟨rfl, rfl⟩, trivial⟩ trivial rfl rfl rfl (fun h => by cases h) rfl (List.all_eq_true.1 rfl) (.inl rfl) rfl rfl) fun v5x2 => ?_
 refine oa rfl (on (rs (om rfl (om rfl (op_callE (v := fun x => .agg [.sl _, .sl _]) (hp1 := fun x => [(5, some (v5x2, .box 151 [.sl _, .p _]))]) [(5, v5x2)] false ent148 (f_l6Model (b.take 2000) 0 hbt (by omega)) ⟨.inl ⟨rfl, rfl⟩, trivial⟩ ⟨⟨rfl, rfl⟩, trivial⟩ rfl (fun _ => rfl) (fun _ => rfl) (.inl rfl) (fun _ => rfl) (fun _ => rfl) ?_)))))
 rintro ⟨m8, p8⟩ ⟨hw8, hl8, hr8, hp8⟩
 try dsimp only at hw8
 try dsimp only at hl8
 try dsimp only at hr8
 try dsimp only at hp8
 dsimp only [List.cons_append, List.nil_append]
 refine op_callE (v := fun x => .agg [.sl _, .sl _]) (hp1 := fun x => [(5, some (v5x2, .box 151 [.sl _, .p _]))]) [(5, v5x2)] false ent147 (f_l6Mutate (b.take 2000) p8 m8 hbt (by omega) (by omega)) ⟨.inl ⟨rfl, rfl⟩, .inl ⟨rfl, rfl⟩, trivial⟩ ⟨⟨rfl, rfl⟩, trivial⟩ rfl (fun _ => rfl) (fun _ => rfl) (.inl rfl) (fun _ => rfl) (fun _ => rfl) ?_
 rintro ⟨m9, p9⟩ ⟨hw9, hp9⟩
 try dsimp only at hw9
 try dsimp only at hp9
 dsimp only [List.cons_append, List.nil_append]
 refine qjo (qqs qjw rfl rfl rfl rfl rfl rfl) ?_
 refine on (qqm ?_)
 exact ⟨[.agg [.sl _, .sl _]], .agg [.sl _, .sl _], [], [], [], ⟨⟨_, _, _, _, rfl, rfl, qjw, rfl⟩, trivial⟩, rfl, rfl, trivial, rfl, rfl, ⟨m9, ⟨hw9, by omega⟩, rfl, rfl, rfl⟩⟩
theorem f_dFD (b : List Int) (hb : ∀ a ∈ b, 0 ≤ a ∧ a ≤ 255) : Fn Tryz.prog 36 [.sl (b.map dU)] [] (fun rr ii nn => ∃ x : Md, (wM x ≤ 3000 ∧ x.2.length ≤ 4) ∧ rr = .agg [.sl (x.1.map dI), .sl (x.2.map dR)] ∧ ii = [] ∧ nn = []) := by
 refine qjm Tryz.func36 rfl (nb rfl) fun w X g => ?_
 show AWp _ _ _ ⟨[(0, .sl (b.map dU))], []⟩
 refine rs (qq5 (fun ver => qjv elt60 rfl) fun v2x1 => ?_)
 refine on (rs (om rfl (op_callE (v := fun x => .agg [.sl _, .sl _]) (hp1 := fun x => []) [] false ent89 (f_dMV _ hb) ⟨.inl ⟨rfl, rfl⟩, trivial⟩ trivial rfl (fun _ => rfl) (fun _ => rfl) (.inl rfl) (fun _ => rfl) (fun _ => rfl) ?_)))
 rintro m4 hw4
 try dsimp only at hw4
 dsimp only [List.cons_append, List.nil_append]
 refine qjo (qqs qjw rfl rfl rfl rfl rfl rfl) ?_
 refine on (qqm ?_)
 exact ⟨[.agg [.sl _, .sl _]], .agg [.sl _, .sl _], [], [], [], ⟨⟨_, _, _, _, rfl, rfl, qjw, rfl⟩, trivial⟩, rfl, rfl, trivial, rfl, rfl, ⟨m4, hw4, rfl, rfl, rfl⟩⟩
end Go.Ab

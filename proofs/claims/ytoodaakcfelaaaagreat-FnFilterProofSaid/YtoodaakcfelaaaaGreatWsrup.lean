/- Walks. -/
import Derived.Test.YtoodaakcfelaaaaGreatBase
import Derived.Test.YtoodaakcfelaaaaGreatSimp
import Derived.Test.YtoodaakcfelaaaaGreatWsprop
import Derived.Test.YtoodaakcfelaaaaGreatWsfix
import Derived.Test.YtoodaakcfelaaaaGreatWsdraw
import Derived.Test.YtoodaakcfelaaaaGreatWscons
import Derived.Test.YtoodaakcfelaaaaGreatVals
import Derived.Test.YtoodaakcfelaaaaGreatWstab
import Derived.Test.YtoodaakcfelaaaaGreatDeep2
import Derived.Test.YtoodaakcfelaaaaGreatDmod2
import Derived.Test.YtoodaakcfelaaaaGreatWsfun
import Derived.Test.YtoodaakcfelaaaaGreatWsmul
namespace Go.Ab
open Go.Proofs
set_option maxRecDepth 100000
set_option maxHeartbeats 8000000
set_option linter.unusedSimpArgs false
set_option linter.unusedVariables false
theorem f_negationF (c : Con) (hc : cOk c = true) : Fn Tryz.prog 116 [.agg [.sl (c.1.map dT), .p (.int .i64 c.2)]] [] (fun rr ii nn => rr = .agg [.sl ((negC c).1.map dT), .p (.int .i64 (negC c).2)] ∧ ii = [] ∧ nn = []) := by
 refine qjm Tryz.func116 rfl (nb rfl) fun w X g => ?_
 show AWp _ _ _ ⟨[(0, .agg [.sl (c.1.map dT), .p (.int .i64 c.2)])], []⟩
 have htt := tot_all (coef_wide (cOk_coefs hc) (by decide) (by decide))
 have hln := cOk_len hc
 have hbd := cOk_bound hc
 refine rs (qq5 (fun ver => qj3 rfl) fun v1x1 => ?_)
 refine qq5 (fun ver => qjv qz5 rfl) fun v2x2 => ?_
 refine on (qqe (qjz qzj (by kernel_rfl) (by kernel_rfl) fun vf => ?_))
 refine qqq (qqk (ys := [.sl _, .p _]) qzn rfl rfl rfl (nb rfl)) ?_
 refine d_v0' (qqn (v := .p _) (hp1 := []) [] false [] ent169 (f_totImpl c hc) ⟨.inl ⟨rfl, rfl⟩, trivial⟩ trivial rfl rfl (fun h => by cases h) rfl (fun _ h => by cases h) (.inl rfl) rfl rfl) ?_
 refine qqq (qqi fld69f1 rfl rfl) (qqq (qqc qq2 rfl rfl rfl) (qqq (qzy rfl rfl zz zz) (qqq (qjh rfl rfl zz zz) (qqq (j_max rfl rfl) (qqq (qzu (parts := [(1, .tmp 12)]) str69 qz5 rfl rfl) (d_n' (fun ver => qjv qz5 rfl) ?_))))))
 refine d_s' (qqs qzn rfl rfl rfl rfl rfl rfl) ?_
 refine qze (by kernel_rfl) (by kernel_rfl) ?_
 refine qj2 0 1003 135 2 (by decide) (id := 3) rfl rfl fun v1003x3 => ?_
 refine qqe (rs (qqa (qqi fld69f0 rfl rfl) (qqa (qqc leaf67 rfl rfl rfl) (qqa (qqg Tryz.underlying67 rfl) (om rfl (on (qqf (qqr (ι := Nat × Nat) (fun x => x.1 ≤ c.1.length) (fun x r => (17, .p (.int .i64 ((x.1 : Nat)))) :: r) (fun x r => (3, some ((vf 3), .box 69 [.own 1003 x.2, .p (.int .i64 (max 0 (totV c.1 - c.2 + 1)))])) :: (1003, some (x.2, .row 135 2 (((c.1.take x.1).map negT).map dT))) :: r) (fun x => c.1.length - x.1) (fun _ _ => rfl) (fun _ _ => rfl) (0, v1003x3) (by first | exact (Nat.zero_le _) | (dsimp only; exact (Nat.zero_le _))) ⟨⟨rfl, rfl⟩, ⟨rfl, trivial⟩, ⟨rfl, rfl, trivial⟩, ⟨rfl, rfl⟩, ⟨rfl, rfl⟩⟩ ?_))))))))
 rintro ⟨k, v⟩ hpre; dsimp only at hpre ⊢
 refine rs (qqa (qzb rfl rfl) (on (qqe (ac rfl (fun h1 => ?_) fun h1 => ?_))))
 ·
  have h1r := h1
  try simp only [nq, nr, nl] at h1
  refine qqj (qqe (qqf (qqe ?_)))
  have htm := cOk_terms hc (k := k) (by omega)
  have hli := litOk_iff.1 htm.1
  refine ar (qqa (qqy slt67 rfl rfl rfl (qqh zz) rfl) (qqa (qzf (ys := [.p _, .p _]) agg135 rfl (qqh zz) rfl (Nat.le_refl _)) (qq5 (fun ver => qjv qz3 rfl) fun v5x4 => ?_)))
  refine qjo (qqs agg135 rfl rfl rfl rfl rfl rfl) ?_
  refine on (ar (qqa (qqi fld69f0 rfl rfl) (qqa (qqc leaf67 rfl rfl rfl) (qqa (qqi fld135f0 rfl rfl) (qqa (qqc qq2 rfl rfl rfl) (qqa (qqi fld135f1 rfl rfl) (qqa (qqc qq2 rfl rfl rfl) (qqa (j_neg rfl zz zz) (qqa (qzu (parts := [(0, .tmp 24), (1, .tmp 27)]) str135 qz3 rfl rfl) (qq5 (fun ver => qqw (parts := [(0, .tmp 28)]) (es := [[_, _]]) slt67 qz3 rfl rfl (by decide) (by decide) rfl rfl (by simp) rfl) fun v29x5 => ?_))))))))))
  refine qq5 (fun ver => qq6 slt67 qz3 rfl rfl rfl rfl rfl rfl (by rw [qq0]; first | omega | (simp only [nr, nl]; omega)) zz) fun v1003x6 => ?_
  refine qqa (qqi fld69f0 rfl rfl) (qjo (qje leaf67 rfl rfl (nb rfl) (evo rfl) rfl) ?_)
  refine on (ar (qqa (qjh rfl rfl zz zz) (om rfl (on ?_))))
  exact ⟨(k + 1, v1003x6), (by first | exact zz | (dsimp only; exact zz)), ⟨⟨rfl, rfl⟩, ⟨rfl, trivial⟩, ⟨rfl, qza (neg_next (by omega)), trivial⟩, ⟨rfl, rfl⟩, ⟨rfl, rfl⟩⟩, (by first | exact zz | (dsimp only; exact zz))⟩
 have h1r := h1
 try simp only [nq, nr, nl] at h1
 refine qja (qqe (qjf 0 3 (by decide) trivial rfl rfl rfl rfl ?_))
 try dsimp only [List.set]
 refine ar (qqa (qqk (ys := [.sl _, .p _]) qzn rfl rfl rfl (nb rfl)) (qjo (qqs qzn rfl rfl rfl rfl rfl rfl) ?_))
 refine on (qqm ?_)
 exact ⟨[.agg [.sl _, .p _]], .agg [.sl _, .p _], [], [], [], ⟨⟨_, _, _, _, rfl, rfl, qzn, rfl⟩, trivial⟩, rfl, rfl, trivial, rfl, rfl, ⟨by rw [show k = c.1.length by omega, List.take_length]; rfl, rfl, rfl⟩⟩
end Go.Ab

/- Walks. -/
import Derived.Test.YtoodaakcfelaaaaGreatBase
import Derived.Test.YtoodaakcfelaaaaGreatSimp
import Derived.Test.YtoodaakcfelaaaaGreatWsprop
import Derived.Test.YtoodaakcfelaaaaGreatWsclau
import Derived.Test.YtoodaakcfelaaaaGreatWsprobd
import Derived.Test.YtoodaakcfelaaaaGreatWsdrawc
import Derived.Test.YtoodaakcfelaaaaGreatDeep2
import Derived.Test.YtoodaakcfelaaaaGreatFlt2
import Derived.Test.YtoodaakcfelaaaaGreatWscons
import Derived.Test.YtoodaakcfelaaaaGreatVals
import Derived.Test.YtoodaakcfelaaaaGreatWsfix
import Derived.Test.YtoodaakcfelaaaaGreatWsfun
import Derived.Test.YtoodaakcfelaaaaGreatWsmul
import Derived.Test.YtoodaakcfelaaaaGreatWsenum
namespace Go.Ab
open Go.Proofs
set_option maxRecDepth 100000
set_option maxHeartbeats 8000000
set_option linter.unusedSimpArgs false
set_option linter.unusedVariables false
theorem f_negationF (c : Con) (hc : cOk c = true) : Fn Tryz.prog 116 [.agg [.sl (c.1.map dT), .p (.int .i64 c.2)]] [] (fun rr ii nn => rr = .agg [.sl ((negC c).1.map dT), .p (.int .i64 (negC c).2)] ∧ ii = [] ∧ nn = []) := by
 refine qjl Tryz.func116 rfl (nb rfl) fun w X g => ?_
 show AWp _ _ _ ⟨[(0, .agg [.sl (c.1.map dT), .p (.int .i64 c.2)])], []⟩
 have htt := tot_all (coef_wide (cOk_coefs hc) (by decide) (by decide))
 have hln := qz2 hc
 have hbd := qzv hc
 refine rs (qqv (fun ver => qzg rfl) fun v1x1 => ?_)
 refine qqv (fun ver => qjd qjm rfl) fun v2x2 => ?_
 refine on (qqf (qj3 qzr (by kernel_rfl) (by kernel_rfl) fun vf => ?_))
 refine qql (qqg (ys := [.sl _, .p _]) qq7 rfl rfl rfl (nb rfl)) ?_
 refine d_v0' (qqn (v := .p _) (hp1 := []) [] false [] ent169 (f_totImpl c hc) ⟨.inl ⟨rfl, rfl⟩, trivial⟩ trivial rfl rfl (fun h => by cases h) rfl (fun _ h => by cases h) (.inl rfl) rfl rfl) ?_
 refine qql (qqi qzi rfl rfl) (qql (qqc qq6 rfl rfl rfl) (qql (qzw rfl rfl zz zz) (qql (qjh rfl rfl zz zz) (qql (j_max rfl rfl) (qql (qjp (parts := [(1, .tmp 12)]) str69 qjm rfl rfl) (d_n' (fun ver => qjd qjm rfl) ?_))))))
 refine d_s' (qqe qq7 rfl rfl rfl rfl rfl rfl) ?_
 refine qzf (by kernel_rfl) (by kernel_rfl) ?_
 refine qjy 0 1003 135 2 (by decide) (id := 3) rfl rfl fun v1003x3 => ?_
 refine qqf (rs (qqa (qqi qjn rfl rfl) (qqa (qqc qjv rfl rfl rfl) (qqa (qqw Tryz.underlying67 rfl) (om rfl (on (qqk (qq4 (ι := Nat × Nat) (fun x => x.1 ≤ c.1.length) (fun x r => (17, .p (.int .i64 ((x.1 : Nat)))) :: r) (fun x r => (3, some ((vf 3), .box 69 [.own 1003 x.2, .p (.int .i64 (max 0 (totV c.1 - c.2 + 1)))])) :: (1003, some (x.2, .row 135 2 (((c.1.take x.1).map negT).map dT))) :: r) (fun x => c.1.length - x.1) (fun _ _ => rfl) (fun _ _ => rfl) (0, v1003x3) (by first | exact (Nat.zero_le _) | (dsimp only; exact (Nat.zero_le _))) ⟨⟨rfl, rfl⟩, ⟨rfl, trivial⟩, ⟨rfl, rfl, trivial⟩, ⟨rfl, rfl⟩, ⟨rfl, rfl⟩⟩ ?_))))))))
 rintro ⟨k, v⟩ hpre; dsimp only at hpre ⊢
 refine rs (qqa (qzt rfl rfl) (on (qqf (ac rfl (fun h1 => ?_) fun h1 => ?_))))
 ·
  have h1r := h1
  try simp only [nq, nr, nl] at h1
  refine qqo (qqf (qqk (qqf ?_)))
  have htm := cOk_terms hc (k := k) (by omega)
  have hli := litOk_iff.1 htm.1
  refine ar (qqa (qq9 qzc rfl rfl rfl (qqq zz) rfl) (qqa (qjw (ys := [.p _, .p _]) qz7 rfl (qqq zz) rfl (Nat.le_refl _)) (qqv (fun ver => qjd qjx rfl) fun v5x4 => ?_)))
  refine qjg (qqe qz7 rfl rfl rfl rfl rfl rfl) ?_
  refine on (ar (qqa (qqi qjn rfl rfl) (qqa (qqc qjv rfl rfl rfl) (qqa (qqi qzp rfl rfl) (qqa (qqc qq6 rfl rfl rfl) (qqa (qqi qzl rfl rfl) (qqa (qqc qq6 rfl rfl rfl) (qqa (j_neg rfl zz zz) (qqa (qjp (parts := [(0, .tmp 24), (1, .tmp 27)]) str135 qjx rfl rfl) (qqv (fun ver => qqh (parts := [(0, .tmp 28)]) (es := [[_, _]]) qzc qjx rfl rfl (by decide) (by decide) rfl rfl (by simp) rfl) fun v29x5 => ?_))))))))))
  refine qqv (fun ver => qqs qzc qjx rfl rfl rfl rfl rfl rfl (by rw [qqu]; first | omega | (simp only [nr, nl]; omega)) zz) fun v1003x6 => ?_
  refine qqa (qqi qjn rfl rfl) (qjg (qq5 qjv rfl rfl (nb rfl) (evo rfl) rfl) ?_)
  refine on (ar (qqa (qjh rfl rfl zz zz) (om rfl (on ?_))))
  exact ⟨(k + 1, v1003x6), (by first | exact zz | (dsimp only; exact zz)), ⟨⟨rfl, rfl⟩, ⟨rfl, trivial⟩, ⟨rfl, qj0 (neg_next (by omega)), trivial⟩, ⟨rfl, rfl⟩, ⟨rfl, rfl⟩⟩, (by first | exact zz | (dsimp only; exact zz))⟩
 have h1r := h1
 try simp only [nq, nr, nl] at h1
 refine qjf (qqf (qjk 0 3 (by decide) trivial rfl rfl rfl rfl ?_))
 try dsimp only [List.set]
 refine ar (qqa (qqg (ys := [.sl _, .p _]) qq7 rfl rfl rfl (nb rfl)) (qjg (qqe qq7 rfl rfl rfl rfl rfl rfl) ?_))
 refine on (qqx ?_)
 exact ⟨[.agg [.sl _, .p _]], .agg [.sl _, .p _], [], [], [], ⟨⟨_, _, _, _, rfl, rfl, qq7, rfl⟩, trivial⟩, rfl, rfl, trivial, rfl, rfl, ⟨by rw [show k = c.1.length by omega, List.take_length]; rfl, rfl, rfl⟩⟩
theorem f_rup (l : List Con) (c : Con) (hl : l.all cOk = true) (hll : l.length ≤ 2000) (hc : cOk c = true) : Fn Tryz.prog 241 [.sl (l.map dC), .agg [.sl (c.1.map dT), .p (.int .i64 c.2)]] [] (fun rr ii nn => rr = .p (.bool (rupV l c)) ∧ ii = [] ∧ nn = []) := by
 refine qjl Tryz.func241 rfl (nb rfl) fun w X g => ?_
 show AWp _ _ _ ⟨[(0, .sl (l.map dC)), (1, .agg [.sl (c.1.map dT), .p (.int .i64 c.2)])], []⟩
 have hnc := negC_ok hc
 have hla : (l ++ [negC c]).all cOk = true := by rw [List.all_append, hl]; simp [hnc]
 refine rs (qqv (fun ver => qzg rfl) fun v3x1 => ?_)
 refine oa rfl (on (qqf (qj3 qzr (by kernel_rfl) (by kernel_rfl) fun vf => ?_)))
 refine qql (qqj (evo rfl)) ?_
 refine d_n1' (fun ver => qza (v := .own 9 ver) (hp1 := [(9, some (ver, .row 69 2 _))]) [] false [] ent57 (f_cloneC l (by omega)) ⟨.inl ⟨rfl, rfl⟩, trivial⟩ trivial rfl rfl rfl (fun h => by cases h) rfl (List.all_eq_true.1 rfl) (.inl rfl) rfl rfl) ?_
 refine qql (qqg (ys := [.sl _, .p _]) qq7 rfl rfl rfl (nb rfl)) ?_
 refine d_v0' (qqn (v := .agg [.sl _, .p _]) (hp1 := []) [] false [] ent116 (f_negationF c hc) ⟨.inl ⟨rfl, rfl⟩, trivial⟩ trivial rfl rfl (fun h => by cases h) rfl (fun _ h => by cases h) (.inl rfl) rfl rfl) ?_
 refine d_n' (fun ver => qqh (parts := [(0, .tmp 11)]) (es := [[_, _]]) qj7 qjm rfl rfl (by decide) (by decide) rfl rfl (by simp) rfl) ?_
 refine d_n1' (fun ver => j_append_ownN (by decide) qj7 qjm rfl rfl rfl rfl rfl rfl (by rw [qqu]; first | omega | (simp only [nr, nl]; omega)) zz (show _ = (l ++ [negC c]).map dC from by rw [List.map_append]; rfl)) ?_
 refine d_n' (fun ver => j_make (n := 12) qjb elt3 rfl rfl (by decide) rfl rfl rfl rfl zz (by rw [qqu]; first | omega | (simp only [nr, nl]; omega))) ?_
 refine d_n1' (fun ver => qza (v := .tup [.own 15 ver, .p _]) (hp1 := [(15, some (ver, .row 3 1 _))]) [] true [13, 14] ent182 (f_prop (l ++ [negC c]) zeroP hla (by rw [List.length_append]; simp; omega) zero_ok) ⟨.inr ⟨rfl, qzq rfl rfl, rfl⟩, .inr ⟨rfl, qzq rfl rfl, rfl⟩, trivial⟩ trivial rfl rfl rfl (fun _ => rfl) rfl (List.all_eq_true.1 rfl) (.inr ⟨rfl, by first | exact pl_new1 (fun _ => rfl) | exact pl_newC | (simp [plO, plV, plV.plL]; done)⟩) rfl rfl) ?_
 refine qql (qqj (evo rfl)) (qql (qqt rfl rfl) (qql (qqt rfl rfl) (qql (qj6 (evo rfl)) (qql (qj6 (evo rfl)) (qzf (by kernel_rfl) (by kernel_rfl) ?_)))))
 refine rs (om rfl (qqa (j_ge rfl rfl) (oa rfl (on (qqx ?_)))))
 exact qjt rfl ⟨rfl, rfl, rfl⟩
end Go.Ab

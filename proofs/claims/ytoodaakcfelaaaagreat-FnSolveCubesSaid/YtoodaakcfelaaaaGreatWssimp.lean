/- Walks. -/
import Derived.Test.YtoodaakcfelaaaaGreatBase
import Derived.Test.YtoodaakcfelaaaaGreatSimp
import Derived.Test.YtoodaakcfelaaaaGreatWsrup
import Derived.Test.YtoodaakcfelaaaaGreatWsfix
import Derived.Test.YtoodaakcfelaaaaGreatWsfun
import Derived.Test.YtoodaakcfelaaaaGreatWsmul
import Derived.Test.YtoodaakcfelaaaaGreatWsenum
import Derived.Test.YtoodaakcfelaaaaGreatWsprobd
import Derived.Test.YtoodaakcfelaaaaGreatDeep2
import Derived.Test.YtoodaakcfelaaaaGreatFlt2
import Derived.Test.YtoodaakcfelaaaaGreatWscons
import Derived.Test.YtoodaakcfelaaaaGreatVals
import Derived.Test.YtoodaakcfelaaaaGreatWsclau
import Derived.Test.YtoodaakcfelaaaaGreatWsdrawc
namespace Go.Ab
open Go.Proofs
set_option maxRecDepth 100000
set_option maxHeartbeats 8000000
set_option linter.unusedSimpArgs false
set_option linter.unusedVariables false
theorem f_satImpl (c : Con) (hc : cOk c = true) : Fn Tryz.prog 238 [.agg [.sl (c.1.map dT), .p (.int .i64 c.2)]] [] (fun rr ii nn => rr = .tup [.agg [.sl ((stC c).1.map dT), .p (.int .i64 (stC c).2)], .p (.bool true)] ∧ ii = [] ∧ nn = []) := by
 refine qjl Tryz.func238 rfl (nb rfl) fun w X g => ?_
 show AWp _ _ _ ⟨[(0, .agg [.sl (c.1.map dT), .p (.int .i64 c.2)])], []⟩
 have hlc := qz2 hc
 have hbc := qzv hc
 have hs2 : (stC c).2 = c.2 := by unfold stC; split <;> rfl
 rw [hs2]
 refine rs (qqv (fun ver => qzg rfl) fun v1x1 => ?_)
 refine qqv (fun ver => qjd qjm rfl) fun v2x2 => ?_
 refine oa rfl (on (qqf (rs (qqa (qqg (ys := [.sl _, .p _]) qq7 rfl rfl rfl (nb rfl)) ?_))))
 refine qq0 (qqn (v := .p _) (hp1 := []) [] false [] ent115 (f_cvImpl c) ⟨.inl ⟨rfl, rfl⟩, trivial⟩ trivial rfl rfl (fun h => by cases h) rfl (fun _ h => by cases h) (.inl rfl) rfl rfl) ?_
 refine qqa (qzk rfl) (on (ac rfl (fun h1 => ?_) fun h1 => ?_))
 ·
  have h1r := h1
  try simp only [nq, nr, nl] at h1
  exact absurd h1r (by rw [hc]; decide)
 have h1r := h1
 try simp only [nq, nr, nl] at h1
 refine qqo (rs (qqa (qqi qzi rfl rfl) (qqa (qqc qq6 rfl rfl rfl) (qqa (qjp (parts := [(1, .tmp 12)]) str69 qjm rfl rfl) (qqv (fun ver => qjd qjm rfl) fun v4x3 => ?_)))))
 refine qjg (qqe qq7 rfl rfl rfl rfl rfl rfl) ?_
 refine on (qjy 0 1004 135 2 (by decide) (id := 4) rfl rfl fun v1004x4 => ?_)
 refine qqf (rs (qqa (qqi qzi rfl rfl) (qqa (qqc qq6 rfl rfl rfl) (qqa (j_gt rfl rfl) (on (ac rfl (fun h2 => ?_) fun h2 => ?_))))))
 ·
  have h2r := h2
  try simp only [nq, nr, nl] at h2
  refine rs (qqa (qqi qjn rfl rfl) (qqa (qqc qjv rfl rfl rfl) (qqa (qqw Tryz.underlying67 rfl) (om rfl (on (qqk (qq4 (ι := Nat × Nat) (fun x => x.1 ≤ c.1.length) (fun x r => (20, .p (.int .i64 ((x.1 : Nat)))) :: r) (fun x r => (4, some (v4x3, .box 69 [.own 1004 x.2, .p (.int .i64 c.2)])) :: (1004, some (x.2, .row 135 2 (((c.1.take x.1).map (stT c.2)).map dT))) :: r) (fun x => c.1.length - x.1) (fun _ _ => rfl) (fun _ _ => rfl) (0, v1004x4) (by first | exact (Nat.zero_le _) | (dsimp only; exact (Nat.zero_le _))) ⟨⟨rfl, rfl⟩, ⟨rfl, trivial⟩, ⟨rfl, rfl, trivial⟩, ⟨rfl, rfl⟩, ⟨rfl, rfl⟩⟩ ?_)))))))
  rintro ⟨k, v⟩ hk; dsimp only at hk ⊢
  refine rs (qqa (qzt rfl rfl) (on (qqf (ac rfl (fun h3 => ?_) fun h3 => ?_))))
  ·
   have h3r := h3
   try simp only [nq, nr, nl] at h3
   refine qqo (qqf (qqk (rs (qqa (qq9 qzc rfl rfl rfl (qqq zz) rfl) (qqa (qjw (ys := [.p _, .p _]) qz7 rfl (qqq zz) rfl (Nat.le_refl _)) (qqv (fun ver => qjd qjx rfl) fun v6x5 => ?_))))))
   refine qjg (qqe qz7 rfl rfl rfl rfl rfl rfl) ?_
   refine on (ar (qqa (qqi qjn rfl rfl) (qqa (qqc qjv rfl rfl rfl) (qqa (qqi qzp rfl rfl) (qqa (qqc qq6 rfl rfl rfl) (qqa (qqi qzi rfl rfl) (qqa (qqc qq6 rfl rfl rfl) (qqa (j_min rfl rfl) (qqa (qqi qzl rfl rfl) (qqa (qqc qq6 rfl rfl rfl) (qqa (qjp (parts := [(0, .tmp 30), (1, .tmp 32)]) str135 qjx rfl rfl) (qqv (fun ver => qqh (parts := [(0, .tmp 33)]) (es := [[_, _]]) qzc qjx rfl rfl (by decide) (by decide) rfl rfl (by simp) rfl) fun v34x6 => ?_))))))))))))
   refine qqv (fun ver => qqs qzc qjx rfl rfl rfl rfl rfl rfl (by rw [qqu]; first | omega | (simp only [nr, nl]; omega)) zz) fun v1004x7 => ?_
   refine qqa (qqi qjn rfl rfl) (qjg (qq5 qjv rfl rfl (nb rfl) (evo rfl) rfl) ?_)
   refine on (ar (qqa (qjh rfl rfl zz zz) (om rfl (on ?_))))
   exact ⟨(k + 1, v1004x7), (by first | exact zz | (dsimp only; exact zz)), ⟨⟨rfl, rfl⟩, ⟨rfl, trivial⟩, ⟨rfl, qj0 (st_next (by omega) (by omega)), trivial⟩, ⟨rfl, rfl⟩, ⟨rfl, rfl⟩⟩, (by first | exact zz | (dsimp only; exact zz))⟩
  have h3r := h3
  try simp only [nq, nr, nl] at h3
  refine qjf (qqf (qjk 0 4 (by decide) trivial rfl rfl rfl rfl ?_))
  try dsimp only [List.set]
  refine ar (qqa (qqg (ys := [.sl _, .p _]) qq7 rfl rfl rfl (nb rfl)) (qjg (qqe qq7 rfl rfl rfl rfl rfl rfl) ?_))
  refine oa rfl (on (qqx ?_))
  exact ⟨[.agg [.sl _, .p _], .p _], .tup [.agg [.sl _, .p _], .p _], [], [], [], ⟨⟨_, _, _, _, rfl, rfl, qq7, rfl⟩, rfl, trivial⟩, rfl, rfl, trivial, rfl, rfl, ⟨by first | (rw [stC_pos (by omega), show k = c.1.length by omega, List.take_length]) | (unfold stC; rw [if_neg (by omega)]; rfl), rfl, rfl⟩⟩
 have h2r := h2
 try simp only [nq, nr, nl] at h2
 refine qqo (qqf (qjk 0 4 (by decide) trivial rfl rfl rfl rfl ?_))
 try dsimp only [List.set]
 refine ar (qqa (qqg (ys := [.sl _, .p _]) qq7 rfl rfl rfl (nb rfl)) (qjg (qqe qq7 rfl rfl rfl rfl rfl rfl) ?_))
 refine oa rfl (on (qqx ?_))
 exact ⟨[.agg [.sl _, .p _], .p _], .tup [.agg [.sl _, .p _], .p _], [], [], [], ⟨⟨_, _, _, _, rfl, rfl, qq7, rfl⟩, rfl, trivial⟩, rfl, rfl, trivial, rfl, rfl, ⟨by first | (rw [stC_pos (by omega), show k = c.1.length by omega, List.take_length]) | (unfold stC; rw [if_neg (by omega)]; rfl), rfl, rfl⟩⟩
end Go.Ab

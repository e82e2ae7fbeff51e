/- Walks. -/
import Derived.Test.YtoodaakcfelaaaaGreatBase
import Derived.Test.YtoodaakcfelaaaaGreatSimp
import Derived.Test.YtoodaakcfelaaaaGreatWsenum
import Derived.Test.YtoodaakcfelaaaaGreatWscons
import Derived.Test.YtoodaakcfelaaaaGreatVals
namespace Go.Ab
open Go.Proofs
set_option maxRecDepth 100000
set_option maxHeartbeats 8000000
set_option linter.unusedSimpArgs false
set_option linter.unusedVariables false
theorem f_totImpl (c : Con) (hc : cOk c = true) : Fn Tryz.prog 169 [.agg [.sl (c.1.map dT), .p (.int .i64 c.2)]] [] (fun rr ii nn => rr = .p (.int .i64 (totV c.1)) ∧ ii = [] ∧ nn = []) := by
 refine qjl Tryz.func169 rfl (nb rfl) fun w X g => ?_
 show AWp _ _ _ ⟨[(0, .agg [.sl (c.1.map dT), .p (.int .i64 c.2)])], []⟩
 refine a_len_map2 0 rfl fun hlen => ?_
 have hln := qz2 hc
 refine rs (qqv (fun ver => qzg rfl) fun v1x1 => ?_)
 refine oa rfl (on (rs (oa rfl (on (qqf (rs (qqa (qqi qjn rfl rfl) (qqa (qqc qjv rfl rfl rfl) (qqa (qqw Tryz.underlying67 rfl) (om rfl (on (qqk (qq4 (ι := Nat) (fun k => k ≤ c.1.length) (fun k r => (9, .p (.int .i64 ((k : Nat)))) :: (3, .p (.int .i64 (totV (c.1.take k)))) :: r) (fun k r => r) (fun k => c.1.length - k) (fun _ _ => rfl) (fun _ _ => rfl) 0 (by omega) ⟨⟨rfl, rfl⟩, ⟨rfl, rfl, trivial⟩, trivial, ⟨rfl, rfl⟩, ⟨rfl, rfl⟩⟩ ?_)))))))))))))
 intro k hpre0
 refine rs (qqa (qzt rfl rfl) (on (qqf (ac rfl (fun h1 => ?_) fun h1 => ?_))))
 ·
  have h1r := h1
  try simp only [nq, nr] at h1
  have hsm := tot_take hc (k := k) (by omega); have htm := cOk_terms hc (k := k) (by omega)
  refine qqo (qqf (qqk (rs (qqa (qq9 qzc rfl rfl rfl (qqq (by omega)) rfl) (qqa (qjw (ys := [.p _, .p _]) qz7 rfl (qqq (by omega)) rfl (Nat.le_refl _)) (qqv (fun ver => qjd qjx rfl) fun v5x2 => ?_))))))
  refine qjg (qqe qz7 rfl rfl rfl rfl rfl rfl) ?_
  refine on (ar (om rfl (qqa (qqi qzp rfl rfl) (qqa (qqc qq6 rfl rfl rfl) (qqa (qjh rfl rfl (by omega) (by omega)) (oa rfl (on (ar (qqa (qjh rfl rfl (by omega) (by omega)) (om rfl (on ?_)))))))))))
  exact ⟨k + 1, (by omega), ⟨⟨rfl, rfl⟩, ⟨rfl, qz1 (by rw [totV_next (by omega)]), trivial⟩, trivial, ⟨rfl, rfl⟩, ⟨rfl, rfl⟩⟩, (by omega)⟩
 have h1r := h1
 try simp only [nq, nr] at h1
 refine qjf (rs (om rfl (oa rfl (on (qqx ?_)))))
 exact qjt rfl ⟨qz1 (by rw [List.take_of_length_le (by omega)]), rfl, rfl⟩
end Go.Ab

/- Walks. -/
import Derived.Test.YtoodaakcfelaaaaGreatBase
import Derived.Test.YtoodaakcfelaaaaGreatSimp
import Derived.Test.YtoodaakcfelaaaaGreatWscons
import Derived.Test.YtoodaakcfelaaaaGreatVals
namespace Go.Ab
open Go.Proofs
set_option maxRecDepth 100000
set_option maxHeartbeats 8000000
set_option linter.unusedSimpArgs false
set_option linter.unusedVariables false
theorem f_totImpl (c : Con) (hc : cOk c = true) : Fn Tryz.prog 169 [.agg [.sl (c.1.map dT), .p (.int .i64 c.2)]] [] (fun rr ii nn => rr = .p (.int .i64 (totV c.1)) ∧ ii = [] ∧ nn = []) := by
 refine qjm Tryz.func169 rfl (nb rfl) fun w X g => ?_
 show AWp _ _ _ ⟨[(0, .agg [.sl (c.1.map dT), .p (.int .i64 c.2)])], []⟩
 refine a_len_map2 0 rfl fun hlen => ?_
 have hln := cOk_len hc
 refine rs (qq5 (fun ver => qj3 rfl) fun v1x1 => ?_)
 refine oa rfl (on (rs (oa rfl (on (qqe (rs (qqa (qqi fld69f0 rfl rfl) (qqa (qqc leaf67 rfl rfl rfl) (qqa (qqg Tryz.underlying67 rfl) (om rfl (on (qqf (qqr (ι := Nat) (fun k => k ≤ c.1.length) (fun k r => (9, .p (.int .i64 ((k : Nat)))) :: (3, .p (.int .i64 (totV (c.1.take k)))) :: r) (fun k r => r) (fun k => c.1.length - k) (fun _ _ => rfl) (fun _ _ => rfl) 0 (by omega) ⟨⟨rfl, rfl⟩, ⟨rfl, rfl, trivial⟩, trivial, ⟨rfl, rfl⟩, ⟨rfl, rfl⟩⟩ ?_)))))))))))))
 intro k hpre0
 refine rs (qqa (qzb rfl rfl) (on (qqe (ac rfl (fun h1 => ?_) fun h1 => ?_))))
 ·
  have h1r := h1
  try simp only [nq, nr] at h1
  have hsm := tot_take hc (k := k) (by omega); have htm := cOk_terms hc (k := k) (by omega)
  refine qqj (qqe (qqf (rs (qqa (qqy slt67 rfl rfl rfl (qqh (by omega)) rfl) (qqa (qzf (ys := [.p _, .p _]) agg135 rfl (qqh (by omega)) rfl (Nat.le_refl _)) (qq5 (fun ver => qjv qz3 rfl) fun v5x2 => ?_))))))
  refine qjo (qqs agg135 rfl rfl rfl rfl rfl rfl) ?_
  refine on (ar (om rfl (qqa (qqi fld135f0 rfl rfl) (qqa (qqc qq2 rfl rfl rfl) (qqa (qjh rfl rfl (by omega) (by omega)) (oa rfl (on (ar (qqa (qjh rfl rfl (by omega) (by omega)) (om rfl (on ?_)))))))))))
  exact ⟨k + 1, (by omega), ⟨⟨rfl, rfl⟩, ⟨rfl, qzg (by rw [totV_next (by omega)]), trivial⟩, trivial, ⟨rfl, rfl⟩, ⟨rfl, rfl⟩⟩, (by omega)⟩
 have h1r := h1
 try simp only [nq, nr] at h1
 refine qja (rs (om rfl (oa rfl (on (qqm ?_)))))
 exact qq8 rfl ⟨qzg (by rw [List.take_of_length_le (by omega)]), rfl, rfl⟩
end Go.Ab

/- Walks. -/
import Derived.Test.YtoodaakcfelaaaaBase
import Derived.Test.YtoodaakcfelaaaaSimp
import Derived.Test.YtoodaakcfelaaaaWscon2
import Derived.Test.YtoodaakcfelaaaaWsexcl
namespace Go.Ab
open Go.Proofs
set_option maxRecDepth 100000
set_option maxHeartbeats 8000000
set_option linter.unusedSimpArgs false
set_option linter.unusedVariables false
theorem f_clone (ts : List Term) (hts : ts.length ≤ 1048576) : Fn Try.prog 94 [.sl (ts.map dT)] [] (fun rr ii nn => rr = .own 0 0 ∧ ii = [] ∧ nn = [.row 83 2 (ts.map dT)]) := by
 refine qjj Try.func94 rfl (nb rfl) fun w X g => ?_
 show AWp _ _ _ ⟨[(0, .sl (ts.map dT))], []⟩
 refine rs (oa rfl (on (qqd (rs (om rfl (op_eqnil Try.underlying54 rfl fun b1 hb1 => ?_))))))
 refine on (ac rfl (fun h2 => ?_) fun h2 => ?_)
 ·
  have h2r := h2
  try simp only [nq, nr, nl] at h2
  refine rs (oa rfl (on (qjb 2 2 83 2 rfl fun v2 => ?_)))
  refine qql ?_
  exact ⟨[.own 2 v2], .own 0 0, [], [.row 83 2 _], [(2, v2)], ⟨rfl, trivial⟩, rfl, rfl, ⟨⟨rfl, rfl⟩, trivial⟩, rfl, rfl, ⟨rfl, rfl, by rw [hb1 h2]⟩⟩
 have h2r := h2
 try simp only [nq, nr, nl] at h2
 refine qqg (rs (qqu (fun ver => qza qz0 elt83 rfl rfl (by decide)) fun v5x1 => ?_))
 refine om rfl (qqu (fun ver => j_append_sl qz0 elt83 rfl rfl rfl rfl (by intro x hx; obtain ⟨t, _, rfl⟩ := List.mem_map.1 hx; rfl) (all_lf_dT ts) (by rw [qqw]; first | omega | (simp only [nr, nl]; omega)) zz) fun v5x2 => ?_)
 refine oa rfl (on (qql ?_))
 exact ⟨[.own 5 v5x2], .own 0 0, [], [.row 83 2 _], [(5, v5x2)], ⟨rfl, trivial⟩, rfl, rfl, ⟨⟨rfl, rfl⟩, trivial⟩, rfl, rfl, ⟨rfl, rfl, rfl⟩⟩
theorem f_own (c : Con) (hc : c.1.length ≤ 1048576) : Fn Try.prog 85 [.agg [.sl (c.1.map dT), .p (.int .i64 c.2)]] [] (fun rr ii nn => rr = .agg [.own 0 0, .p (.int .i64 c.2)] ∧ ii = [] ∧ nn = [.row 83 2 (c.1.map dT)]) := by
 refine qjj Try.func85 rfl (nb rfl) fun w X g => ?_
 show AWp _ _ _ ⟨[(0, .agg [.sl (c.1.map dT), .p (.int .i64 c.2)])], []⟩
 refine rs (qqu (fun ver => j_boxa rfl) fun v1x1 => ?_)
 refine qqu (fun ver => qjw qzh rfl) fun v2x2 => ?_
 refine on (rs (qqa (qqm qjp rfl rfl) (qqa (qqe qj7 rfl rfl rfl) ?_)))
 refine qzi (fun ver => qj8 (v := .own 5 ver) (hp1 := [(5, some (ver, .row 83 2 _))]) [] false [] ent94 (f_clone c.1 hc) ⟨.inl ⟨rfl, rfl⟩, trivial⟩ trivial rfl rfl rfl (fun h => by cases h) rfl (List.all_eq_true.1 rfl) (.inl rfl) rfl rfl) fun v5x3 => ?_
 refine qqa (qqm qjp rfl rfl) (qjk (qq8 qj7 rfl rfl (nb rfl) (evo rfl) rfl) ?_)
 refine on (rs (qqa (qqr (ys := [.own 5 v5x3, .p _]) qj5 rfl rfl rfl (nb rfl)) (qjk (qqk qj5 rfl rfl rfl rfl rfl rfl) ?_)))
 refine on (qql ?_)
 exact ⟨[.agg [.own 5 v5x3, .p _]], .agg [.own 0 0, .p _], [], [.row 83 2 _], [(5, v5x3)], ⟨⟨_, _, _, _, rfl, rfl, qj5, rfl⟩, trivial⟩, rfl, rfl, ⟨⟨rfl, rfl⟩, trivial⟩, rfl, rfl, ⟨rfl, rfl, rfl⟩⟩
end Go.Ab

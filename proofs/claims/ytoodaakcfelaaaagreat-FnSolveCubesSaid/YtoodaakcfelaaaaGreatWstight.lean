/- Walks. -/
import Derived.Test.YtoodaakcfelaaaaGreatBase
import Derived.Test.YtoodaakcfelaaaaGreatSimp
import Derived.Test.YtoodaakcfelaaaaGreatWstab
namespace Go.Ab
open Go.Proofs
set_option maxRecDepth 100000
set_option maxHeartbeats 8000000
set_option linter.unusedSimpArgs false
set_option linter.unusedVariables false
theorem f_clone (ts : List Term) (hts : ts.length ≤ 1048576) : Fn Tryz.prog 231 [.sl (ts.map dT)] [] (fun rr ii nn => rr = .own 0 0 ∧ ii = [] ∧ nn = [.row 135 2 (ts.map dT)]) := by
 refine qjl Tryz.func231 rfl (nb rfl) fun w X g => ?_
 show AWp _ _ _ ⟨[(0, .sl (ts.map dT))], []⟩
 refine rs (oa rfl (on (qqf (rs (om rfl (op_eqnil Tryz.underlying67 rfl fun b1 hb1 => ?_))))))
 refine on (ac rfl (fun h2 => ?_) fun h2 => ?_)
 ·
  have h2r := h2
  try simp only [nq, nr, nl] at h2
  refine rs (oa rfl (on (qj5 2 2 135 2 rfl fun v2 => ?_)))
  refine qqx ?_
  exact ⟨[.own 2 v2], .own 0 0, [], [.row 135 2 _], [(2, v2)], ⟨rfl, trivial⟩, rfl, rfl, ⟨⟨rfl, rfl⟩, trivial⟩, rfl, rfl, ⟨rfl, rfl, by rw [hb1 h2]⟩⟩
 have h2r := h2
 try simp only [nq, nr, nl] at h2
 refine qqo (rs (qqv (fun ver => qzh qzc qjx rfl rfl (by decide)) fun v5x1 => ?_))
 refine om rfl (qqv (fun ver => j_append_sl qzc qjx rfl rfl rfl rfl (by intro x hx; obtain ⟨t, _, rfl⟩ := List.mem_map.1 hx; rfl) (all_lf_dT ts) (by rw [qqu]; first | omega | (simp only [nr, nl]; omega)) zz) fun v5x2 => ?_)
 refine oa rfl (on (qqx ?_))
 exact ⟨[.own 5 v5x2], .own 0 0, [], [.row 135 2 _], [(5, v5x2)], ⟨rfl, trivial⟩, rfl, rfl, ⟨⟨rfl, rfl⟩, trivial⟩, rfl, rfl, ⟨rfl, rfl, rfl⟩⟩
theorem f_own (c : Con) (hc : c.1.length ≤ 1048576) : Fn Tryz.prog 189 [.agg [.sl (c.1.map dT), .p (.int .i64 c.2)]] [] (fun rr ii nn => rr = .agg [.own 0 0, .p (.int .i64 c.2)] ∧ ii = [] ∧ nn = [.row 135 2 (c.1.map dT)]) := by
 refine qjl Tryz.func189 rfl (nb rfl) fun w X g => ?_
 show AWp _ _ _ ⟨[(0, .agg [.sl (c.1.map dT), .p (.int .i64 c.2)])], []⟩
 refine rs (qqv (fun ver => qzg rfl) fun v1x1 => ?_)
 refine qqv (fun ver => qjd qjm rfl) fun v2x2 => ?_
 refine on (rs (qqa (qqi qjn rfl rfl) (qqa (qqc qjv rfl rfl rfl) ?_)))
 refine qz0 (fun ver => qza (v := .own 5 ver) (hp1 := [(5, some (ver, .row 135 2 _))]) [] false [] ent231 (f_clone c.1 hc) ⟨.inl ⟨rfl, rfl⟩, trivial⟩ trivial rfl rfl rfl (fun h => by cases h) rfl (List.all_eq_true.1 rfl) (.inl rfl) rfl rfl) fun v5x3 => ?_
 refine qqa (qqi qjn rfl rfl) (qjg (qq5 qjv rfl rfl (nb rfl) (evo rfl) rfl) ?_)
 refine on (rs (qqa (qqg (ys := [.own 5 v5x3, .p _]) qq7 rfl rfl rfl (nb rfl)) (qjg (qqe qq7 rfl rfl rfl rfl rfl rfl) ?_)))
 refine on (qqx ?_)
 exact ⟨[.agg [.own 5 v5x3, .p _]], .agg [.own 0 0, .p _], [], [.row 135 2 _], [(5, v5x3)], ⟨⟨_, _, _, _, rfl, rfl, qq7, rfl⟩, trivial⟩, rfl, rfl, ⟨⟨rfl, rfl⟩, trivial⟩, rfl, rfl, ⟨rfl, rfl, rfl⟩⟩
theorem f_copy (c : Con) (hc : c.1.length ≤ 1048576) : Fn Tryz.prog 136 [.agg [.sl (c.1.map dT), .p (.int .i64 c.2)]] [] (fun rr ii nn => rr = .agg [.own 0 0, .p (.int .i64 c.2)] ∧ ii = [] ∧ nn = [.row 135 2 (c.1.map dT)]) := by
 refine qjl Tryz.func136 rfl (nb rfl) fun w X g => ?_
 show AWp _ _ _ ⟨[(0, .agg [.sl (c.1.map dT), .p (.int .i64 c.2)])], []⟩
 refine rs (qqv (fun ver => qzg rfl) fun v1x1 => ?_)
 refine qqv (fun ver => qjd qjm rfl) fun v2x2 => ?_
 refine on (qqf (qj3 qzr (by kernel_rfl) (by kernel_rfl) fun vf => ?_))
 refine d_n' (fun ver => qzh qzc qjx rfl rfl (by decide)) ?_
 refine qql (qqi qjn rfl rfl) (qql (qqc qjv rfl rfl rfl) (d_n1' (fun ver => j_append_slN (by decide) qzc qjx rfl rfl rfl rfl (by intro x hx; obtain ⟨t, _, rfl⟩ := List.mem_map.1 hx; rfl) (all_lf_dT _) (by rw [qqu]; first | omega | (simp only [nr, nl]; omega)) zz) ?_))
 refine qql (qqi qzi rfl rfl) (qql (qqc qq6 rfl rfl rfl) (qql (qjp (parts := [(0, .tmp 6), (1, .tmp 8)]) str69 qjm rfl rfl) (d_s' (qqe qq7 rfl rfl rfl rfl rfl rfl) ?_)))
 refine qzf (by kernel_rfl) (by kernel_rfl) ?_
 refine qqx ?_
 exact ⟨[.agg [.own 6 (vf 6), .p _]], .agg [.own 0 0, .p _], [], [.row 135 2 _], [(6, (vf 6))], ⟨⟨_, _, _, _, rfl, rfl, qq7, rfl⟩, trivial⟩, rfl, rfl, ⟨⟨rfl, rfl⟩, trivial⟩, rfl, rfl, ⟨rfl, rfl, rfl⟩⟩
end Go.Ab

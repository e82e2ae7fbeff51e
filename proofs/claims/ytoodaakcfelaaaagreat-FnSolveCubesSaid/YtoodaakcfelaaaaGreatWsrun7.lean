/- Walks. -/
import Derived.Test.YtoodaakcfelaaaaGreatBase2
import Derived.Test.YtoodaakcfelaaaaGreatPf4
import Derived.Test.YtoodaakcfelaaaaGreatPf3
import Derived.Test.YtoodaakcfelaaaaGreatWsrun3
import Derived.Test.YtoodaakcfelaaaaGreatWsrun1
import Derived.Test.YtoodaakcfelaaaaGreatWssolve
import Derived.Test.YtoodaakcfelaaaaGreatWsrun5
import Derived.Test.YtoodaakcfelaaaaGreatBase
import Derived.Test.YtoodaakcfelaaaaGreatWsexcl2
import Derived.Test.YtoodaakcfelaaaaGreatWsprob
namespace Go.Ab
open Go.Proofs
set_option maxRecDepth 100000
set_option maxHeartbeats 8000000
set_option linter.unusedSimpArgs false
set_option linter.unusedVariables false
theorem f_psame1 (s t : Stp) : Fn Tryz.prog 77 [.agg [.p (.int .i64 s.1), .p (.int .i64 s.2.1), .p (.int .i64 s.2.2.1), .sl (s.2.2.2.1.map dT), .p (.int .i64 s.2.2.2.2)], .agg [.p (.int .i64 t.1), .p (.int .i64 t.2.1), .p (.int .i64 t.2.2.1), .sl (t.2.2.2.1.map dT), .p (.int .i64 t.2.2.2.2)]] [] (fun rr ii nn => rr = .p (.bool (decide (s = t))) ∧ ii = [] ∧ nn = []) := by
 refine qjl Tryz.func77 rfl (nb rfl) fun w X g => ?_
 show AWp _ _ _ ⟨[(0, .agg [.p (.int .i64 s.1), .p (.int .i64 s.2.1), .p (.int .i64 s.2.2.1), .sl (s.2.2.2.1.map dT), .p (.int .i64 s.2.2.2.2)]), (1, .agg [.p (.int .i64 t.1), .p (.int .i64 t.2.1), .p (.int .i64 t.2.2.1), .sl (t.2.2.2.1.map dT), .p (.int .i64 t.2.2.2.2)])], []⟩
 refine rs (qqv (fun ver => qzg rfl) fun v2x1 => ?_)
 refine qqv (fun ver => qzg rfl) fun v3x2 => ?_
 refine oa rfl (on (rs (qqa (qqi fld89f0 rfl rfl) (qqa (qqc qq6 rfl rfl rfl) (qqa (qqi fld89f0 rfl rfl) (qqa (qqc qq6 rfl rfl rfl) (qqa (qz5 rfl rfl) (om rfl (qqz 10 rfl (fun h1 => ?_) (fun h1 => ?_))))))))))
 ·
  have h1r := h1
  try simp only [nq, nr] at h1
  refine qqa (qqd rfl rfl h1r (qqi fld89f1 rfl rfl)) (qqa (qqd rfl rfl h1r (qqc qq6 rfl rfl rfl)) (qqa (qqd rfl rfl h1r (qqi fld89f1 rfl rfl)) (qqa (qqd rfl rfl h1r (qqc qq6 rfl rfl rfl)) (qqa (qqd rfl rfl h1r (qz5 rfl rfl)) (qqa (qqr rfl h1r (evo rfl)) (om rfl (qqz 17 rfl (fun h2 => ?_) (fun h2 => ?_))))))))
  ·
   have h2r := h2
   try simp only [nq, nr] at h2
   refine qqa (qqd rfl rfl h2r (qqi fld89f2 rfl rfl)) (qqa (qqd rfl rfl h2r (qqc qq6 rfl rfl rfl)) (qqa (qqd rfl rfl h2r (qqi fld89f2 rfl rfl)) (qqa (qqd rfl rfl h2r (qqc qq6 rfl rfl rfl)) (qqa (qqd rfl rfl h2r (qz5 rfl rfl)) (qqa (qqr rfl h2r (evo rfl)) (om rfl (qqz 24 rfl (fun h3 => ?_) (fun h3 => ?_))))))))
   ·
    have h3r := h3
    try simp only [nq, nr] at h3
    refine qqa (qqd rfl rfl h3r (qqi qz9 rfl rfl)) (qqa (qqd rfl rfl h3r (qqg (ys := [.sl _, .p _]) qq7 rfl rfl rfl (nb rfl))) (qqa (qqd rfl rfl h3r (qqi qz9 rfl rfl)) (qqa (qqd rfl rfl h3r (qqg (ys := [.sl _, .p _]) qq7 rfl rfl rfl (nb rfl))) ?_)))
    refine qq0 (qqd rfl rfl h3r (qqn (v := .p _) (hp1 := []) [] false [] ent78 (f_same _ _) ⟨.inl ⟨rfl, rfl⟩, .inl ⟨rfl, rfl⟩, trivial⟩ trivial rfl rfl (fun h => by cases h) rfl (fun _ h => by cases h) (.inl rfl) rfl rfl)) ?_
    refine qqa (qqr rfl h3r (evo rfl)) (oa rfl (on (qqx ?_)))
    exact qjt rfl ⟨qje (stp_dec (by first | (simp_all; done) | (simp_all [Prod.ext_iff]; done) | (simp_all [Prod.ext_iff]; omega))), rfl, rfl⟩
   have h3r := h3
   try simp only [nq, nr] at h3
   refine qqa (qqb rfl rfl h3r) (qqa (qqb rfl rfl h3r) (qqa (qqb rfl rfl h3r) (qqa (qqb rfl rfl h3r) (qqa (qqb rfl rfl h3r) (qqa (qqy rfl h3r (evo rfl)) (oa rfl (on (qqx ?_))))))))
   exact qjt rfl ⟨qje (stp_dec (by first | (simp_all; done) | (simp_all [Prod.ext_iff]; done) | (simp_all [Prod.ext_iff]; omega))), rfl, rfl⟩
  have h2r := h2
  try simp only [nq, nr] at h2
  refine qqa (qqb rfl rfl h2r) (qqa (qqb rfl rfl h2r) (qqa (qqb rfl rfl h2r) (qqa (qqb rfl rfl h2r) (qqa (qqb rfl rfl h2r) (qqa (qqy rfl h2r (evo rfl)) (om rfl (qqa (qqb rfl rfl rfl) (qqa (qqb rfl rfl rfl) (qqa (qqb rfl rfl rfl) (qqa (qqb rfl rfl rfl) (qqa (qqb rfl rfl rfl) (qqa (qqy rfl rfl (evo rfl)) (oa rfl ?_)))))))))))))
  refine on (qqx ?_)
  exact qjt rfl ⟨qje (stp_dec (by first | (simp_all; done) | (simp_all [Prod.ext_iff]; done) | (simp_all [Prod.ext_iff]; omega))), rfl, rfl⟩
 have h1r := h1
 try simp only [nq, nr] at h1
 refine qqa (qqb rfl rfl h1r) (qqa (qqb rfl rfl h1r) (qqa (qqb rfl rfl h1r) (qqa (qqb rfl rfl h1r) (qqa (qqb rfl rfl h1r) (qqa (qqy rfl h1r (evo rfl)) (om rfl (qqa (qqb rfl rfl rfl) (qqa (qqb rfl rfl rfl) (qqa (qqb rfl rfl rfl) (qqa (qqb rfl rfl rfl) (qqa (qqb rfl rfl rfl) (qqa (qqy rfl rfl (evo rfl)) (om rfl ?_)))))))))))))
 refine qqa (qqb rfl rfl rfl) (qqa (qqb rfl rfl rfl) (qqa (qqb rfl rfl rfl) (qqa (qqb rfl rfl rfl) (qqa (qqb rfl rfl rfl) (qqa (qqy rfl rfl (evo rfl)) (oa rfl (on (qqx ?_))))))))
 exact qjt rfl ⟨qje (stp_dec (by first | (simp_all; done) | (simp_all [Prod.ext_iff]; done) | (simp_all [Prod.ext_iff]; omega))), rfl, rfl⟩
end Go.Ab

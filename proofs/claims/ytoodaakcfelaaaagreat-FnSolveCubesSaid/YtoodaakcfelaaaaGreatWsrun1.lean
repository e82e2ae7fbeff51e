/- Walks. -/
import Derived.Test.YtoodaakcfelaaaaGreatBase
import Derived.Test.YtoodaakcfelaaaaGreatPf3
import Derived.Test.YtoodaakcfelaaaaGreatWsrup
import Derived.Test.YtoodaakcfelaaaaGreatWsmul
import Derived.Test.YtoodaakcfelaaaaGreatWssimp
import Derived.Test.YtoodaakcfelaaaaGreatWstight
namespace Go.Ab
open Go.Proofs
set_option maxRecDepth 100000
set_option maxHeartbeats 8000000
set_option linter.unusedSimpArgs false
set_option linter.unusedVariables false
theorem f_refers (k : Int) : Fn Tryz.prog 232 [.p (.int .i64 (k))] [] (fun rr ii nn => rr = .tup [.p (.int .i64 (refK k).1), .p (.bool (refK k).2)] ∧ ii = [] ∧ nn = []) := by
 refine qjl Tryz.func232 rfl (nb rfl) fun w X g => ?_
 show AWp _ _ _ ⟨[(0, .p (.int .i64 (k)))], []⟩
 refine rs (oa rfl (oa rfl (on (qqf (rs (om rfl (on (qqk (rs (qqa (qz5 rfl rfl) (oa rfl (on (ac rfl (fun h1 => ?_) fun h1 => ?_)))))))))))))
 ·
  have h1r := h1
  try simp only [nq, nr] at h1
  refine rs (oa rfl (oa rfl (on (qqx ?_))))
  exact ⟨[.p _, .p _], .tup [.p _, .p _], [], [], [], ⟨rfl, rfl, trivial⟩, rfl, rfl, trivial, rfl, rfl, ⟨by have e : refK k = (2, false) := (by unfold refK; (repeat' split) <;> first | rfl | (exfalso; omega)); rw [e], rfl, rfl⟩⟩
 have h1r := h1
 try simp only [nq, nr] at h1
 refine qqf (rs (qqa (qz5 rfl rfl) (oa rfl (on (ac rfl (fun h2 => ?_) fun h2 => ?_)))))
 ·
  have h2r := h2
  try simp only [nq, nr] at h2
  refine qqo (a_cond rfl (fun hh => ?_) (fun hh => absurd (Eq.trans (Eq.symm h2r) hh) (by decide)))
  refine rs (oa rfl (oa rfl (on (qqx ?_))))
  exact ⟨[.p _, .p _], .tup [.p _, .p _], [], [], [], ⟨rfl, rfl, trivial⟩, rfl, rfl, trivial, rfl, rfl, ⟨by have e : refK k = (1, true) := (by unfold refK; (repeat' split) <;> first | rfl | (exfalso; omega)); rw [e], rfl, rfl⟩⟩
 have h2r := h2
 try simp only [nq, nr] at h2
 refine rs (qqa (qz5 rfl rfl) (oa rfl (on (ac rfl (fun h3 => ?_) fun h3 => ?_))))
 ·
  have h3r := h3
  try simp only [nq, nr] at h3
  refine qqo (a_cond rfl (fun hh => ?_) (fun hh => absurd (Eq.trans (Eq.symm h3r) hh) (by decide)))
  refine rs (oa rfl (oa rfl (on (qqx ?_))))
  exact ⟨[.p _, .p _], .tup [.p _, .p _], [], [], [], ⟨rfl, rfl, trivial⟩, rfl, rfl, trivial, rfl, rfl, ⟨by have e : refK k = (1, true) := (by unfold refK; (repeat' split) <;> first | rfl | (exfalso; omega)); rw [e], rfl, rfl⟩⟩
 have h3r := h3
 try simp only [nq, nr] at h3
 refine ar (qqa (qz5 rfl rfl) (oa rfl (on (ac rfl (fun h4 => ?_) fun h4 => ?_))))
 ·
  have h4r := h4
  try simp only [nq, nr] at h4
  refine rs (oa rfl (oa rfl (on (qqx ?_))))
  exact ⟨[.p _, .p _], .tup [.p _, .p _], [], [], [], ⟨rfl, rfl, trivial⟩, rfl, rfl, trivial, rfl, rfl, ⟨by have e : refK k = (1, true) := (by unfold refK; (repeat' split) <;> first | rfl | (exfalso; omega)); rw [e], rfl, rfl⟩⟩
 have h4r := h4
 try simp only [nq, nr] at h4
 refine qqf (rs (qqa (qz5 rfl rfl) (oa rfl (on (ac rfl (fun h5 => ?_) fun h5 => ?_)))))
 ·
  have h5r := h5
  try simp only [nq, nr] at h5
  refine qqo (a_cond rfl (fun hh => ?_) (fun hh => absurd (Eq.trans (Eq.symm h5r) hh) (by decide)))
  refine rs (oa rfl (oa rfl (on (qqx ?_))))
  exact ⟨[.p _, .p _], .tup [.p _, .p _], [], [], [], ⟨rfl, rfl, trivial⟩, rfl, rfl, trivial, rfl, rfl, ⟨by have e : refK k = (1, false) := (by unfold refK; (repeat' split) <;> first | rfl | (exfalso; omega)); rw [e], rfl, rfl⟩⟩
 have h5r := h5
 try simp only [nq, nr] at h5
 refine ar (qqa (qz5 rfl rfl) (oa rfl (on (ac rfl (fun h6 => ?_) fun h6 => ?_))))
 ·
  have h6r := h6
  try simp only [nq, nr] at h6
  refine rs (oa rfl (oa rfl (on (qqx ?_))))
  exact ⟨[.p _, .p _], .tup [.p _, .p _], [], [], [], ⟨rfl, rfl, trivial⟩, rfl, rfl, trivial, rfl, rfl, ⟨by have e : refK k = (1, false) := (by unfold refK; (repeat' split) <;> first | rfl | (exfalso; omega)); rw [e], rfl, rfl⟩⟩
 have h6r := h6
 try simp only [nq, nr] at h6
 refine qqf (rs (qqa (qz5 rfl rfl) (oa rfl (on (ac rfl (fun h7 => ?_) fun h7 => ?_)))))
 ·
  have h7r := h7
  try simp only [nq, nr] at h7
  refine qqo (a_cond rfl (fun hh => ?_) (fun hh => absurd (Eq.trans (Eq.symm h7r) hh) (by decide)))
  refine rs (oa rfl (oa rfl (on (qqx ?_))))
  exact ⟨[.p _, .p _], .tup [.p _, .p _], [], [], [], ⟨rfl, rfl, trivial⟩, rfl, rfl, trivial, rfl, rfl, ⟨by have e : refK k = (0, false) := (by unfold refK; (repeat' split) <;> first | rfl | (exfalso; omega)); rw [e], rfl, rfl⟩⟩
 have h7r := h7
 try simp only [nq, nr] at h7
 refine ar (qqa (qz5 rfl rfl) (oa rfl (on (ac rfl (fun h8 => ?_) fun h8 => ?_))))
 ·
  have h8r := h8
  try simp only [nq, nr] at h8
  refine rs (oa rfl (oa rfl (on (qqx ?_))))
  exact ⟨[.p _, .p _], .tup [.p _, .p _], [], [], [], ⟨rfl, rfl, trivial⟩, rfl, rfl, trivial, rfl, rfl, ⟨by have e : refK k = (0, false) := (by unfold refK; (repeat' split) <;> first | rfl | (exfalso; omega)); rw [e], rfl, rfl⟩⟩
 have h8r := h8
 try simp only [nq, nr] at h8
 refine qqo (rs (oa rfl (oa rfl (on (qqx ?_)))))
 exact ⟨[.p _, .p _], .tup [.p _, .p _], [], [], [], ⟨rfl, rfl, trivial⟩, rfl, rfl, trivial, rfl, rfl, ⟨by have e : refK k = (-1, false) := (by unfold refK; (repeat' split) <;> first | rfl | (exfalso; omega)); rw [e], rfl, rfl⟩⟩
theorem f_shaped (s : Stp) : Fn Tryz.prog 233 [.agg [.p (.int .i64 s.1), .p (.int .i64 s.2.1), .p (.int .i64 s.2.2.1), .sl (s.2.2.2.1.map dT), .p (.int .i64 s.2.2.2.2)]] [] (fun rr ii nn => rr = .p (.bool (shpV s)) ∧ ii = [] ∧ nn = []) := by
 refine qjl Tryz.func233 rfl (nb rfl) fun w X g => ?_
 show AWp _ _ _ ⟨[(0, .agg [.p (.int .i64 s.1), .p (.int .i64 s.2.1), .p (.int .i64 s.2.2.1), .sl (s.2.2.2.1.map dT), .p (.int .i64 s.2.2.2.2)])], []⟩
 refine rs (qqv (fun ver => qzg rfl) fun v1x1 => ?_)
 refine oa rfl (on (rs (qqa (qqi fld89f0 rfl rfl) (qqa (qqc qq6 rfl rfl rfl) ?_))))
 refine qq0 (qqn (v := .tup [.p _, .p _]) (hp1 := []) [] false [] ent232 (f_refers s.1) ⟨.inl ⟨rfl, rfl⟩, trivial⟩ trivial rfl rfl (fun h => by cases h) rfl (fun _ h => by cases h) (.inl rfl) rfl rfl) ?_
 refine om rfl (qqa (qqt rfl rfl) (qqa (qqt rfl rfl) (oa rfl (oa rfl (on (rs (om rfl (qqa (j_ge rfl rfl) (om rfl (qqz 13 rfl (fun h1 => ?_) (fun h1 => ?_)))))))))))
 ·
  have h1r := h1
  try simp only [nq, nr] at h1
  refine qqa (qqd rfl rfl h1r (qqj (evo rfl))) (qqa (qqd rfl rfl h1r (j_gt rfl rfl)) (qqa (qqd rfl rfl h1r (qqj (evo rfl))) (qqz 16 rfl (fun h2 => ?_) (fun h2 => ?_))))
  ·
   have h2r := h2
   try simp only [nq, nr] at h2
   refine qqa (qqb rfl rfl h2r) (qqa (qqb rfl rfl h2r) (qqa (qqb rfl rfl h2r) (qqa (qqd rfl rfl h1r (qqr rfl h2r (evo rfl))) (qqa (qqd rfl rfl h1r (qqj (evo rfl))) (qqa (qqb rfl rfl rfl) (qqa (qqb rfl rfl rfl) (qqa (qqb rfl rfl rfl) (qqa (qqd rfl rfl h1r (qqr rfl rfl (evo rfl))) (qqa (qqr rfl h1r (evo rfl)) (om rfl (qqa (qqd rfl rfl rfl (qqj (evo rfl))) (qqa (qqd rfl rfl rfl (qz5 rfl rfl)) (qqa (qqd rfl rfl rfl (qqj (evo rfl))) (qqz 30 rfl (fun h3 => ?_) (fun h3 => ?_)))))))))))))))
   ·
    have h3r := h3
    try simp only [nq, nr] at h3
    refine qqa (qqb rfl rfl h3r) (qqa (qqd rfl rfl rfl (qqr rfl h3r (evo rfl))) (qqa (qqd rfl rfl rfl (qqj (evo rfl))) (qqa (qqb rfl rfl rfl) (qqa (qqb rfl rfl rfl) (qqa (qqb rfl rfl rfl) (qqa (qqd rfl rfl rfl (qqr rfl rfl (evo rfl))) (qqa (qqr rfl rfl (evo rfl)) (om rfl (qqa (qqd rfl rfl rfl (qqi fld89f0 rfl rfl)) (qqa (qqd rfl rfl rfl (qqc qq6 rfl rfl rfl)) (qqa (qqd rfl rfl rfl (qz5 rfl rfl)) (qqa (qqd rfl rfl rfl (qqj (evo rfl))) (qqz 43 rfl (fun h4 => ?_) (fun h4 => ?_))))))))))))))
    ·
     have h4r := h4
     try simp only [nq, nr] at h4
     refine qqa (qqb rfl rfl h4r) (qqa (qqb rfl rfl h4r) (qqa (qqb rfl rfl h4r) (qqa (qqb rfl rfl h4r) (qqa (qqd rfl rfl rfl (qqr rfl h4r (evo rfl))) (qqa (qqr rfl rfl (evo rfl)) (oa rfl (on (qqx ?_))))))))
     exact qjt rfl ⟨qje (by rw [shp_eq]; first | (simp_all; done) | (simp_all; omega)), rfl, rfl⟩
    have h4r := h4
    try simp only [nq, nr] at h4
    refine qqa (qqd rfl rfl h4r (qqi qz9 rfl rfl)) (qqa (qqd rfl rfl h4r (qqg (ys := [.sl _, .p _]) qq7 rfl rfl rfl (nb rfl))) (qqa (qqd rfl rfl h4r (qjp (parts := []) str69 qjm rfl rfl)) (op_nila 46 0 rfl rfl ?_)))
    try dsimp only [List.set]
    refine qq0 (qqd rfl rfl h4r (qqn (v := .p _) (hp1 := []) [] false [] ent78 (f_same s.2.2.2 ([], 0)) ⟨.inl ⟨rfl, rfl⟩, .inl ⟨rfl, rfl⟩, trivial⟩ trivial rfl rfl (fun h => by cases h) rfl (fun _ h => by cases h) (.inl rfl) rfl rfl)) ?_
    refine qqa (qqd rfl rfl rfl (qqy rfl h4r (evo rfl))) (qqa (qqr rfl rfl (evo rfl)) (oa rfl (on (qqx ?_))))
    exact qjt rfl ⟨qje (by rw [shp_eq]; first | (simp_all; done) | (simp_all; omega)), rfl, rfl⟩
   have h3r := h3
   try simp only [nq, nr] at h3
   refine qqa (qqd rfl rfl h3r (qqj (evo rfl))) (qqa (qqd rfl rfl rfl (qqy rfl h3r (evo rfl))) (qqa (qqd rfl rfl rfl (qqj (evo rfl))) (qqz 33 rfl (fun h5 => ?_) (fun h5 => ?_))))
   ·
    have h5r := h5
    try simp only [nq, nr] at h5
    refine qqa (qqb rfl rfl h5r) (qqa (qqb rfl rfl h5r) (qqa (qqb rfl rfl h5r) (qqa (qqd rfl rfl rfl (qqr rfl h5r (evo rfl))) (qqa (qqr rfl rfl (evo rfl)) (om rfl (qqa (qqd rfl rfl rfl (qqi fld89f0 rfl rfl)) (qqa (qqd rfl rfl rfl (qqc qq6 rfl rfl rfl)) (qqa (qqd rfl rfl rfl (qz5 rfl rfl)) (qqa (qqd rfl rfl rfl (qqj (evo rfl))) (qqz 43 rfl (fun h6 => ?_) (fun h6 => ?_)))))))))))
    ·
     have h6r := h6
     try simp only [nq, nr] at h6
     refine qqa (qqb rfl rfl h6r) (qqa (qqb rfl rfl h6r) (qqa (qqb rfl rfl h6r) (qqa (qqb rfl rfl h6r) (qqa (qqd rfl rfl rfl (qqr rfl h6r (evo rfl))) (qqa (qqr rfl rfl (evo rfl)) (oa rfl (on (qqx ?_))))))))
     exact qjt rfl ⟨qje (by rw [shp_eq]; first | (simp_all; done) | (simp_all; omega)), rfl, rfl⟩
    have h6r := h6
    try simp only [nq, nr] at h6
    refine qqa (qqd rfl rfl h6r (qqi qz9 rfl rfl)) (qqa (qqd rfl rfl h6r (qqg (ys := [.sl _, .p _]) qq7 rfl rfl rfl (nb rfl))) (qqa (qqd rfl rfl h6r (qjp (parts := []) str69 qjm rfl rfl)) (op_nila 46 0 rfl rfl ?_)))
    try dsimp only [List.set]
    refine qq0 (qqd rfl rfl h6r (qqn (v := .p _) (hp1 := []) [] false [] ent78 (f_same s.2.2.2 ([], 0)) ⟨.inl ⟨rfl, rfl⟩, .inl ⟨rfl, rfl⟩, trivial⟩ trivial rfl rfl (fun h => by cases h) rfl (fun _ h => by cases h) (.inl rfl) rfl rfl)) ?_
    refine qqa (qqd rfl rfl rfl (qqy rfl h6r (evo rfl))) (qqa (qqr rfl rfl (evo rfl)) (oa rfl (on (qqx ?_))))
    exact qjt rfl ⟨qje (by rw [shp_eq]; first | (simp_all; done) | (simp_all; omega)), rfl, rfl⟩
   have h5r := h5
   try simp only [nq, nr] at h5
   refine qqa (qqd rfl rfl h5r (qqi fld89f2 rfl rfl)) (qqa (qqd rfl rfl h5r (qqc qq6 rfl rfl rfl)) (qqa (qqd rfl rfl h5r (qz5 rfl rfl)) (qqa (qqd rfl rfl rfl (qqy rfl h5r (evo rfl))) (qqa (qqr rfl rfl (evo rfl)) (om rfl (qqz 39 rfl (fun h7 => ?_) (fun h7 => ?_)))))))
   ·
    have h7r := h7
    try simp only [nq, nr] at h7
    refine qqa (qqd rfl rfl h7r (qqi fld89f0 rfl rfl)) (qqa (qqd rfl rfl h7r (qqc qq6 rfl rfl rfl)) (qqa (qqd rfl rfl h7r (qz5 rfl rfl)) (qqa (qqd rfl rfl h7r (qqj (evo rfl))) (qqz 43 rfl (fun h8 => ?_) (fun h8 => ?_)))))
    ·
     have h8r := h8
     try simp only [nq, nr] at h8
     refine qqa (qqb rfl rfl h8r) (qqa (qqb rfl rfl h8r) (qqa (qqb rfl rfl h8r) (qqa (qqb rfl rfl h8r) (qqa (qqd rfl rfl h7r (qqr rfl h8r (evo rfl))) (qqa (qqr rfl h7r (evo rfl)) (oa rfl (on (qqx ?_))))))))
     exact qjt rfl ⟨qje (by rw [shp_eq]; first | (simp_all; done) | (simp_all; omega)), rfl, rfl⟩
    have h8r := h8
    try simp only [nq, nr] at h8
    refine qqa (qqd rfl rfl h8r (qqi qz9 rfl rfl)) (qqa (qqd rfl rfl h8r (qqg (ys := [.sl _, .p _]) qq7 rfl rfl rfl (nb rfl))) (qqa (qqd rfl rfl h8r (qjp (parts := []) str69 qjm rfl rfl)) (op_nila 46 0 rfl rfl ?_)))
    try dsimp only [List.set]
    refine qq0 (qqd rfl rfl h8r (qqn (v := .p _) (hp1 := []) [] false [] ent78 (f_same s.2.2.2 ([], 0)) ⟨.inl ⟨rfl, rfl⟩, .inl ⟨rfl, rfl⟩, trivial⟩ trivial rfl rfl (fun h => by cases h) rfl (fun _ h => by cases h) (.inl rfl) rfl rfl)) ?_
    refine qqa (qqd rfl rfl h7r (qqy rfl h8r (evo rfl))) (qqa (qqr rfl h7r (evo rfl)) (oa rfl (on (qqx ?_))))
    exact qjt rfl ⟨qje (by rw [shp_eq]; first | (simp_all; done) | (simp_all; omega)), rfl, rfl⟩
   have h7r := h7
   try simp only [nq, nr] at h7
   refine qqa (qqb rfl rfl h7r) (qqa (qqb rfl rfl h7r) (qqa (qqb rfl rfl h7r) (qqa (qqb rfl rfl h7r) (qqa (qqp rfl rfl) (qqa (qqp rfl rfl) (qqa (qqp rfl rfl) (qqa (qqp rfl rfl) (qqa (qqb rfl rfl h7r) (qqa (qqy rfl h7r (evo rfl)) (oa rfl (on (qqx ?_))))))))))))
   exact qjt rfl ⟨qje (by rw [shp_eq]; first | (simp_all; done) | (simp_all; omega)), rfl, rfl⟩
  have h2r := h2
  try simp only [nq, nr] at h2
  refine qqa (qqd rfl rfl h2r (qqi fld89f0 rfl rfl)) (qqa (qqd rfl rfl h2r (qqc qq6 rfl rfl rfl)) (qqa (qqd rfl rfl h2r (qz5 rfl rfl)) (qqa (qqd rfl rfl h1r (qqy rfl h2r (evo rfl))) (qqa (qqd rfl rfl h1r (qqj (evo rfl))) (qqz 21 rfl (fun h9 => ?_) (fun h9 => ?_))))))
  ·
   have h9r := h9
   try simp only [nq, nr] at h9
   refine qqa (qqb rfl rfl h9r) (qqa (qqb rfl rfl h9r) (qqa (qqb rfl rfl h9r) (qqa (qqd rfl rfl h1r (qqr rfl h9r (evo rfl))) (qqa (qqr rfl h1r (evo rfl)) (om rfl (qqa (qqd rfl rfl rfl (qqj (evo rfl))) (qqa (qqd rfl rfl rfl (qz5 rfl rfl)) (qqa (qqd rfl rfl rfl (qqj (evo rfl))) (qqz 30 rfl (fun h10 => ?_) (fun h10 => ?_))))))))))
   ·
    have h10r := h10
    try simp only [nq, nr] at h10
    refine qqa (qqb rfl rfl h10r) (qqa (qqd rfl rfl rfl (qqr rfl h10r (evo rfl))) (qqa (qqd rfl rfl rfl (qqj (evo rfl))) (qqa (qqb rfl rfl rfl) (qqa (qqb rfl rfl rfl) (qqa (qqb rfl rfl rfl) (qqa (qqd rfl rfl rfl (qqr rfl rfl (evo rfl))) (qqa (qqr rfl rfl (evo rfl)) (om rfl (qqa (qqd rfl rfl rfl (qqi fld89f0 rfl rfl)) (qqa (qqd rfl rfl rfl (qqc qq6 rfl rfl rfl)) (qqa (qqd rfl rfl rfl (qz5 rfl rfl)) (qqa (qqd rfl rfl rfl (qqj (evo rfl))) (qqz 43 rfl (fun h11 => ?_) (fun h11 => ?_))))))))))))))
    ·
     have h11r := h11
     try simp only [nq, nr] at h11
     refine qqa (qqb rfl rfl h11r) (qqa (qqb rfl rfl h11r) (qqa (qqb rfl rfl h11r) (qqa (qqb rfl rfl h11r) (qqa (qqd rfl rfl rfl (qqr rfl h11r (evo rfl))) (qqa (qqr rfl rfl (evo rfl)) (oa rfl (on (qqx ?_))))))))
     exact qjt rfl ⟨qje (by rw [shp_eq]; first | (simp_all; done) | (simp_all; omega)), rfl, rfl⟩
    have h11r := h11
    try simp only [nq, nr] at h11
    refine qqa (qqd rfl rfl h11r (qqi qz9 rfl rfl)) (qqa (qqd rfl rfl h11r (qqg (ys := [.sl _, .p _]) qq7 rfl rfl rfl (nb rfl))) (qqa (qqd rfl rfl h11r (qjp (parts := []) str69 qjm rfl rfl)) (op_nila 46 0 rfl rfl ?_)))
    try dsimp only [List.set]
    refine qq0 (qqd rfl rfl h11r (qqn (v := .p _) (hp1 := []) [] false [] ent78 (f_same s.2.2.2 ([], 0)) ⟨.inl ⟨rfl, rfl⟩, .inl ⟨rfl, rfl⟩, trivial⟩ trivial rfl rfl (fun h => by cases h) rfl (fun _ h => by cases h) (.inl rfl) rfl rfl)) ?_
    refine qqa (qqd rfl rfl rfl (qqy rfl h11r (evo rfl))) (qqa (qqr rfl rfl (evo rfl)) (oa rfl (on (qqx ?_))))
    exact qjt rfl ⟨qje (by rw [shp_eq]; first | (simp_all; done) | (simp_all; omega)), rfl, rfl⟩
   have h10r := h10
   try simp only [nq, nr] at h10
   refine qqa (qqd rfl rfl h10r (qqj (evo rfl))) (qqa (qqd rfl rfl rfl (qqy rfl h10r (evo rfl))) (qqa (qqd rfl rfl rfl (qqj (evo rfl))) (qqz 33 rfl (fun h12 => ?_) (fun h12 => ?_))))
   ·
    have h12r := h12
    try simp only [nq, nr] at h12
    refine qqa (qqb rfl rfl h12r) (qqa (qqb rfl rfl h12r) (qqa (qqb rfl rfl h12r) (qqa (qqd rfl rfl rfl (qqr rfl h12r (evo rfl))) (qqa (qqr rfl rfl (evo rfl)) (om rfl (qqa (qqd rfl rfl rfl (qqi fld89f0 rfl rfl)) (qqa (qqd rfl rfl rfl (qqc qq6 rfl rfl rfl)) (qqa (qqd rfl rfl rfl (qz5 rfl rfl)) (qqa (qqd rfl rfl rfl (qqj (evo rfl))) (qqz 43 rfl (fun h13 => ?_) (fun h13 => ?_)))))))))))
    ·
     have h13r := h13
     try simp only [nq, nr] at h13
     refine qqa (qqb rfl rfl h13r) (qqa (qqb rfl rfl h13r) (qqa (qqb rfl rfl h13r) (qqa (qqb rfl rfl h13r) (qqa (qqd rfl rfl rfl (qqr rfl h13r (evo rfl))) (qqa (qqr rfl rfl (evo rfl)) (oa rfl (on (qqx ?_))))))))
     exact qjt rfl ⟨qje (by rw [shp_eq]; first | (simp_all; done) | (simp_all; omega)), rfl, rfl⟩
    have h13r := h13
    try simp only [nq, nr] at h13
    refine qqa (qqd rfl rfl h13r (qqi qz9 rfl rfl)) (qqa (qqd rfl rfl h13r (qqg (ys := [.sl _, .p _]) qq7 rfl rfl rfl (nb rfl))) (qqa (qqd rfl rfl h13r (qjp (parts := []) str69 qjm rfl rfl)) (op_nila 46 0 rfl rfl ?_)))
    try dsimp only [List.set]
    refine qq0 (qqd rfl rfl h13r (qqn (v := .p _) (hp1 := []) [] false [] ent78 (f_same s.2.2.2 ([], 0)) ⟨.inl ⟨rfl, rfl⟩, .inl ⟨rfl, rfl⟩, trivial⟩ trivial rfl rfl (fun h => by cases h) rfl (fun _ h => by cases h) (.inl rfl) rfl rfl)) ?_
    refine qqa (qqd rfl rfl rfl (qqy rfl h13r (evo rfl))) (qqa (qqr rfl rfl (evo rfl)) (oa rfl (on (qqx ?_))))
    exact qjt rfl ⟨qje (by rw [shp_eq]; first | (simp_all; done) | (simp_all; omega)), rfl, rfl⟩
   have h12r := h12
   try simp only [nq, nr] at h12
   refine qqa (qqd rfl rfl h12r (qqi fld89f2 rfl rfl)) (qqa (qqd rfl rfl h12r (qqc qq6 rfl rfl rfl)) (qqa (qqd rfl rfl h12r (qz5 rfl rfl)) (qqa (qqd rfl rfl rfl (qqy rfl h12r (evo rfl))) (qqa (qqr rfl rfl (evo rfl)) (om rfl (qqz 39 rfl (fun h14 => ?_) (fun h14 => ?_)))))))
   ·
    have h14r := h14
    try simp only [nq, nr] at h14
    refine qqa (qqd rfl rfl h14r (qqi fld89f0 rfl rfl)) (qqa (qqd rfl rfl h14r (qqc qq6 rfl rfl rfl)) (qqa (qqd rfl rfl h14r (qz5 rfl rfl)) (qqa (qqd rfl rfl h14r (qqj (evo rfl))) (qqz 43 rfl (fun h15 => ?_) (fun h15 => ?_)))))
    ·
     have h15r := h15
     try simp only [nq, nr] at h15
     refine qqa (qqb rfl rfl h15r) (qqa (qqb rfl rfl h15r) (qqa (qqb rfl rfl h15r) (qqa (qqb rfl rfl h15r) (qqa (qqd rfl rfl h14r (qqr rfl h15r (evo rfl))) (qqa (qqr rfl h14r (evo rfl)) (oa rfl (on (qqx ?_))))))))
     exact qjt rfl ⟨qje (by rw [shp_eq]; first | (simp_all; done) | (simp_all; omega)), rfl, rfl⟩
    have h15r := h15
    try simp only [nq, nr] at h15
    refine qqa (qqd rfl rfl h15r (qqi qz9 rfl rfl)) (qqa (qqd rfl rfl h15r (qqg (ys := [.sl _, .p _]) qq7 rfl rfl rfl (nb rfl))) (qqa (qqd rfl rfl h15r (qjp (parts := []) str69 qjm rfl rfl)) (op_nila 46 0 rfl rfl ?_)))
    try dsimp only [List.set]
    refine qq0 (qqd rfl rfl h15r (qqn (v := .p _) (hp1 := []) [] false [] ent78 (f_same s.2.2.2 ([], 0)) ⟨.inl ⟨rfl, rfl⟩, .inl ⟨rfl, rfl⟩, trivial⟩ trivial rfl rfl (fun h => by cases h) rfl (fun _ h => by cases h) (.inl rfl) rfl rfl)) ?_
    refine qqa (qqd rfl rfl h14r (qqy rfl h15r (evo rfl))) (qqa (qqr rfl h14r (evo rfl)) (oa rfl (on (qqx ?_))))
    exact qjt rfl ⟨qje (by rw [shp_eq]; first | (simp_all; done) | (simp_all; omega)), rfl, rfl⟩
   have h14r := h14
   try simp only [nq, nr] at h14
   refine qqa (qqb rfl rfl h14r) (qqa (qqb rfl rfl h14r) (qqa (qqb rfl rfl h14r) (qqa (qqb rfl rfl h14r) (qqa (qqp rfl rfl) (qqa (qqp rfl rfl) (qqa (qqp rfl rfl) (qqa (qqp rfl rfl) (qqa (qqb rfl rfl h14r) (qqa (qqy rfl h14r (evo rfl)) (oa rfl (on (qqx ?_))))))))))))
   exact qjt rfl ⟨qje (by rw [shp_eq]; first | (simp_all; done) | (simp_all; omega)), rfl, rfl⟩
  have h9r := h9
  try simp only [nq, nr] at h9
  refine qqa (qqd rfl rfl h9r (qqi fld89f1 rfl rfl)) (qqa (qqd rfl rfl h9r (qqc qq6 rfl rfl rfl)) (qqa (qqd rfl rfl h9r (qz5 rfl rfl)) (qqa (qqd rfl rfl h1r (qqy rfl h9r (evo rfl))) (qqa (qqr rfl h1r (evo rfl)) (om rfl (qqz 27 rfl (fun h16 => ?_) (fun h16 => ?_)))))))
  ·
   have h16r := h16
   try simp only [nq, nr] at h16
   refine qqa (qqd rfl rfl h16r (qqj (evo rfl))) (qqa (qqd rfl rfl h16r (qz5 rfl rfl)) (qqa (qqd rfl rfl h16r (qqj (evo rfl))) (qqz 30 rfl (fun h17 => ?_) (fun h17 => ?_))))
   ·
    have h17r := h17
    try simp only [nq, nr] at h17
    refine qqa (qqb rfl rfl h17r) (qqa (qqd rfl rfl h16r (qqr rfl h17r (evo rfl))) (qqa (qqd rfl rfl h16r (qqj (evo rfl))) (qqa (qqb rfl rfl rfl) (qqa (qqb rfl rfl rfl) (qqa (qqb rfl rfl rfl) (qqa (qqd rfl rfl h16r (qqr rfl rfl (evo rfl))) (qqa (qqr rfl h16r (evo rfl)) (om rfl (qqa (qqd rfl rfl rfl (qqi fld89f0 rfl rfl)) (qqa (qqd rfl rfl rfl (qqc qq6 rfl rfl rfl)) (qqa (qqd rfl rfl rfl (qz5 rfl rfl)) (qqa (qqd rfl rfl rfl (qqj (evo rfl))) (qqz 43 rfl (fun h18 => ?_) (fun h18 => ?_))))))))))))))
    ·
     have h18r := h18
     try simp only [nq, nr] at h18
     refine qqa (qqb rfl rfl h18r) (qqa (qqb rfl rfl h18r) (qqa (qqb rfl rfl h18r) (qqa (qqb rfl rfl h18r) (qqa (qqd rfl rfl rfl (qqr rfl h18r (evo rfl))) (qqa (qqr rfl rfl (evo rfl)) (oa rfl (on (qqx ?_))))))))
     exact qjt rfl ⟨qje (by rw [shp_eq]; first | (simp_all; done) | (simp_all; omega)), rfl, rfl⟩
    have h18r := h18
    try simp only [nq, nr] at h18
    refine qqa (qqd rfl rfl h18r (qqi qz9 rfl rfl)) (qqa (qqd rfl rfl h18r (qqg (ys := [.sl _, .p _]) qq7 rfl rfl rfl (nb rfl))) (qqa (qqd rfl rfl h18r (qjp (parts := []) str69 qjm rfl rfl)) (op_nila 46 0 rfl rfl ?_)))
    try dsimp only [List.set]
    refine qq0 (qqd rfl rfl h18r (qqn (v := .p _) (hp1 := []) [] false [] ent78 (f_same s.2.2.2 ([], 0)) ⟨.inl ⟨rfl, rfl⟩, .inl ⟨rfl, rfl⟩, trivial⟩ trivial rfl rfl (fun h => by cases h) rfl (fun _ h => by cases h) (.inl rfl) rfl rfl)) ?_
    refine qqa (qqd rfl rfl rfl (qqy rfl h18r (evo rfl))) (qqa (qqr rfl rfl (evo rfl)) (oa rfl (on (qqx ?_))))
    exact qjt rfl ⟨qje (by rw [shp_eq]; first | (simp_all; done) | (simp_all; omega)), rfl, rfl⟩
   have h17r := h17
   try simp only [nq, nr] at h17
   refine qqa (qqd rfl rfl h17r (qqj (evo rfl))) (qqa (qqd rfl rfl h16r (qqy rfl h17r (evo rfl))) (qqa (qqd rfl rfl h16r (qqj (evo rfl))) (qqz 33 rfl (fun h19 => ?_) (fun h19 => ?_))))
   ·
    have h19r := h19
    try simp only [nq, nr] at h19
    refine qqa (qqb rfl rfl h19r) (qqa (qqb rfl rfl h19r) (qqa (qqb rfl rfl h19r) (qqa (qqd rfl rfl h16r (qqr rfl h19r (evo rfl))) (qqa (qqr rfl h16r (evo rfl)) (om rfl (qqa (qqd rfl rfl rfl (qqi fld89f0 rfl rfl)) (qqa (qqd rfl rfl rfl (qqc qq6 rfl rfl rfl)) (qqa (qqd rfl rfl rfl (qz5 rfl rfl)) (qqa (qqd rfl rfl rfl (qqj (evo rfl))) (qqz 43 rfl (fun h20 => ?_) (fun h20 => ?_)))))))))))
    ·
     have h20r := h20
     try simp only [nq, nr] at h20
     refine qqa (qqb rfl rfl h20r) (qqa (qqb rfl rfl h20r) (qqa (qqb rfl rfl h20r) (qqa (qqb rfl rfl h20r) (qqa (qqd rfl rfl rfl (qqr rfl h20r (evo rfl))) (qqa (qqr rfl rfl (evo rfl)) (oa rfl (on (qqx ?_))))))))
     exact qjt rfl ⟨qje (by rw [shp_eq]; first | (simp_all; done) | (simp_all; omega)), rfl, rfl⟩
    have h20r := h20
    try simp only [nq, nr] at h20
    refine qqa (qqd rfl rfl h20r (qqi qz9 rfl rfl)) (qqa (qqd rfl rfl h20r (qqg (ys := [.sl _, .p _]) qq7 rfl rfl rfl (nb rfl))) (qqa (qqd rfl rfl h20r (qjp (parts := []) str69 qjm rfl rfl)) (op_nila 46 0 rfl rfl ?_)))
    try dsimp only [List.set]
    refine qq0 (qqd rfl rfl h20r (qqn (v := .p _) (hp1 := []) [] false [] ent78 (f_same s.2.2.2 ([], 0)) ⟨.inl ⟨rfl, rfl⟩, .inl ⟨rfl, rfl⟩, trivial⟩ trivial rfl rfl (fun h => by cases h) rfl (fun _ h => by cases h) (.inl rfl) rfl rfl)) ?_
    refine qqa (qqd rfl rfl rfl (qqy rfl h20r (evo rfl))) (qqa (qqr rfl rfl (evo rfl)) (oa rfl (on (qqx ?_))))
    exact qjt rfl ⟨qje (by rw [shp_eq]; first | (simp_all; done) | (simp_all; omega)), rfl, rfl⟩
   have h19r := h19
   try simp only [nq, nr] at h19
   refine qqa (qqd rfl rfl h19r (qqi fld89f2 rfl rfl)) (qqa (qqd rfl rfl h19r (qqc qq6 rfl rfl rfl)) (qqa (qqd rfl rfl h19r (qz5 rfl rfl)) (qqa (qqd rfl rfl h16r (qqy rfl h19r (evo rfl))) (qqa (qqr rfl h16r (evo rfl)) (om rfl (qqz 39 rfl (fun h21 => ?_) (fun h21 => ?_)))))))
   ·
    have h21r := h21
    try simp only [nq, nr] at h21
    refine qqa (qqd rfl rfl h21r (qqi fld89f0 rfl rfl)) (qqa (qqd rfl rfl h21r (qqc qq6 rfl rfl rfl)) (qqa (qqd rfl rfl h21r (qz5 rfl rfl)) (qqa (qqd rfl rfl h21r (qqj (evo rfl))) (qqz 43 rfl (fun h22 => ?_) (fun h22 => ?_)))))
    ·
     have h22r := h22
     try simp only [nq, nr] at h22
     refine qqa (qqb rfl rfl h22r) (qqa (qqb rfl rfl h22r) (qqa (qqb rfl rfl h22r) (qqa (qqb rfl rfl h22r) (qqa (qqd rfl rfl h21r (qqr rfl h22r (evo rfl))) (qqa (qqr rfl h21r (evo rfl)) (oa rfl (on (qqx ?_))))))))
     exact qjt rfl ⟨qje (by rw [shp_eq]; first | (simp_all; done) | (simp_all; omega)), rfl, rfl⟩
    have h22r := h22
    try simp only [nq, nr] at h22
    refine qqa (qqd rfl rfl h22r (qqi qz9 rfl rfl)) (qqa (qqd rfl rfl h22r (qqg (ys := [.sl _, .p _]) qq7 rfl rfl rfl (nb rfl))) (qqa (qqd rfl rfl h22r (qjp (parts := []) str69 qjm rfl rfl)) (op_nila 46 0 rfl rfl ?_)))
    try dsimp only [List.set]
    refine qq0 (qqd rfl rfl h22r (qqn (v := .p _) (hp1 := []) [] false [] ent78 (f_same s.2.2.2 ([], 0)) ⟨.inl ⟨rfl, rfl⟩, .inl ⟨rfl, rfl⟩, trivial⟩ trivial rfl rfl (fun h => by cases h) rfl (fun _ h => by cases h) (.inl rfl) rfl rfl)) ?_
    refine qqa (qqd rfl rfl h21r (qqy rfl h22r (evo rfl))) (qqa (qqr rfl h21r (evo rfl)) (oa rfl (on (qqx ?_))))
    exact qjt rfl ⟨qje (by rw [shp_eq]; first | (simp_all; done) | (simp_all; omega)), rfl, rfl⟩
   have h21r := h21
   try simp only [nq, nr] at h21
   refine qqa (qqb rfl rfl h21r) (qqa (qqb rfl rfl h21r) (qqa (qqb rfl rfl h21r) (qqa (qqb rfl rfl h21r) (qqa (qqp rfl rfl) (qqa (qqp rfl rfl) (qqa (qqp rfl rfl) (qqa (qqp rfl rfl) (qqa (qqb rfl rfl h21r) (qqa (qqy rfl h21r (evo rfl)) (oa rfl (on (qqx ?_))))))))))))
   exact qjt rfl ⟨qje (by rw [shp_eq]; first | (simp_all; done) | (simp_all; omega)), rfl, rfl⟩
  have h16r := h16
  try simp only [nq, nr] at h16
  refine qqa (qqb rfl rfl h16r) (qqa (qqb rfl rfl h16r) (qqa (qqb rfl rfl h16r) (qqa (qqp rfl rfl) (qqa (qqb rfl rfl h16r) (qqa (qqb rfl rfl h16r) (qqa (qqp rfl rfl) (qqa (qqp rfl rfl) (qqa (qqp rfl rfl) (qqa (qqb rfl rfl h16r) (qqa (qqy rfl h16r (evo rfl)) (om rfl (qqa (qqb rfl rfl rfl) (qqa (qqb rfl rfl rfl) ?_)))))))))))))
  refine qqa (qqb rfl rfl rfl) (qqa (qqb rfl rfl rfl) (qqa (qqp rfl rfl) (qqa (qqp rfl rfl) (qqa (qqp rfl rfl) (qqa (qqp rfl rfl) (qqa (qqb rfl rfl rfl) (qqa (qqy rfl rfl (evo rfl)) (oa rfl (on (qqx ?_))))))))))
  exact qjt rfl ⟨qje (by rw [shp_eq]; first | (simp_all; done) | (simp_all; omega)), rfl, rfl⟩
 have h1r := h1
 try simp only [nq, nr] at h1
 refine qqa (qqb rfl rfl h1r) (qqa (qqb rfl rfl h1r) (qqa (qqb rfl rfl h1r) (qqa (qqp rfl rfl) (qqa (qqp rfl rfl) (qqa (qqp rfl rfl) (qqa (qqb rfl rfl h1r) (qqa (qqb rfl rfl h1r) (qqa (qqp rfl rfl) (qqa (qqp rfl rfl) (qqa (qqp rfl rfl) (qqa (qqb rfl rfl h1r) (qqa (qqy rfl h1r (evo rfl)) (om rfl ?_)))))))))))))
 refine qqa (qqb rfl rfl rfl) (qqa (qqb rfl rfl rfl) (qqa (qqb rfl rfl rfl) (qqa (qqp rfl rfl) (qqa (qqb rfl rfl rfl) (qqa (qqb rfl rfl rfl) (qqa (qqp rfl rfl) (qqa (qqp rfl rfl) (qqa (qqp rfl rfl) (qqa (qqb rfl rfl rfl) (qqa (qqy rfl rfl (evo rfl)) (om rfl (qqa (qqb rfl rfl rfl) (qqa (qqb rfl rfl rfl) ?_)))))))))))))
 refine qqa (qqb rfl rfl rfl) (qqa (qqb rfl rfl rfl) (qqa (qqp rfl rfl) (qqa (qqp rfl rfl) (qqa (qqp rfl rfl) (qqa (qqp rfl rfl) (qqa (qqb rfl rfl rfl) (qqa (qqy rfl rfl (evo rfl)) (oa rfl (on (qqx ?_))))))))))
 exact qjt rfl ⟨qje (by rw [shp_eq]; first | (simp_all; done) | (simp_all; omega)), rfl, rfl⟩
theorem f_falImpl (c : Con) : Fn Tryz.prog 146 [.agg [.sl (c.1.map dT), .p (.int .i64 c.2)]] [] (fun rr ii nn => rr = .p (.bool (falC c)) ∧ ii = [] ∧ nn = []) := by
 refine qjl Tryz.func146 rfl (nb rfl) fun w X g => ?_
 show AWp _ _ _ ⟨[(0, .agg [.sl (c.1.map dT), .p (.int .i64 c.2)])], []⟩
 refine rs (qqv (fun ver => qzg rfl) fun v1x1 => ?_)
 refine oa rfl (on (qqf (qj3 qzr (by kernel_rfl) (by kernel_rfl) fun vf => ?_)))
 refine qql (qqg (ys := [.sl _, .p _]) qq7 rfl rfl rfl (nb rfl)) ?_
 refine d_v0' (qqn (v := .p _) (hp1 := []) [] false [] ent115 (f_cvImpl c) ⟨.inl ⟨rfl, rfl⟩, trivial⟩ trivial rfl rfl (fun h => by cases h) rfl (fun _ h => by cases h) (.inl rfl) rfl rfl) ?_
 refine qql (qqj (evo rfl)) (d_split' 5 rfl (fun h1 => ?_) (fun h1 => ?_))
 ·
  have h1r := h1
  try simp only [nq, nr] at h1
  refine qql (qqd rfl rfl h1r (qqi qzi rfl rfl)) (qql (qqd rfl rfl h1r (qqc qq6 rfl rfl rfl)) (qql (qqd rfl rfl h1r (qqg (ys := [.sl _, .p _]) qq7 rfl rfl rfl (nb rfl))) ?_))
  refine d_v0' (qqd rfl rfl h1r (qqn (v := .p _) (hp1 := []) [] false [] ent169 (f_totImpl c (by assumption)) ⟨.inl ⟨rfl, rfl⟩, trivial⟩ trivial rfl rfl (fun h => by cases h) rfl (fun _ h => by cases h) (.inl rfl) rfl rfl)) ?_
  refine qql (qqd rfl rfl h1r (j_gt rfl rfl)) (qql (qqr rfl h1r (evo rfl)) (qql (qj6 (evo rfl)) (qzf (by kernel_rfl) (by kernel_rfl) ?_)))
  refine qqx ?_
  exact qjt rfl ⟨qje (by unfold falC; first | (simp_all; done) | (simp_all; omega)), rfl, rfl⟩
 have h1r := h1
 try simp only [nq, nr] at h1
 refine qql (qqb rfl rfl h1r) (qql (qqb rfl rfl h1r) (qql (qqb rfl rfl h1r) (qql (qqb rfl rfl h1r) (qql (qqb rfl rfl h1r) (qql (qqy rfl h1r (evo rfl)) (qql (qj6 (evo rfl)) (qzf (by kernel_rfl) (by kernel_rfl) ?_)))))))
 refine qqx ?_
 exact qjt rfl ⟨qje (by unfold falC; first | (simp_all; done) | (simp_all; omega)), rfl, rfl⟩
theorem f_axImpl (a : Int) : Fn Tryz.prog 240 [.p (.int .i64 (a))] [] (fun rr ii nn => rr = .tup [.agg [.sl ((axC a).1.map dT), .p (.int .i64 (axC a).2)], .p (.bool (litOk a))] ∧ ii = [] ∧ nn = []) := by
 refine qjl Tryz.func240 rfl (nb rfl) fun w X g => ?_
 show AWp _ _ _ ⟨[(0, .p (.int .i64 (a)))], []⟩
 refine rs (qqv (fun ver => qjd qjm rfl) fun v2x1 => ?_)
 refine oa rfl (on (qqf (rs (om rfl ?_))))
 refine qq0 (qqn (v := .p _) (hp1 := []) [] false [] ent106 (f_isLit a) ⟨.inl ⟨rfl, rfl⟩, trivial⟩ trivial rfl rfl (fun h => by cases h) rfl (fun _ h => by cases h) (.inl rfl) rfl rfl) ?_
 refine qqa (qzk rfl) (on (ac rfl (fun h1 => ?_) fun h1 => ?_))
 ·
  have h1r := h1
  try simp only [nq, nr] at h1
  refine rs (qqa (qjp (parts := []) str69 qjm rfl rfl) (qjg (qqe qq7 rfl rfl rfl rfl rfl rfl) ?_))
  refine oa rfl (on (qjy 0 1002 135 2 (by decide) (id := 2) rfl rfl fun v1002x2 => ?_))
  refine qjk 0 2 (by decide) trivial rfl rfl rfl rfl ?_
  try dsimp only [List.set]
  refine qqx ?_
  exact ⟨[.agg [.sl _, .p _], .p _], .tup [.agg [.sl _, .p _], .p _], [], [], [], ⟨⟨_, _, _, _, rfl, rfl, qq7, rfl⟩, rfl, trivial⟩, rfl, rfl, trivial, rfl, rfl, ⟨by unfold axC; rw [if_neg (by simp_all)]; simp_all, rfl, rfl⟩⟩
 have h1r := h1
 try simp only [nq, nr] at h1
 refine qqo (rs (om rfl (qqa (qjp (parts := [(0, .const (.int .i64 1)), (1, .tmp 8)]) str135 qjx rfl rfl) ?_)))
 refine qqv (fun ver => qqh (parts := [(0, .tmp 9)]) (es := [[_, _]]) qzc qjx rfl rfl (by decide) (by decide) rfl rfl (by simp) rfl) fun v10x3 => ?_
 refine qqa (qjp (parts := [(0, .tmp 10)]) str69 qjm rfl rfl) (qjg (qqe qq7 rfl rfl rfl rfl rfl rfl) ?_)
 refine oa rfl (on (qjk 0 2 (by decide) trivial rfl rfl rfl rfl ?_))
 try dsimp only [List.set]
 refine qqx ?_
 exact ⟨[.agg [.sl _, .p _], .p _], .tup [.agg [.sl _, .p _], .p _], [], [], [], ⟨⟨_, _, _, _, rfl, rfl, qq7, rfl⟩, rfl, trivial⟩, rfl, rfl, trivial, rfl, rfl, ⟨by have hx : litOk a = true := (by simp_all); rw [show axC a = ([(1, a)], 0) from if_pos hx, hx]; rfl, rfl, rfl⟩⟩
theorem f_weakImpl (c : Con) (v : Int) : Fn Tryz.prog 239 [.agg [.sl (c.1.map dT), .p (.int .i64 c.2)], .p (.int .i64 (v))] [] (fun rr ii nn => rr = .tup [.agg [.sl ((weakC c v).1.map dT), .p (.int .i64 (weakC c v).2)], .p (.bool (wOk c v))] ∧ ii = [] ∧ nn = []) := by
 refine qjl Tryz.func239 rfl (nb rfl) fun w X g => ?_
 show AWp _ _ _ ⟨[(0, .agg [.sl (c.1.map dT), .p (.int .i64 c.2)]), (1, .p (.int .i64 (v)))], []⟩
 refine rs (qqv (fun ver => qzg rfl) fun v2x1 => ?_)
 refine qqv (fun ver => qjd qjm rfl) fun v4x2 => ?_
 refine oa rfl (on (qqf (rs (qqa (qqg (ys := [.sl _, .p _]) qq7 rfl rfl rfl (nb rfl)) ?_))))
 refine qq0 (qqn (v := .p _) (hp1 := []) [] false [] ent115 (f_cvImpl _) ⟨.inl ⟨rfl, rfl⟩, trivial⟩ trivial rfl rfl (fun h => by cases h) rfl (fun _ h => by cases h) (.inl rfl) rfl rfl) ?_
 refine qqa (qzk rfl) (om rfl (qqz 12 rfl (fun h1 => ?_) (fun h1 => ?_)))
 ·
  have h1r := h1
  try simp only [nq, nr, nl] at h1
  refine qqa (qqb rfl rfl h1r) (qqa (qqb rfl rfl h1r) (qqa (qqb rfl rfl h1r) (qqa (qqr rfl h1r (evo rfl)) (on (a_tt rfl ?_)))))
  refine rs (qqa (qjp (parts := []) str69 qjm rfl rfl) (qjg (qqe qq7 rfl rfl rfl rfl rfl rfl) ?_))
  refine oa rfl (on (qjy 0 1004 135 2 (by decide) (id := 4) rfl rfl fun v1004x3 => ?_))
  refine qjk 0 4 (by decide) trivial rfl rfl rfl rfl ?_
  try dsimp only [List.set]
  refine qqx ?_
  exact ⟨[.agg [.sl _, .p _], .p _], .tup [.agg [.sl _, .p _], .p _], [], [], [], ⟨⟨_, _, _, _, rfl, rfl, qq7, rfl⟩, rfl, trivial⟩, rfl, rfl, trivial, rfl, rfl, ⟨by have hq : wOk c v = false := wOk_no (by first | exact .inl h1 | exact .inr (by omega)); unfold weakC; rw [hq]; rfl, rfl, rfl⟩⟩
 have h1r := h1
 try simp only [nq, nr, nl] at h1
 refine qqa (qqd rfl rfl h1r (qqj (evo rfl))) ?_
 refine qq0 (qqd rfl rfl h1r (qqn (v := .p _) (hp1 := []) [] false [] ent113 (f_within _ _ _) ⟨.inl ⟨rfl, rfl⟩, .inl ⟨rfl, rfl⟩, .inl ⟨rfl, rfl⟩, trivial⟩ trivial rfl rfl (fun h => by cases h) rfl (fun _ h => by cases h) (.inl rfl) rfl rfl)) ?_
 refine qqa (qqd rfl rfl h1r (qzk rfl)) (qqa (qqy rfl h1r (evo rfl)) (on (ac rfl (fun h2 => ?_) fun h2 => ?_)))
 ·
  have h2r := h2
  try simp only [nq, nr, nl] at h2
  refine rs (qqa (qjp (parts := []) str69 qjm rfl rfl) (qjg (qqe qq7 rfl rfl rfl rfl rfl rfl) ?_))
  refine oa rfl (on (qjy 0 1004 135 2 (by decide) (id := 4) rfl rfl fun v1004x4 => ?_))
  refine qjk 0 4 (by decide) trivial rfl rfl rfl rfl ?_
  try dsimp only [List.set]
  refine qqx ?_
  exact ⟨[.agg [.sl _, .p _], .p _], .tup [.agg [.sl _, .p _], .p _], [], [], [], ⟨⟨_, _, _, _, rfl, rfl, qq7, rfl⟩, rfl, trivial⟩, rfl, rfl, trivial, rfl, rfl, ⟨by have hq : wOk c v = false := wOk_no (by first | exact .inl h1 | exact .inr (by omega)); unfold weakC; rw [hq]; rfl, rfl, rfl⟩⟩
 have h2r := h2
 try simp only [nq, nr, nl] at h2
 refine qqo (qqf ?_)
 have hk : 1 ≤ v ∧ v ≤ 12 := by omega
 have hln := qz2 h1
 have hbd := qzv h1
 refine ar (qqa (qqi qzi rfl rfl) (qqa (qqc qq6 rfl rfl rfl) (qqa (qjp (parts := [(1, .tmp 19)]) str69 qjm rfl rfl) (qqv (fun ver => qjd qjm rfl) fun v6x5 => ?_))))
 refine qjg (qqe qq7 rfl rfl rfl rfl rfl rfl) ?_
 refine on (qjy 0 1006 135 2 (by decide) (id := 6) rfl rfl fun v1006x6 => ?_)
 refine qqf (rs (qqa (qqi qjn rfl rfl) (qqa (qqc qjv rfl rfl rfl) (qqa (qqw Tryz.underlying67 rfl) (om rfl (on (qqk (qq4 (ι := Nat × Nat) (fun x => x.1 ≤ c.1.length) (fun x r => (24, .p (.int .i64 ((x.1 : Nat)))) :: r) (fun x r => (6, some (v6x5, .box 69 [.own 1006 x.2, .p (.int .i64 (weakM v (c.1.take x.1) c.2))])) :: (1006, some (x.2, .row 135 2 ((weakT v (c.1.take x.1)).map dT))) :: r) (fun x => c.1.length - x.1) (fun _ _ => rfl) (fun _ _ => rfl) (0, v1006x6) (by first | exact (Nat.zero_le _) | (dsimp only; exact (Nat.zero_le _))) ⟨⟨rfl, rfl⟩, ⟨rfl, trivial⟩, ⟨rfl, rfl, trivial⟩, ⟨rfl, rfl⟩, ⟨rfl, rfl⟩⟩ ?_))))))))
 rintro ⟨i, vr⟩ hpre; dsimp only at hpre ⊢
 refine rs (qqa (qzt rfl rfl) (on (qqf (ac rfl (fun h3 => ?_) fun h3 => ?_))))
 ·
  have h3r := h3
  try simp only [nq, nr, nl] at h3
  refine qqo (qqf (qqk (qqf ?_)))
  have htm := cOk_terms h1 (k := i) (by omega)
  have hli := litOk_iff.1 htm.1
  have hwb := weakB_rng (v := v) (b := c.2) (ts := c.1.take i) (fun t ht => cOk_coefs h1 t (List.mem_of_mem_take ht))
  have hwl := weakT_len (v := v) (ts := c.1.take i)
  rw [List.length_take] at hwb hwl
  refine ar (qqa (qq9 qzc rfl rfl rfl (qqq zz) rfl) (qqa (qjw (ys := [.p _, .p _]) qz7 rfl (qqq zz) rfl (Nat.le_refl _)) (qqv (fun ver => qjd qjx rfl) fun v8x7 => ?_)))
  refine qjg (qqe qz7 rfl rfl rfl rfl rfl rfl) ?_
  refine on (rs (qqa (qqi qzl rfl rfl) (qqa (qqc qq6 rfl rfl rfl) ?_)))
  refine qq0 (qqn (v := .p _) (hp1 := []) [] false [] ent111 (f_varOf _ zz) ⟨.inl ⟨rfl, rfl⟩, trivial⟩ trivial rfl rfl (fun h => by cases h) rfl (fun _ h => by cases h) (.inl rfl) rfl rfl) ?_
  refine om rfl (qqa (qz5 rfl rfl) (on (ac rfl (fun h4 => ?_) fun h4 => ?_)))
  ·
   have h4r := h4
   try simp only [nq, nr, nl] at h4
   refine ar (qqa (qqi qzi rfl rfl) (qqa (qqc qq6 rfl rfl rfl) (qqa (qqi qzp rfl rfl) (qqa (qqc qq6 rfl rfl rfl) (qqa (qzw rfl rfl zz zz) (qqa (j_max rfl rfl) (qqa (qqi qzi rfl rfl) (qjg (qq5 qq6 rfl rfl (nb rfl) (evo rfl) rfl) ?_))))))))
   refine on (ar (qqa (qjh rfl rfl zz zz) (om rfl (on ?_))))
   exact ⟨(i + 1, vr), (by first | exact zz | (dsimp only; exact zz)), ⟨⟨rfl, rfl⟩, ⟨rfl, trivial⟩, ⟨box2Eq (by rw [weakM_next (by omega), if_pos (by assumption)]), qj0 (by rw [weakT_next (by omega), if_pos (by assumption), List.append_nil]), trivial⟩, ⟨rfl, rfl⟩, ⟨rfl, rfl⟩⟩, (by first | exact zz | (dsimp only; exact zz))⟩
  have h4r := h4
  try simp only [nq, nr, nl] at h4
  refine ar (qqa (qqi qjn rfl rfl) (qqa (qqc qjv rfl rfl rfl) (qqa (qqg (ys := [.p _, .p _]) qz7 rfl rfl rfl (nb rfl)) (qqv (fun ver => qqh (parts := [(0, .tmp 42)]) (es := [[_, _]]) qzc qjx rfl rfl (by decide) (by decide) rfl rfl (by simp) rfl) fun v43x8 => ?_))))
  refine qqv (fun ver => qqs qzc qjx rfl rfl rfl rfl rfl rfl (by rw [qqu]; first | omega | (simp only [nr, nl]; omega)) zz) fun v1006x9 => ?_
  refine qqa (qqi qjn rfl rfl) (qjg (qq5 qjv rfl rfl (nb rfl) (evo rfl) rfl) ?_)
  refine on (ar (qqa (qjh rfl rfl zz zz) (om rfl (on ?_))))
  exact ⟨(i + 1, v1006x9), (by first | exact zz | (dsimp only; exact zz)), ⟨⟨rfl, rfl⟩, ⟨rfl, trivial⟩, ⟨box2Eq (by rw [weakM_next (by omega), if_neg (by assumption)]), qj0 (by rw [weakT_next (by omega), if_neg (by assumption), List.map_append]; rfl), trivial⟩, ⟨rfl, rfl⟩, ⟨rfl, rfl⟩⟩, (by first | exact zz | (dsimp only; exact zz))⟩
 have h3r := h3
 try simp only [nq, nr, nl] at h3
 refine qjf (rs (qqa (qqg (ys := [.own 1006 vr, .p _]) qq7 rfl rfl rfl (nb rfl)) (qjg (qqe qq7 rfl rfl rfl rfl rfl rfl) ?_)))
 refine oa rfl (on (qjk 0 4 (by decide) trivial rfl rfl rfl rfl ?_))
 try dsimp only [List.set]
 refine qqx ?_
 exact ⟨[.agg [.sl _, .p _], .p _], .tup [.agg [.sl _, .p _], .p _], [], [], [], ⟨⟨_, _, _, _, rfl, rfl, qq7, rfl⟩, rfl, trivial⟩, rfl, rfl, trivial, rfl, rfl, ⟨by unfold weakC; rw [wOk_of h1 hk, show i = c.1.length by omega, List.take_length, if_pos rfl, weakM_all hk h1], rfl, rfl⟩⟩
end Go.Ab

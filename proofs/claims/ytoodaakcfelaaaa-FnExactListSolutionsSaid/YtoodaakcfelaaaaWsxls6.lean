/- Walks. -/
import Derived.Test.YtoodaakcfelaaaaBase
import Derived.Test.YtoodaakcfelaaaaDeep5
import Derived.Test.YtoodaakcfelaaaaWsxls4
import Derived.Test.YtoodaakcfelaaaaWsxls5
import Derived.Test.YtoodaakcfelaaaaWsmod3
import Derived.Test.YtoodaakcfelaaaaWsdeep
import Derived.Test.YtoodaakcfelaaaaDeep2
import Derived.Test.YtoodaakcfelaaaaSimp
import Derived.Test.YtoodaakcfelaaaaWsfix
import Derived.Test.YtoodaakcfelaaaaWsfun
import Derived.Test.YtoodaakcfelaaaaWsprob
import Derived.Test.YtoodaakcfelaaaaWscon2
import Derived.Test.YtoodaakcfelaaaaWstight
import Derived.Test.YtoodaakcfelaaaaWsparse
import Derived.Test.YtoodaakcfelaaaaWsexcl2
import Derived.Test.YtoodaakcfelaaaaWsexcl
import Derived.Test.YtoodaakcfelaaaaWsclau
import Derived.Test.YtoodaakcfelaaaaWslist
namespace Go.Ab
open Go.Proofs
set_option maxRecDepth 100000
set_option maxHeartbeats 8000000
set_option linter.unusedSimpArgs false
set_option linter.unusedVariables false
theorem f_listSpecS (l : List Con) (vs : List Int) (fu : Int) : Fn Try.prog 6 [.sl (l.map dC), .sl (vs.map dI), .p (.int .i64 (fu))] [] (fun rr ii nn => rr = .tup [.p (.int .i64 (lsV l vs fu).1), .sl ((lsV l vs fu).2.1.map dD), .sl (((lsV l vs fu).2.2.map rupS).map dStp)] ∧ ii = [] ∧ nn = []) := by
 rw [dSt_map]; exact f_listSpec l vs fu
theorem f_listImplS (l : List Con) (vs : List Int) (fu : Int) : Fn Try.prog 9 [.sl (l.map dC), .sl (vs.map dI), .p (.int .i64 (fu))] [] (fun rr ii nn => rr = .tup [.p (.int .i64 (lsV l vs fu).1), .own 0 0, .own 1 0] ∧ ii = [] ∧ nn = [.deep (.mk 51 1 [(0, .mk 4 1 [])]) (((lsV l vs fu).2.1).map dD) none, .deep (.mk 65 5 [(3, .mk 83 2 [])]) (((lsV l vs fu).2.2.map rupS).map dStp) none]) := by
 rw [dSt_map]; exact f_listImplD l vs fu
theorem f_lawEXL (l : List Con) (vs : List Int) (fu : Int) : Fn Try.prog 3 [.sl (l.map dC), .sl (vs.map dI), .p (.int .i64 (fu))] [] (fun rr ii nn => rr = .p (.bool true) ∧ ii = [] ∧ nn = []) := by
 refine qjj Try.func3 rfl (nb rfl) fun w X g => ?_
 show AWp _ _ _ ⟨[(0, .sl (l.map dC)), (1, .sl (vs.map dI)), (2, .p (.int .i64 (fu)))], []⟩
 refine qzb 1 rfl fun hlv => ?_
 have hlm := ls_marks (l := l) (vs := vs) (fu := fu)
 have hlk := hlm.2.2 (1 + sumW List.length (lsV l vs fu).2.1)
 refine rs (oa rfl (on (qqd (rs (om rfl (qqa (qqs Try.underlying23 rfl) (qqa (j_gt rfl rfl) (on (ac rfl (fun h1 => ?_) fun h1 => ?_)))))))))
 ·
  have h1r := h1
  try simp only [nq, nr] at h1
  refine rs (oa rfl (on (qql ?_)))
  exact qjh rfl ⟨rfl, rfl, rfl⟩
 have h1r := h1
 try simp only [nq, nr] at h1
 refine qqg (rs (oa rfl (on (rs (om rfl (om rfl ?_))))))
 refine qq4 (qqp (v := .p _) (hp1 := []) [] false [] ent5 (f_szConS l _ (by omega)) ⟨.inl ⟨rfl, rfl⟩, .inl ⟨rfl, rfl⟩, trivial⟩ trivial rfl rfl (fun h => by cases h) rfl (fun _ h => by cases h) (.inl rfl) rfl rfl) ?_
 refine oa rfl (on (qqd (rs (om rfl (qqa (qzk rfl rfl) (on (ac rfl (fun h2 => ?_) fun h2 => ?_)))))))
 ·
  have h2r := h2
  try simp only [nq, nr] at h2
  refine rs (oa rfl (on (qql ?_)))
  exact qjh rfl ⟨rfl, rfl, rfl⟩
 have h2r := h2
 try simp only [nq, nr] at h2
 have hsz := fitC_of h2
 refine qqg (rs (om rfl ?_))
 refine qzi (fun ver => qj8 (v := .own 32 ver) (hp1 := [(32, some (ver, .deep (.mk 56 2 [(0, (.mk 83 2 []))]) _ none))]) [] false [] ent7 (f_toConS l hsz) ⟨.inl ⟨rfl, rfl⟩, trivial⟩ trivial rfl rfl rfl (fun h => by cases h) rfl (List.all_eq_true.1 rfl) (.inl rfl) rfl rfl) fun v32x1 => ?_
 refine op_freezeG 32 trivial rfl rfl rfl rfl ?_
 refine om rfl ?_
 refine qzi (fun ver => qj8 (v := .own 34 ver) (hp1 := [(34, some (ver, .row 3 1 _))]) [] false [] ent8 (f_toIntS vs (by omega)) ⟨.inl ⟨rfl, rfl⟩, trivial⟩ trivial rfl rfl rfl (fun h => by cases h) rfl (List.all_eq_true.1 rfl) (.inl rfl) rfl rfl) fun v34x2 => ?_
 refine op_freezeK 34 trivial rfl rfl rfl ?_
 refine om rfl ?_
 refine qq4 (qqp (v := .tup [.p _, .sl _, .sl _]) (hp1 := []) [] false [] ent6 (f_listSpecS l vs fu) ⟨.inl ⟨rfl, rfl⟩, .inl ⟨rfl, rfl⟩, .inl ⟨rfl, rfl⟩, trivial⟩ trivial rfl rfl (fun h => by cases h) rfl (fun _ h => by cases h) (.inl rfl) rfl rfl) ?_
 refine om rfl (qqa (qqy rfl rfl) (qqa (qqy rfl rfl) (qqa (qqy rfl rfl) (oa rfl (oa rfl (oa rfl (on (rs (om rfl ?_)))))))))
 refine qzi (fun ver => qj8 (v := .own 41 ver) (hp1 := [(41, some (ver, .deep (.mk 56 2 [(0, (.mk 83 2 []))]) _ none))]) [] false [] ent7 (f_toConS l hsz) ⟨.inl ⟨rfl, rfl⟩, trivial⟩ trivial rfl rfl rfl (fun h => by cases h) rfl (List.all_eq_true.1 rfl) (.inl rfl) rfl rfl) fun v41x3 => ?_
 refine oa rfl (on (rs (om rfl ?_)))
 refine qzi (fun ver => qj8 (v := .own 43 ver) (hp1 := [(43, some (ver, .row 3 1 _))]) [] false [] ent8 (f_toIntS vs (by omega)) ⟨.inl ⟨rfl, rfl⟩, trivial⟩ trivial rfl rfl rfl (fun h => by cases h) rfl (List.all_eq_true.1 rfl) (.inl rfl) rfl rfl) fun v43x4 => ?_
 refine oa rfl (on (rs (om rfl (om rfl (om rfl (op_call2 (v := fun ver ver2 => .tup [.p _, .own 48 ver, .own 100048 ver2]) (hp1 := fun ver ver2 => [(48, some (ver, .deep (.mk 51 1 [(0, (.mk 4 1 []))]) _ none)), (100048, some (ver2, .deep (.mk 65 5 [(3, (.mk 83 2 []))]) _ none))]) [] true ent9 (f_listImplS l vs fu) ⟨.inr ⟨rfl, qzf rfl rfl, rfl⟩, .inr ⟨rfl, qj1 rfl rfl, rfl⟩, .inl ⟨rfl, rfl⟩, trivial⟩ trivial rfl rfl rfl rfl (.inr ⟨rfl, pl_list⟩) (fun _ _ => rfl) (fun _ _ => rfl) ?_))))))
 rintro  v48x5 v100048x5
 dsimp only [List.cons_append, List.nil_append]
 refine om rfl (qqa (qqy rfl rfl) (qqa (qqy rfl rfl) (qqa (qqy rfl rfl) (oa rfl (oa rfl (oa rfl (on (qqd (rs (om rfl (om rfl (qqa (j_ne rfl rfl) (om rfl (qq9 55 rfl (fun h3 => ?_) (fun h3 => ?_)))))))))))))))
 ·
  have h3r := h3
  try simp only [nq, nr] at h3
  exact absurd (of_decide_eq_true h3r) (by omega)
 have h3r := h3
 try simp only [nq, nr] at h3
 refine qqa (qqf rfl rfl h3r (qqn (evo rfl))) (qqa (qqf rfl rfl h3r (qqn (evo rfl))) ?_)
 refine qq4 (qqf rfl rfl h3r (qqp (v := .p _) (hp1 := []) [] true [48] ent10 (f_eqBoolSS (lsV l vs fu).2.1 (lsV l vs fu).2.1) ⟨.inr ⟨rfl, qzf rfl rfl, rfl⟩, .inl ⟨rfl, rfl⟩, trivial⟩ trivial rfl rfl (fun _ => rfl) rfl (fun _ h => by cases h) (.inr ⟨rfl, by first | exact qjy (fun _ => rfl) | exact qj0 | (simp [plO, plV, plV.plL]; done)⟩) rfl rfl)) ?_
 refine qqa (qqf rfl rfl h3r (j_not rfl)) (qqa (qq3 rfl h3r (evo rfl)) (om rfl (qq9 61 rfl (fun h4 => ?_) (fun h4 => ?_))))
 ·
  have h4r := h4
  try simp only [nq, nr] at h4
  exact absurd h4r (by simp)
 have h4r := h4
 try simp only [nq, nr] at h4
 refine qqa (qqf rfl rfl h4r (qqn (evo rfl))) (qqa (qqf rfl rfl h4r (qqn (evo rfl))) ?_)
 refine qq4 (qqf rfl rfl h4r (qqp (v := .p _) (hp1 := []) [] true [100048] ent11 (f_eqStepS ((lsV l vs fu).2.2.map rupS) ((lsV l vs fu).2.2.map rupS)) ⟨.inr ⟨rfl, qzf rfl rfl, rfl⟩, .inl ⟨rfl, rfl⟩, trivial⟩ trivial rfl rfl (fun _ => rfl) rfl (fun _ h => by cases h) (.inr ⟨rfl, by first | exact qjy (fun _ => rfl) | exact qj0 | (simp [plO, plV, plV.plL]; done)⟩) rfl rfl)) ?_
 refine qqa (qqf rfl rfl h4r (j_not rfl)) (qqa (qq3 rfl h4r (evo rfl)) (on (ac rfl (fun h5 => ?_) fun h5 => ?_)))
 ·
  have h5r := h5
  try simp only [nq, nr] at h5
  exact absurd h5r (by simp)
 have h5r := h5
 try simp only [nq, nr] at h5
 refine qqg (qqd (rs (om rfl (om rfl ?_))))
 refine qzi (fun ver => qj8 (v := .own 69 ver) (hp1 := [(69, some (ver, .deep (.mk 56 2 [(0, (.mk 83 2 []))]) _ none))]) [] false [] ent7 (f_toConS l hsz) ⟨.inl ⟨rfl, rfl⟩, trivial⟩ trivial rfl rfl rfl (fun h => by cases h) rfl (List.all_eq_true.1 rfl) (.inl rfl) rfl rfl) fun v69x6 => ?_
 refine qq4 (qqp (v := .p _) (hp1 := []) [] true [41, 69] ent12 (f_eqConS l l) ⟨.inr ⟨rfl, qzf rfl rfl, rfl⟩, .inr ⟨rfl, qzf rfl rfl, rfl⟩, trivial⟩ trivial rfl rfl (fun _ => rfl) rfl (fun _ h => by cases h) (.inr ⟨rfl, by first | exact qjy (fun _ => rfl) | exact qj0 | (simp [plO, plV, plV.plL]; done)⟩) rfl rfl) ?_
 refine qqa (j_not rfl) (on (ac rfl (fun h6 => ?_) fun h6 => ?_))
 ·
  have h6r := h6
  try simp only [nq, nr] at h6
  exact absurd h6r (by simp)
 have h6r := h6
 try simp only [nq, nr] at h6
 refine qqg (qqd (rs (om rfl (om rfl ?_))))
 refine qzi (fun ver => qj8 (v := .own 74 ver) (hp1 := [(74, some (ver, .row 3 1 _))]) [] false [] ent8 (f_toIntS vs (by omega)) ⟨.inl ⟨rfl, rfl⟩, trivial⟩ trivial rfl rfl rfl (fun h => by cases h) rfl (List.all_eq_true.1 rfl) (.inl rfl) rfl rfl) fun v74x7 => ?_
 refine qq4 (qqp (v := .p _) (hp1 := []) [] true [43, 74] ent13 (f_eqIntS vs vs) ⟨.inr ⟨rfl, qj1 rfl rfl, rfl⟩, .inr ⟨rfl, qj1 rfl rfl, rfl⟩, trivial⟩ trivial rfl rfl (fun _ => rfl) rfl (fun _ h => by cases h) (.inr ⟨rfl, by first | exact qjy (fun _ => rfl) | exact qj0 | (simp [plO, plV, plV.plL]; done)⟩) rfl rfl) ?_
 refine qqa (j_not rfl) (on (ac rfl (fun h7 => ?_) fun h7 => ?_))
 ·
  have h7r := h7
  try simp only [nq, nr] at h7
  exact absurd h7r (by simp)
 have h7r := h7
 try simp only [nq, nr] at h7
 refine qqg (rs (oa rfl (on (rs (om rfl (om rfl ?_))))))
 refine qq4 (qqp (v := .p _) (hp1 := [(41, some (v41x3, .deep (.mk 56 2 [(0, (.mk 83 2 []))]) _ none))]) [(41, v41x3)] false [41] ent14 (f_markConS 1 l (fitC_end hsz)) ⟨.inl ⟨rfl, rfl⟩, .inl ⟨rfl, rfl⟩, trivial⟩ ⟨⟨rfl, rfl⟩, trivial⟩ rfl rfl (fun h => by cases h) rfl (List.all_eq_true.1 rfl) (.inl rfl) rfl rfl) ?_
 refine oa rfl (on (rs (om rfl (om rfl ?_))))
 refine qq4 (qqp (v := .p _) (hp1 := [(43, some (v43x4, .row 3 1 _))]) [(43, v43x4)] false [43] ent15 (f_markIntS (endC 1 l) vs (by rw [endC_sum]; unfold fitC at hsz; omega)) ⟨.inl ⟨rfl, rfl⟩, .inl ⟨rfl, rfl⟩, trivial⟩ ⟨⟨rfl, rfl⟩, trivial⟩ rfl rfl (fun h => by cases h) rfl (List.all_eq_true.1 rfl) (.inl rfl) rfl rfl) ?_
 refine oa rfl (on (qqd (rs (om rfl (qqa (qzk rfl rfl) (om rfl (qq9 85 rfl (fun h8 => ?_) (fun h8 => ?_))))))))
 ·
  have h8r := h8
  try simp only [nq, nr] at h8
  exact absurd (of_decide_eq_true h8r) (by omega)
 have h8r := h8
 try simp only [nq, nr] at h8
 refine qqa (qqf rfl rfl h8r (qqn (evo rfl))) (qqa (qqf rfl rfl h8r (qqn (evo rfl))) (qqa (qqf rfl rfl h8r (j_ne rfl rfl)) (qqa (qq3 rfl h8r (evo rfl)) (om rfl (qq9 90 rfl (fun h9 => ?_) (fun h9 => ?_))))))
 ·
  have h9r := h9
  try simp only [nq, nr] at h9
  exact absurd h9r (by simp)
 have h9r := h9
 try simp only [nq, nr] at h9
 refine qqa (qqf rfl rfl h9r (qqn (evo rfl))) (qqa (qqf rfl rfl h9r (qqn (evo rfl))) ?_)
 refine qq4 (qqf rfl rfl h9r (qqp (v := .p _) (hp1 := []) [] true [48] ent10 (f_eqBoolSS (lsV l vs fu).2.1 (lsV l vs fu).2.1) ⟨.inr ⟨rfl, qzf rfl rfl, rfl⟩, .inl ⟨rfl, rfl⟩, trivial⟩ trivial rfl rfl (fun _ => rfl) rfl (fun _ h => by cases h) (.inr ⟨rfl, by first | exact qjy (fun _ => rfl) | exact qj0 | (simp [plO, plV, plV.plL]; done)⟩) rfl rfl)) ?_
 refine qqa (qqf rfl rfl h9r (j_not rfl)) (qqa (qq3 rfl h9r (evo rfl)) (om rfl (qq9 96 rfl (fun h10 => ?_) (fun h10 => ?_))))
 ·
  have h10r := h10
  try simp only [nq, nr] at h10
  exact absurd h10r (by simp)
 have h10r := h10
 try simp only [nq, nr] at h10
 refine qqa (qqf rfl rfl h10r (qqn (evo rfl))) (qqa (qqf rfl rfl h10r (qqn (evo rfl))) ?_)
 refine qq4 (qqf rfl rfl h10r (qqp (v := .p _) (hp1 := []) [] true [100048] ent11 (f_eqStepS ((lsV l vs fu).2.2.map rupS) ((lsV l vs fu).2.2.map rupS)) ⟨.inr ⟨rfl, qzf rfl rfl, rfl⟩, .inl ⟨rfl, rfl⟩, trivial⟩ trivial rfl rfl (fun _ => rfl) rfl (fun _ h => by cases h) (.inr ⟨rfl, by first | exact qjy (fun _ => rfl) | exact qj0 | (simp [plO, plV, plV.plL]; done)⟩) rfl rfl)) ?_
 refine qqa (qqf rfl rfl h10r (j_not rfl)) (qqa (qq3 rfl h10r (evo rfl)) (on (ac rfl (fun h11 => ?_) fun h11 => ?_)))
 ·
  have h11r := h11
  try simp only [nq, nr] at h11
  exact absurd h11r (by simp)
 have h11r := h11
 try simp only [nq, nr] at h11
 refine qqg (rs (oa rfl (on (rs (om rfl (om rfl ?_))))))
 refine qq4 (qqp (v := .p _) (hp1 := [(48, some (v48x5, .deep (.mk 51 1 [(0, (.mk 4 1 []))]) _ none))]) [(48, v48x5)] false [48] ent16 (f_markBoolSS 1 (lsV l vs fu).2.1 (by omega) (by omega)) ⟨.inl ⟨rfl, rfl⟩, .inl ⟨rfl, rfl⟩, trivial⟩ ⟨⟨rfl, rfl⟩, trivial⟩ rfl rfl (fun h => by cases h) rfl (List.all_eq_true.1 rfl) (.inl rfl) rfl rfl) ?_
 refine oa rfl (on (rs (om rfl (om rfl ?_))))
 refine qq4 (qqp (v := .p _) (hp1 := [(100048, some (v100048x5, .deep (.mk 65 5 [(3, (.mk 83 2 []))]) _ none))]) [(100048, v100048x5)] false [100048] ent17 (f_markStepS (1 + sumW List.length (lsV l vs fu).2.1) ((lsV l vs fu).2.2.map rupS) (by omega)) ⟨.inl ⟨rfl, rfl⟩, .inl ⟨rfl, rfl⟩, trivial⟩ ⟨⟨rfl, rfl⟩, trivial⟩ rfl rfl (fun h => by cases h) rfl (List.all_eq_true.1 rfl) (.inl rfl) rfl rfl) ?_
 refine oa rfl (on (rs (oa rfl (on (rs (om rfl (om rfl ?_)))))))
 refine qq4 (qqp (v := .p _) (hp1 := []) [] true [48] ent18 (f_heldBoolSS 1 (lsV l vs fu).2.1 (by omega) (by omega)) ⟨.inr ⟨rfl, qzf rfl rfl, rfl⟩, .inl ⟨rfl, rfl⟩, trivial⟩ trivial rfl rfl (fun _ => rfl) rfl (fun _ h => by cases h) (.inr ⟨rfl, by first | exact qjy (fun _ => rfl) | exact qj0 | (simp [plO, plV, plV.plL]; done)⟩) rfl rfl) ?_
 refine oa rfl (on (qqd (rs (om rfl (qqa (qzk rfl rfl) (on (ac rfl (fun h12 => ?_) fun h12 => ?_)))))))
 ·
  have h12r := h12
  try simp only [nq, nr] at h12
  exact absurd (of_decide_eq_true h12r) (by omega)
 have h12r := h12
 try simp only [nq, nr] at h12
 refine qqg (rs (om rfl (om rfl ?_)))
 refine qq4 (qqp (v := .p _) (hp1 := []) [] true [100048] ent19 (f_heldStepS (1 + sumW List.length (lsV l vs fu).2.1) ((lsV l vs fu).2.2.map rupS) (by omega)) ⟨.inr ⟨rfl, qzf rfl rfl, rfl⟩, .inl ⟨rfl, rfl⟩, trivial⟩ trivial rfl rfl (fun _ => rfl) rfl (fun _ h => by cases h) (.inr ⟨rfl, by first | exact qjy (fun _ => rfl) | exact qj0 | (simp [plO, plV, plV.plL]; done)⟩) rfl rfl) ?_
 refine oa rfl (on (qqd (rs (om rfl (qqa (qzk rfl rfl) (on (ac rfl (fun h13 => ?_) fun h13 => ?_)))))))
 ·
  have h13r := h13
  try simp only [nq, nr] at h13
  exact absurd (of_decide_eq_true h13r) (by omega)
 have h13r := h13
 try simp only [nq, nr] at h13
 refine qqg (qqd (rs (om rfl (om rfl (qqa (j_ne rfl rfl) (on (ac rfl (fun h14 => ?_) fun h14 => ?_)))))))
 ·
  have h14r := h14
  try simp only [nq, nr] at h14
  exact absurd (of_decide_eq_true h14r) (by omega)
 have h14r := h14
 try simp only [nq, nr] at h14
 refine qqg (rs (om rfl ?_))
 refine qzi (fun ver => qj8 (v := .own 123 ver) (hp1 := [(123, some (ver, .deep (.mk 56 2 [(0, (.mk 83 2 []))]) _ none))]) [] false [] ent7 (f_toConS l hsz) ⟨.inl ⟨rfl, rfl⟩, trivial⟩ trivial rfl rfl rfl (fun h => by cases h) rfl (List.all_eq_true.1 rfl) (.inl rfl) rfl rfl) fun v123x8 => ?_
 refine om rfl ?_
 refine qzi (fun ver => qj8 (v := .own 125 ver) (hp1 := [(125, some (ver, .row 3 1 _))]) [] false [] ent8 (f_toIntS vs (by omega)) ⟨.inl ⟨rfl, rfl⟩, trivial⟩ trivial rfl rfl rfl (fun h => by cases h) rfl (List.all_eq_true.1 rfl) (.inl rfl) rfl rfl) fun v125x9 => ?_
 refine om rfl (op_call2 (v := fun ver ver2 => .tup [.p _, .own 127 ver, .own 100127 ver2]) (hp1 := fun ver ver2 => [(127, some (ver, .deep (.mk 51 1 [(0, (.mk 4 1 []))]) _ none)), (100127, some (ver2, .deep (.mk 65 5 [(3, (.mk 83 2 []))]) _ none))]) [] true ent9 (f_listImplS l vs fu) ⟨.inr ⟨rfl, qzf rfl rfl, rfl⟩, .inr ⟨rfl, qj1 rfl rfl, rfl⟩, .inl ⟨rfl, rfl⟩, trivial⟩ trivial rfl rfl rfl rfl (.inr ⟨rfl, pl_list⟩) (fun _ _ => rfl) (fun _ _ => rfl) ?_)
 rintro  v127x10 v100127x10
 dsimp only [List.cons_append, List.nil_append]
 refine om rfl (qqa (qqy rfl rfl) (qqa (qqy rfl rfl) (qqa (qqy rfl rfl) (oa rfl (oa rfl (oa rfl (on (qqd (rs (om rfl (om rfl (qqa (j_ne rfl rfl) (om rfl (qq9 134 rfl (fun h15 => ?_) (fun h15 => ?_)))))))))))))))
 ·
  have h15r := h15
  try simp only [nq, nr] at h15
  exact absurd (of_decide_eq_true h15r) (by omega)
 have h15r := h15
 try simp only [nq, nr] at h15
 refine qqa (qqf rfl rfl h15r (qqn (evo rfl))) (qqa (qqf rfl rfl h15r (qqn (evo rfl))) ?_)
 refine qq4 (qqf rfl rfl h15r (qqp (v := .p _) (hp1 := []) [] true [127] ent10 (f_eqBoolSS (lsV l vs fu).2.1 (lsV l vs fu).2.1) ⟨.inr ⟨rfl, qzf rfl rfl, rfl⟩, .inl ⟨rfl, rfl⟩, trivial⟩ trivial rfl rfl (fun _ => rfl) rfl (fun _ h => by cases h) (.inr ⟨rfl, by first | exact qjy (fun _ => rfl) | exact qj0 | (simp [plO, plV, plV.plL]; done)⟩) rfl rfl)) ?_
 refine qqa (qqf rfl rfl h15r (j_not rfl)) (qqa (qq3 rfl h15r (evo rfl)) (om rfl (qq9 140 rfl (fun h16 => ?_) (fun h16 => ?_))))
 ·
  have h16r := h16
  try simp only [nq, nr] at h16
  exact absurd h16r (by simp)
 have h16r := h16
 try simp only [nq, nr] at h16
 refine qqa (qqf rfl rfl h16r (qqn (evo rfl))) (qqa (qqf rfl rfl h16r (qqn (evo rfl))) ?_)
 refine qq4 (qqf rfl rfl h16r (qqp (v := .p _) (hp1 := []) [] true [100127] ent11 (f_eqStepS ((lsV l vs fu).2.2.map rupS) ((lsV l vs fu).2.2.map rupS)) ⟨.inr ⟨rfl, qzf rfl rfl, rfl⟩, .inl ⟨rfl, rfl⟩, trivial⟩ trivial rfl rfl (fun _ => rfl) rfl (fun _ h => by cases h) (.inr ⟨rfl, by first | exact qjy (fun _ => rfl) | exact qj0 | (simp [plO, plV, plV.plL]; done)⟩) rfl rfl)) ?_
 refine qqa (qqf rfl rfl h16r (j_not rfl)) (qqa (qq3 rfl h16r (evo rfl)) (on (ac rfl (fun h17 => ?_) fun h17 => ?_)))
 ·
  have h17r := h17
  try simp only [nq, nr] at h17
  exact absurd h17r (by simp)
 have h17r := h17
 try simp only [nq, nr] at h17
 refine qqg (rs (oa rfl (on (rs (om rfl (om rfl ?_))))))
 refine qq4 (qqp (v := .p _) (hp1 := []) [] true [48] ent18 (f_heldBoolSS 1 (lsV l vs fu).2.1 (by omega) (by omega)) ⟨.inr ⟨rfl, qzf rfl rfl, rfl⟩, .inl ⟨rfl, rfl⟩, trivial⟩ trivial rfl rfl (fun _ => rfl) rfl (fun _ h => by cases h) (.inr ⟨rfl, by first | exact qjy (fun _ => rfl) | exact qj0 | (simp [plO, plV, plV.plL]; done)⟩) rfl rfl) ?_
 refine oa rfl (on (qqd (rs (om rfl (qqa (qzk rfl rfl) (on (ac rfl (fun h18 => ?_) fun h18 => ?_)))))))
 ·
  have h18r := h18
  try simp only [nq, nr] at h18
  exact absurd (of_decide_eq_true h18r) (by omega)
 have h18r := h18
 try simp only [nq, nr] at h18
 refine qqg (rs (om rfl (om rfl ?_)))
 refine qq4 (qqp (v := .p _) (hp1 := []) [] true [100048] ent19 (f_heldStepS (1 + sumW List.length (lsV l vs fu).2.1) ((lsV l vs fu).2.2.map rupS) (by omega)) ⟨.inr ⟨rfl, qzf rfl rfl, rfl⟩, .inl ⟨rfl, rfl⟩, trivial⟩ trivial rfl rfl (fun _ => rfl) rfl (fun _ h => by cases h) (.inr ⟨rfl, by first | exact qjy (fun _ => rfl) | exact qj0 | (simp [plO, plV, plV.plL]; done)⟩) rfl rfl) ?_
 refine oa rfl (on (qqd (rs (om rfl (qqa (qzk rfl rfl) (on (ac rfl (fun h19 => ?_) fun h19 => ?_)))))))
 ·
  have h19r := h19
  try simp only [nq, nr] at h19
  exact absurd (of_decide_eq_true h19r) (by omega)
 have h19r := h19
 try simp only [nq, nr] at h19
 refine qqg (qqd (rs (om rfl (om rfl (qqa (j_ne rfl rfl) (on (ac rfl (fun h20 => ?_) fun h20 => ?_)))))))
 ·
  have h20r := h20
  try simp only [nq, nr] at h20
  exact absurd (of_decide_eq_true h20r) (by omega)
 have h20r := h20
 try simp only [nq, nr] at h20
 refine qqg (rs (oa rfl (on (qql ?_))))
 exact qjh rfl ⟨rfl, rfl, rfl⟩
end Go.Ab

/- Walks. -/
import Derived.Test.YtoodaakcfelaaaaBase
import Derived.Test.YtoodaakcfelaaaaCub
import Derived.Test.YtoodaakcfelaaaaWsxls2
import Derived.Test.YtoodaakcfelaaaaWstight
import Derived.Test.YtoodaakcfelaaaaWsprob
import Derived.Test.YtoodaakcfelaaaaWsfix
import Derived.Test.YtoodaakcfelaaaaWssolveo
namespace Go.Ab
open Go.Proofs
set_option maxRecDepth 100000
set_option maxHeartbeats 8000000
set_option linter.unusedSimpArgs false
set_option linter.unusedVariables false
theorem f_solveImplD (l : List Con) (fu : Int) : Fn Try.prog 31 [.own 0 0, .p (.int .i64 (fu))] [.row 56 2 ((l).map dC)] (fun rr ii nn => rr = .tup [.p (.int .i64 (svC l fu)), .own 1 0, .own 2 0] ∧ ii = [.row 56 2 ((l).map dC)] ∧ nn = [.row 4 1 ((svV l fu).map dB), .deep (.mk 65 5 [(3, .mk 83 2 [])]) ((svS l fu).map dSt) none]) := by
 refine qjj Try.func31 rfl (nb rfl) fun w X g => ?_
 show AWp _ _ _ ⟨[(0, .own 0 0), (1, .p (.int .i64 (fu)))], [(0, some (0, .row 56 2 ((l).map dC)))]⟩
 refine rs (oa rfl (oa rfl (oa rfl (on (qqd (rs (om rfl ?_)))))))
 refine qq4 (qqp (v := .p _) (hp1 := []) [] true [0] ent51 (f_pvImpl l) ⟨.inr ⟨rfl, qj1 rfl rfl, rfl⟩, trivial⟩ trivial rfl rfl (fun _ => rfl) rfl (fun _ h => by cases h) (.inr ⟨rfl, by first | exact qjy (fun _ => rfl) | exact qj0 | (simp [plO, plV, plV.plL]; done)⟩) rfl rfl) ?_
 refine qqa (j_not rfl) (om rfl (qq9 13 rfl (fun h1 => ?_) (fun h1 => ?_)))
 ·
  have h1r := h1
  try simp only [nq, nr, nl] at h1
  refine qqa (qqb rfl rfl h1r) (qqa (qqb rfl rfl h1r) (qqa (qqb rfl rfl h1r) (qqa (qq6 rfl h1r (evo rfl)) (on (a_tt rfl ?_)))))
  refine rs (oa rfl (oa rfl (oa rfl (on (qjb 5 5 4 1 rfl fun v5 => ?_)))))
  refine qjb 6 6 65 5 rfl fun v6 => ?_
  refine qzx 6 0 (.mk 65 5 [(3, (.mk 83 2 []))]) (zs := []) (zs' := []) rfl rfl rfl rfl qzv rfl ?_
  refine qql ?_
  have hb : svOk l fu = false := by unfold svOk; first | (simp_all; done) | (rw [decide_eq_false (show ¬ (0 ≤ fu ∧ fu ≤ 2000) by omega), Bool.and_false])
  have hs := sv_bad hb
  exact ⟨[.p _, .own 5 v5, .own 6 v6], .tup [.p _, .own 1 0, .own 2 0], [.row 56 2 _], [.row 4 1 _, .deep (.mk 65 5 [(3, (.mk 83 2 []))]) _ none], [(5, v5), (6, v6)], ⟨rfl, rfl, rfl, trivial⟩, rfl, rfl, ⟨⟨rfl, rfl⟩, ⟨rfl, rfl⟩, ⟨rfl, rfl⟩, trivial⟩, rfl, rfl, ⟨by rw [hs.1], rfl, by rw [hs.2.1, hs.2.2]; rfl⟩⟩
 have h1r := h1
 try simp only [nq, nr, nl] at h1
 refine qqa (qqf rfl rfl h1r (qqn (evo rfl))) ?_
 refine qq4 (qqf rfl rfl h1r (qqp (v := .p _) (hp1 := []) [] false [] ent29 (f_isFuel fu) ⟨.inl ⟨rfl, rfl⟩, trivial⟩ trivial rfl rfl (fun h => by cases h) rfl (fun _ h => by cases h) (.inl rfl) rfl rfl)) ?_
 refine qqa (qqf rfl rfl h1r (j_not rfl)) (qqa (qq3 rfl h1r (evo rfl)) (on (ac rfl (fun h2 => ?_) fun h2 => ?_)))
 ·
  have h2r := h2
  try simp only [nq, nr, nl] at h2
  refine rs (oa rfl (oa rfl (oa rfl (on (qjb 5 5 4 1 rfl fun v5 => ?_)))))
  refine qjb 6 6 65 5 rfl fun v6 => ?_
  refine qzx 6 0 (.mk 65 5 [(3, (.mk 83 2 []))]) (zs := []) (zs' := []) rfl rfl rfl rfl qzv rfl ?_
  refine qql ?_
  have hb : svOk l fu = false := by unfold svOk; first | (simp_all; done) | (rw [decide_eq_false (show ¬ (0 ≤ fu ∧ fu ≤ 2000) by omega), Bool.and_false])
  have hs := sv_bad hb
  exact ⟨[.p _, .own 5 v5, .own 6 v6], .tup [.p _, .own 1 0, .own 2 0], [.row 56 2 _], [.row 4 1 _, .deep (.mk 65 5 [(3, (.mk 83 2 []))]) _ none], [(5, v5), (6, v6)], ⟨rfl, rfl, rfl, trivial⟩, rfl, rfl, ⟨⟨rfl, rfl⟩, ⟨rfl, rfl⟩, ⟨rfl, rfl⟩, trivial⟩, rfl, rfl, ⟨by rw [hs.1], rfl, by rw [hs.2.1, hs.2.2]; rfl⟩⟩
 have h2r := h2
 try simp only [nq, nr, nl] at h2
 refine qqg (qqd ?_)
 have hok : svOk l fu = true := by unfold svOk; simp_all
 have hpo := (svOk_parts hok).1
 have hfu := (svOk_parts hok).2
 have hln := pOk_len hpo
 have hvh : visH l 13 [] fu [] := ⟨by rw [List.append_nil]; exact pOk_all hpo, by simp, hfu, inv_nil, rfl, by omega⟩
 have hsv := sv_ok hok
 have hgd := sv_good hok
 refine ar (om rfl ?_)
 refine qzi (fun ver => qj8 (v := .own 19 ver) (hp1 := [(0, some (0, .row 56 2 _)), (19, some (ver, .row 56 2 _))]) [(0, 0)] false [0] ent30 (f_cloneCO l (by omega)) ⟨.inl ⟨rfl, rfl⟩, trivial⟩ ⟨⟨rfl, rfl⟩, trivial⟩ rfl rfl rfl (fun h => by cases h) rfl (List.all_eq_true.1 rfl) (.inl rfl) rfl rfl) fun v19x1 => ?_
 refine om rfl (qqa (qz3 (parts := [(0, .tmp 19), (1, .tmp 20)]) str88 elt88 rfl rfl) (qqu (fun ver => j_boxa rfl) fun v22x2 => ?_))
 refine oa rfl (on (a_adopt_box' 2 1002 65 5 (by decide) (id := 22) rfl rfl fun v1002x3 => ?_))
 refine qzx 1002 0 (.mk 65 5 [(3, (.mk 83 2 []))]) (zs := []) (zs' := []) rfl rfl rfl rfl qzv rfl ?_
 refine qqd (a_row 19 (es' := (l ++ ([] : List Con)).map dC) rfl (by rw [List.append_nil]) ?_)
 refine a_deep 1002 (es' := ([] : List Con).map dSt) rfl rfl ?_
 refine ar (om rfl (op_call3 (v := fun ver ver2 ver3 => .tup [.own 25 ver, .p _]) (hp1 := fun ver ver2 ver3 => [(22, some (v22x2, .box 88 [.own 100025 ver2, .p _, .own 200025 ver3, .p _])), (19, some (v19x1, .gone)), (1002, some (v1002x3, .gone)), (25, some (ver, .row 4 1 _)), (100025, some (ver2, .row 56 2 _)), (200025, some (ver3, .deep (.mk 65 5 [(3, (.mk 83 2 []))]) _ none))]) [(22, v22x2), (19, v19x1), (1002, v1002x3)] false ent54 (f_visitD0 l fu hvh) ⟨.inl ⟨rfl, rfl⟩, .inl ⟨rfl, rfl⟩, trivial⟩ ⟨⟨rfl, rfl⟩, ⟨rfl, rfl⟩, ⟨rfl, rfl⟩, trivial⟩ rfl rfl rfl rfl (.inl rfl) (fun _ _ _ => rfl) (fun _ _ _ => rfl) ?_))
 rintro  v25x4 v100025x4 v200025x4
 dsimp only [List.cons_append, List.nil_append]
 refine om rfl (qqa (qqy rfl rfl) (qqa (qqy rfl rfl) (oa rfl (oa rfl (on (qqd (qqh (rs (om rfl (oa rfl (on (ac rfl (fun h3 => ?_) fun h3 => ?_))))))))))))
 ·
  have h3r := h3
  try simp only [nq, nr, nl] at h3
  refine rs (om rfl (oa rfl (oa rfl (oa rfl (on (qjb 6 6 65 5 rfl fun v6 => ?_))))))
  refine qzx 6 0 (.mk 65 5 [(3, (.mk 83 2 []))]) (zs := []) (zs' := []) rfl rfl rfl rfl qzv rfl ?_
  refine qql ?_
  have hc : (svR l fu).2.2.1 = 1 := (by assumption)
  have hs : svS l fu = [] := by unfold svS; rw [if_neg (by omega)]
  exact ⟨[.p _, .own 25 v25x4, .own 6 v6], .tup [.p _, .own 1 0, .own 2 0], [.row 56 2 _], [.row 4 1 _, .deep (.mk 65 5 [(3, (.mk 83 2 []))]) _ none], [(25, v25x4), (6, v6)], ⟨rfl, rfl, rfl, trivial⟩, rfl, rfl, ⟨⟨rfl, rfl⟩, ⟨rfl, rfl⟩, ⟨rfl, rfl⟩, trivial⟩, rfl, rfl, ⟨by rw [hsv.1, hc], rfl, by rw [hsv.2, hs]; rfl⟩⟩
 have h3r := h3
 try simp only [nq, nr, nl] at h3
 refine rs (om rfl (qqa (qji rfl rfl) (qqa (qqm fld88f3 rfl rfl) (qqa (qqe leaf4 rfl rfl rfl) (oa rfl (on (ac rfl (fun h4 => ?_) fun h4 => ?_)))))))
 ·
  have h4r := h4
  try simp only [nq, nr, nl] at h4
  refine rs (oa rfl (oa rfl (oa rfl (on (qjb 5 5 4 1 rfl fun v5 => ?_)))))
  refine qjb 6 6 65 5 rfl fun v6 => ?_
  refine qzx 6 0 (.mk 65 5 [(3, (.mk 83 2 []))]) (zs := []) (zs' := []) rfl rfl rfl rfl qzv rfl ?_
  refine qql ?_
  have hc : (svR l fu).2.2.1 = 0 := (by assumption)
  have hs : svS l fu = [] := by unfold svS; rw [if_neg (by omega)]
  have hv := hgd.non (by omega)
  exact ⟨[.p _, .own 5 v5, .own 6 v6], .tup [.p _, .own 1 0, .own 2 0], [.row 56 2 _], [.row 4 1 _, .deep (.mk 65 5 [(3, (.mk 83 2 []))]) _ none], [(5, v5), (6, v6)], ⟨rfl, rfl, rfl, trivial⟩, rfl, rfl, ⟨⟨rfl, rfl⟩, ⟨rfl, rfl⟩, ⟨rfl, rfl⟩, trivial⟩, rfl, rfl, ⟨by rw [hsv.1, hc], rfl, by rw [hsv.2, hs, hv]; rfl⟩⟩
 have h4r := h4
 try simp only [nq, nr, nl] at h4
 refine qqg (qqd (a_draw mixed (by kernel_rfl) (by kernel_rfl) fun vf => ?_))
 refine qqq (qqn (evo rfl)) (qqq (qji rfl rfl) (qqq (qqm fld88f2 rfl rfl) (qqq (qqe leaf26 rfl rfl rfl) (qqq (j_assign (evo rfl)) (qqq (j_assign (evo rfl)) (qqq (j_assign (evo rfl)) (d_nil (by kernel_rfl) (by kernel_rfl) ?_)))))))
 refine qjb 5 5 4 1 rfl fun v5 => ?_
 refine qql ?_
 have hc : (svR l fu).2.2.1 = 2 := by have h9 := hgd.code; have h8 : ¬ (svR l fu).2.2.1 = 0 := (by assumption); have h7 : ¬ (svR l fu).2.2.1 = 1 := (by assumption); omega
 have hs : svS l fu = (svR l fu).1 := by unfold svS; rw [if_pos (by omega)]
 have hv := hgd.non (by omega)
 exact ⟨[.p _, .own 5 v5, .own 200025 v200025x4], .tup [.p _, .own 1 0, .own 2 0], [.row 56 2 _], [.row 4 1 _, .deep (.mk 65 5 [(3, (.mk 83 2 []))]) _ none], [(5, v5), (200025, v200025x4)], ⟨rfl, rfl, rfl, trivial⟩, rfl, rfl, ⟨⟨rfl, rfl⟩, ⟨rfl, rfl⟩, ⟨rfl, rfl⟩, trivial⟩, rfl, rfl, ⟨by rw [hsv.1, hc], rfl, by rw [hsv.2, hs, hv]; rfl⟩⟩
end Go.Ab

/- Walks. -/
import Derived.Test.YtoodaakcfelaaaaGreatBase
import Derived.Test.YtoodaakcfelaaaaGreatPf2
import Derived.Test.YtoodaakcfelaaaaGreatWssrch2
import Derived.Test.YtoodaakcfelaaaaGreatWsprop
import Derived.Test.YtoodaakcfelaaaaGreatWscons
import Derived.Test.YtoodaakcfelaaaaGreatWsfix
import Derived.Test.YtoodaakcfelaaaaGreatWstight
import Derived.Test.YtoodaakcfelaaaaGreatWsprob
namespace Go.Ab
open Go.Proofs
set_option maxRecDepth 100000
set_option maxHeartbeats 8000000
set_option linter.unusedSimpArgs false
set_option linter.unusedVariables false
theorem f_cloneCO (l : List Con) (hts : l.length ≤ 1048576) : Fn Tryz.prog 57 [.own 0 0] [.row 69 2 ((l).map dC)] (fun rr ii nn => rr = .own 1 0 ∧ ii = [.row 69 2 ((l).map dC)] ∧ nn = [.row 69 2 ((l).map dC)]) := by
 refine qjm Tryz.func57 rfl (nb rfl) fun w X g => ?_
 show AWp _ _ _ ⟨[(0, .own 0 0)], [(0, some (0, .row 69 2 ((l).map dC)))]⟩
 refine rs (oa rfl (on (qqe (rs (om rfl (op_eqnil_o Tryz.underlying30 rfl rfl fun b1 hb1 => ?_))))))
 refine on (ac rfl (fun h2 => ?_) fun h2 => ?_)
 ·
  have h2r := h2
  try simp only [nq, nr, nl] at h2
  refine rs (oa rfl (on (qjt 2 2 69 2 rfl fun v2 => ?_)))
  refine qqm ?_
  exact ⟨[.own 2 v2], .own 1 0, [.row 69 2 _], [.row 69 2 _], [(2, v2)], ⟨rfl, trivial⟩, rfl, rfl, ⟨⟨rfl, rfl⟩, ⟨rfl, rfl⟩, trivial⟩, rfl, rfl, ⟨rfl, rfl, by rw [hb1 h2]⟩⟩
 have h2r := h2
 try simp only [nq, nr, nl] at h2
 refine qqj (rs (qq5 (fun ver => j_bs0 slt30 qz5 rfl rfl (by decide)) fun v5x1 => ?_))
 refine om rfl (qq5 (fun ver => qq6 slt30 qz5 rfl rfl rfl rfl rfl (all_lf_dC l) (by rw [qq0]; first | omega | (simp only [nr, nl]; omega)) zz) fun v5x2 => ?_)
 refine oa rfl (on (qqm ?_))
 exact ⟨[.own 5 v5x2], .own 1 0, [.row 69 2 _], [.row 69 2 _], [(5, v5x2)], ⟨rfl, trivial⟩, rfl, rfl, ⟨⟨rfl, rfl⟩, ⟨rfl, rfl⟩, trivial⟩, rfl, rfl, ⟨rfl, rfl, rfl⟩⟩
theorem f_solveImplO (l : List Con) (fu : Int) : Fn Tryz.prog 74 [.own 0 0, .p (.int .i64 (fu))] [.row 69 2 ((l).map dC)] (fun rr ii nn => rr = .tup [.p (.int .i64 (svC l fu)), .sl ((svV l fu).map dB), .sl ((svS l fu).map dSt)] ∧ ii = [.row 69 2 ((l).map dC)] ∧ nn = []) := by
 refine qjm Tryz.func74 rfl (nb rfl) fun w X g => ?_
 show AWp _ _ _ ⟨[(0, .own 0 0), (1, .p (.int .i64 (fu)))], [(0, some (0, .row 69 2 ((l).map dC)))]⟩
 refine rs (oa rfl (oa rfl (oa rfl (on (qqe (rs (om rfl ?_)))))))
 refine qq3 (qqn (v := .p _) (hp1 := []) [] true [0] ent69 (f_pvImpl l) ⟨.inr ⟨rfl, qzl rfl rfl, rfl⟩, trivial⟩ trivial rfl rfl (fun _ => rfl) rfl (fun _ h => by cases h) (.inr ⟨rfl, by first | exact pl_new1 (fun _ => rfl) | exact qz9 | (simp [plO, plV, plV.plL]; done)⟩) rfl rfl) ?_
 refine qqa (qzw rfl) (om rfl (qqx 13 rfl (fun h1 => ?_) (fun h1 => ?_)))
 ·
  have h1r := h1
  try simp only [nq, nr, nl] at h1
  refine qqa (qqb rfl rfl h1r) (qqa (qqb rfl rfl h1r) (qqa (qqb rfl rfl h1r) (qqa (qqu rfl h1r (evo rfl)) (on (a_tt rfl ?_)))))
  refine rs (oa rfl (oa rfl (oa rfl (on (a_nil 5 rfl ?_)))))
  refine a_nil 6 rfl ?_
  refine qqm ?_
  have hb : svOk l fu = false := by unfold svOk; first | (simp_all; done) | (rw [decide_eq_false (show ¬ (0 ≤ fu ∧ fu ≤ 2000) by omega), Bool.and_false])
  have hs := sv_bad hb
  exact ⟨[.p _, .sl _, .sl _], .tup [.p _, .sl _, .sl _], [.row 69 2 _], [], [], ⟨rfl, rfl, rfl, trivial⟩, rfl, rfl, ⟨⟨rfl, rfl⟩, trivial⟩, rfl, rfl, ⟨by rw [hs.1, hs.2.1, hs.2.2]; rfl, rfl, rfl⟩⟩
 have h1r := h1
 try simp only [nq, nr, nl] at h1
 refine qqa (qqd rfl rfl h1r (qql (evo rfl))) ?_
 refine qq3 (qqd rfl rfl h1r (qqn (v := .p _) (hp1 := []) [] false [] ent73 (f_isFuel fu) ⟨.inl ⟨rfl, rfl⟩, trivial⟩ trivial rfl rfl (fun h => by cases h) rfl (fun _ h => by cases h) (.inl rfl) rfl rfl)) ?_
 refine qqa (qqd rfl rfl h1r (qzw rfl)) (qqa (qqt rfl h1r (evo rfl)) (on (ac rfl (fun h2 => ?_) fun h2 => ?_)))
 ·
  have h2r := h2
  try simp only [nq, nr, nl] at h2
  refine rs (oa rfl (oa rfl (oa rfl (on (a_nil 5 rfl ?_)))))
  refine a_nil 6 rfl ?_
  refine qqm ?_
  have hb : svOk l fu = false := by unfold svOk; first | (simp_all; done) | (rw [decide_eq_false (show ¬ (0 ≤ fu ∧ fu ≤ 2000) by omega), Bool.and_false])
  have hs := sv_bad hb
  exact ⟨[.p _, .sl _, .sl _], .tup [.p _, .sl _, .sl _], [.row 69 2 _], [], [], ⟨rfl, rfl, rfl, trivial⟩, rfl, rfl, ⟨⟨rfl, rfl⟩, trivial⟩, rfl, rfl, ⟨by rw [hs.1, hs.2.1, hs.2.2]; rfl, rfl, rfl⟩⟩
 have h2r := h2
 try simp only [nq, nr, nl] at h2
 refine qqj (qqe ?_)
 have hok : svOk l fu = true := by unfold svOk; simp_all
 have hpo := (svOk_parts hok).1
 have hfu := (svOk_parts hok).2
 have hln := pOk_len hpo
 have hvh : visH l 13 [] fu [] := ⟨by rw [List.append_nil]; exact pOk_all hpo, by simp, hfu, inv_nil, rfl, by omega⟩
 have hsv := sv_ok hok
 have hgd := sv_good hok
 refine ar (om rfl ?_)
 refine qj9 (fun ver => qj8 (v := .own 19 ver) (hp1 := [(0, some (0, .row 69 2 _)), (19, some (ver, .row 69 2 _))]) [(0, 0)] false [0] ent57 (f_cloneCO l (by omega)) ⟨.inl ⟨rfl, rfl⟩, trivial⟩ ⟨⟨rfl, rfl⟩, trivial⟩ rfl rfl rfl (fun h => by cases h) rfl (List.all_eq_true.1 rfl) (.inl rfl) rfl rfl) fun v19x1 => ?_
 refine om rfl (qqa (qzu (parts := [(0, .tmp 19), (1, .tmp 20)]) str158 elt158 rfl rfl) (qq5 (fun ver => qj3 rfl) fun v22x2 => ?_))
 refine oa rfl (on (qj2 2 1002 89 5 (by decide) (id := 22) rfl rfl fun v1002x3 => ?_))
 refine qqe (a_row 19 (es' := (l ++ ([] : List Con)).map dC) rfl (by rw [List.append_nil]) ?_)
 refine a_row 1002 (es' := ([] : List Con).map dSt) rfl rfl ?_
 refine ar (om rfl (op_call3 (v := fun ver ver2 ver3 => .tup [.own 25 ver, .p _]) (hp1 := fun ver ver2 ver3 => [(22, some (v22x2, .box 158 [.own 100025 ver2, .p _, .own 200025 ver3, .p _])), (19, some (v19x1, .gone)), (1002, some (v1002x3, .gone)), (25, some (ver, .row 4 1 _)), (100025, some (ver2, .row 69 2 _)), (200025, some (ver3, .row 89 5 _))]) [(22, v22x2), (19, v19x1), (1002, v1002x3)] false ent134 (f_visit0 l fu hvh) ⟨.inl ⟨rfl, rfl⟩, .inl ⟨rfl, rfl⟩, trivial⟩ ⟨⟨rfl, rfl⟩, ⟨rfl, rfl⟩, ⟨rfl, rfl⟩, trivial⟩ rfl rfl rfl rfl (.inl rfl) (fun _ _ _ => rfl) (fun _ _ _ => rfl) ?_))
 rintro  v25x4 v100025x4 v200025x4
 dsimp only [List.cons_append, List.nil_append]
 refine om rfl (qqa (qjg rfl rfl) (qqa (qjg rfl rfl) (oa rfl (oa rfl (on (qqe (qqf (rs (om rfl (oa rfl (on (ac rfl (fun h3 => ?_) fun h3 => ?_))))))))))))
 ·
  have h3r := h3
  try simp only [nq, nr, nl] at h3
  refine rs (om rfl (oa rfl (oa rfl (oa rfl (on (qj4 5 ⟨⟨_, _, _, rfl⟩, trivial⟩ rfl rfl rfl ?_))))))
  refine a_nil 6 rfl ?_
  refine qqm ?_
  have hc : (svR l fu).2.2.1 = 1 := (by assumption)
  have hs : svS l fu = [] := by unfold svS; rw [if_neg (by omega)]
  exact ⟨[.p _, .sl _, .sl _], .tup [.p _, .sl _, .sl _], [.row 69 2 _], [], [], ⟨rfl, rfl, rfl, trivial⟩, rfl, rfl, ⟨⟨rfl, rfl⟩, trivial⟩, rfl, rfl, ⟨by rw [hsv.1, hsv.2, hs, hc]; rfl, rfl, rfl⟩⟩
 have h3r := h3
 try simp only [nq, nr, nl] at h3
 refine rs (om rfl (qqa (qjk rfl rfl) (qqa (qqi fld158f3 rfl rfl) (qqa (qqc leaf4 rfl rfl rfl) (oa rfl (on (ac rfl (fun h4 => ?_) fun h4 => ?_)))))))
 ·
  have h4r := h4
  try simp only [nq, nr, nl] at h4
  refine rs (oa rfl (oa rfl (oa rfl (on (a_nil 5 rfl ?_)))))
  refine a_nil 6 rfl ?_
  refine qqm ?_
  have hc : (svR l fu).2.2.1 = 0 := (by assumption)
  have hs : svS l fu = [] := by unfold svS; rw [if_neg (by omega)]
  have hv := hgd.non (by omega)
  exact ⟨[.p _, .sl _, .sl _], .tup [.p _, .sl _, .sl _], [.row 69 2 _], [], [], ⟨rfl, rfl, rfl, trivial⟩, rfl, rfl, ⟨⟨rfl, rfl⟩, trivial⟩, rfl, rfl, ⟨by rw [hsv.1, hsv.2, hs, hc, hv]; rfl, rfl, rfl⟩⟩
 have h4r := h4
 try simp only [nq, nr, nl] at h4
 refine qqj (qqe (qjz qzj (by kernel_rfl) (by kernel_rfl) fun vf => ?_))
 refine qqq (qql (evo rfl)) (qqq (qjk rfl rfl) (qqq (qqi fld158f2 rfl rfl) (qqq (qqc leaf34 rfl rfl rfl) (qqq (qzp (evo rfl)) (qqq (qzp (evo rfl)) (qqq (qzp (evo rfl)) (qze (by kernel_rfl) (by kernel_rfl) ?_)))))))
 refine qj4 6 ⟨⟨_, _, _, rfl⟩, trivial⟩ rfl rfl rfl ?_
 refine a_nil 5 rfl ?_
 refine qqm ?_
 have hc : (svR l fu).2.2.1 = 2 := by have h9 := hgd.code; have h8 : ¬ (svR l fu).2.2.1 = 0 := (by assumption); have h7 : ¬ (svR l fu).2.2.1 = 1 := (by assumption); omega
 have hs : svS l fu = (svR l fu).1 := by unfold svS; rw [if_pos (by omega)]
 have hv := hgd.non (by omega)
 exact ⟨[.p _, .sl _, .sl _], .tup [.p _, .sl _, .sl _], [.row 69 2 _], [], [], ⟨rfl, rfl, rfl, trivial⟩, rfl, rfl, ⟨⟨rfl, rfl⟩, trivial⟩, rfl, rfl, ⟨by rw [hsv.1, hsv.2, hs, hc, hv]; rfl, rfl, rfl⟩⟩
end Go.Ab

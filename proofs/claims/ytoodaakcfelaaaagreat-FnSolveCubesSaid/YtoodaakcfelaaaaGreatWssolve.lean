/- Walks. -/
import Derived.Test.YtoodaakcfelaaaaGreatBase
import Derived.Test.YtoodaakcfelaaaaGreatPf3
import Derived.Test.YtoodaakcfelaaaaGreatWssrch3
import Derived.Test.YtoodaakcfelaaaaGreatWsprop
import Derived.Test.YtoodaakcfelaaaaGreatWstight
import Derived.Test.YtoodaakcfelaaaaGreatWsprob
import Derived.Test.YtoodaakcfelaaaaGreatWsfix
namespace Go.Ab
open Go.Proofs
set_option maxRecDepth 100000
set_option maxHeartbeats 8000000
set_option linter.unusedSimpArgs false
set_option linter.unusedVariables false
theorem f_solveImpl (l : List Con) (fu : Int) : Fn Tryz.prog 74 [.sl (l.map dC), .p (.int .i64 (fu))] [] (fun rr ii nn => rr = .tup [.p (.int .i64 (svC l fu)), .sl ((svV l fu).map dB), .sl ((svS l fu).map dSt)] ∧ ii = [] ∧ nn = []) := by
 refine qjl Tryz.func74 rfl (nb rfl) fun w X g => ?_
 show AWp _ _ _ ⟨[(0, .sl (l.map dC)), (1, .p (.int .i64 (fu)))], []⟩
 refine rs (oa rfl (oa rfl (oa rfl (on (qqf (rs (om rfl ?_)))))))
 refine qq0 (qqn (v := .p _) (hp1 := []) [] false [] ent69 (f_pvImpl l) ⟨.inl ⟨rfl, rfl⟩, trivial⟩ trivial rfl rfl (fun h => by cases h) rfl (fun _ h => by cases h) (.inl rfl) rfl rfl) ?_
 refine qqa (qzk rfl) (om rfl (qqz 13 rfl (fun h1 => ?_) (fun h1 => ?_)))
 ·
  have h1r := h1
  try simp only [nq, nr, nl] at h1
  refine qqa (qqb rfl rfl h1r) (qqa (qqb rfl rfl h1r) (qqa (qqb rfl rfl h1r) (qqa (qqr rfl h1r (evo rfl)) (on (a_tt rfl ?_)))))
  refine rs (oa rfl (oa rfl (oa rfl (on (a_nil 5 rfl ?_)))))
  refine a_nil 6 rfl ?_
  refine qqx ?_
  have hb : svOk l fu = false := by unfold svOk; first | (simp_all; done) | (rw [decide_eq_false (show ¬ (0 ≤ fu ∧ fu ≤ 2000) by omega), Bool.and_false])
  have hs := sv_bad hb
  exact ⟨[.p _, .sl _, .sl _], .tup [.p _, .sl _, .sl _], [], [], [], ⟨rfl, rfl, rfl, trivial⟩, rfl, rfl, trivial, rfl, rfl, ⟨by rw [hs.1, hs.2.1, hs.2.2]; rfl, rfl, rfl⟩⟩
 have h1r := h1
 try simp only [nq, nr, nl] at h1
 refine qqa (qqd rfl rfl h1r (qqj (evo rfl))) ?_
 refine qq0 (qqd rfl rfl h1r (qqn (v := .p _) (hp1 := []) [] false [] ent73 (f_isFuel fu) ⟨.inl ⟨rfl, rfl⟩, trivial⟩ trivial rfl rfl (fun h => by cases h) rfl (fun _ h => by cases h) (.inl rfl) rfl rfl)) ?_
 refine qqa (qqd rfl rfl h1r (qzk rfl)) (qqa (qqy rfl h1r (evo rfl)) (on (ac rfl (fun h2 => ?_) fun h2 => ?_)))
 ·
  have h2r := h2
  try simp only [nq, nr, nl] at h2
  refine rs (oa rfl (oa rfl (oa rfl (on (a_nil 5 rfl ?_)))))
  refine a_nil 6 rfl ?_
  refine qqx ?_
  have hb : svOk l fu = false := by unfold svOk; first | (simp_all; done) | (rw [decide_eq_false (show ¬ (0 ≤ fu ∧ fu ≤ 2000) by omega), Bool.and_false])
  have hs := sv_bad hb
  exact ⟨[.p _, .sl _, .sl _], .tup [.p _, .sl _, .sl _], [], [], [], ⟨rfl, rfl, rfl, trivial⟩, rfl, rfl, trivial, rfl, rfl, ⟨by rw [hs.1, hs.2.1, hs.2.2]; rfl, rfl, rfl⟩⟩
 have h2r := h2
 try simp only [nq, nr, nl] at h2
 refine qqo (qqf ?_)
 have hok : svOk l fu = true := by unfold svOk; simp_all
 have hpo := (svOk_parts hok).1
 have hfu := (svOk_parts hok).2
 have hln := pOk_len hpo
 have hvh : visH l 13 [] fu [] := ⟨by rw [List.append_nil]; exact pOk_all hpo, by simp, hfu, inv_nil, rfl, by omega⟩
 have hsv := sv_ok hok
 have hgd := sv_good hok
 refine ar (om rfl ?_)
 refine qz0 (fun ver => qza (v := .own 19 ver) (hp1 := [(19, some (ver, .row 69 2 _))]) [] false [] ent57 (f_cloneC l (by omega)) ⟨.inl ⟨rfl, rfl⟩, trivial⟩ trivial rfl rfl rfl (fun h => by cases h) rfl (List.all_eq_true.1 rfl) (.inl rfl) rfl rfl) fun v19x1 => ?_
 refine om rfl (qqa (qjp (parts := [(0, .tmp 19), (1, .tmp 20)]) str158 elt158 rfl rfl) (qqv (fun ver => qzg rfl) fun v22x2 => ?_))
 refine oa rfl (on (qjy 2 1002 89 5 (by decide) (id := 22) rfl rfl fun v1002x3 => ?_))
 refine qqf (a_row 19 (es' := (l ++ ([] : List Con)).map dC) rfl (by rw [List.append_nil]) ?_)
 refine a_row 1002 (es' := ([] : List Con).map dSt) rfl rfl ?_
 refine ar (om rfl (op_call3 (v := fun ver ver2 ver3 => .tup [.own 25 ver, .p _]) (hp1 := fun ver ver2 ver3 => [(22, some (v22x2, .box 158 [.own 100025 ver2, .p _, .own 200025 ver3, .p _])), (19, some (v19x1, .gone)), (1002, some (v1002x3, .gone)), (25, some (ver, .row 4 1 _)), (100025, some (ver2, .row 69 2 _)), (200025, some (ver3, .row 89 5 _))]) [(22, v22x2), (19, v19x1), (1002, v1002x3)] false ent134 (f_visit0 l fu hvh) ⟨.inl ⟨rfl, rfl⟩, .inl ⟨rfl, rfl⟩, trivial⟩ ⟨⟨rfl, rfl⟩, ⟨rfl, rfl⟩, ⟨rfl, rfl⟩, trivial⟩ rfl rfl rfl rfl (.inl rfl) (fun _ _ _ => rfl) (fun _ _ _ => rfl) ?_))
 rintro  v25x4 v100025x4 v200025x4
 dsimp only [List.cons_append, List.nil_append]
 refine om rfl (qqa (qqt rfl rfl) (qqa (qqt rfl rfl) (oa rfl (oa rfl (on (qqf (qqk (rs (om rfl (oa rfl (on (ac rfl (fun h3 => ?_) fun h3 => ?_))))))))))))
 ·
  have h3r := h3
  try simp only [nq, nr, nl] at h3
  refine rs (om rfl (oa rfl (oa rfl (oa rfl (on (qjs 5 (noA _ _ _ _ _) rfl rfl ?_))))))
  refine a_nil 6 rfl ?_
  refine qqx ?_
  have hc : (svR l fu).2.2.1 = 1 := (by assumption)
  have hs : svS l fu = [] := by unfold svS; rw [if_neg (by omega)]
  exact ⟨[.p _, .sl _, .sl _], .tup [.p _, .sl _, .sl _], [], [], [], ⟨rfl, rfl, rfl, trivial⟩, rfl, rfl, trivial, rfl, rfl, ⟨by rw [hsv.1, hsv.2, hs, hc]; rfl, rfl, rfl⟩⟩
 have h3r := h3
 try simp only [nq, nr, nl] at h3
 refine rs (om rfl (qqa (qq1 rfl rfl) (qqa (qqi fld158f3 rfl rfl) (qqa (qqc leaf4 rfl rfl rfl) (oa rfl (on (ac rfl (fun h4 => ?_) fun h4 => ?_)))))))
 ·
  have h4r := h4
  try simp only [nq, nr, nl] at h4
  refine rs (oa rfl (oa rfl (oa rfl (on (a_nil 5 rfl ?_)))))
  refine a_nil 6 rfl ?_
  refine qqx ?_
  have hc : (svR l fu).2.2.1 = 0 := (by assumption)
  have hs : svS l fu = [] := by unfold svS; rw [if_neg (by omega)]
  have hv := hgd.non (by omega)
  exact ⟨[.p _, .sl _, .sl _], .tup [.p _, .sl _, .sl _], [], [], [], ⟨rfl, rfl, rfl, trivial⟩, rfl, rfl, trivial, rfl, rfl, ⟨by rw [hsv.1, hsv.2, hs, hc, hv]; rfl, rfl, rfl⟩⟩
 have h4r := h4
 try simp only [nq, nr, nl] at h4
 refine qqo (qqf (qj3 qzr (by kernel_rfl) (by kernel_rfl) fun vf => ?_))
 refine qql (qqj (evo rfl)) (qql (qq1 rfl rfl) (qql (qqi fld158f2 rfl rfl) (qql (qqc leaf34 rfl rfl rfl) (qql (qj6 (evo rfl)) (qql (qj6 (evo rfl)) (qql (qj6 (evo rfl)) (qzf (by kernel_rfl) (by kernel_rfl) ?_)))))))
 refine qjs 6 (noA _ _ _ _ _) rfl rfl ?_
 refine a_nil 5 rfl ?_
 refine qqx ?_
 have hc : (svR l fu).2.2.1 = 2 := by have h9 := hgd.code; have h8 : ¬ (svR l fu).2.2.1 = 0 := (by assumption); have h7 : ¬ (svR l fu).2.2.1 = 1 := (by assumption); omega
 have hs : svS l fu = (svR l fu).1 := by unfold svS; rw [if_pos (by omega)]
 have hv := hgd.non (by omega)
 exact ⟨[.p _, .sl _, .sl _], .tup [.p _, .sl _, .sl _], [], [], [], ⟨rfl, rfl, rfl, trivial⟩, rfl, rfl, trivial, rfl, rfl, ⟨by rw [hsv.1, hsv.2, hs, hc, hv]; rfl, rfl, rfl⟩⟩
theorem f_copyF (c : Con) (hc : c.1.length ≤ 1048576) : Fn Tryz.prog 136 [.agg [.sl (c.1.map dT), .p (.int .i64 c.2)]] [] (fun rr ii nn => rr = .agg [.sl (c.1.map dT), .p (.int .i64 c.2)] ∧ ii = [] ∧ nn = []) := by
 refine qjl Tryz.func136 rfl (nb rfl) fun w X g => ?_
 show AWp _ _ _ ⟨[(0, .agg [.sl (c.1.map dT), .p (.int .i64 c.2)])], []⟩
 refine rs (qqv (fun ver => qzg rfl) fun v1x1 => ?_)
 refine qqv (fun ver => qjd qjm rfl) fun v2x2 => ?_
 refine on (qqf (qj3 qzr (by kernel_rfl) (by kernel_rfl) fun vf => ?_))
 refine d_n' (fun ver => qzh qzc qjx rfl rfl (by decide)) ?_
 refine qql (qqi qjn rfl rfl) (qql (qqc qjv rfl rfl rfl) (d_n1' (fun ver => j_append_slN (by decide) qzc qjx rfl rfl rfl rfl (by intro x hx; obtain ⟨t, _, rfl⟩ := List.mem_map.1 hx; rfl) (all_lf_dT _) (by rw [qqu]; first | omega | (simp only [nr, nl]; omega)) zz) ?_))
 refine qql (qqi qzi rfl rfl) (qql (qqc qq6 rfl rfl rfl) (qql (qjp (parts := [(0, .tmp 6), (1, .tmp 8)]) str69 qjm rfl rfl) (d_s' (qqe qq7 rfl rfl rfl rfl rfl rfl) ?_)))
 refine qzf (by kernel_rfl) (by kernel_rfl) ?_
 refine qjk 0 2 (by decide) trivial rfl rfl rfl rfl ?_
 try dsimp only [List.set]
 refine qqx ?_
 exact ⟨[.agg [.sl _, .p _]], .agg [.sl _, .p _], [], [], [], ⟨⟨_, _, _, _, rfl, rfl, qq7, rfl⟩, trivial⟩, rfl, rfl, trivial, rfl, rfl, ⟨rfl, rfl, rfl⟩⟩
theorem f_solveSpec (l : List Con) (fu : Int) : Fn Tryz.prog 75 [.sl (l.map dC), .p (.int .i64 (fu))] [] (fun rr ii nn => rr = .tup [.p (.int .i64 (svC l fu)), .sl ((svV l fu).map dB), .sl ((svS l fu).map dSt)] ∧ ii = [] ∧ nn = []) := by
 refine qjl Tryz.func75 rfl (nb rfl) fun w X g => ?_
 show AWp _ _ _ ⟨[(0, .sl (l.map dC)), (1, .p (.int .i64 (fu)))], []⟩
 refine rs (oa rfl (oa rfl (oa rfl (on (qqf (rs (om rfl ?_)))))))
 refine qq0 (qqn (v := .p _) (hp1 := []) [] false [] ent48 (f_pvSpec l) ⟨.inl ⟨rfl, rfl⟩, trivial⟩ trivial rfl rfl (fun h => by cases h) rfl (fun _ h => by cases h) (.inl rfl) rfl rfl) ?_
 refine qqa (qzk rfl) (om rfl (qqz 16 rfl (fun h1 => ?_) (fun h1 => ?_)))
 ·
  have h1r := h1
  try simp only [nq, nr, nl] at h1
  refine qqa (qqb rfl rfl h1r) (qqa (qqb rfl rfl h1r) (qqa (qqr rfl h1r (evo rfl)) (om rfl (qqa (qqb rfl rfl rfl) (qqa (qqb rfl rfl rfl) (qqa (qqr rfl rfl (evo rfl)) (on (a_tt rfl ?_))))))))
  refine rs (qqv (fun ver => qzh qzm elt4 rfl rfl (by decide)) fun v24x1 => ?_)
  refine qqv (fun ver => qzh qxa qzs rfl rfl (by decide)) fun v25x2 => ?_
  refine oa rfl (oa rfl (oa rfl (on (qjs 5 (noA _ _ _ _ _) rfl rfl ?_))))
  refine qjs 6 (noA _ _ _ _ _) rfl rfl ?_
  refine qqx ?_
  have hb : svOk l fu = false := by unfold svOk; first | (simp_all; done) | (rw [decide_eq_false (show ¬ (0 ≤ fu ∧ fu ≤ 2000) by omega), Bool.and_false])
  have hs := sv_bad hb
  exact ⟨[.p _, .sl _, .sl _], .tup [.p _, .sl _, .sl _], [], [], [], ⟨rfl, rfl, rfl, trivial⟩, rfl, rfl, trivial, rfl, rfl, ⟨by rw [hs.1, hs.2.1, hs.2.2]; rfl, rfl, rfl⟩⟩
 have h1r := h1
 try simp only [nq, nr, nl] at h1
 refine qqa (qqd rfl rfl h1r (qqj (evo rfl))) (qqa (qqd rfl rfl h1r (qzt rfl rfl)) (qqa (qqy rfl h1r (evo rfl)) (om rfl (qqz 20 rfl (fun h2 => ?_) (fun h2 => ?_)))))
 ·
  have h2r := h2
  try simp only [nq, nr, nl] at h2
  refine qqa (qqb rfl rfl h2r) (qqa (qqb rfl rfl h2r) (qqa (qqr rfl h2r (evo rfl)) (on (a_tt rfl ?_))))
  refine rs (qqv (fun ver => qzh qzm elt4 rfl rfl (by decide)) fun v24x3 => ?_)
  refine qqv (fun ver => qzh qxa qzs rfl rfl (by decide)) fun v25x4 => ?_
  refine oa rfl (oa rfl (oa rfl (on (qjs 5 (noA _ _ _ _ _) rfl rfl ?_))))
  refine qjs 6 (noA _ _ _ _ _) rfl rfl ?_
  refine qqx ?_
  have hb : svOk l fu = false := by unfold svOk; first | (simp_all; done) | (rw [decide_eq_false (show ¬ (0 ≤ fu ∧ fu ≤ 2000) by omega), Bool.and_false])
  have hs := sv_bad hb
  exact ⟨[.p _, .sl _, .sl _], .tup [.p _, .sl _, .sl _], [], [], [], ⟨rfl, rfl, rfl, trivial⟩, rfl, rfl, trivial, rfl, rfl, ⟨by rw [hs.1, hs.2.1, hs.2.2]; rfl, rfl, rfl⟩⟩
 have h2r := h2
 try simp only [nq, nr, nl] at h2
 refine qqa (qqd rfl rfl h2r (qqj (evo rfl))) (qqa (qqd rfl rfl h2r (j_gt rfl rfl)) (qqa (qqy rfl h2r (evo rfl)) (on (ac rfl (fun h3 => ?_) fun h3 => ?_))))
 ·
  have h3r := h3
  try simp only [nq, nr, nl] at h3
  refine rs (qqv (fun ver => qzh qzm elt4 rfl rfl (by decide)) fun v24x5 => ?_)
  refine qqv (fun ver => qzh qxa qzs rfl rfl (by decide)) fun v25x6 => ?_
  refine oa rfl (oa rfl (oa rfl (on (qjs 5 (noA _ _ _ _ _) rfl rfl ?_))))
  refine qjs 6 (noA _ _ _ _ _) rfl rfl ?_
  refine qqx ?_
  have hb : svOk l fu = false := by unfold svOk; first | (simp_all; done) | (rw [decide_eq_false (show ¬ (0 ≤ fu ∧ fu ≤ 2000) by omega), Bool.and_false])
  have hs := sv_bad hb
  exact ⟨[.p _, .sl _, .sl _], .tup [.p _, .sl _, .sl _], [], [], [], ⟨rfl, rfl, rfl, trivial⟩, rfl, rfl, trivial, rfl, rfl, ⟨by rw [hs.1, hs.2.1, hs.2.2]; rfl, rfl, rfl⟩⟩
 have h3r := h3
 try simp only [nq, nr, nl] at h3
 refine qqo (qqf ?_)
 have hok : svOk l fu = true := by unfold svOk; simp_all
 have hpo := (svOk_parts hok).1
 have hfu := (svOk_parts hok).2
 have hln := pOk_len hpo
 have hvh : visH l 13 [] fu [] := ⟨by rw [List.append_nil]; exact pOk_all hpo, by simp, hfu, inv_nil, rfl, by omega⟩
 have hsv := sv_ok hok
 have hgd := sv_good hok
 have hs0 := f_search0 l fu hvh
 rw [List.append_nil] at hs0
 have hgl : (visit l 13 [] fu []).1.length ≤ 1000 := hgd.len
 refine ar (qqv (fun ver => qzh qj7 qjm rfl rfl (by decide)) fun v27x7 => ?_)
 refine om rfl (qqv (fun ver => j_append_sl qj7 qjm rfl rfl rfl rfl (by intro x hx; obtain ⟨t, _, rfl⟩ := List.mem_map.1 hx; rfl) (all_lf_dC l) (by rw [qqu]; first | omega | (simp only [nr, nl]; omega)) zz) fun v27x8 => ?_)
 refine om rfl (qqa (qjp (parts := [(0, .tmp 29), (2, .tmp 30)]) str162 elt162 rfl rfl) (op_call3 (v := fun ver ver2 ver3 => .tup [.agg [.own 32 ver, .own 100032 ver2, .p _], .p _, .own 200032 ver3]) (hp1 := fun ver ver2 ver3 => [(27, some (v27x8, .gone)), (32, some (ver, .row 69 2 _)), (100032, some (ver2, .row 89 5 _)), (200032, some (ver3, .row 4 1 _))]) [(27, v27x8)] false ent135 hs0 ⟨.inl ⟨rfl, rfl⟩, .inl ⟨rfl, rfl⟩, trivial⟩ ⟨⟨rfl, rfl⟩, trivial⟩ rfl rfl rfl rfl (.inl rfl) (fun _ _ _ => rfl) (fun _ _ _ => rfl) ?_))
 rintro  v32x9 v100032x9 v200032x9
 dsimp only [List.cons_append, List.nil_append]
 refine om rfl (qqa (qqt rfl rfl) (qqa (qqt rfl rfl) (qqa (qqt rfl rfl) (qqv (fun ver => qjd elt162 rfl) fun v7x10 => ?_))))
 refine qjg (qqe qj1 rfl rfl rfl rfl rfl rfl) ?_
 refine oa rfl (oa rfl (on (qqf (rs (om rfl (qqa (j_ne rfl rfl) (on (ac rfl (fun h4 => ?_) fun h4 => ?_))))))))
 ·
  have h4r := h4
  try simp only [nq, nr, nl] at h4
  refine rs (om rfl (om rfl (qqv (fun ver => qzh qxa qzs rfl rfl (by decide)) fun v40x11 => ?_)))
  refine oa rfl (oa rfl (oa rfl (on (qjs 5 (noA _ _ _ _ _) rfl rfl ?_))))
  refine qjs 6 (noA _ _ _ _ _) rfl rfl ?_
  refine qqx ?_
  have hc : ¬ (svR l fu).2.2.1 = 2 := (by assumption)
  have hs : svS l fu = [] := by unfold svS; rw [if_neg (by omega)]
  exact ⟨[.p _, .sl _, .sl _], .tup [.p _, .sl _, .sl _], [], [], [], ⟨rfl, rfl, rfl, trivial⟩, rfl, rfl, trivial, rfl, rfl, ⟨by rw [hsv.1, hsv.2, hs]; rfl, rfl, rfl⟩⟩
 have h4r := h4
 try simp only [nq, nr, nl] at h4
 refine qqo (rs (qqv (fun ver => qzh qxa qzs rfl rfl (by decide)) fun v41x12 => ?_))
 refine oa rfl (on (qqf (rs (oa rfl (on (qqk (qq4 (ι := Nat × Nat) (fun x => x.1 ≤ (visit l 13 [] fu []).1.length) (fun x r => (11, .p (.int .i64 ((x.1 : Nat)))) :: (10, .own 41 x.2) :: r) (fun x r => (41, some (x.2, .row 89 5 (((visit l 13 [] fu []).1.take x.1).map dSt))) :: r) (fun x => (visit l 13 [] fu []).1.length - x.1) (fun _ _ => rfl) (fun _ _ => rfl) (0, v41x12) (by first | exact (Nat.zero_le _) | (dsimp only; exact (Nat.zero_le _))) ⟨⟨rfl, rfl⟩, ⟨rfl, rfl, trivial⟩, ⟨rfl, trivial⟩, ⟨rfl, rfl⟩, ⟨rfl, rfl⟩⟩ ?_)))))))
 rintro ⟨k, v⟩ hk; dsimp only at hk ⊢
 refine qqf (rs (om rfl (qqa (qqi fld162f1 rfl rfl) (qqa (qqc leaf34 rfl rfl rfl) (qqa (qja Tryz.underlying34 rfl rfl) (qqa (qzt rfl rfl) (on (ac rfl (fun h5 => ?_) fun h5 => ?_))))))))
 ·
  have h5r := h5
  try simp only [nq, nr, nl] at h5
  refine qqo (qqf (qqk (rs (qqa (qqi fld162f1 rfl rfl) (qqa (qqc leaf34 rfl rfl rfl) (om rfl (qqa (qq2 qxa rfl rfl rfl rfl zz) (qqa (qz6 (ys := [.p _, .p _, .p _, .sl _, .p _]) agg89 rfl rfl (qqq zz) rfl (Nat.le_refl _)) (qqv (fun ver => qjd qzs rfl) fun v12x13 => ?_)))))))))
  refine qjg (qqe agg89 rfl rfl rfl rfl rfl rfl) ?_
  refine on (rs (qqa (qqi qz9 rfl rfl) (qqa (qqg (ys := [.sl _, .p _]) qq7 rfl rfl rfl (nb rfl)) ?_)))
  refine qq0 (qqn (v := .agg [.sl _, .p _]) (hp1 := []) [] false [] ent136 (f_copyF ((visit l 13 [] fu []).1.getD k default) (by have h9 := List.all_eq_true.1 hgd.ok _ (List.mem_append_right _ (qju (d := default) (show k < (visit l 13 [] fu []).1.length by omega))); have h8 : ((visit l 13 [] fu []).1.getD k default).1.length ≤ 12 := qz2 h9; omega)) ⟨.inl ⟨rfl, rfl⟩, trivial⟩ trivial rfl rfl (fun h => by cases h) rfl (fun _ h => by cases h) (.inl rfl) rfl rfl) ?_
  refine qqa (qqi qz9 rfl rfl) (qjg (j_storea_box qq7 rfl rfl rfl (nb rfl) rfl rfl) ?_)
  refine on (ar (om rfl (qqa (qqg (ys := [.p _, .p _, .p _, .sl _, .p _]) agg89 rfl rfl rfl (nb rfl)) (qqv (fun ver => qqh (parts := [(0, .tmp 59)]) (es := [[_, _, _, _, _]]) qxa qzs rfl rfl (by decide) (by decide) rfl rfl (by simp) rfl) fun v60x14 => ?_))))
  refine qqv (fun ver => qqs qxa qzs rfl rfl rfl rfl rfl rfl (by rw [qqu]; first | omega | (simp only [nr, nl]; omega)) zz) fun v41x15 => ?_
  refine oa rfl (on (ar (om rfl (qqa (qjh rfl rfl zz zz) (oa rfl (on ?_))))))
  exact ⟨(k + 1, v41x15), (by first | exact zz | (dsimp only; exact zz)), ⟨⟨rfl, rfl⟩, ⟨rfl, rfl, trivial⟩, ⟨qj0 (by dsimp only; rw [qjj (d := (default : Con)) (by omega), List.map_append]; rfl), trivial⟩, ⟨rfl, rfl⟩, ⟨rfl, rfl⟩⟩, (by first | exact zz | (dsimp only; exact zz))⟩
 have h5r := h5
 try simp only [nq, nr, nl] at h5
 refine qjf (rs (om rfl (qqv (fun ver => qzh qzm elt4 rfl rfl (by decide)) fun v63x16 => ?_)))
 refine om rfl (oa rfl (oa rfl (oa rfl (on (qjs 5 (noA _ _ _ _ _) rfl rfl ?_)))))
 refine qjs 6 (noA _ _ _ _ _) rfl rfl ?_
 refine qqx ?_
 have hc : (svR l fu).2.2.1 = 2 := (by assumption)
 have hs : svS l fu = (svR l fu).1 := by unfold svS; rw [if_pos (by omega)]
 have hv := hgd.non (by omega)
 exact ⟨[.p _, .sl _, .sl _], .tup [.p _, .sl _, .sl _], [], [], [], ⟨rfl, rfl, rfl, trivial⟩, rfl, rfl, trivial, rfl, rfl, ⟨by rw [hsv.1, hsv.2, hs, hv, List.take_of_length_le (by omega)]; rfl, rfl, rfl⟩⟩
end Go.Ab

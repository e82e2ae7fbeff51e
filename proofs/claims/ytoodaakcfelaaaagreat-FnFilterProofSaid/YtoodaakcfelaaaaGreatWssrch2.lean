/- Walks. -/
import Derived.Test.YtoodaakcfelaaaaGreatBase
import Derived.Test.YtoodaakcfelaaaaGreatPf2
import Derived.Test.YtoodaakcfelaaaaGreatWssrch
import Derived.Test.YtoodaakcfelaaaaGreatWsprop
import Derived.Test.YtoodaakcfelaaaaGreatWscons
namespace Go.Ab
open Go.Proofs
set_option maxRecDepth 100000
set_option maxHeartbeats 8000000
set_option linter.unusedSimpArgs false
set_option linter.unusedVariables false
theorem qz0 {p : Prop} (h : p := by first | omega | (simp only [nr, nl, qjj, qq4]; omega)) : p := h
theorem f_visO (l : List Con) (n : Nat) (st : List Con) (fu : Int) (D : List Int) (hh : visH l (n + 1) st fu D) (IH : ∀ (st' : List Con) (fu' : Int) (d : Int), visH l n st' fu' (D ++ [d]) → Fn Tryz.prog 134 [.ptr 0 0 0, .own 3 0] [.box 158 [.own 1 0, .p (.int .i64 (fu')), .own 2 0, .p (.bool (false))], .row 69 2 ((l ++ st').map dC), .row 89 5 ((st').map dSt), .row 3 1 ((D ++ [d]).map dI)] (fun rr ii nn => rr = .tup [.own 4 0, .p (.bool (decide ((visit l n st' (fu') (D ++ [d])).2.2.1 = 1)))] ∧ ii = [.box 158 [.own 5 0, .p (.int .i64 ((visit l n st' (fu') (D ++ [d])).2.1)), .own 6 0, .p (.bool (decide ((visit l n st' (fu') (D ++ [d])).2.2.1 = 0)))], .gone, .gone, .row 3 1 ((D ++ [d]).map dI)] ∧ nn = [.row 4 1 ((visit l n st' (fu') (D ++ [d])).2.2.2.map dB), .row 69 2 ((l ++ (visit l n st' (fu') (D ++ [d])).1).map dC), .row 89 5 (((visit l n st' (fu') (D ++ [d])).1).map dSt)])) : Fn Tryz.prog 134 [.ptr 0 0 0, .own 3 0] [.box 158 [.own 1 0, .p (.int .i64 (fu)), .own 2 0, .p (.bool (false))], .row 69 2 ((l ++ st).map dC), .row 89 5 ((st).map dSt), .row 3 1 ((D).map dI)] (fun rr ii nn => rr = .tup [.own 4 0, .p (.bool (decide ((visit l (n + 1) st (fu) (D)).2.2.1 = 1)))] ∧ ii = [.box 158 [.own 5 0, .p (.int .i64 ((visit l (n + 1) st (fu) (D)).2.1)), .own 6 0, .p (.bool (decide ((visit l (n + 1) st (fu) (D)).2.2.1 = 0)))], .gone, .gone, .row 3 1 ((D).map dI)] ∧ nn = [.row 4 1 ((visit l (n + 1) st (fu) (D)).2.2.2.map dB), .row 69 2 ((l ++ (visit l (n + 1) st (fu) (D)).1).map dC), .row 89 5 (((visit l (n + 1) st (fu) (D)).1).map dSt)]) := by
 refine qjm Tryz.func134 rfl (nb rfl) fun w X g => ?_
 show AWp _ _ _ ⟨[(0, .ptr 0 0 0), (1, .own 3 0)], [(0, some (0, .box 158 [.own 1 0, .p (.int .i64 (fu)), .own 2 0, .p (.bool (false))])), (1, some (0, .row 69 2 ((l ++ st).map dC))), (2, some (0, .row 89 5 ((st).map dSt))), (3, some (0, .row 3 1 ((D).map dI)))]⟩
 have hvd := visH_len hh
 have hall := hh.1
 have hst := hh.2.1
 have hfu := hh.2.2.1
 have hinv := hh.2.2.2.1
 have hasc := hinv.1
 have hll := hh.2.2.2.2.2
 have hz12 : zeroP.length = 12 := rfl
 have hpok := prD_ok (l := l) (st := st) (D := D)
 have hpl := qxb hpok
 have hprd : (prop (l ++ st) (asgL zeroP D)).2 = (prD l st D).2 := rfl
 refine a_mvB (i := 1) 0 0 1001 (by decide) (by decide) rfl rfl rfl rfl fun v1001x1 => ?_
 try dsimp only [List.set]
 refine a_mvB (i := 2) 0 2 1002 (by decide) (by decide) rfl rfl rfl rfl fun v1002x2 => ?_
 try dsimp only [List.set]
 refine rs (oa rfl (oa rfl (on (qjt 4 4 4 1 rfl fun v4 => ?_))))
 refine qqe (rs (om rfl (qqa (qjk rfl rfl) (qqa (qqi fld158f1 rfl rfl) (qqa (qqc qq2 rfl rfl rfl) (qqa (qz4 rfl rfl) (om rfl (qqx 22 rfl (fun h1 => ?_) (fun h1 => ?_)))))))))
 ·
  have h1r := h1
  try simp only [nq, nr, nl, qjj, qq4] at h1
  refine qqa (qqb rfl rfl h1r) (qqa (qqb rfl rfl h1r) (qqa (qqb rfl rfl h1r) (qqa (qqb rfl rfl h1r) (qqa (qqb rfl rfl h1r) (qqa (qqb rfl rfl h1r) (qqa (qqu rfl h1r (evo rfl)) (on (a_tt rfl ?_))))))))
  refine rs (om rfl (qqa (qjk rfl rfl) (qqa (qqi fld158f3 rfl rfl) (qjo (qje leaf4 rfl rfl (nb rfl) (evo rfl) rfl) ?_))))
  refine on (rs (oa rfl (oa rfl (on (qjt 4 4 4 1 rfl fun v4 => ?_)))))
  refine qqm ?_
  have hr := vs_much (l := l) (n := n) (D := D) (fu := fu) (st := st) (by first | exact .inl (by omega) | exact .inr (by omega))
  exact ⟨[.own 4 v4, .p _], .tup [.own 4 0, .p _], [.box 158 [.own 5 0, .p _, .own 6 0, .p _], .gone, .gone, .row 3 1 _], [.row 4 1 _, .row 69 2 _, .row 89 5 _], [(4, v4), (1001, v1001x1), (1002, v1002x2)], ⟨rfl, rfl, trivial⟩, rfl, rfl, ⟨⟨rfl, rfl⟩, ⟨rfl, rfl⟩, ⟨rfl, rfl⟩, ⟨rfl, rfl⟩, ⟨rfl, rfl⟩, ⟨rfl, rfl⟩, ⟨rfl, rfl⟩, trivial⟩, rfl, rfl, ⟨by rw [hr]; rfl, by rw [hr]; rfl, by rw [hr]; rfl⟩⟩
 have h1r := h1
 try simp only [nq, nr, nl, qjj, qq4] at h1
 refine qqa (qqd rfl rfl h1r (qql (evo rfl))) (qqa (qqd rfl rfl h1r (qjk rfl rfl)) (qqa (qqd rfl rfl h1r (qqi fld158f2 rfl rfl)) (qqa (qqd rfl rfl h1r (qqc leaf34 rfl rfl rfl)) (qqa (qqd rfl rfl h1r (qq7 Tryz.underlying34 rfl rfl)) (qqa (qqd rfl rfl h1r (j_ge rfl rfl)) (qqa (qqt rfl h1r (evo rfl)) (on (ac rfl (fun h2 => ?_) fun h2 => ?_))))))))
 ·
  have h2r := h2
  try simp only [nq, nr, nl, qjj, qq4] at h2
  refine rs (om rfl (qqa (qjk rfl rfl) (qqa (qqi fld158f3 rfl rfl) (qjo (qje leaf4 rfl rfl (nb rfl) (evo rfl) rfl) ?_))))
  refine on (rs (oa rfl (oa rfl (on (qjt 4 4 4 1 rfl fun v4 => ?_)))))
  refine qqm ?_
  have hr := vs_much (l := l) (n := n) (D := D) (fu := fu) (st := st) (by first | exact .inl (by omega) | exact .inr (by omega))
  exact ⟨[.own 4 v4, .p _], .tup [.own 4 0, .p _], [.box 158 [.own 5 0, .p _, .own 6 0, .p _], .gone, .gone, .row 3 1 _], [.row 4 1 _, .row 69 2 _, .row 89 5 _], [(4, v4), (1001, v1001x1), (1002, v1002x2)], ⟨rfl, rfl, trivial⟩, rfl, rfl, ⟨⟨rfl, rfl⟩, ⟨rfl, rfl⟩, ⟨rfl, rfl⟩, ⟨rfl, rfl⟩, ⟨rfl, rfl⟩, ⟨rfl, rfl⟩, ⟨rfl, rfl⟩, trivial⟩, rfl, rfl, ⟨by rw [hr]; rfl, by rw [hr]; rfl, by rw [hr]; rfl⟩⟩
 have h2r := h2
 try simp only [nq, nr, nl, qjj, qq4] at h2
 refine qqj (qqe ?_)
 have hm : ¬ (fu = 0 ∨ 1000 ≤ st.length) := by omega
 refine ar (om rfl (qqa (qjk rfl rfl) (qqa (qqi fld158f1 rfl rfl) (qqa (qqc qq2 rfl rfl rfl) (qqa (qzy rfl rfl qz0 qz0) (qqa (qjk rfl rfl) (qqa (qqi fld158f1 rfl rfl) (qjo (qje qq2 rfl rfl (nb rfl) (evo rfl) rfl) ?_))))))))
 refine on (rs (qq5 (fun ver => j_make (n := 12) qqz qz7 rfl rfl (by decide) rfl rfl rfl rfl qz0 (by rw [qq0]; first | omega | (simp only [nr, nl, qjj, qq4]; omega))) fun v40x3 => ?_))
 refine oa rfl (on (a_row 40 (es' := (asgL zeroP (D.take 0)).map dI) rfl (by rw [List.take_zero]; rfl) ?_))
 refine qqe (rs (om rfl (qqa (qq7 Tryz.underlying23 rfl rfl) (om rfl (on (qqf (qqr (ι := Nat) (fun k => k ≤ D.length) (fun k r => (43, .p (.int .i64 ((k : Nat)))) :: r) (fun k r => (40, some (v40x3, .row 3 1 ((asgL zeroP (D.take k)).map dI))) :: r) (fun k => D.length - k) (fun _ _ => rfl) (fun _ _ => rfl) 0 (Nat.zero_le _) ⟨⟨rfl, rfl⟩, ⟨rfl, trivial⟩, ⟨rfl, trivial⟩, ⟨rfl, rfl⟩, ⟨rfl, rfl⟩⟩ ?_)))))))
 intro k hk
 refine rs (qqa (qzb rfl rfl) (on (qqe (ac rfl (fun h3 => ?_) fun h3 => ?_))))
 ·
  have h3r := h3
  try simp only [nq, nr, nl, qjj, qq4] at h3
  refine qqj (qqe (qqf (rs (qqa (qqo qqz rfl rfl rfl rfl qz0) (qqa (qjd qq2 rfl rfl (qqh qz0) rfl) (oa rfl (on (qqe ?_))))))))
  have hli := litOk_iff.1 (asc_at hasc (k := k) qz0)
  have hvo := varOf_rng (asc_at hasc (k := k) qz0)
  have hal := qq4 (p := zeroP) (ms := D.take k)
  refine ar (om rfl (om rfl ?_))
  refine qq3 (qqn (v := .p _) (hp1 := []) [] false [] ent111 (f_varOf (D.getD k default) (by omega)) ⟨.inl ⟨rfl, rfl⟩, trivial⟩ trivial rfl rfl (fun h => by cases h) rfl (fun _ h => by cases h) (.inl rfl) rfl rfl) ?_
  refine qqa (qzy rfl rfl qz0 qz0) (qqa (qqo (n := (varOf (D.getD k default) - 1).toNat) qqz rfl rfl rfl (by omega) qz0) ?_)
  refine qjo (qji qq2 rfl rfl qz0 (evo rfl) rfl rfl) ?_
  refine on (rs (om rfl (qqa (qzb rfl rfl) (on (ac rfl (fun h4 => ?_) fun h4 => ?_)))))
  ·
   have h4r := h4
   try simp only [nq, nr, nl, qjj, qq4] at h4
   refine ar (om rfl (om rfl (qqa (j_neg rfl qz0 qz0) (qqa (qzy rfl rfl qz0 qz0) (qqa (qqo (n := (-(D.getD k default) - 1).toNat) qqz rfl rfl rfl (by omega) qz0) ?_)))))
   refine qjo (qji qq2 rfl rfl qz0 (evo rfl) rfl rfl) ?_
   refine on (ar (qqa (qjh rfl rfl qz0 qz0) (om rfl (on ?_))))
   exact ⟨k + 1, qz0, ⟨⟨rfl, rfl⟩, ⟨rfl, trivial⟩, ⟨qza (by rw [asgL_next qz0]; first | exact asg_twop (by omega) | exact asg_twon (by omega)), trivial⟩, ⟨rfl, rfl⟩, ⟨rfl, rfl⟩⟩, qz0⟩
  have h4r := h4
  try simp only [nq, nr, nl, qjj, qq4] at h4
  refine qqj (ar (qqa (qjh rfl rfl qz0 qz0) (om rfl (on ?_))))
  exact ⟨k + 1, qz0, ⟨⟨rfl, rfl⟩, ⟨rfl, trivial⟩, ⟨qza (by rw [asgL_next qz0]; first | exact asg_twop (by omega) | exact asg_twon (by omega)), trivial⟩, ⟨rfl, rfl⟩, ⟨rfl, rfl⟩⟩, qz0⟩
 have h3r := h3
 try simp only [nq, nr, nl, qjj, qq4] at h3
 refine qja (qqe (a_row 40 (es' := (asgL zeroP D).map dI) rfl (by rw [List.take_of_length_le qz0]) ?_))
 refine ar (om rfl (qqa (qjk rfl rfl) (qqa (qqi fld158f0 rfl rfl) (qqa (qqc leaf30 rfl rfl rfl) (om rfl ?_)))))
 refine qj9 (fun ver => qj8 (v := .tup [.own 66 ver, .p _]) (hp1 := [(66, some (ver, .row 3 1 _))]) [] true [1001, 40] ent182 (f_prop (l ++ st) (asgL zeroP D) hall qz0 (asgL_ok zero_ok)) ⟨.inr ⟨rfl, qzl rfl rfl, rfl⟩, .inr ⟨rfl, qzl rfl rfl, rfl⟩, trivial⟩ trivial rfl rfl rfl (fun _ => rfl) rfl (List.all_eq_true.1 rfl) (.inr ⟨rfl, by first | exact pl_new1 (fun _ => rfl) | exact qz9 | (simp [plO, plV, plV.plL]; done)⟩) rfl rfl) fun v66x4 => ?_
 refine om rfl (qqa (qjg rfl rfl) (qqa (qjg rfl rfl) (oa rfl (oa rfl (on (qqe (rs (om rfl (qqa (qzb rfl rfl) (on (ac rfl (fun h5 => ?_) fun h5 => ?_)))))))))))
 ·
  have h5r := h5
  try simp only [nq, nr, nl, qjj, qq4] at h5
  refine qqe ?_
  have hc1 : ¬ 0 ≤ (prD l st D).2 := by omega
  refine ar (om rfl ?_)
  refine qj9 (fun ver => qj8 (v := .tup [.own 73 ver, .p _, .p _]) (hp1 := [(73, some (ver, .row 4 1 _))]) [] true [66] ent183 (f_valuesOf (prD l st D).1 (by omega)) ⟨.inr ⟨rfl, qzl rfl rfl, rfl⟩, trivial⟩ trivial rfl rfl rfl (fun _ => rfl) rfl (List.all_eq_true.1 rfl) (.inr ⟨rfl, by first | exact pl_new1 (fun _ => rfl) | exact qz9 | (simp [plO, plV, plV.plL]; done)⟩) rfl rfl) fun v73x5 => ?_
  refine om rfl (qqa (qjg rfl rfl) (qqa (qjg rfl rfl) (qqa (qjg rfl rfl) (oa rfl (oa rfl (oa rfl (on (qqe (rs (om rfl (on (ac rfl (fun h6 => ?_) fun h6 => ?_))))))))))))
  ·
   have h6r := h6
   try simp only [nq, nr, nl, qjj, qq4] at h6
   refine rs (om rfl (oa rfl (oa rfl (on (qqm ?_)))))
   have hv0 : freeV (prD l st D).1 = 0 := by simp_all
   have hr := vs_sat (n := n) hm hc1 hv0
   exact ⟨[.own 73 v73x5, .p _], .tup [.own 4 0, .p _], [.box 158 [.own 5 0, .p _, .own 6 0, .p _], .gone, .gone, .row 3 1 _], [.row 4 1 _, .row 69 2 _, .row 89 5 _], [(73, v73x5), (1001, v1001x1), (1002, v1002x2)], ⟨rfl, rfl, trivial⟩, rfl, rfl, ⟨⟨rfl, rfl⟩, ⟨rfl, rfl⟩, ⟨rfl, rfl⟩, ⟨rfl, rfl⟩, ⟨rfl, rfl⟩, ⟨rfl, rfl⟩, ⟨rfl, rfl⟩, trivial⟩, rfl, rfl, ⟨by rw [hr]; rfl, by rw [hr]; rfl, by rw [hr, valO_y hv0]⟩⟩
  have h6r := h6
  try simp only [nq, nr, nl, qjj, qq4] at h6
  refine qqj (qqe (qqe ?_))
  have hv0 : ¬ freeV (prD l st D).1 = 0 := by simp_all
  have hv12 := (freeV_some hv0).1
  refine ar (om rfl (om rfl (qqa (j_neg rfl qz0 qz0) (qq5 (fun ver => qqw (parts := [(0, .tmp 79), (1, .tmp 81)]) (es := [[_], [_]]) qqz qz7 rfl rfl (by decide) (by decide) rfl rfl (by simp) rfl) fun v82x6 => ?_))))
  refine qqa (j_len_own Tryz.underlying23 rfl rfl) (om rfl (on (a_row 82 (es' := (twoV l st D).map dI) rfl rfl ?_)))
  try dsimp only [List.length_cons, List.length_nil]
  refine qqf (qqr (ι := Nat × Nat × Nat) (fun x => x.1 ≤ 2 ∧ ∀ i, i < x.1 → (visN l n st fu D i).2.2.1 = 2) (fun x r => (84, .p (.int .i64 ((x.1 : Nat)))) :: r) (fun x r => (0, some (0, .box 158 [.own 1001 x.2.1, .p (.int .i64 ((visK l n st fu D x.1).2)), .own 1002 x.2.2, .p (.bool (false))])) :: (1001, some (x.2.1, .row 69 2 ((l ++ (visK l n st fu D x.1).1).map dC))) :: (1002, some (x.2.2, .row 89 5 (((visK l n st fu D x.1).1).map dSt))) :: r) (fun x => 2 - x.1) (fun _ _ => rfl) (fun _ _ => rfl) (0, v1001x1, v1002x2) (by first | exact ⟨Nat.zero_le _, fun i h => absurd h (Nat.not_lt_zero i)⟩ | (dsimp only; exact ⟨Nat.zero_le _, fun i h => absurd h (Nat.not_lt_zero i)⟩)) ⟨⟨rfl, rfl⟩, ⟨rfl, trivial⟩, ⟨rfl, rfl, rfl, trivial⟩, ⟨rfl, rfl⟩, ⟨rfl, rfl⟩⟩ ?_)
  rintro ⟨k, v1, v2⟩ hk; dsimp only at hk ⊢
  refine rs (qqa (qzb rfl rfl) (on (qqe (ac rfl (fun h7 => ?_) fun h7 => ?_))))
  ·
   have h7r := h7
   try simp only [nq, nr, nl, qjj, qq4] at h7
   refine qqj (qqe (qqf (rs (qqa (qqo qqz rfl rfl rfl rfl qz0) (qqa (qjd qq2 rfl rfl (qqh qz0) rfl) (oa rfl (on (qqe ?_))))))))
   have hkH := visK_H hh hm hc1 hv0 (k := k) qz0
   have hkG := visN_good hh hm hc1 hv0 (k := k) qz0
   have hvn : (visit l n (visK l n st fu D k).1 (visK l n st fu D k).2 (D ++ [((twoV l st D).getD k default)])).2.2.1 = (visN l n st fu D k).2.2.1 := rfl
   have IH9 := IH _ _ _ hkH
   rw [show (D ++ [((twoV l st D).getD k default)]).map dI = D.map dI ++ [dI ((twoV l st D).getD k default)] from List.map_append ..] at IH9
   refine ar (om rfl (om rfl ?_))
   refine qj9 (fun ver => qj8 (v := .own 91 ver) (hp1 := [(91, some (ver, .row 3 1 _))]) [] true [3] ent108 (f_cloneI D (by omega)) ⟨.inr ⟨rfl, qzl rfl rfl, rfl⟩, trivial⟩ trivial rfl rfl rfl (fun _ => rfl) rfl (List.all_eq_true.1 rfl) (.inr ⟨rfl, by first | exact pl_new1 (fun _ => rfl) | exact qz9 | (simp [plO, plV, plV.plL]; done)⟩) rfl rfl) fun v91x7 => ?_
   refine om rfl (qq5 (fun ver => qqw (parts := [(0, .tmp 92)]) (es := [[_]]) qqz qz7 rfl rfl (by decide) (by decide) rfl rfl (by simp) rfl) fun v93x8 => ?_)
   refine qq5 (fun ver => qq6 qqz qz7 rfl rfl rfl rfl rfl rfl (by rw [qq0]; first | omega | (simp only [nr, nl, qjj, qq4]; omega)) qz0) fun v91x9 => ?_
   refine op_call3 (v := fun ver ver2 ver3 => .tup [.own 95 ver, .p _]) (hp1 := fun ver ver2 ver3 => [(0, some (0, .box 158 [.own 100095 ver2, .p _, .own 200095 ver3, .p _])), (1001, some (v1, .gone)), (1002, some (v2, .gone)), (91, some (v91x9, .row 3 1 _)), (95, some (ver, .row 4 1 _)), (100095, some (ver2, .row 69 2 _)), (200095, some (ver3, .row 89 5 _))]) [(0, 0), (1001, v1), (1002, v2), (91, v91x9)] false ent134 IH9 ⟨.inl ⟨rfl, rfl⟩, .inl ⟨rfl, rfl⟩, trivial⟩ ⟨⟨rfl, rfl⟩, ⟨rfl, rfl⟩, ⟨rfl, rfl⟩, ⟨rfl, rfl⟩, trivial⟩ rfl rfl rfl rfl (.inl rfl) (fun _ _ _ => rfl) (fun _ _ _ => rfl) ?_
   rintro  v95x10 v100095x10 v200095x10
   dsimp only [List.cons_append, List.nil_append]
   refine om rfl (qqa (qjg rfl rfl) (qqa (qjg rfl rfl) (oa rfl (oa rfl (on (a_mvB (i := 100095) 0 0 1001 (by decide) (by decide) rfl rfl rfl rfl fun v1001x11 => ?_))))))
   try dsimp only [List.set]
   refine a_mvB (i := 200095) 0 2 1002 (by decide) (by decide) rfl rfl rfl rfl fun v1002x12 => ?_
   try dsimp only [List.set]
   refine rs (om rfl (om rfl (qqx 99 rfl (fun h8 => ?_) (fun h8 => ?_))))
   ·
    have h8r := h8
    try simp only [nq, nr, nl, qjj, qq4] at h8
    refine qqa (qqb rfl rfl h8r) (qqa (qqb rfl rfl h8r) (qqa (qqb rfl rfl h8r) (qqa (qqb rfl rfl h8r) (qqa (qqu rfl h8r (evo rfl)) (on (a_tt rfl ?_))))))
    refine qqe ?_
    have hne : (visN l n st fu D k).2.2.1 ≠ 2 := by omega
    refine ar (om rfl (om rfl (oa rfl (oa rfl (on (qqm ?_))))))
    have hr := visN_hit hm hc1 hv0 (k := k) qz0 (fun q => hk.2 0 (by omega)) hne
    exact ⟨[.own 95 v95x10, .p _], .tup [.own 4 0, .p _], [.box 158 [.own 5 0, .p _, .own 6 0, .p _], .gone, .gone, .row 3 1 _], [.row 4 1 _, .row 69 2 _, .row 89 5 _], [(95, v95x10), (1001, v1001x11), (1002, v1002x12)], ⟨rfl, rfl, trivial⟩, rfl, rfl, ⟨⟨rfl, rfl⟩, ⟨rfl, rfl⟩, ⟨rfl, rfl⟩, ⟨rfl, rfl⟩, ⟨rfl, rfl⟩, ⟨rfl, rfl⟩, ⟨rfl, rfl⟩, trivial⟩, rfl, rfl, ⟨by rw [hr]; rfl, by rw [hr]; rfl, by rw [hr]; rfl⟩⟩
   have h8r := h8
   try simp only [nq, nr, nl, qjj, qq4] at h8
   refine qqa (qqd rfl rfl h8r (qql (evo rfl))) (qqa (qqd rfl rfl h8r (qjk rfl rfl)) (qqa (qqd rfl rfl h8r (qqi fld158f3 rfl rfl)) (qqa (qqd rfl rfl h8r (qqc leaf4 rfl rfl rfl)) (qqa (qqt rfl h8r (evo rfl)) (on (ac rfl (fun h9 => ?_) fun h9 => ?_))))))
   ·
    have h9r := h9
    try simp only [nq, nr, nl, qjj, qq4] at h9
    refine qqe ?_
    have hne : (visN l n st fu D k).2.2.1 ≠ 2 := by omega
    refine ar (om rfl (om rfl (oa rfl (oa rfl (on (qqm ?_))))))
    have hr := visN_hit hm hc1 hv0 (k := k) qz0 (fun q => hk.2 0 (by omega)) hne
    exact ⟨[.own 95 v95x10, .p _], .tup [.own 4 0, .p _], [.box 158 [.own 5 0, .p _, .own 6 0, .p _], .gone, .gone, .row 3 1 _], [.row 4 1 _, .row 69 2 _, .row 89 5 _], [(95, v95x10), (1001, v1001x11), (1002, v1002x12)], ⟨rfl, rfl, trivial⟩, rfl, rfl, ⟨⟨rfl, rfl⟩, ⟨rfl, rfl⟩, ⟨rfl, rfl⟩, ⟨rfl, rfl⟩, ⟨rfl, rfl⟩, ⟨rfl, rfl⟩, ⟨rfl, rfl⟩, trivial⟩, rfl, rfl, ⟨by rw [hr]; rfl, by rw [hr]; rfl, by rw [hr]; rfl⟩⟩
   have h9r := h9
   try simp only [nq, nr, nl, qjj, qq4] at h9
   refine qqj ?_
   have h2e : (visN l n st fu D k).2.2.1 = 2 := by have := hkG.code; omega
   refine ar (qqa (qjh rfl rfl qz0 qz0) (om rfl (on ?_)))
   exact ⟨(k + 1, v1001x11, v1002x12), (by first | exact ⟨by first | omega | (simp only [nr, nl, qjj, qq4]; omega), fun i hi => by rcases Nat.lt_succ_iff_lt_or_eq.1 hi with q | q; (· exact hk.2 i q); (· subst q; exact h2e)⟩ | (dsimp only; exact ⟨by first | omega | (simp only [nr, nl, qjj, qq4]; omega), fun i hi => by rcases Nat.lt_succ_iff_lt_or_eq.1 hi with q | q; (· exact hk.2 i q); (· subst q; exact h2e)⟩)), ⟨⟨rfl, rfl⟩, ⟨rfl, trivial⟩, ⟨(by dsimp only; rw [visK_next (by omega)]; exact boxF (decide_eq_false (by omega))), (by dsimp only; rw [visK_next (by omega)]; rfl), (by dsimp only; rw [visK_next (by omega)]; rfl), trivial⟩, ⟨rfl, rfl⟩, ⟨rfl, rfl⟩⟩, (by first | exact qz0 | (dsimp only; exact qz0))⟩
  have h7r := h7
  try simp only [nq, nr, nl, qjj, qq4] at h7
  refine qja (qqe ?_)
  obtain rfl : k = 2 := by omega
  have hk1 := hk.2 1 (by omega)
  have hk0 := hk.2 0 (by omega)
  have hvl2 : (visK l n st fu D 2).1.length = (vis2 l n st fu D).1.length := rfl
  have hk2G := (visN_good hh hm hc1 hv0 (k := 1) (by omega)).len
  have hk2L : (vis2 l n st fu D).1.length ≤ 1000 := hk2G
  refine ar (om rfl (qqa (qjk rfl rfl) (qqa (qqi fld158f2 rfl rfl) (qqa (qqc leaf34 rfl rfl rfl) (qqa (qq7 Tryz.underlying34 rfl rfl) (qqa (j_ge rfl rfl) (on (ac rfl (fun h10 => ?_) fun h10 => ?_))))))))
  ·
   have h10r := h10
   try simp only [nq, nr, nl, qjj, qq4] at h10
   refine rs (om rfl (qqa (qjk rfl rfl) (qqa (qqi fld158f3 rfl rfl) (qjo (qje leaf4 rfl rfl (nb rfl) (evo rfl) rfl) ?_))))
   refine on (rs (oa rfl (oa rfl (on (qjt 4 4 4 1 rfl fun v4 => ?_)))))
   refine qqm ?_
   have hr := vs_full hm hc1 hv0 (fun q => q hk0) (fun q => q hk1) qz0
   exact ⟨[.own 4 v4, .p _], .tup [.own 4 0, .p _], [.box 158 [.own 5 0, .p _, .own 6 0, .p _], .gone, .gone, .row 3 1 _], [.row 4 1 _, .row 69 2 _, .row 89 5 _], [(4, v4), (1001, v1), (1002, v2)], ⟨rfl, rfl, trivial⟩, rfl, rfl, ⟨⟨rfl, rfl⟩, ⟨rfl, rfl⟩, ⟨rfl, rfl⟩, ⟨rfl, rfl⟩, ⟨rfl, rfl⟩, ⟨rfl, rfl⟩, ⟨rfl, rfl⟩, trivial⟩, rfl, rfl, ⟨by rw [hr]; rfl, by rw [hr]; rfl, by rw [hr]; rfl⟩⟩
  have h10r := h10
  try simp only [nq, nr, nl, qjj, qq4] at h10
  refine qqj (rs (om rfl (om rfl (op_call2 (v := fun ver ver2 => .tup []) (hp1 := fun ver ver2 => [(0, some (0, .box 158 [.own 119 ver, .p _, .own 100119 ver2, .p _])), (1001, some (v1, .gone)), (1002, some (v2, .gone)), (3, some (0, .row 3 1 _)), (119, some (ver, .row 69 2 _)), (100119, some (ver2, .row 89 5 _))]) [(0, 0), (1001, v1), (1002, v2), (3, 0)] false ent184 (f_failO (l ++ (visK l n st fu D 2).1) (visK l n st fu D 2).1 (visK l n st fu D 2).2 false D hasc (by have h9 : (visK l n st fu D 2).1.length < 1000 := qz0; simp; omega) qz0) ⟨.inl ⟨rfl, rfl⟩, .inl ⟨rfl, rfl⟩, trivial⟩ ⟨⟨rfl, rfl⟩, ⟨rfl, rfl⟩, ⟨rfl, rfl⟩, ⟨rfl, rfl⟩, trivial⟩ rfl rfl rfl rfl (.inl rfl) (fun _ _ => rfl) (fun _ _ => rfl) ?_))))
  rintro  v119x13 v100119x13
  dsimp only [List.cons_append, List.nil_append]
  refine on (rs (oa rfl (oa rfl (on (qjt 4 4 4 1 rfl fun v4 => ?_)))))
  refine qqm ?_
  exact ⟨[.own 4 v4, .p _], .tup [.own 4 0, .p _], [.box 158 [.own 5 0, .p _, .own 6 0, .p _], .gone, .gone, .row 3 1 _], [.row 4 1 _, .row 69 2 _, .row 89 5 _], [(4, v4), (119, v119x13), (100119, v100119x13)], ⟨rfl, rfl, trivial⟩, rfl, rfl, ⟨⟨rfl, rfl⟩, ⟨rfl, rfl⟩, ⟨rfl, rfl⟩, ⟨rfl, rfl⟩, ⟨rfl, rfl⟩, ⟨rfl, rfl⟩, ⟨rfl, rfl⟩, trivial⟩, rfl, rfl, ⟨by (first | (have hr := vs_bad (l := l) (n := n) (D := D) hm (by omega)) | (have hr := vs_fail hm hc1 hv0 (fun q => q hk0) (fun q => q hk1) (by omega))); rw [hr]; rfl, by (first | (have hr := vs_bad (l := l) (n := n) (D := D) hm (by omega)) | (have hr := vs_fail hm hc1 hv0 (fun q => q hk0) (fun q => q hk1) (by omega))); rw [hr]; rfl, by (first | (have hr := vs_bad (l := l) (n := n) (D := D) hm (by omega)) | (have hr := vs_fail hm hc1 hv0 (fun q => q hk0) (fun q => q hk1) (by omega))); rw [hr]; simp only [List.append_assoc]; try rfl⟩⟩
 have h5r := h5
 try simp only [nq, nr, nl, qjj, qq4] at h5
 refine qqj (rs (om rfl (om rfl (op_call2 (v := fun ver ver2 => .tup []) (hp1 := fun ver ver2 => [(0, some (0, .box 158 [.own 119 ver, .p _, .own 100119 ver2, .p _])), (1001, some (v1001x1, .gone)), (1002, some (v1002x2, .gone)), (3, some (0, .row 3 1 _)), (119, some (ver, .row 69 2 _)), (100119, some (ver2, .row 89 5 _))]) [(0, 0), (1001, v1001x1), (1002, v1002x2), (3, 0)] false ent184 (f_failO (l ++ st) st (fu - 1) false D hasc (by simp; omega) (by omega)) ⟨.inl ⟨rfl, rfl⟩, .inl ⟨rfl, rfl⟩, trivial⟩ ⟨⟨rfl, rfl⟩, ⟨rfl, rfl⟩, ⟨rfl, rfl⟩, ⟨rfl, rfl⟩, trivial⟩ rfl rfl rfl rfl (.inl rfl) (fun _ _ => rfl) (fun _ _ => rfl) ?_))))
 rintro  v119x14 v100119x14
 dsimp only [List.cons_append, List.nil_append]
 refine on (rs (oa rfl (oa rfl (on (qjt 4 4 4 1 rfl fun v4 => ?_)))))
 refine qqm ?_
 exact ⟨[.own 4 v4, .p _], .tup [.own 4 0, .p _], [.box 158 [.own 5 0, .p _, .own 6 0, .p _], .gone, .gone, .row 3 1 _], [.row 4 1 _, .row 69 2 _, .row 89 5 _], [(4, v4), (119, v119x14), (100119, v100119x14)], ⟨rfl, rfl, trivial⟩, rfl, rfl, ⟨⟨rfl, rfl⟩, ⟨rfl, rfl⟩, ⟨rfl, rfl⟩, ⟨rfl, rfl⟩, ⟨rfl, rfl⟩, ⟨rfl, rfl⟩, ⟨rfl, rfl⟩, trivial⟩, rfl, rfl, ⟨by (first | (have hr := vs_bad (l := l) (n := n) (D := D) hm (by omega)) | (have hr := vs_fail hm hc1 hv0 (fun q => q hk0) (fun q => q hk1) (by omega))); rw [hr]; rfl, by (first | (have hr := vs_bad (l := l) (n := n) (D := D) hm (by omega)) | (have hr := vs_fail hm hc1 hv0 (fun q => q hk0) (fun q => q hk1) (by omega))); rw [hr]; rfl, by (first | (have hr := vs_bad (l := l) (n := n) (D := D) hm (by omega)) | (have hr := vs_fail hm hc1 hv0 (fun q => q hk0) (fun q => q hk1) (by omega))); rw [hr]; simp only [List.append_assoc]; try rfl⟩⟩
theorem f_visN (l : List Con) (n : Nat) (st : List Con) (fu : Int) (D : List Int) (hh : visH l (n + 1) st fu D) (hD : D = []) (IH : ∀ (st' : List Con) (fu' : Int) (d : Int), visH l n st' fu' (D ++ [d]) → Fn Tryz.prog 134 [.ptr 0 0 0, .own 3 0] [.box 158 [.own 1 0, .p (.int .i64 (fu')), .own 2 0, .p (.bool (false))], .row 69 2 ((l ++ st').map dC), .row 89 5 ((st').map dSt), .row 3 1 ((D ++ [d]).map dI)] (fun rr ii nn => rr = .tup [.own 4 0, .p (.bool (decide ((visit l n st' (fu') (D ++ [d])).2.2.1 = 1)))] ∧ ii = [.box 158 [.own 5 0, .p (.int .i64 ((visit l n st' (fu') (D ++ [d])).2.1)), .own 6 0, .p (.bool (decide ((visit l n st' (fu') (D ++ [d])).2.2.1 = 0)))], .gone, .gone, .row 3 1 ((D ++ [d]).map dI)] ∧ nn = [.row 4 1 ((visit l n st' (fu') (D ++ [d])).2.2.2.map dB), .row 69 2 ((l ++ (visit l n st' (fu') (D ++ [d])).1).map dC), .row 89 5 (((visit l n st' (fu') (D ++ [d])).1).map dSt)])) : Fn Tryz.prog 134 [.ptr 0 0 0, .p (.slice none 0 0)] [.box 158 [.own 1 0, .p (.int .i64 (fu)), .own 2 0, .p (.bool (false))], .row 69 2 ((l ++ st).map dC), .row 89 5 ((st).map dSt)] (fun rr ii nn => rr = .tup [.own 3 0, .p (.bool (decide ((visit l (n + 1) st (fu) (D)).2.2.1 = 1)))] ∧ ii = [.box 158 [.own 4 0, .p (.int .i64 ((visit l (n + 1) st (fu) (D)).2.1)), .own 5 0, .p (.bool (decide ((visit l (n + 1) st (fu) (D)).2.2.1 = 0)))], .gone, .gone] ∧ nn = [.row 4 1 ((visit l (n + 1) st (fu) (D)).2.2.2.map dB), .row 69 2 ((l ++ (visit l (n + 1) st (fu) (D)).1).map dC), .row 89 5 (((visit l (n + 1) st (fu) (D)).1).map dSt)]) := by
 refine qjm Tryz.func134 rfl (nb rfl) fun w X g => ?_
 show AWp _ _ _ ⟨[(0, .ptr 0 0 0), (1, .p (.slice none 0 0))], [(0, some (0, .box 158 [.own 1 0, .p (.int .i64 (fu)), .own 2 0, .p (.bool (false))])), (1, some (0, .row 69 2 ((l ++ st).map dC))), (2, some (0, .row 89 5 ((st).map dSt)))]⟩
 refine a_nil 1 rfl ?_
 rw [show (V.sl []) = .sl (D.map dI) by rw [hD]; rfl]
 have hvd := visH_len hh
 have hall := hh.1
 have hst := hh.2.1
 have hfu := hh.2.2.1
 have hinv := hh.2.2.2.1
 have hasc := hinv.1
 have hll := hh.2.2.2.2.2
 have hz12 : zeroP.length = 12 := rfl
 have hpok := prD_ok (l := l) (st := st) (D := D)
 have hpl := qxb hpok
 have hprd : (prop (l ++ st) (asgL zeroP D)).2 = (prD l st D).2 := rfl
 refine a_mvB (i := 1) 0 0 1001 (by decide) (by decide) rfl rfl rfl rfl fun v1001x1 => ?_
 try dsimp only [List.set]
 refine a_mvB (i := 2) 0 2 1002 (by decide) (by decide) rfl rfl rfl rfl fun v1002x2 => ?_
 try dsimp only [List.set]
 refine rs (oa rfl (oa rfl (on (qjt 4 4 4 1 rfl fun v4 => ?_))))
 refine qqe (rs (om rfl (qqa (qjk rfl rfl) (qqa (qqi fld158f1 rfl rfl) (qqa (qqc qq2 rfl rfl rfl) (qqa (qz4 rfl rfl) (om rfl (qqx 22 rfl (fun h1 => ?_) (fun h1 => ?_)))))))))
 ·
  have h1r := h1
  try simp only [nq, nr, nl, qjj, qq4] at h1
  refine qqa (qqb rfl rfl h1r) (qqa (qqb rfl rfl h1r) (qqa (qqb rfl rfl h1r) (qqa (qqb rfl rfl h1r) (qqa (qqb rfl rfl h1r) (qqa (qqb rfl rfl h1r) (qqa (qqu rfl h1r (evo rfl)) (on (a_tt rfl ?_))))))))
  refine rs (om rfl (qqa (qjk rfl rfl) (qqa (qqi fld158f3 rfl rfl) (qjo (qje leaf4 rfl rfl (nb rfl) (evo rfl) rfl) ?_))))
  refine on (rs (oa rfl (oa rfl (on (qjt 4 4 4 1 rfl fun v4 => ?_)))))
  refine qqm ?_
  have hr := vs_much (l := l) (n := n) (D := D) (fu := fu) (st := st) (by first | exact .inl (by omega) | exact .inr (by omega))
  exact ⟨[.own 4 v4, .p _], .tup [.own 3 0, .p _], [.box 158 [.own 4 0, .p _, .own 5 0, .p _], .gone, .gone], [.row 4 1 _, .row 69 2 _, .row 89 5 _], [(4, v4), (1001, v1001x1), (1002, v1002x2)], ⟨rfl, rfl, trivial⟩, rfl, rfl, ⟨⟨rfl, rfl⟩, ⟨rfl, rfl⟩, ⟨rfl, rfl⟩, ⟨rfl, rfl⟩, ⟨rfl, rfl⟩, ⟨rfl, rfl⟩, trivial⟩, rfl, rfl, ⟨by rw [hr]; rfl, by rw [hr]; rfl, by rw [hr]; rfl⟩⟩
 have h1r := h1
 try simp only [nq, nr, nl, qjj, qq4] at h1
 refine qqa (qqd rfl rfl h1r (qql (evo rfl))) (qqa (qqd rfl rfl h1r (qjk rfl rfl)) (qqa (qqd rfl rfl h1r (qqi fld158f2 rfl rfl)) (qqa (qqd rfl rfl h1r (qqc leaf34 rfl rfl rfl)) (qqa (qqd rfl rfl h1r (qq7 Tryz.underlying34 rfl rfl)) (qqa (qqd rfl rfl h1r (j_ge rfl rfl)) (qqa (qqt rfl h1r (evo rfl)) (on (ac rfl (fun h2 => ?_) fun h2 => ?_))))))))
 ·
  have h2r := h2
  try simp only [nq, nr, nl, qjj, qq4] at h2
  refine rs (om rfl (qqa (qjk rfl rfl) (qqa (qqi fld158f3 rfl rfl) (qjo (qje leaf4 rfl rfl (nb rfl) (evo rfl) rfl) ?_))))
  refine on (rs (oa rfl (oa rfl (on (qjt 4 4 4 1 rfl fun v4 => ?_)))))
  refine qqm ?_
  have hr := vs_much (l := l) (n := n) (D := D) (fu := fu) (st := st) (by first | exact .inl (by omega) | exact .inr (by omega))
  exact ⟨[.own 4 v4, .p _], .tup [.own 3 0, .p _], [.box 158 [.own 4 0, .p _, .own 5 0, .p _], .gone, .gone], [.row 4 1 _, .row 69 2 _, .row 89 5 _], [(4, v4), (1001, v1001x1), (1002, v1002x2)], ⟨rfl, rfl, trivial⟩, rfl, rfl, ⟨⟨rfl, rfl⟩, ⟨rfl, rfl⟩, ⟨rfl, rfl⟩, ⟨rfl, rfl⟩, ⟨rfl, rfl⟩, ⟨rfl, rfl⟩, trivial⟩, rfl, rfl, ⟨by rw [hr]; rfl, by rw [hr]; rfl, by rw [hr]; rfl⟩⟩
 have h2r := h2
 try simp only [nq, nr, nl, qjj, qq4] at h2
 refine qqj (qqe ?_)
 have hm : ¬ (fu = 0 ∨ 1000 ≤ st.length) := by omega
 refine ar (om rfl (qqa (qjk rfl rfl) (qqa (qqi fld158f1 rfl rfl) (qqa (qqc qq2 rfl rfl rfl) (qqa (qzy rfl rfl qz0 qz0) (qqa (qjk rfl rfl) (qqa (qqi fld158f1 rfl rfl) (qjo (qje qq2 rfl rfl (nb rfl) (evo rfl) rfl) ?_))))))))
 refine on (rs (qq5 (fun ver => j_make (n := 12) qqz qz7 rfl rfl (by decide) rfl rfl rfl rfl qz0 (by rw [qq0]; first | omega | (simp only [nr, nl, qjj, qq4]; omega))) fun v40x3 => ?_))
 refine oa rfl (on (a_row 40 (es' := (asgL zeroP (D.take 0)).map dI) rfl (by rw [List.take_zero]; rfl) ?_))
 refine qqe (rs (om rfl (qqa (qqg Tryz.underlying23 rfl) (om rfl (on (qqf (qqr (ι := Nat) (fun k => k ≤ D.length) (fun k r => (43, .p (.int .i64 ((k : Nat)))) :: r) (fun k r => (40, some (v40x3, .row 3 1 ((asgL zeroP (D.take k)).map dI))) :: r) (fun k => D.length - k) (fun _ _ => rfl) (fun _ _ => rfl) 0 (Nat.zero_le _) ⟨⟨rfl, rfl⟩, ⟨rfl, trivial⟩, ⟨rfl, trivial⟩, ⟨rfl, rfl⟩, ⟨rfl, rfl⟩⟩ ?_)))))))
 intro k hk
 refine rs (qqa (qzb rfl rfl) (on (qqe (ac rfl (fun h3 => ?_) fun h3 => ?_))))
 ·
  have h3r := h3
  try simp only [nq, nr, nl, qjj, qq4] at h3
  refine qqj (qqe (qqf (rs (qqa (qqy qqz rfl rfl rfl (qqh qz0) rfl) (qqa (qqp qq2 rfl (qqh qz0) rfl) (oa rfl (on (qqe ?_))))))))
  have hli := litOk_iff.1 (asc_at hasc (k := k) qz0)
  have hvo := varOf_rng (asc_at hasc (k := k) qz0)
  have hal := qq4 (p := zeroP) (ms := D.take k)
  refine ar (om rfl (om rfl ?_))
  refine qq3 (qqn (v := .p _) (hp1 := []) [] false [] ent111 (f_varOf (D.getD k default) (by omega)) ⟨.inl ⟨rfl, rfl⟩, trivial⟩ trivial rfl rfl (fun h => by cases h) rfl (fun _ h => by cases h) (.inl rfl) rfl rfl) ?_
  refine qqa (qzy rfl rfl qz0 qz0) (qqa (qqo (n := (varOf (D.getD k default) - 1).toNat) qqz rfl rfl rfl (by omega) qz0) ?_)
  refine qjo (qji qq2 rfl rfl qz0 (evo rfl) rfl rfl) ?_
  refine on (rs (om rfl (qqa (qzb rfl rfl) (on (ac rfl (fun h4 => ?_) fun h4 => ?_)))))
  ·
   have h4r := h4
   try simp only [nq, nr, nl, qjj, qq4] at h4
   refine ar (om rfl (om rfl (qqa (j_neg rfl qz0 qz0) (qqa (qzy rfl rfl qz0 qz0) (qqa (qqo (n := (-(D.getD k default) - 1).toNat) qqz rfl rfl rfl (by omega) qz0) ?_)))))
   refine qjo (qji qq2 rfl rfl qz0 (evo rfl) rfl rfl) ?_
   refine on (ar (qqa (qjh rfl rfl qz0 qz0) (om rfl (on ?_))))
   exact ⟨k + 1, qz0, ⟨⟨rfl, rfl⟩, ⟨rfl, trivial⟩, ⟨qza (by rw [asgL_next qz0]; first | exact asg_twop (by omega) | exact asg_twon (by omega)), trivial⟩, ⟨rfl, rfl⟩, ⟨rfl, rfl⟩⟩, qz0⟩
  have h4r := h4
  try simp only [nq, nr, nl, qjj, qq4] at h4
  refine qqj (ar (qqa (qjh rfl rfl qz0 qz0) (om rfl (on ?_))))
  exact ⟨k + 1, qz0, ⟨⟨rfl, rfl⟩, ⟨rfl, trivial⟩, ⟨qza (by rw [asgL_next qz0]; first | exact asg_twop (by omega) | exact asg_twon (by omega)), trivial⟩, ⟨rfl, rfl⟩, ⟨rfl, rfl⟩⟩, qz0⟩
 have h3r := h3
 try simp only [nq, nr, nl, qjj, qq4] at h3
 refine qja (qqe (a_row 40 (es' := (asgL zeroP D).map dI) rfl (by rw [List.take_of_length_le qz0]) ?_))
 refine ar (om rfl (qqa (qjk rfl rfl) (qqa (qqi fld158f0 rfl rfl) (qqa (qqc leaf30 rfl rfl rfl) (om rfl ?_)))))
 refine qj9 (fun ver => qj8 (v := .tup [.own 66 ver, .p _]) (hp1 := [(66, some (ver, .row 3 1 _))]) [] true [1001, 40] ent182 (f_prop (l ++ st) (asgL zeroP D) hall qz0 (asgL_ok zero_ok)) ⟨.inr ⟨rfl, qzl rfl rfl, rfl⟩, .inr ⟨rfl, qzl rfl rfl, rfl⟩, trivial⟩ trivial rfl rfl rfl (fun _ => rfl) rfl (List.all_eq_true.1 rfl) (.inr ⟨rfl, by first | exact pl_new1 (fun _ => rfl) | exact qz9 | (simp [plO, plV, plV.plL]; done)⟩) rfl rfl) fun v66x4 => ?_
 refine om rfl (qqa (qjg rfl rfl) (qqa (qjg rfl rfl) (oa rfl (oa rfl (on (qqe (rs (om rfl (qqa (qzb rfl rfl) (on (ac rfl (fun h5 => ?_) fun h5 => ?_)))))))))))
 ·
  have h5r := h5
  try simp only [nq, nr, nl, qjj, qq4] at h5
  refine qqe ?_
  have hc1 : ¬ 0 ≤ (prD l st D).2 := by omega
  refine ar (om rfl ?_)
  refine qj9 (fun ver => qj8 (v := .tup [.own 73 ver, .p _, .p _]) (hp1 := [(73, some (ver, .row 4 1 _))]) [] true [66] ent183 (f_valuesOf (prD l st D).1 (by omega)) ⟨.inr ⟨rfl, qzl rfl rfl, rfl⟩, trivial⟩ trivial rfl rfl rfl (fun _ => rfl) rfl (List.all_eq_true.1 rfl) (.inr ⟨rfl, by first | exact pl_new1 (fun _ => rfl) | exact qz9 | (simp [plO, plV, plV.plL]; done)⟩) rfl rfl) fun v73x5 => ?_
  refine om rfl (qqa (qjg rfl rfl) (qqa (qjg rfl rfl) (qqa (qjg rfl rfl) (oa rfl (oa rfl (oa rfl (on (qqe (rs (om rfl (on (ac rfl (fun h6 => ?_) fun h6 => ?_))))))))))))
  ·
   have h6r := h6
   try simp only [nq, nr, nl, qjj, qq4] at h6
   refine rs (om rfl (oa rfl (oa rfl (on (qqm ?_)))))
   have hv0 : freeV (prD l st D).1 = 0 := by simp_all
   have hr := vs_sat (n := n) hm hc1 hv0
   exact ⟨[.own 73 v73x5, .p _], .tup [.own 3 0, .p _], [.box 158 [.own 4 0, .p _, .own 5 0, .p _], .gone, .gone], [.row 4 1 _, .row 69 2 _, .row 89 5 _], [(73, v73x5), (1001, v1001x1), (1002, v1002x2)], ⟨rfl, rfl, trivial⟩, rfl, rfl, ⟨⟨rfl, rfl⟩, ⟨rfl, rfl⟩, ⟨rfl, rfl⟩, ⟨rfl, rfl⟩, ⟨rfl, rfl⟩, ⟨rfl, rfl⟩, trivial⟩, rfl, rfl, ⟨by rw [hr]; rfl, by rw [hr]; rfl, by rw [hr, valO_y hv0]⟩⟩
  have h6r := h6
  try simp only [nq, nr, nl, qjj, qq4] at h6
  refine qqj (qqe (qqe ?_))
  have hv0 : ¬ freeV (prD l st D).1 = 0 := by simp_all
  have hv12 := (freeV_some hv0).1
  refine ar (om rfl (om rfl (qqa (j_neg rfl qz0 qz0) (qq5 (fun ver => qqw (parts := [(0, .tmp 79), (1, .tmp 81)]) (es := [[_], [_]]) qqz qz7 rfl rfl (by decide) (by decide) rfl rfl (by simp) rfl) fun v82x6 => ?_))))
  refine qqa (j_len_own Tryz.underlying23 rfl rfl) (om rfl (on (a_row 82 (es' := (twoV l st D).map dI) rfl rfl ?_)))
  try dsimp only [List.length_cons, List.length_nil]
  refine qqf (qqr (ι := Nat × Nat × Nat) (fun x => x.1 ≤ 2 ∧ ∀ i, i < x.1 → (visN l n st fu D i).2.2.1 = 2) (fun x r => (84, .p (.int .i64 ((x.1 : Nat)))) :: r) (fun x r => (0, some (0, .box 158 [.own 1001 x.2.1, .p (.int .i64 ((visK l n st fu D x.1).2)), .own 1002 x.2.2, .p (.bool (false))])) :: (1001, some (x.2.1, .row 69 2 ((l ++ (visK l n st fu D x.1).1).map dC))) :: (1002, some (x.2.2, .row 89 5 (((visK l n st fu D x.1).1).map dSt))) :: r) (fun x => 2 - x.1) (fun _ _ => rfl) (fun _ _ => rfl) (0, v1001x1, v1002x2) (by first | exact ⟨Nat.zero_le _, fun i h => absurd h (Nat.not_lt_zero i)⟩ | (dsimp only; exact ⟨Nat.zero_le _, fun i h => absurd h (Nat.not_lt_zero i)⟩)) ⟨⟨rfl, rfl⟩, ⟨rfl, trivial⟩, ⟨rfl, rfl, rfl, trivial⟩, ⟨rfl, rfl⟩, ⟨rfl, rfl⟩⟩ ?_)
  rintro ⟨k, v1, v2⟩ hk; dsimp only at hk ⊢
  refine rs (qqa (qzb rfl rfl) (on (qqe (ac rfl (fun h7 => ?_) fun h7 => ?_))))
  ·
   have h7r := h7
   try simp only [nq, nr, nl, qjj, qq4] at h7
   refine qqj (qqe (qqf (rs (qqa (qqo qqz rfl rfl rfl rfl qz0) (qqa (qjd qq2 rfl rfl (qqh qz0) rfl) (oa rfl (on (qqe ?_))))))))
   have hkH := visK_H hh hm hc1 hv0 (k := k) qz0
   have hkG := visN_good hh hm hc1 hv0 (k := k) qz0
   have hvn : (visit l n (visK l n st fu D k).1 (visK l n st fu D k).2 (D ++ [((twoV l st D).getD k default)])).2.2.1 = (visN l n st fu D k).2.2.1 := rfl
   have IH9 := IH _ _ _ hkH
   rw [show (D ++ [((twoV l st D).getD k default)]).map dI = D.map dI ++ [dI ((twoV l st D).getD k default)] from List.map_append ..] at IH9
   refine ar (om rfl (om rfl ?_))
   refine qj9 (fun ver => qj8 (v := .own 91 ver) (hp1 := [(91, some (ver, .row 3 1 _))]) [] false [] ent108 (f_cloneI D (by omega)) ⟨.inl ⟨rfl, rfl⟩, trivial⟩ trivial rfl rfl rfl (fun h => by cases h) rfl (List.all_eq_true.1 rfl) (.inl rfl) rfl rfl) fun v91x7 => ?_
   refine om rfl (qq5 (fun ver => qqw (parts := [(0, .tmp 92)]) (es := [[_]]) qqz qz7 rfl rfl (by decide) (by decide) rfl rfl (by simp) rfl) fun v93x8 => ?_)
   refine qq5 (fun ver => qq6 qqz qz7 rfl rfl rfl rfl rfl rfl (by rw [qq0]; first | omega | (simp only [nr, nl, qjj, qq4]; omega)) qz0) fun v91x9 => ?_
   refine op_call3 (v := fun ver ver2 ver3 => .tup [.own 95 ver, .p _]) (hp1 := fun ver ver2 ver3 => [(0, some (0, .box 158 [.own 100095 ver2, .p _, .own 200095 ver3, .p _])), (1001, some (v1, .gone)), (1002, some (v2, .gone)), (91, some (v91x9, .row 3 1 _)), (95, some (ver, .row 4 1 _)), (100095, some (ver2, .row 69 2 _)), (200095, some (ver3, .row 89 5 _))]) [(0, 0), (1001, v1), (1002, v2), (91, v91x9)] false ent134 IH9 ⟨.inl ⟨rfl, rfl⟩, .inl ⟨rfl, rfl⟩, trivial⟩ ⟨⟨rfl, rfl⟩, ⟨rfl, rfl⟩, ⟨rfl, rfl⟩, ⟨rfl, rfl⟩, trivial⟩ rfl rfl rfl rfl (.inl rfl) (fun _ _ _ => rfl) (fun _ _ _ => rfl) ?_
   rintro  v95x10 v100095x10 v200095x10
   dsimp only [List.cons_append, List.nil_append]
   refine om rfl (qqa (qjg rfl rfl) (qqa (qjg rfl rfl) (oa rfl (oa rfl (on (a_mvB (i := 100095) 0 0 1001 (by decide) (by decide) rfl rfl rfl rfl fun v1001x11 => ?_))))))
   try dsimp only [List.set]
   refine a_mvB (i := 200095) 0 2 1002 (by decide) (by decide) rfl rfl rfl rfl fun v1002x12 => ?_
   try dsimp only [List.set]
   refine rs (om rfl (om rfl (qqx 99 rfl (fun h8 => ?_) (fun h8 => ?_))))
   ·
    have h8r := h8
    try simp only [nq, nr, nl, qjj, qq4] at h8
    refine qqa (qqb rfl rfl h8r) (qqa (qqb rfl rfl h8r) (qqa (qqb rfl rfl h8r) (qqa (qqb rfl rfl h8r) (qqa (qqu rfl h8r (evo rfl)) (on (a_tt rfl ?_))))))
    refine qqe ?_
    have hne : (visN l n st fu D k).2.2.1 ≠ 2 := by omega
    refine ar (om rfl (om rfl (oa rfl (oa rfl (on (qqm ?_))))))
    have hr := visN_hit hm hc1 hv0 (k := k) qz0 (fun q => hk.2 0 (by omega)) hne
    exact ⟨[.own 95 v95x10, .p _], .tup [.own 3 0, .p _], [.box 158 [.own 4 0, .p _, .own 5 0, .p _], .gone, .gone], [.row 4 1 _, .row 69 2 _, .row 89 5 _], [(95, v95x10), (1001, v1001x11), (1002, v1002x12)], ⟨rfl, rfl, trivial⟩, rfl, rfl, ⟨⟨rfl, rfl⟩, ⟨rfl, rfl⟩, ⟨rfl, rfl⟩, ⟨rfl, rfl⟩, ⟨rfl, rfl⟩, ⟨rfl, rfl⟩, trivial⟩, rfl, rfl, ⟨by rw [hr]; rfl, by rw [hr]; rfl, by rw [hr]; rfl⟩⟩
   have h8r := h8
   try simp only [nq, nr, nl, qjj, qq4] at h8
   refine qqa (qqd rfl rfl h8r (qql (evo rfl))) (qqa (qqd rfl rfl h8r (qjk rfl rfl)) (qqa (qqd rfl rfl h8r (qqi fld158f3 rfl rfl)) (qqa (qqd rfl rfl h8r (qqc leaf4 rfl rfl rfl)) (qqa (qqt rfl h8r (evo rfl)) (on (ac rfl (fun h9 => ?_) fun h9 => ?_))))))
   ·
    have h9r := h9
    try simp only [nq, nr, nl, qjj, qq4] at h9
    refine qqe ?_
    have hne : (visN l n st fu D k).2.2.1 ≠ 2 := by omega
    refine ar (om rfl (om rfl (oa rfl (oa rfl (on (qqm ?_))))))
    have hr := visN_hit hm hc1 hv0 (k := k) qz0 (fun q => hk.2 0 (by omega)) hne
    exact ⟨[.own 95 v95x10, .p _], .tup [.own 3 0, .p _], [.box 158 [.own 4 0, .p _, .own 5 0, .p _], .gone, .gone], [.row 4 1 _, .row 69 2 _, .row 89 5 _], [(95, v95x10), (1001, v1001x11), (1002, v1002x12)], ⟨rfl, rfl, trivial⟩, rfl, rfl, ⟨⟨rfl, rfl⟩, ⟨rfl, rfl⟩, ⟨rfl, rfl⟩, ⟨rfl, rfl⟩, ⟨rfl, rfl⟩, ⟨rfl, rfl⟩, trivial⟩, rfl, rfl, ⟨by rw [hr]; rfl, by rw [hr]; rfl, by rw [hr]; rfl⟩⟩
   have h9r := h9
   try simp only [nq, nr, nl, qjj, qq4] at h9
   refine qqj ?_
   have h2e : (visN l n st fu D k).2.2.1 = 2 := by have := hkG.code; omega
   refine ar (qqa (qjh rfl rfl qz0 qz0) (om rfl (on ?_)))
   exact ⟨(k + 1, v1001x11, v1002x12), (by first | exact ⟨by first | omega | (simp only [nr, nl, qjj, qq4]; omega), fun i hi => by rcases Nat.lt_succ_iff_lt_or_eq.1 hi with q | q; (· exact hk.2 i q); (· subst q; exact h2e)⟩ | (dsimp only; exact ⟨by first | omega | (simp only [nr, nl, qjj, qq4]; omega), fun i hi => by rcases Nat.lt_succ_iff_lt_or_eq.1 hi with q | q; (· exact hk.2 i q); (· subst q; exact h2e)⟩)), ⟨⟨rfl, rfl⟩, ⟨rfl, trivial⟩, ⟨(by dsimp only; rw [visK_next (by omega)]; exact boxF (decide_eq_false (by omega))), (by dsimp only; rw [visK_next (by omega)]; rfl), (by dsimp only; rw [visK_next (by omega)]; rfl), trivial⟩, ⟨rfl, rfl⟩, ⟨rfl, rfl⟩⟩, (by first | exact qz0 | (dsimp only; exact qz0))⟩
  have h7r := h7
  try simp only [nq, nr, nl, qjj, qq4] at h7
  refine qja (qqe ?_)
  obtain rfl : k = 2 := by omega
  have hk1 := hk.2 1 (by omega)
  have hk0 := hk.2 0 (by omega)
  have hvl2 : (visK l n st fu D 2).1.length = (vis2 l n st fu D).1.length := rfl
  have hk2G := (visN_good hh hm hc1 hv0 (k := 1) (by omega)).len
  have hk2L : (vis2 l n st fu D).1.length ≤ 1000 := hk2G
  refine ar (om rfl (qqa (qjk rfl rfl) (qqa (qqi fld158f2 rfl rfl) (qqa (qqc leaf34 rfl rfl rfl) (qqa (qq7 Tryz.underlying34 rfl rfl) (qqa (j_ge rfl rfl) (on (ac rfl (fun h10 => ?_) fun h10 => ?_))))))))
  ·
   have h10r := h10
   try simp only [nq, nr, nl, qjj, qq4] at h10
   refine rs (om rfl (qqa (qjk rfl rfl) (qqa (qqi fld158f3 rfl rfl) (qjo (qje leaf4 rfl rfl (nb rfl) (evo rfl) rfl) ?_))))
   refine on (rs (oa rfl (oa rfl (on (qjt 4 4 4 1 rfl fun v4 => ?_)))))
   refine qqm ?_
   have hr := vs_full hm hc1 hv0 (fun q => q hk0) (fun q => q hk1) qz0
   exact ⟨[.own 4 v4, .p _], .tup [.own 3 0, .p _], [.box 158 [.own 4 0, .p _, .own 5 0, .p _], .gone, .gone], [.row 4 1 _, .row 69 2 _, .row 89 5 _], [(4, v4), (1001, v1), (1002, v2)], ⟨rfl, rfl, trivial⟩, rfl, rfl, ⟨⟨rfl, rfl⟩, ⟨rfl, rfl⟩, ⟨rfl, rfl⟩, ⟨rfl, rfl⟩, ⟨rfl, rfl⟩, ⟨rfl, rfl⟩, trivial⟩, rfl, rfl, ⟨by rw [hr]; rfl, by rw [hr]; rfl, by rw [hr]; rfl⟩⟩
  have h10r := h10
  try simp only [nq, nr, nl, qjj, qq4] at h10
  refine qqj (rs (om rfl (om rfl (op_call2 (v := fun ver ver2 => .tup []) (hp1 := fun ver ver2 => [(0, some (0, .box 158 [.own 119 ver, .p _, .own 100119 ver2, .p _])), (1001, some (v1, .gone)), (1002, some (v2, .gone)), (119, some (ver, .row 69 2 _)), (100119, some (ver2, .row 89 5 _))]) [(0, 0), (1001, v1), (1002, v2)] false ent184 (f_failS (l ++ (visK l n st fu D 2).1) (visK l n st fu D 2).1 (visK l n st fu D 2).2 false D hasc (by have h9 : (visK l n st fu D 2).1.length < 1000 := qz0; simp; omega) qz0) ⟨.inl ⟨rfl, rfl⟩, .inl ⟨rfl, rfl⟩, trivial⟩ ⟨⟨rfl, rfl⟩, ⟨rfl, rfl⟩, ⟨rfl, rfl⟩, trivial⟩ rfl rfl rfl rfl (.inl rfl) (fun _ _ => rfl) (fun _ _ => rfl) ?_))))
  rintro  v119x13 v100119x13
  dsimp only [List.cons_append, List.nil_append]
  refine on (rs (oa rfl (oa rfl (on (qjt 4 4 4 1 rfl fun v4 => ?_)))))
  refine qqm ?_
  exact ⟨[.own 4 v4, .p _], .tup [.own 3 0, .p _], [.box 158 [.own 4 0, .p _, .own 5 0, .p _], .gone, .gone], [.row 4 1 _, .row 69 2 _, .row 89 5 _], [(4, v4), (119, v119x13), (100119, v100119x13)], ⟨rfl, rfl, trivial⟩, rfl, rfl, ⟨⟨rfl, rfl⟩, ⟨rfl, rfl⟩, ⟨rfl, rfl⟩, ⟨rfl, rfl⟩, ⟨rfl, rfl⟩, ⟨rfl, rfl⟩, trivial⟩, rfl, rfl, ⟨by (first | (have hr := vs_bad (l := l) (n := n) (D := D) hm (by omega)) | (have hr := vs_fail hm hc1 hv0 (fun q => q hk0) (fun q => q hk1) (by omega))); rw [hr]; rfl, by (first | (have hr := vs_bad (l := l) (n := n) (D := D) hm (by omega)) | (have hr := vs_fail hm hc1 hv0 (fun q => q hk0) (fun q => q hk1) (by omega))); rw [hr]; rfl, by (first | (have hr := vs_bad (l := l) (n := n) (D := D) hm (by omega)) | (have hr := vs_fail hm hc1 hv0 (fun q => q hk0) (fun q => q hk1) (by omega))); rw [hr]; simp only [List.append_assoc]; try rfl⟩⟩
 have h5r := h5
 try simp only [nq, nr, nl, qjj, qq4] at h5
 refine qqj (rs (om rfl (om rfl (op_call2 (v := fun ver ver2 => .tup []) (hp1 := fun ver ver2 => [(0, some (0, .box 158 [.own 119 ver, .p _, .own 100119 ver2, .p _])), (1001, some (v1001x1, .gone)), (1002, some (v1002x2, .gone)), (119, some (ver, .row 69 2 _)), (100119, some (ver2, .row 89 5 _))]) [(0, 0), (1001, v1001x1), (1002, v1002x2)] false ent184 (f_failS (l ++ st) st (fu - 1) false D hasc (by simp; omega) (by omega)) ⟨.inl ⟨rfl, rfl⟩, .inl ⟨rfl, rfl⟩, trivial⟩ ⟨⟨rfl, rfl⟩, ⟨rfl, rfl⟩, ⟨rfl, rfl⟩, trivial⟩ rfl rfl rfl rfl (.inl rfl) (fun _ _ => rfl) (fun _ _ => rfl) ?_))))
 rintro  v119x14 v100119x14
 dsimp only [List.cons_append, List.nil_append]
 refine on (rs (oa rfl (oa rfl (on (qjt 4 4 4 1 rfl fun v4 => ?_)))))
 refine qqm ?_
 exact ⟨[.own 4 v4, .p _], .tup [.own 3 0, .p _], [.box 158 [.own 4 0, .p _, .own 5 0, .p _], .gone, .gone], [.row 4 1 _, .row 69 2 _, .row 89 5 _], [(4, v4), (119, v119x14), (100119, v100119x14)], ⟨rfl, rfl, trivial⟩, rfl, rfl, ⟨⟨rfl, rfl⟩, ⟨rfl, rfl⟩, ⟨rfl, rfl⟩, ⟨rfl, rfl⟩, ⟨rfl, rfl⟩, ⟨rfl, rfl⟩, trivial⟩, rfl, rfl, ⟨by (first | (have hr := vs_bad (l := l) (n := n) (D := D) hm (by omega)) | (have hr := vs_fail hm hc1 hv0 (fun q => q hk0) (fun q => q hk1) (by omega))); rw [hr]; rfl, by (first | (have hr := vs_bad (l := l) (n := n) (D := D) hm (by omega)) | (have hr := vs_fail hm hc1 hv0 (fun q => q hk0) (fun q => q hk1) (by omega))); rw [hr]; rfl, by (first | (have hr := vs_bad (l := l) (n := n) (D := D) hm (by omega)) | (have hr := vs_fail hm hc1 hv0 (fun q => q hk0) (fun q => q hk1) (by omega))); rw [hr]; simp only [List.append_assoc]; try rfl⟩⟩
theorem f_visit (l : List Con) : ∀ (n : Nat) (st : List Con) (fu : Int) (D : List Int), visH l n st fu D → Fn Tryz.prog 134 [.ptr 0 0 0, .own 3 0] [.box 158 [.own 1 0, .p (.int .i64 (fu)), .own 2 0, .p (.bool (false))], .row 69 2 ((l ++ st).map dC), .row 89 5 ((st).map dSt), .row 3 1 ((D).map dI)] (fun rr ii nn => rr = .tup [.own 4 0, .p (.bool (decide ((visit l n st (fu) (D)).2.2.1 = 1)))] ∧ ii = [.box 158 [.own 5 0, .p (.int .i64 ((visit l n st (fu) (D)).2.1)), .own 6 0, .p (.bool (decide ((visit l n st (fu) (D)).2.2.1 = 0)))], .gone, .gone, .row 3 1 ((D).map dI)] ∧ nn = [.row 4 1 ((visit l n st (fu) (D)).2.2.2.map dB), .row 69 2 ((l ++ (visit l n st (fu) (D)).1).map dC), .row 89 5 (((visit l n st (fu) (D)).1).map dSt)]) := by
 intro n
 induction n with
 | zero => intro st fu D h; exact absurd rfl (visH_n h)
 | succ n ih => intro st fu D h; exact f_visO l n st fu D h (fun st' fu' d h' => ih st' fu' (D ++ [d]) h')
theorem f_visit0 (l : List Con) (fu : Int) (h : visH l 13 [] fu []) : Fn Tryz.prog 134 [.ptr 0 0 0, .p (.slice none 0 0)] [.box 158 [.own 1 0, .p (.int .i64 (fu)), .own 2 0, .p (.bool (false))], .row 69 2 ((l ++ ([] : List Con)).map dC), .row 89 5 ((([] : List Con)).map dSt)] (fun rr ii nn => rr = .tup [.own 3 0, .p (.bool (decide ((visit l 13 ([] : List Con) (fu) (([] : List Int))).2.2.1 = 1)))] ∧ ii = [.box 158 [.own 4 0, .p (.int .i64 ((visit l 13 ([] : List Con) (fu) (([] : List Int))).2.1)), .own 5 0, .p (.bool (decide ((visit l 13 ([] : List Con) (fu) (([] : List Int))).2.2.1 = 0)))], .gone, .gone] ∧ nn = [.row 4 1 ((visit l 13 ([] : List Con) (fu) (([] : List Int))).2.2.2.map dB), .row 69 2 ((l ++ (visit l 13 ([] : List Con) (fu) (([] : List Int))).1).map dC), .row 89 5 (((visit l 13 ([] : List Con) (fu) (([] : List Int))).1).map dSt)]) :=
 f_visN l 12 [] fu [] h rfl (fun st' fu' d h' => f_visit l 12 st' fu' ([] ++ [d]) h')
end Go.Ab

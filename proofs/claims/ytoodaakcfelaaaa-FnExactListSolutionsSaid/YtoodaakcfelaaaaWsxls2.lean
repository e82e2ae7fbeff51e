/- Walks. -/
import Derived.Test.YtoodaakcfelaaaaBase
import Derived.Test.YtoodaakcfelaaaaCub
import Derived.Test.YtoodaakcfelaaaaWsxls1
import Derived.Test.YtoodaakcfelaaaaWsprop
import Derived.Test.YtoodaakcfelaaaaWscons
namespace Go.Ab
open Go.Proofs
set_option maxRecDepth 100000
set_option maxHeartbeats 8000000
set_option linter.unusedSimpArgs false
set_option linter.unusedVariables false
theorem qze {p : Prop} (h : p := by first | omega | (simp only [nr, nl, qqi, qqc]; omega)) : p := h
theorem f_visDO (l : List Con) (n : Nat) (st : List Con) (fu : Int) (D : List Int) (hh : visH l (n + 1) st fu D) (IH : ∀ (st' : List Con) (fu' : Int) (d : Int), visH l n st' fu' (D ++ [d]) → Fn Try.prog 54 [.ptr 0 0 0, .own 3 0] [.box 88 [.own 1 0, .p (.int .i64 (fu')), .own 2 0, .p (.bool (false))], .row 56 2 ((l ++ st').map dC), .deep (.mk 65 5 [(3, .mk 83 2 [])]) ((st').map dSt) none, .row 3 1 ((D ++ [d]).map dI)] (fun rr ii nn => rr = .tup [.own 4 0, .p (.bool (decide ((visit l n st' (fu') (D ++ [d])).2.2.1 = 1)))] ∧ ii = [.box 88 [.own 5 0, .p (.int .i64 ((visit l n st' (fu') (D ++ [d])).2.1)), .own 6 0, .p (.bool (decide ((visit l n st' (fu') (D ++ [d])).2.2.1 = 0)))], .gone, .gone, .row 3 1 ((D ++ [d]).map dI)] ∧ nn = [.row 4 1 ((visit l n st' (fu') (D ++ [d])).2.2.2.map dB), .row 56 2 ((l ++ (visit l n st' (fu') (D ++ [d])).1).map dC), .deep (.mk 65 5 [(3, .mk 83 2 [])]) (((visit l n st' (fu') (D ++ [d])).1).map dSt) none])) : Fn Try.prog 54 [.ptr 0 0 0, .own 3 0] [.box 88 [.own 1 0, .p (.int .i64 (fu)), .own 2 0, .p (.bool (false))], .row 56 2 ((l ++ st).map dC), .deep (.mk 65 5 [(3, .mk 83 2 [])]) ((st).map dSt) none, .row 3 1 ((D).map dI)] (fun rr ii nn => rr = .tup [.own 4 0, .p (.bool (decide ((visit l (n + 1) st (fu) (D)).2.2.1 = 1)))] ∧ ii = [.box 88 [.own 5 0, .p (.int .i64 ((visit l (n + 1) st (fu) (D)).2.1)), .own 6 0, .p (.bool (decide ((visit l (n + 1) st (fu) (D)).2.2.1 = 0)))], .gone, .gone, .row 3 1 ((D).map dI)] ∧ nn = [.row 4 1 ((visit l (n + 1) st (fu) (D)).2.2.2.map dB), .row 56 2 ((l ++ (visit l (n + 1) st (fu) (D)).1).map dC), .deep (.mk 65 5 [(3, .mk 83 2 [])]) (((visit l (n + 1) st (fu) (D)).1).map dSt) none]) := by
 refine qjj Try.func54 rfl (nb rfl) fun w X g => ?_
 show AWp _ _ _ ⟨[(0, .ptr 0 0 0), (1, .own 3 0)], [(0, some (0, .box 88 [.own 1 0, .p (.int .i64 (fu)), .own 2 0, .p (.bool (false))])), (1, some (0, .row 56 2 ((l ++ st).map dC))), (2, some (0, .deep (.mk 65 5 [(3, .mk 83 2 [])]) ((st).map dSt) none)), (3, some (0, .row 3 1 ((D).map dI)))]⟩
 have hvd := visH_len hh
 have hall := hh.1
 have hst := hh.2.1
 have hfu := hh.2.2.1
 have hinv := hh.2.2.2.1
 have hasc := hinv.1
 have hll := hh.2.2.2.2.2
 have hz12 : zeroP.length = 12 := rfl
 have hpok := prD_ok (l := l) (st := st) (D := D)
 have hpl := qjv hpok
 have hprd : (prop (l ++ st) (asgL zeroP D)).2 = (prD l st D).2 := rfl
 refine a_mvB (i := 1) 0 0 1001 (by decide) (by decide) rfl rfl rfl rfl fun v1001x1 => ?_
 try dsimp only [List.set]
 refine a_mvB (i := 2) 0 2 1002 (by decide) (by decide) rfl rfl rfl rfl fun v1002x2 => ?_
 try dsimp only [List.set]
 refine rs (oa rfl (oa rfl (on (qjb 4 4 4 1 rfl fun v4 => ?_))))
 refine qqd (rs (om rfl (qqa (qji rfl rfl) (qqa (qqm fld88f1 rfl rfl) (qqa (qqe qq7 rfl rfl rfl) (qqa (j_eq rfl rfl) (om rfl (qq9 22 rfl (fun h1 => ?_) (fun h1 => ?_)))))))))
 ·
  have h1r := h1
  try simp only [nq, nr, nl, qqi, qqc] at h1
  refine qqa (qqb rfl rfl h1r) (qqa (qqb rfl rfl h1r) (qqa (qqb rfl rfl h1r) (qqa (qqb rfl rfl h1r) (qqa (qqb rfl rfl h1r) (qqa (qqb rfl rfl h1r) (qqa (qq6 rfl h1r (evo rfl)) (on (a_tt rfl ?_))))))))
  refine rs (om rfl (qqa (qji rfl rfl) (qqa (qqm fld88f3 rfl rfl) (qjk (qq8 leaf4 rfl rfl (nb rfl) (evo rfl) rfl) ?_))))
  refine on (rs (oa rfl (oa rfl (on (qjb 4 4 4 1 rfl fun v4 => ?_)))))
  refine qql ?_
  have hr := vs_much (l := l) (n := n) (D := D) (fu := fu) (st := st) (by first | exact .inl (by omega) | exact .inr (by omega))
  exact ⟨[.own 4 v4, .p _], .tup [.own 4 0, .p _], [.box 88 [.own 5 0, .p _, .own 6 0, .p _], .gone, .gone, .row 3 1 _], [.row 4 1 _, .row 56 2 _, .deep (.mk 65 5 [(3, (.mk 83 2 []))]) _ none], [(4, v4), (1001, v1001x1), (1002, v1002x2)], ⟨rfl, rfl, trivial⟩, rfl, rfl, ⟨⟨rfl, rfl⟩, ⟨rfl, rfl⟩, ⟨rfl, rfl⟩, ⟨rfl, rfl⟩, ⟨rfl, rfl⟩, ⟨rfl, rfl⟩, ⟨rfl, rfl⟩, trivial⟩, rfl, rfl, ⟨by rw [hr]; rfl, by rw [hr]; rfl, by rw [hr]; rfl⟩⟩
 have h1r := h1
 try simp only [nq, nr, nl, qqi, qqc] at h1
 refine qqa (qqf rfl rfl h1r (qqn (evo rfl))) (qqa (qqf rfl rfl h1r (qji rfl rfl)) (qqa (qqf rfl rfl h1r (qqm fld88f2 rfl rfl)) (qqa (qqf rfl rfl h1r (qqe leaf26 rfl rfl rfl)) (qqa (qqf rfl rfl h1r (qz4 Try.underlying26 rfl rfl)) (qqa (qqf rfl rfl h1r (j_ge rfl rfl)) (qqa (qq3 rfl h1r (evo rfl)) (on (ac rfl (fun h2 => ?_) fun h2 => ?_))))))))
 ·
  have h2r := h2
  try simp only [nq, nr, nl, qqi, qqc] at h2
  refine rs (om rfl (qqa (qji rfl rfl) (qqa (qqm fld88f3 rfl rfl) (qjk (qq8 leaf4 rfl rfl (nb rfl) (evo rfl) rfl) ?_))))
  refine on (rs (oa rfl (oa rfl (on (qjb 4 4 4 1 rfl fun v4 => ?_)))))
  refine qql ?_
  have hr := vs_much (l := l) (n := n) (D := D) (fu := fu) (st := st) (by first | exact .inl (by omega) | exact .inr (by omega))
  exact ⟨[.own 4 v4, .p _], .tup [.own 4 0, .p _], [.box 88 [.own 5 0, .p _, .own 6 0, .p _], .gone, .gone, .row 3 1 _], [.row 4 1 _, .row 56 2 _, .deep (.mk 65 5 [(3, (.mk 83 2 []))]) _ none], [(4, v4), (1001, v1001x1), (1002, v1002x2)], ⟨rfl, rfl, trivial⟩, rfl, rfl, ⟨⟨rfl, rfl⟩, ⟨rfl, rfl⟩, ⟨rfl, rfl⟩, ⟨rfl, rfl⟩, ⟨rfl, rfl⟩, ⟨rfl, rfl⟩, ⟨rfl, rfl⟩, trivial⟩, rfl, rfl, ⟨by rw [hr]; rfl, by rw [hr]; rfl, by rw [hr]; rfl⟩⟩
 have h2r := h2
 try simp only [nq, nr, nl, qqi, qqc] at h2
 refine qqg (qqd ?_)
 have hm : ¬ (fu = 0 ∨ 1000 ≤ st.length) := by omega
 refine ar (om rfl (qqa (qji rfl rfl) (qqa (qqm fld88f1 rfl rfl) (qqa (qqe qq7 rfl rfl rfl) (qqa (j_sub rfl rfl qze qze) (qqa (qji rfl rfl) (qqa (qqm fld88f1 rfl rfl) (qjk (qq8 qq7 rfl rfl (nb rfl) (evo rfl) rfl) ?_))))))))
 refine on (rs (qqu (fun ver => j_make (n := 12) qjg elt3 rfl rfl (by decide) rfl rfl rfl rfl qze (by rw [qqw]; first | omega | (simp only [nr, nl, qqi, qqc]; omega))) fun v40x3 => ?_))
 refine oa rfl (on (a_row 40 (es' := (asgL zeroP (D.take 0)).map dI) rfl (by rw [List.take_zero]; rfl) ?_))
 refine qqd (rs (om rfl (qqa (qjc Try.underlying23 rfl rfl) (om rfl (on (qqh (qqt (ι := Nat) (fun k => k ≤ D.length) (fun k r => (43, .p (.int .i64 ((k : Nat)))) :: r) (fun k r => (40, some (v40x3, .row 3 1 ((asgL zeroP (D.take k)).map dI))) :: r) (fun k => D.length - k) (fun _ _ => rfl) (fun _ _ => rfl) 0 (Nat.zero_le _) ⟨⟨rfl, rfl⟩, ⟨rfl, trivial⟩, ⟨rfl, trivial⟩, ⟨rfl, rfl⟩, ⟨rfl, rfl⟩⟩ ?_)))))))
 intro k hk
 refine rs (qqa (qzk rfl rfl) (on (qqd (ac rfl (fun h3 => ?_) fun h3 => ?_))))
 ·
  have h3r := h3
  try simp only [nq, nr, nl, qqi, qqc] at h3
  refine qqg (qqd (qqh (rs (qqa (qqx qjg rfl rfl rfl rfl qze) (qqa (qjl qq7 rfl rfl (qqj qze) rfl) (oa rfl (on (qqd ?_))))))))
  have hli := litOk_iff.1 (asc_at hasc (k := k) qze)
  have hvo := varOf_rng (asc_at hasc (k := k) qze)
  have hal := qqc (p := zeroP) (ms := D.take k)
  refine ar (om rfl (om rfl ?_))
  refine qq4 (qqp (v := .p _) (hp1 := []) [] false [] ent70 (f_varOf (D.getD k default) (by omega)) ⟨.inl ⟨rfl, rfl⟩, trivial⟩ trivial rfl rfl (fun h => by cases h) rfl (fun _ h => by cases h) (.inl rfl) rfl rfl) ?_
  refine qqa (j_sub rfl rfl qze qze) (qqa (qqx (n := (varOf (D.getD k default) - 1).toNat) qjg rfl rfl rfl (by omega) qze) ?_)
  refine qjk (qj9 qq7 rfl rfl qze (evo rfl) rfl rfl) ?_
  refine on (rs (om rfl (qqa (qzk rfl rfl) (on (ac rfl (fun h4 => ?_) fun h4 => ?_)))))
  ·
   have h4r := h4
   try simp only [nq, nr, nl, qqi, qqc] at h4
   refine ar (om rfl (om rfl (qqa (j_neg rfl qze qze) (qqa (j_sub rfl rfl qze qze) (qqa (qqx (n := (-(D.getD k default) - 1).toNat) qjg rfl rfl rfl (by omega) qze) ?_)))))
   refine qjk (qj9 qq7 rfl rfl qze (evo rfl) rfl rfl) ?_
   refine on (ar (qqa (qje rfl rfl qze qze) (om rfl (on ?_))))
   exact ⟨k + 1, qze, ⟨⟨rfl, rfl⟩, ⟨rfl, trivial⟩, ⟨qzd (by rw [asgL_next qze]; first | exact asg_twop (by omega) | exact asg_twon (by omega)), trivial⟩, ⟨rfl, rfl⟩, ⟨rfl, rfl⟩⟩, qze⟩
  have h4r := h4
  try simp only [nq, nr, nl, qqi, qqc] at h4
  refine qqg (ar (qqa (qje rfl rfl qze qze) (om rfl (on ?_))))
  exact ⟨k + 1, qze, ⟨⟨rfl, rfl⟩, ⟨rfl, trivial⟩, ⟨qzd (by rw [asgL_next qze]; first | exact asg_twop (by omega) | exact asg_twon (by omega)), trivial⟩, ⟨rfl, rfl⟩, ⟨rfl, rfl⟩⟩, qze⟩
 have h3r := h3
 try simp only [nq, nr, nl, qqi, qqc] at h3
 refine qjf (qqd (a_row 40 (es' := (asgL zeroP D).map dI) rfl (by rw [List.take_of_length_le qze]) ?_))
 refine ar (om rfl (qqa (qji rfl rfl) (qqa (qqm fld88f0 rfl rfl) (qqa (qqe leaf29 rfl rfl rfl) (om rfl ?_)))))
 refine qzi (fun ver => qj8 (v := .tup [.own 66 ver, .p _]) (hp1 := [(66, some (ver, .row 3 1 _))]) [] true [1001, 40] ent71 (f_prop (l ++ st) (asgL zeroP D) hall qze (asgL_ok zero_ok)) ⟨.inr ⟨rfl, qj1 rfl rfl, rfl⟩, .inr ⟨rfl, qj1 rfl rfl, rfl⟩, trivial⟩ trivial rfl rfl rfl (fun _ => rfl) rfl (List.all_eq_true.1 rfl) (.inr ⟨rfl, by first | exact qjy (fun _ => rfl) | exact qj0 | (simp [plO, plV, plV.plL]; done)⟩) rfl rfl) fun v66x4 => ?_
 refine om rfl (qqa (qqy rfl rfl) (qqa (qqy rfl rfl) (oa rfl (oa rfl (on (qqd (rs (om rfl (qqa (qzk rfl rfl) (on (ac rfl (fun h5 => ?_) fun h5 => ?_)))))))))))
 ·
  have h5r := h5
  try simp only [nq, nr, nl, qqi, qqc] at h5
  refine qqd ?_
  have hc1 : ¬ 0 ≤ (prD l st D).2 := by omega
  refine ar (om rfl ?_)
  refine qzi (fun ver => qj8 (v := .tup [.own 73 ver, .p _, .p _]) (hp1 := [(73, some (ver, .row 4 1 _))]) [] true [66] ent72 (f_valuesOf (prD l st D).1 (by omega)) ⟨.inr ⟨rfl, qj1 rfl rfl, rfl⟩, trivial⟩ trivial rfl rfl rfl (fun _ => rfl) rfl (List.all_eq_true.1 rfl) (.inr ⟨rfl, by first | exact qjy (fun _ => rfl) | exact qj0 | (simp [plO, plV, plV.plL]; done)⟩) rfl rfl) fun v73x5 => ?_
  refine om rfl (qqa (qqy rfl rfl) (qqa (qqy rfl rfl) (qqa (qqy rfl rfl) (oa rfl (oa rfl (oa rfl (on (qqd (rs (om rfl (on (ac rfl (fun h6 => ?_) fun h6 => ?_))))))))))))
  ·
   have h6r := h6
   try simp only [nq, nr, nl, qqi, qqc] at h6
   refine rs (om rfl (oa rfl (oa rfl (on (qql ?_)))))
   have hv0 : freeV (prD l st D).1 = 0 := by simp_all
   have hr := vs_sat (n := n) hm hc1 hv0
   exact ⟨[.own 73 v73x5, .p _], .tup [.own 4 0, .p _], [.box 88 [.own 5 0, .p _, .own 6 0, .p _], .gone, .gone, .row 3 1 _], [.row 4 1 _, .row 56 2 _, .deep (.mk 65 5 [(3, (.mk 83 2 []))]) _ none], [(73, v73x5), (1001, v1001x1), (1002, v1002x2)], ⟨rfl, rfl, trivial⟩, rfl, rfl, ⟨⟨rfl, rfl⟩, ⟨rfl, rfl⟩, ⟨rfl, rfl⟩, ⟨rfl, rfl⟩, ⟨rfl, rfl⟩, ⟨rfl, rfl⟩, ⟨rfl, rfl⟩, trivial⟩, rfl, rfl, ⟨by rw [hr]; rfl, by rw [hr]; rfl, by rw [hr, valO_y hv0]⟩⟩
  have h6r := h6
  try simp only [nq, nr, nl, qqi, qqc] at h6
  refine qqg (qqd (qqd ?_))
  have hv0 : ¬ freeV (prD l st D).1 = 0 := by simp_all
  have hv12 := (freeV_some hv0).1
  refine ar (om rfl (om rfl (qqa (j_neg rfl qze qze) (qqu (fun ver => qqv (parts := [(0, .tmp 79), (1, .tmp 81)]) (es := [[_], [_]]) qjg elt3 rfl rfl (by decide) (by decide) rfl rfl (by simp) rfl) fun v82x6 => ?_))))
  refine qqa (j_len_own Try.underlying23 rfl rfl) (om rfl (on (a_row 82 (es' := (twoV l st D).map dI) rfl rfl ?_)))
  try dsimp only [List.length_cons, List.length_nil]
  refine qqh (qqt (ι := Nat × Nat × Nat) (fun x => x.1 ≤ 2 ∧ ∀ i, i < x.1 → (visN l n st fu D i).2.2.1 = 2) (fun x r => (84, .p (.int .i64 ((x.1 : Nat)))) :: r) (fun x r => (0, some (0, .box 88 [.own 1001 x.2.1, .p (.int .i64 ((visK l n st fu D x.1).2)), .own 1002 x.2.2, .p (.bool (false))])) :: (1001, some (x.2.1, .row 56 2 ((l ++ (visK l n st fu D x.1).1).map dC))) :: (1002, some (x.2.2, .deep (.mk 65 5 [(3, .mk 83 2 [])]) (((visK l n st fu D x.1).1).map dSt) none)) :: r) (fun x => 2 - x.1) (fun _ _ => rfl) (fun _ _ => rfl) (0, v1001x1, v1002x2) (by first | exact ⟨Nat.zero_le _, fun i h => absurd h (Nat.not_lt_zero i)⟩ | (dsimp only; exact ⟨Nat.zero_le _, fun i h => absurd h (Nat.not_lt_zero i)⟩)) ⟨⟨rfl, rfl⟩, ⟨rfl, trivial⟩, ⟨rfl, rfl, rfl, trivial⟩, ⟨rfl, rfl⟩, ⟨rfl, rfl⟩⟩ ?_)
  rintro ⟨k, v1, v2⟩ hk; dsimp only at hk ⊢
  refine rs (qqa (qzk rfl rfl) (on (qqd (ac rfl (fun h7 => ?_) fun h7 => ?_))))
  ·
   have h7r := h7
   try simp only [nq, nr, nl, qqi, qqc] at h7
   refine qqg (qqd (qqh (rs (qqa (qqx qjg rfl rfl rfl rfl qze) (qqa (qjl qq7 rfl rfl (qqj qze) rfl) (oa rfl (on (qqd ?_))))))))
   have hkH := visK_H hh hm hc1 hv0 (k := k) qze
   have hkG := visN_good hh hm hc1 hv0 (k := k) qze
   have hvn : (visit l n (visK l n st fu D k).1 (visK l n st fu D k).2 (D ++ [((twoV l st D).getD k default)])).2.2.1 = (visN l n st fu D k).2.2.1 := rfl
   have IH9 := IH _ _ _ hkH
   rw [show (D ++ [((twoV l st D).getD k default)]).map dI = D.map dI ++ [dI ((twoV l st D).getD k default)] from List.map_append ..] at IH9
   refine ar (om rfl (om rfl ?_))
   refine qzi (fun ver => qj8 (v := .own 91 ver) (hp1 := [(91, some (ver, .row 3 1 _))]) [] true [3] ent73 (f_cloneI D (by omega)) ⟨.inr ⟨rfl, qj1 rfl rfl, rfl⟩, trivial⟩ trivial rfl rfl rfl (fun _ => rfl) rfl (List.all_eq_true.1 rfl) (.inr ⟨rfl, by first | exact qjy (fun _ => rfl) | exact qj0 | (simp [plO, plV, plV.plL]; done)⟩) rfl rfl) fun v91x7 => ?_
   refine om rfl (qqu (fun ver => qqv (parts := [(0, .tmp 92)]) (es := [[_]]) qjg elt3 rfl rfl (by decide) (by decide) rfl rfl (by simp) rfl) fun v93x8 => ?_)
   refine qqu (fun ver => qq2 qjg elt3 rfl rfl rfl rfl rfl rfl (by rw [qqw]; first | omega | (simp only [nr, nl, qqi, qqc]; omega)) qze) fun v91x9 => ?_
   refine op_call3 (v := fun ver ver2 ver3 => .tup [.own 95 ver, .p _]) (hp1 := fun ver ver2 ver3 => [(0, some (0, .box 88 [.own 100095 ver2, .p _, .own 200095 ver3, .p _])), (1001, some (v1, .gone)), (1002, some (v2, .gone)), (91, some (v91x9, .row 3 1 _)), (95, some (ver, .row 4 1 _)), (100095, some (ver2, .row 56 2 _)), (200095, some (ver3, .deep (.mk 65 5 [(3, (.mk 83 2 []))]) _ none))]) [(0, 0), (1001, v1), (1002, v2), (91, v91x9)] false ent54 IH9 ⟨.inl ⟨rfl, rfl⟩, .inl ⟨rfl, rfl⟩, trivial⟩ ⟨⟨rfl, rfl⟩, ⟨rfl, rfl⟩, ⟨rfl, rfl⟩, ⟨rfl, rfl⟩, trivial⟩ rfl rfl rfl rfl (.inl rfl) (fun _ _ _ => rfl) (fun _ _ _ => rfl) ?_
   rintro  v95x10 v100095x10 v200095x10
   dsimp only [List.cons_append, List.nil_append]
   refine om rfl (qqa (qqy rfl rfl) (qqa (qqy rfl rfl) (oa rfl (oa rfl (on (a_mvB (i := 100095) 0 0 1001 (by decide) (by decide) rfl rfl rfl rfl fun v1001x11 => ?_))))))
   try dsimp only [List.set]
   refine a_mvB (i := 200095) 0 2 1002 (by decide) (by decide) rfl rfl rfl rfl fun v1002x12 => ?_
   try dsimp only [List.set]
   refine rs (om rfl (om rfl (qq9 99 rfl (fun h8 => ?_) (fun h8 => ?_))))
   ·
    have h8r := h8
    try simp only [nq, nr, nl, qqi, qqc] at h8
    refine qqa (qqb rfl rfl h8r) (qqa (qqb rfl rfl h8r) (qqa (qqb rfl rfl h8r) (qqa (qqb rfl rfl h8r) (qqa (qq6 rfl h8r (evo rfl)) (on (a_tt rfl ?_))))))
    refine qqd ?_
    have hne : (visN l n st fu D k).2.2.1 ≠ 2 := by omega
    refine ar (om rfl (om rfl (oa rfl (oa rfl (on (qql ?_))))))
    have hr := visN_hit hm hc1 hv0 (k := k) qze (fun q => hk.2 0 (by omega)) hne
    exact ⟨[.own 95 v95x10, .p _], .tup [.own 4 0, .p _], [.box 88 [.own 5 0, .p _, .own 6 0, .p _], .gone, .gone, .row 3 1 _], [.row 4 1 _, .row 56 2 _, .deep (.mk 65 5 [(3, (.mk 83 2 []))]) _ none], [(95, v95x10), (1001, v1001x11), (1002, v1002x12)], ⟨rfl, rfl, trivial⟩, rfl, rfl, ⟨⟨rfl, rfl⟩, ⟨rfl, rfl⟩, ⟨rfl, rfl⟩, ⟨rfl, rfl⟩, ⟨rfl, rfl⟩, ⟨rfl, rfl⟩, ⟨rfl, rfl⟩, trivial⟩, rfl, rfl, ⟨by rw [hr]; rfl, by rw [hr]; rfl, by rw [hr]; rfl⟩⟩
   have h8r := h8
   try simp only [nq, nr, nl, qqi, qqc] at h8
   refine qqa (qqf rfl rfl h8r (qqn (evo rfl))) (qqa (qqf rfl rfl h8r (qji rfl rfl)) (qqa (qqf rfl rfl h8r (qqm fld88f3 rfl rfl)) (qqa (qqf rfl rfl h8r (qqe leaf4 rfl rfl rfl)) (qqa (qq3 rfl h8r (evo rfl)) (on (ac rfl (fun h9 => ?_) fun h9 => ?_))))))
   ·
    have h9r := h9
    try simp only [nq, nr, nl, qqi, qqc] at h9
    refine qqd ?_
    have hne : (visN l n st fu D k).2.2.1 ≠ 2 := by omega
    refine ar (om rfl (om rfl (oa rfl (oa rfl (on (qql ?_))))))
    have hr := visN_hit hm hc1 hv0 (k := k) qze (fun q => hk.2 0 (by omega)) hne
    exact ⟨[.own 95 v95x10, .p _], .tup [.own 4 0, .p _], [.box 88 [.own 5 0, .p _, .own 6 0, .p _], .gone, .gone, .row 3 1 _], [.row 4 1 _, .row 56 2 _, .deep (.mk 65 5 [(3, (.mk 83 2 []))]) _ none], [(95, v95x10), (1001, v1001x11), (1002, v1002x12)], ⟨rfl, rfl, trivial⟩, rfl, rfl, ⟨⟨rfl, rfl⟩, ⟨rfl, rfl⟩, ⟨rfl, rfl⟩, ⟨rfl, rfl⟩, ⟨rfl, rfl⟩, ⟨rfl, rfl⟩, ⟨rfl, rfl⟩, trivial⟩, rfl, rfl, ⟨by rw [hr]; rfl, by rw [hr]; rfl, by rw [hr]; rfl⟩⟩
   have h9r := h9
   try simp only [nq, nr, nl, qqi, qqc] at h9
   refine qqg ?_
   have h2e : (visN l n st fu D k).2.2.1 = 2 := by have := hkG.code; omega
   refine ar (qqa (qje rfl rfl qze qze) (om rfl (on ?_)))
   exact ⟨(k + 1, v1001x11, v1002x12), (by first | exact ⟨by first | omega | (simp only [nr, nl, qqi, qqc]; omega), fun i hi => by rcases Nat.lt_succ_iff_lt_or_eq.1 hi with q | q; (· exact hk.2 i q); (· subst q; exact h2e)⟩ | (dsimp only; exact ⟨by first | omega | (simp only [nr, nl, qqi, qqc]; omega), fun i hi => by rcases Nat.lt_succ_iff_lt_or_eq.1 hi with q | q; (· exact hk.2 i q); (· subst q; exact h2e)⟩)), ⟨⟨rfl, rfl⟩, ⟨rfl, trivial⟩, ⟨(by dsimp only; rw [qzp (by omega)]; exact boxF (decide_eq_false (by omega))), (by dsimp only; rw [qzp (by omega)]; rfl), (by dsimp only; rw [qzp (by omega)]; rfl), trivial⟩, ⟨rfl, rfl⟩, ⟨rfl, rfl⟩⟩, (by first | exact qze | (dsimp only; exact qze))⟩
  have h7r := h7
  try simp only [nq, nr, nl, qqi, qqc] at h7
  refine qjf (qqd ?_)
  obtain rfl : k = 2 := by omega
  have hk1 := hk.2 1 (by omega)
  have hk0 := hk.2 0 (by omega)
  have hvl2 : (visK l n st fu D 2).1.length = (vis2 l n st fu D).1.length := rfl
  have hk2G := (visN_good hh hm hc1 hv0 (k := 1) (by omega)).len
  have hk2L : (vis2 l n st fu D).1.length ≤ 1000 := hk2G
  refine ar (om rfl (qqa (qji rfl rfl) (qqa (qqm fld88f2 rfl rfl) (qqa (qqe leaf26 rfl rfl rfl) (qqa (qz4 Try.underlying26 rfl rfl) (qqa (j_ge rfl rfl) (on (ac rfl (fun h10 => ?_) fun h10 => ?_))))))))
  ·
   have h10r := h10
   try simp only [nq, nr, nl, qqi, qqc] at h10
   refine rs (om rfl (qqa (qji rfl rfl) (qqa (qqm fld88f3 rfl rfl) (qjk (qq8 leaf4 rfl rfl (nb rfl) (evo rfl) rfl) ?_))))
   refine on (rs (oa rfl (oa rfl (on (qjb 4 4 4 1 rfl fun v4 => ?_)))))
   refine qql ?_
   have hr := vs_full hm hc1 hv0 (fun q => q hk0) (fun q => q hk1) qze
   exact ⟨[.own 4 v4, .p _], .tup [.own 4 0, .p _], [.box 88 [.own 5 0, .p _, .own 6 0, .p _], .gone, .gone, .row 3 1 _], [.row 4 1 _, .row 56 2 _, .deep (.mk 65 5 [(3, (.mk 83 2 []))]) _ none], [(4, v4), (1001, v1), (1002, v2)], ⟨rfl, rfl, trivial⟩, rfl, rfl, ⟨⟨rfl, rfl⟩, ⟨rfl, rfl⟩, ⟨rfl, rfl⟩, ⟨rfl, rfl⟩, ⟨rfl, rfl⟩, ⟨rfl, rfl⟩, ⟨rfl, rfl⟩, trivial⟩, rfl, rfl, ⟨by rw [hr]; rfl, by rw [hr]; rfl, by rw [hr]; rfl⟩⟩
  have h10r := h10
  try simp only [nq, nr, nl, qqi, qqc] at h10
  refine qqg (rs (om rfl (om rfl (op_call2 (v := fun ver ver2 => .tup []) (hp1 := fun ver ver2 => [(0, some (0, .box 88 [.own 119 ver, .p _, .own 100119 ver2, .p _])), (1001, some (v1, .gone)), (1002, some (v2, .gone)), (3, some (0, .row 3 1 _)), (119, some (ver, .row 56 2 _)), (100119, some (ver2, .deep (.mk 65 5 [(3, (.mk 83 2 []))]) _ none))]) [(0, 0), (1001, v1), (1002, v2), (3, 0)] false ent74 (f_failDO (l ++ (visK l n st fu D 2).1) (visK l n st fu D 2).1 (visK l n st fu D 2).2 false D hasc (by have h9 : (visK l n st fu D 2).1.length < 1000 := qze; simp; omega) qze) ⟨.inl ⟨rfl, rfl⟩, .inl ⟨rfl, rfl⟩, trivial⟩ ⟨⟨rfl, rfl⟩, ⟨rfl, rfl⟩, ⟨rfl, rfl⟩, ⟨rfl, rfl⟩, trivial⟩ rfl rfl rfl rfl (.inl rfl) (fun _ _ => rfl) (fun _ _ => rfl) ?_))))
  rintro  v119x13 v100119x13
  dsimp only [List.cons_append, List.nil_append]
  refine on (rs (oa rfl (oa rfl (on (qjb 4 4 4 1 rfl fun v4 => ?_)))))
  refine qql ?_
  exact ⟨[.own 4 v4, .p _], .tup [.own 4 0, .p _], [.box 88 [.own 5 0, .p _, .own 6 0, .p _], .gone, .gone, .row 3 1 _], [.row 4 1 _, .row 56 2 _, .deep (.mk 65 5 [(3, (.mk 83 2 []))]) _ none], [(4, v4), (119, v119x13), (100119, v100119x13)], ⟨rfl, rfl, trivial⟩, rfl, rfl, ⟨⟨rfl, rfl⟩, ⟨rfl, rfl⟩, ⟨rfl, rfl⟩, ⟨rfl, rfl⟩, ⟨rfl, rfl⟩, ⟨rfl, rfl⟩, ⟨rfl, rfl⟩, trivial⟩, rfl, rfl, ⟨by (first | (have hr := vs_bad (l := l) (n := n) (D := D) hm (by omega)) | (have hr := qz8 hm hc1 hv0 (fun q => q hk0) (fun q => q hk1) (by omega))); rw [hr]; rfl, by (first | (have hr := vs_bad (l := l) (n := n) (D := D) hm (by omega)) | (have hr := qz8 hm hc1 hv0 (fun q => q hk0) (fun q => q hk1) (by omega))); rw [hr]; rfl, by (first | (have hr := vs_bad (l := l) (n := n) (D := D) hm (by omega)) | (have hr := qz8 hm hc1 hv0 (fun q => q hk0) (fun q => q hk1) (by omega))); rw [hr]; simp only [List.append_assoc]; try rfl⟩⟩
 have h5r := h5
 try simp only [nq, nr, nl, qqi, qqc] at h5
 refine qqg (rs (om rfl (om rfl (op_call2 (v := fun ver ver2 => .tup []) (hp1 := fun ver ver2 => [(0, some (0, .box 88 [.own 119 ver, .p _, .own 100119 ver2, .p _])), (1001, some (v1001x1, .gone)), (1002, some (v1002x2, .gone)), (3, some (0, .row 3 1 _)), (119, some (ver, .row 56 2 _)), (100119, some (ver2, .deep (.mk 65 5 [(3, (.mk 83 2 []))]) _ none))]) [(0, 0), (1001, v1001x1), (1002, v1002x2), (3, 0)] false ent74 (f_failDO (l ++ st) st (fu - 1) false D hasc (by simp; omega) (by omega)) ⟨.inl ⟨rfl, rfl⟩, .inl ⟨rfl, rfl⟩, trivial⟩ ⟨⟨rfl, rfl⟩, ⟨rfl, rfl⟩, ⟨rfl, rfl⟩, ⟨rfl, rfl⟩, trivial⟩ rfl rfl rfl rfl (.inl rfl) (fun _ _ => rfl) (fun _ _ => rfl) ?_))))
 rintro  v119x14 v100119x14
 dsimp only [List.cons_append, List.nil_append]
 refine on (rs (oa rfl (oa rfl (on (qjb 4 4 4 1 rfl fun v4 => ?_)))))
 refine qql ?_
 exact ⟨[.own 4 v4, .p _], .tup [.own 4 0, .p _], [.box 88 [.own 5 0, .p _, .own 6 0, .p _], .gone, .gone, .row 3 1 _], [.row 4 1 _, .row 56 2 _, .deep (.mk 65 5 [(3, (.mk 83 2 []))]) _ none], [(4, v4), (119, v119x14), (100119, v100119x14)], ⟨rfl, rfl, trivial⟩, rfl, rfl, ⟨⟨rfl, rfl⟩, ⟨rfl, rfl⟩, ⟨rfl, rfl⟩, ⟨rfl, rfl⟩, ⟨rfl, rfl⟩, ⟨rfl, rfl⟩, ⟨rfl, rfl⟩, trivial⟩, rfl, rfl, ⟨by (first | (have hr := vs_bad (l := l) (n := n) (D := D) hm (by omega)) | (have hr := qz8 hm hc1 hv0 (fun q => q hk0) (fun q => q hk1) (by omega))); rw [hr]; rfl, by (first | (have hr := vs_bad (l := l) (n := n) (D := D) hm (by omega)) | (have hr := qz8 hm hc1 hv0 (fun q => q hk0) (fun q => q hk1) (by omega))); rw [hr]; rfl, by (first | (have hr := vs_bad (l := l) (n := n) (D := D) hm (by omega)) | (have hr := qz8 hm hc1 hv0 (fun q => q hk0) (fun q => q hk1) (by omega))); rw [hr]; simp only [List.append_assoc]; try rfl⟩⟩
theorem f_visDN (l : List Con) (n : Nat) (st : List Con) (fu : Int) (D : List Int) (hh : visH l (n + 1) st fu D) (hD : D = []) (IH : ∀ (st' : List Con) (fu' : Int) (d : Int), visH l n st' fu' (D ++ [d]) → Fn Try.prog 54 [.ptr 0 0 0, .own 3 0] [.box 88 [.own 1 0, .p (.int .i64 (fu')), .own 2 0, .p (.bool (false))], .row 56 2 ((l ++ st').map dC), .deep (.mk 65 5 [(3, .mk 83 2 [])]) ((st').map dSt) none, .row 3 1 ((D ++ [d]).map dI)] (fun rr ii nn => rr = .tup [.own 4 0, .p (.bool (decide ((visit l n st' (fu') (D ++ [d])).2.2.1 = 1)))] ∧ ii = [.box 88 [.own 5 0, .p (.int .i64 ((visit l n st' (fu') (D ++ [d])).2.1)), .own 6 0, .p (.bool (decide ((visit l n st' (fu') (D ++ [d])).2.2.1 = 0)))], .gone, .gone, .row 3 1 ((D ++ [d]).map dI)] ∧ nn = [.row 4 1 ((visit l n st' (fu') (D ++ [d])).2.2.2.map dB), .row 56 2 ((l ++ (visit l n st' (fu') (D ++ [d])).1).map dC), .deep (.mk 65 5 [(3, .mk 83 2 [])]) (((visit l n st' (fu') (D ++ [d])).1).map dSt) none])) : Fn Try.prog 54 [.ptr 0 0 0, .p (.slice none 0 0)] [.box 88 [.own 1 0, .p (.int .i64 (fu)), .own 2 0, .p (.bool (false))], .row 56 2 ((l ++ st).map dC), .deep (.mk 65 5 [(3, .mk 83 2 [])]) ((st).map dSt) none] (fun rr ii nn => rr = .tup [.own 3 0, .p (.bool (decide ((visit l (n + 1) st (fu) (D)).2.2.1 = 1)))] ∧ ii = [.box 88 [.own 4 0, .p (.int .i64 ((visit l (n + 1) st (fu) (D)).2.1)), .own 5 0, .p (.bool (decide ((visit l (n + 1) st (fu) (D)).2.2.1 = 0)))], .gone, .gone] ∧ nn = [.row 4 1 ((visit l (n + 1) st (fu) (D)).2.2.2.map dB), .row 56 2 ((l ++ (visit l (n + 1) st (fu) (D)).1).map dC), .deep (.mk 65 5 [(3, .mk 83 2 [])]) (((visit l (n + 1) st (fu) (D)).1).map dSt) none]) := by
 refine qjj Try.func54 rfl (nb rfl) fun w X g => ?_
 show AWp _ _ _ ⟨[(0, .ptr 0 0 0), (1, .p (.slice none 0 0))], [(0, some (0, .box 88 [.own 1 0, .p (.int .i64 (fu)), .own 2 0, .p (.bool (false))])), (1, some (0, .row 56 2 ((l ++ st).map dC))), (2, some (0, .deep (.mk 65 5 [(3, .mk 83 2 [])]) ((st).map dSt) none))]⟩
 refine a_nil 1 rfl ?_
 rw [show (V.sl []) = .sl (D.map dI) by rw [hD]; rfl]
 have hvd := visH_len hh
 have hall := hh.1
 have hst := hh.2.1
 have hfu := hh.2.2.1
 have hinv := hh.2.2.2.1
 have hasc := hinv.1
 have hll := hh.2.2.2.2.2
 have hz12 : zeroP.length = 12 := rfl
 have hpok := prD_ok (l := l) (st := st) (D := D)
 have hpl := qjv hpok
 have hprd : (prop (l ++ st) (asgL zeroP D)).2 = (prD l st D).2 := rfl
 refine a_mvB (i := 1) 0 0 1001 (by decide) (by decide) rfl rfl rfl rfl fun v1001x1 => ?_
 try dsimp only [List.set]
 refine a_mvB (i := 2) 0 2 1002 (by decide) (by decide) rfl rfl rfl rfl fun v1002x2 => ?_
 try dsimp only [List.set]
 refine rs (oa rfl (oa rfl (on (qjb 4 4 4 1 rfl fun v4 => ?_))))
 refine qqd (rs (om rfl (qqa (qji rfl rfl) (qqa (qqm fld88f1 rfl rfl) (qqa (qqe qq7 rfl rfl rfl) (qqa (j_eq rfl rfl) (om rfl (qq9 22 rfl (fun h1 => ?_) (fun h1 => ?_)))))))))
 ·
  have h1r := h1
  try simp only [nq, nr, nl, qqi, qqc] at h1
  refine qqa (qqb rfl rfl h1r) (qqa (qqb rfl rfl h1r) (qqa (qqb rfl rfl h1r) (qqa (qqb rfl rfl h1r) (qqa (qqb rfl rfl h1r) (qqa (qqb rfl rfl h1r) (qqa (qq6 rfl h1r (evo rfl)) (on (a_tt rfl ?_))))))))
  refine rs (om rfl (qqa (qji rfl rfl) (qqa (qqm fld88f3 rfl rfl) (qjk (qq8 leaf4 rfl rfl (nb rfl) (evo rfl) rfl) ?_))))
  refine on (rs (oa rfl (oa rfl (on (qjb 4 4 4 1 rfl fun v4 => ?_)))))
  refine qql ?_
  have hr := vs_much (l := l) (n := n) (D := D) (fu := fu) (st := st) (by first | exact .inl (by omega) | exact .inr (by omega))
  exact ⟨[.own 4 v4, .p _], .tup [.own 3 0, .p _], [.box 88 [.own 4 0, .p _, .own 5 0, .p _], .gone, .gone], [.row 4 1 _, .row 56 2 _, .deep (.mk 65 5 [(3, (.mk 83 2 []))]) _ none], [(4, v4), (1001, v1001x1), (1002, v1002x2)], ⟨rfl, rfl, trivial⟩, rfl, rfl, ⟨⟨rfl, rfl⟩, ⟨rfl, rfl⟩, ⟨rfl, rfl⟩, ⟨rfl, rfl⟩, ⟨rfl, rfl⟩, ⟨rfl, rfl⟩, trivial⟩, rfl, rfl, ⟨by rw [hr]; rfl, by rw [hr]; rfl, by rw [hr]; rfl⟩⟩
 have h1r := h1
 try simp only [nq, nr, nl, qqi, qqc] at h1
 refine qqa (qqf rfl rfl h1r (qqn (evo rfl))) (qqa (qqf rfl rfl h1r (qji rfl rfl)) (qqa (qqf rfl rfl h1r (qqm fld88f2 rfl rfl)) (qqa (qqf rfl rfl h1r (qqe leaf26 rfl rfl rfl)) (qqa (qqf rfl rfl h1r (qz4 Try.underlying26 rfl rfl)) (qqa (qqf rfl rfl h1r (j_ge rfl rfl)) (qqa (qq3 rfl h1r (evo rfl)) (on (ac rfl (fun h2 => ?_) fun h2 => ?_))))))))
 ·
  have h2r := h2
  try simp only [nq, nr, nl, qqi, qqc] at h2
  refine rs (om rfl (qqa (qji rfl rfl) (qqa (qqm fld88f3 rfl rfl) (qjk (qq8 leaf4 rfl rfl (nb rfl) (evo rfl) rfl) ?_))))
  refine on (rs (oa rfl (oa rfl (on (qjb 4 4 4 1 rfl fun v4 => ?_)))))
  refine qql ?_
  have hr := vs_much (l := l) (n := n) (D := D) (fu := fu) (st := st) (by first | exact .inl (by omega) | exact .inr (by omega))
  exact ⟨[.own 4 v4, .p _], .tup [.own 3 0, .p _], [.box 88 [.own 4 0, .p _, .own 5 0, .p _], .gone, .gone], [.row 4 1 _, .row 56 2 _, .deep (.mk 65 5 [(3, (.mk 83 2 []))]) _ none], [(4, v4), (1001, v1001x1), (1002, v1002x2)], ⟨rfl, rfl, trivial⟩, rfl, rfl, ⟨⟨rfl, rfl⟩, ⟨rfl, rfl⟩, ⟨rfl, rfl⟩, ⟨rfl, rfl⟩, ⟨rfl, rfl⟩, ⟨rfl, rfl⟩, trivial⟩, rfl, rfl, ⟨by rw [hr]; rfl, by rw [hr]; rfl, by rw [hr]; rfl⟩⟩
 have h2r := h2
 try simp only [nq, nr, nl, qqi, qqc] at h2
 refine qqg (qqd ?_)
 have hm : ¬ (fu = 0 ∨ 1000 ≤ st.length) := by omega
 refine ar (om rfl (qqa (qji rfl rfl) (qqa (qqm fld88f1 rfl rfl) (qqa (qqe qq7 rfl rfl rfl) (qqa (j_sub rfl rfl qze qze) (qqa (qji rfl rfl) (qqa (qqm fld88f1 rfl rfl) (qjk (qq8 qq7 rfl rfl (nb rfl) (evo rfl) rfl) ?_))))))))
 refine on (rs (qqu (fun ver => j_make (n := 12) qjg elt3 rfl rfl (by decide) rfl rfl rfl rfl qze (by rw [qqw]; first | omega | (simp only [nr, nl, qqi, qqc]; omega))) fun v40x3 => ?_))
 refine oa rfl (on (a_row 40 (es' := (asgL zeroP (D.take 0)).map dI) rfl (by rw [List.take_zero]; rfl) ?_))
 refine qqd (rs (om rfl (qqa (qqs Try.underlying23 rfl) (om rfl (on (qqh (qqt (ι := Nat) (fun k => k ≤ D.length) (fun k r => (43, .p (.int .i64 ((k : Nat)))) :: r) (fun k r => (40, some (v40x3, .row 3 1 ((asgL zeroP (D.take k)).map dI))) :: r) (fun k => D.length - k) (fun _ _ => rfl) (fun _ _ => rfl) 0 (Nat.zero_le _) ⟨⟨rfl, rfl⟩, ⟨rfl, trivial⟩, ⟨rfl, trivial⟩, ⟨rfl, rfl⟩, ⟨rfl, rfl⟩⟩ ?_)))))))
 intro k hk
 refine rs (qqa (qzk rfl rfl) (on (qqd (ac rfl (fun h3 => ?_) fun h3 => ?_))))
 ·
  have h3r := h3
  try simp only [nq, nr, nl, qqi, qqc] at h3
  refine qqg (qqd (qqh (rs (qqa (qq5 qjg rfl rfl rfl (qqj qze) rfl) (qqa (qqz qq7 rfl (qqj qze) rfl) (oa rfl (on (qqd ?_))))))))
  have hli := litOk_iff.1 (asc_at hasc (k := k) qze)
  have hvo := varOf_rng (asc_at hasc (k := k) qze)
  have hal := qqc (p := zeroP) (ms := D.take k)
  refine ar (om rfl (om rfl ?_))
  refine qq4 (qqp (v := .p _) (hp1 := []) [] false [] ent70 (f_varOf (D.getD k default) (by omega)) ⟨.inl ⟨rfl, rfl⟩, trivial⟩ trivial rfl rfl (fun h => by cases h) rfl (fun _ h => by cases h) (.inl rfl) rfl rfl) ?_
  refine qqa (j_sub rfl rfl qze qze) (qqa (qqx (n := (varOf (D.getD k default) - 1).toNat) qjg rfl rfl rfl (by omega) qze) ?_)
  refine qjk (qj9 qq7 rfl rfl qze (evo rfl) rfl rfl) ?_
  refine on (rs (om rfl (qqa (qzk rfl rfl) (on (ac rfl (fun h4 => ?_) fun h4 => ?_)))))
  ·
   have h4r := h4
   try simp only [nq, nr, nl, qqi, qqc] at h4
   refine ar (om rfl (om rfl (qqa (j_neg rfl qze qze) (qqa (j_sub rfl rfl qze qze) (qqa (qqx (n := (-(D.getD k default) - 1).toNat) qjg rfl rfl rfl (by omega) qze) ?_)))))
   refine qjk (qj9 qq7 rfl rfl qze (evo rfl) rfl rfl) ?_
   refine on (ar (qqa (qje rfl rfl qze qze) (om rfl (on ?_))))
   exact ⟨k + 1, qze, ⟨⟨rfl, rfl⟩, ⟨rfl, trivial⟩, ⟨qzd (by rw [asgL_next qze]; first | exact asg_twop (by omega) | exact asg_twon (by omega)), trivial⟩, ⟨rfl, rfl⟩, ⟨rfl, rfl⟩⟩, qze⟩
  have h4r := h4
  try simp only [nq, nr, nl, qqi, qqc] at h4
  refine qqg (ar (qqa (qje rfl rfl qze qze) (om rfl (on ?_))))
  exact ⟨k + 1, qze, ⟨⟨rfl, rfl⟩, ⟨rfl, trivial⟩, ⟨qzd (by rw [asgL_next qze]; first | exact asg_twop (by omega) | exact asg_twon (by omega)), trivial⟩, ⟨rfl, rfl⟩, ⟨rfl, rfl⟩⟩, qze⟩
 have h3r := h3
 try simp only [nq, nr, nl, qqi, qqc] at h3
 refine qjf (qqd (a_row 40 (es' := (asgL zeroP D).map dI) rfl (by rw [List.take_of_length_le qze]) ?_))
 refine ar (om rfl (qqa (qji rfl rfl) (qqa (qqm fld88f0 rfl rfl) (qqa (qqe leaf29 rfl rfl rfl) (om rfl ?_)))))
 refine qzi (fun ver => qj8 (v := .tup [.own 66 ver, .p _]) (hp1 := [(66, some (ver, .row 3 1 _))]) [] true [1001, 40] ent71 (f_prop (l ++ st) (asgL zeroP D) hall qze (asgL_ok zero_ok)) ⟨.inr ⟨rfl, qj1 rfl rfl, rfl⟩, .inr ⟨rfl, qj1 rfl rfl, rfl⟩, trivial⟩ trivial rfl rfl rfl (fun _ => rfl) rfl (List.all_eq_true.1 rfl) (.inr ⟨rfl, by first | exact qjy (fun _ => rfl) | exact qj0 | (simp [plO, plV, plV.plL]; done)⟩) rfl rfl) fun v66x4 => ?_
 refine om rfl (qqa (qqy rfl rfl) (qqa (qqy rfl rfl) (oa rfl (oa rfl (on (qqd (rs (om rfl (qqa (qzk rfl rfl) (on (ac rfl (fun h5 => ?_) fun h5 => ?_)))))))))))
 ·
  have h5r := h5
  try simp only [nq, nr, nl, qqi, qqc] at h5
  refine qqd ?_
  have hc1 : ¬ 0 ≤ (prD l st D).2 := by omega
  refine ar (om rfl ?_)
  refine qzi (fun ver => qj8 (v := .tup [.own 73 ver, .p _, .p _]) (hp1 := [(73, some (ver, .row 4 1 _))]) [] true [66] ent72 (f_valuesOf (prD l st D).1 (by omega)) ⟨.inr ⟨rfl, qj1 rfl rfl, rfl⟩, trivial⟩ trivial rfl rfl rfl (fun _ => rfl) rfl (List.all_eq_true.1 rfl) (.inr ⟨rfl, by first | exact qjy (fun _ => rfl) | exact qj0 | (simp [plO, plV, plV.plL]; done)⟩) rfl rfl) fun v73x5 => ?_
  refine om rfl (qqa (qqy rfl rfl) (qqa (qqy rfl rfl) (qqa (qqy rfl rfl) (oa rfl (oa rfl (oa rfl (on (qqd (rs (om rfl (on (ac rfl (fun h6 => ?_) fun h6 => ?_))))))))))))
  ·
   have h6r := h6
   try simp only [nq, nr, nl, qqi, qqc] at h6
   refine rs (om rfl (oa rfl (oa rfl (on (qql ?_)))))
   have hv0 : freeV (prD l st D).1 = 0 := by simp_all
   have hr := vs_sat (n := n) hm hc1 hv0
   exact ⟨[.own 73 v73x5, .p _], .tup [.own 3 0, .p _], [.box 88 [.own 4 0, .p _, .own 5 0, .p _], .gone, .gone], [.row 4 1 _, .row 56 2 _, .deep (.mk 65 5 [(3, (.mk 83 2 []))]) _ none], [(73, v73x5), (1001, v1001x1), (1002, v1002x2)], ⟨rfl, rfl, trivial⟩, rfl, rfl, ⟨⟨rfl, rfl⟩, ⟨rfl, rfl⟩, ⟨rfl, rfl⟩, ⟨rfl, rfl⟩, ⟨rfl, rfl⟩, ⟨rfl, rfl⟩, trivial⟩, rfl, rfl, ⟨by rw [hr]; rfl, by rw [hr]; rfl, by rw [hr, valO_y hv0]⟩⟩
  have h6r := h6
  try simp only [nq, nr, nl, qqi, qqc] at h6
  refine qqg (qqd (qqd ?_))
  have hv0 : ¬ freeV (prD l st D).1 = 0 := by simp_all
  have hv12 := (freeV_some hv0).1
  refine ar (om rfl (om rfl (qqa (j_neg rfl qze qze) (qqu (fun ver => qqv (parts := [(0, .tmp 79), (1, .tmp 81)]) (es := [[_], [_]]) qjg elt3 rfl rfl (by decide) (by decide) rfl rfl (by simp) rfl) fun v82x6 => ?_))))
  refine qqa (j_len_own Try.underlying23 rfl rfl) (om rfl (on (a_row 82 (es' := (twoV l st D).map dI) rfl rfl ?_)))
  try dsimp only [List.length_cons, List.length_nil]
  refine qqh (qqt (ι := Nat × Nat × Nat) (fun x => x.1 ≤ 2 ∧ ∀ i, i < x.1 → (visN l n st fu D i).2.2.1 = 2) (fun x r => (84, .p (.int .i64 ((x.1 : Nat)))) :: r) (fun x r => (0, some (0, .box 88 [.own 1001 x.2.1, .p (.int .i64 ((visK l n st fu D x.1).2)), .own 1002 x.2.2, .p (.bool (false))])) :: (1001, some (x.2.1, .row 56 2 ((l ++ (visK l n st fu D x.1).1).map dC))) :: (1002, some (x.2.2, .deep (.mk 65 5 [(3, .mk 83 2 [])]) (((visK l n st fu D x.1).1).map dSt) none)) :: r) (fun x => 2 - x.1) (fun _ _ => rfl) (fun _ _ => rfl) (0, v1001x1, v1002x2) (by first | exact ⟨Nat.zero_le _, fun i h => absurd h (Nat.not_lt_zero i)⟩ | (dsimp only; exact ⟨Nat.zero_le _, fun i h => absurd h (Nat.not_lt_zero i)⟩)) ⟨⟨rfl, rfl⟩, ⟨rfl, trivial⟩, ⟨rfl, rfl, rfl, trivial⟩, ⟨rfl, rfl⟩, ⟨rfl, rfl⟩⟩ ?_)
  rintro ⟨k, v1, v2⟩ hk; dsimp only at hk ⊢
  refine rs (qqa (qzk rfl rfl) (on (qqd (ac rfl (fun h7 => ?_) fun h7 => ?_))))
  ·
   have h7r := h7
   try simp only [nq, nr, nl, qqi, qqc] at h7
   refine qqg (qqd (qqh (rs (qqa (qqx qjg rfl rfl rfl rfl qze) (qqa (qjl qq7 rfl rfl (qqj qze) rfl) (oa rfl (on (qqd ?_))))))))
   have hkH := visK_H hh hm hc1 hv0 (k := k) qze
   have hkG := visN_good hh hm hc1 hv0 (k := k) qze
   have hvn : (visit l n (visK l n st fu D k).1 (visK l n st fu D k).2 (D ++ [((twoV l st D).getD k default)])).2.2.1 = (visN l n st fu D k).2.2.1 := rfl
   have IH9 := IH _ _ _ hkH
   rw [show (D ++ [((twoV l st D).getD k default)]).map dI = D.map dI ++ [dI ((twoV l st D).getD k default)] from List.map_append ..] at IH9
   refine ar (om rfl (om rfl ?_))
   refine qzi (fun ver => qj8 (v := .own 91 ver) (hp1 := [(91, some (ver, .row 3 1 _))]) [] false [] ent73 (f_cloneI D (by omega)) ⟨.inl ⟨rfl, rfl⟩, trivial⟩ trivial rfl rfl rfl (fun h => by cases h) rfl (List.all_eq_true.1 rfl) (.inl rfl) rfl rfl) fun v91x7 => ?_
   refine om rfl (qqu (fun ver => qqv (parts := [(0, .tmp 92)]) (es := [[_]]) qjg elt3 rfl rfl (by decide) (by decide) rfl rfl (by simp) rfl) fun v93x8 => ?_)
   refine qqu (fun ver => qq2 qjg elt3 rfl rfl rfl rfl rfl rfl (by rw [qqw]; first | omega | (simp only [nr, nl, qqi, qqc]; omega)) qze) fun v91x9 => ?_
   refine op_call3 (v := fun ver ver2 ver3 => .tup [.own 95 ver, .p _]) (hp1 := fun ver ver2 ver3 => [(0, some (0, .box 88 [.own 100095 ver2, .p _, .own 200095 ver3, .p _])), (1001, some (v1, .gone)), (1002, some (v2, .gone)), (91, some (v91x9, .row 3 1 _)), (95, some (ver, .row 4 1 _)), (100095, some (ver2, .row 56 2 _)), (200095, some (ver3, .deep (.mk 65 5 [(3, (.mk 83 2 []))]) _ none))]) [(0, 0), (1001, v1), (1002, v2), (91, v91x9)] false ent54 IH9 ⟨.inl ⟨rfl, rfl⟩, .inl ⟨rfl, rfl⟩, trivial⟩ ⟨⟨rfl, rfl⟩, ⟨rfl, rfl⟩, ⟨rfl, rfl⟩, ⟨rfl, rfl⟩, trivial⟩ rfl rfl rfl rfl (.inl rfl) (fun _ _ _ => rfl) (fun _ _ _ => rfl) ?_
   rintro  v95x10 v100095x10 v200095x10
   dsimp only [List.cons_append, List.nil_append]
   refine om rfl (qqa (qqy rfl rfl) (qqa (qqy rfl rfl) (oa rfl (oa rfl (on (a_mvB (i := 100095) 0 0 1001 (by decide) (by decide) rfl rfl rfl rfl fun v1001x11 => ?_))))))
   try dsimp only [List.set]
   refine a_mvB (i := 200095) 0 2 1002 (by decide) (by decide) rfl rfl rfl rfl fun v1002x12 => ?_
   try dsimp only [List.set]
   refine rs (om rfl (om rfl (qq9 99 rfl (fun h8 => ?_) (fun h8 => ?_))))
   ·
    have h8r := h8
    try simp only [nq, nr, nl, qqi, qqc] at h8
    refine qqa (qqb rfl rfl h8r) (qqa (qqb rfl rfl h8r) (qqa (qqb rfl rfl h8r) (qqa (qqb rfl rfl h8r) (qqa (qq6 rfl h8r (evo rfl)) (on (a_tt rfl ?_))))))
    refine qqd ?_
    have hne : (visN l n st fu D k).2.2.1 ≠ 2 := by omega
    refine ar (om rfl (om rfl (oa rfl (oa rfl (on (qql ?_))))))
    have hr := visN_hit hm hc1 hv0 (k := k) qze (fun q => hk.2 0 (by omega)) hne
    exact ⟨[.own 95 v95x10, .p _], .tup [.own 3 0, .p _], [.box 88 [.own 4 0, .p _, .own 5 0, .p _], .gone, .gone], [.row 4 1 _, .row 56 2 _, .deep (.mk 65 5 [(3, (.mk 83 2 []))]) _ none], [(95, v95x10), (1001, v1001x11), (1002, v1002x12)], ⟨rfl, rfl, trivial⟩, rfl, rfl, ⟨⟨rfl, rfl⟩, ⟨rfl, rfl⟩, ⟨rfl, rfl⟩, ⟨rfl, rfl⟩, ⟨rfl, rfl⟩, ⟨rfl, rfl⟩, trivial⟩, rfl, rfl, ⟨by rw [hr]; rfl, by rw [hr]; rfl, by rw [hr]; rfl⟩⟩
   have h8r := h8
   try simp only [nq, nr, nl, qqi, qqc] at h8
   refine qqa (qqf rfl rfl h8r (qqn (evo rfl))) (qqa (qqf rfl rfl h8r (qji rfl rfl)) (qqa (qqf rfl rfl h8r (qqm fld88f3 rfl rfl)) (qqa (qqf rfl rfl h8r (qqe leaf4 rfl rfl rfl)) (qqa (qq3 rfl h8r (evo rfl)) (on (ac rfl (fun h9 => ?_) fun h9 => ?_))))))
   ·
    have h9r := h9
    try simp only [nq, nr, nl, qqi, qqc] at h9
    refine qqd ?_
    have hne : (visN l n st fu D k).2.2.1 ≠ 2 := by omega
    refine ar (om rfl (om rfl (oa rfl (oa rfl (on (qql ?_))))))
    have hr := visN_hit hm hc1 hv0 (k := k) qze (fun q => hk.2 0 (by omega)) hne
    exact ⟨[.own 95 v95x10, .p _], .tup [.own 3 0, .p _], [.box 88 [.own 4 0, .p _, .own 5 0, .p _], .gone, .gone], [.row 4 1 _, .row 56 2 _, .deep (.mk 65 5 [(3, (.mk 83 2 []))]) _ none], [(95, v95x10), (1001, v1001x11), (1002, v1002x12)], ⟨rfl, rfl, trivial⟩, rfl, rfl, ⟨⟨rfl, rfl⟩, ⟨rfl, rfl⟩, ⟨rfl, rfl⟩, ⟨rfl, rfl⟩, ⟨rfl, rfl⟩, ⟨rfl, rfl⟩, trivial⟩, rfl, rfl, ⟨by rw [hr]; rfl, by rw [hr]; rfl, by rw [hr]; rfl⟩⟩
   have h9r := h9
   try simp only [nq, nr, nl, qqi, qqc] at h9
   refine qqg ?_
   have h2e : (visN l n st fu D k).2.2.1 = 2 := by have := hkG.code; omega
   refine ar (qqa (qje rfl rfl qze qze) (om rfl (on ?_)))
   exact ⟨(k + 1, v1001x11, v1002x12), (by first | exact ⟨by first | omega | (simp only [nr, nl, qqi, qqc]; omega), fun i hi => by rcases Nat.lt_succ_iff_lt_or_eq.1 hi with q | q; (· exact hk.2 i q); (· subst q; exact h2e)⟩ | (dsimp only; exact ⟨by first | omega | (simp only [nr, nl, qqi, qqc]; omega), fun i hi => by rcases Nat.lt_succ_iff_lt_or_eq.1 hi with q | q; (· exact hk.2 i q); (· subst q; exact h2e)⟩)), ⟨⟨rfl, rfl⟩, ⟨rfl, trivial⟩, ⟨(by dsimp only; rw [qzp (by omega)]; exact boxF (decide_eq_false (by omega))), (by dsimp only; rw [qzp (by omega)]; rfl), (by dsimp only; rw [qzp (by omega)]; rfl), trivial⟩, ⟨rfl, rfl⟩, ⟨rfl, rfl⟩⟩, (by first | exact qze | (dsimp only; exact qze))⟩
  have h7r := h7
  try simp only [nq, nr, nl, qqi, qqc] at h7
  refine qjf (qqd ?_)
  obtain rfl : k = 2 := by omega
  have hk1 := hk.2 1 (by omega)
  have hk0 := hk.2 0 (by omega)
  have hvl2 : (visK l n st fu D 2).1.length = (vis2 l n st fu D).1.length := rfl
  have hk2G := (visN_good hh hm hc1 hv0 (k := 1) (by omega)).len
  have hk2L : (vis2 l n st fu D).1.length ≤ 1000 := hk2G
  refine ar (om rfl (qqa (qji rfl rfl) (qqa (qqm fld88f2 rfl rfl) (qqa (qqe leaf26 rfl rfl rfl) (qqa (qz4 Try.underlying26 rfl rfl) (qqa (j_ge rfl rfl) (on (ac rfl (fun h10 => ?_) fun h10 => ?_))))))))
  ·
   have h10r := h10
   try simp only [nq, nr, nl, qqi, qqc] at h10
   refine rs (om rfl (qqa (qji rfl rfl) (qqa (qqm fld88f3 rfl rfl) (qjk (qq8 leaf4 rfl rfl (nb rfl) (evo rfl) rfl) ?_))))
   refine on (rs (oa rfl (oa rfl (on (qjb 4 4 4 1 rfl fun v4 => ?_)))))
   refine qql ?_
   have hr := vs_full hm hc1 hv0 (fun q => q hk0) (fun q => q hk1) qze
   exact ⟨[.own 4 v4, .p _], .tup [.own 3 0, .p _], [.box 88 [.own 4 0, .p _, .own 5 0, .p _], .gone, .gone], [.row 4 1 _, .row 56 2 _, .deep (.mk 65 5 [(3, (.mk 83 2 []))]) _ none], [(4, v4), (1001, v1), (1002, v2)], ⟨rfl, rfl, trivial⟩, rfl, rfl, ⟨⟨rfl, rfl⟩, ⟨rfl, rfl⟩, ⟨rfl, rfl⟩, ⟨rfl, rfl⟩, ⟨rfl, rfl⟩, ⟨rfl, rfl⟩, trivial⟩, rfl, rfl, ⟨by rw [hr]; rfl, by rw [hr]; rfl, by rw [hr]; rfl⟩⟩
  have h10r := h10
  try simp only [nq, nr, nl, qqi, qqc] at h10
  refine qqg (rs (om rfl (om rfl (op_call2 (v := fun ver ver2 => .tup []) (hp1 := fun ver ver2 => [(0, some (0, .box 88 [.own 119 ver, .p _, .own 100119 ver2, .p _])), (1001, some (v1, .gone)), (1002, some (v2, .gone)), (119, some (ver, .row 56 2 _)), (100119, some (ver2, .deep (.mk 65 5 [(3, (.mk 83 2 []))]) _ none))]) [(0, 0), (1001, v1), (1002, v2)] false ent74 (f_failDS (l ++ (visK l n st fu D 2).1) (visK l n st fu D 2).1 (visK l n st fu D 2).2 false D hasc (by have h9 : (visK l n st fu D 2).1.length < 1000 := qze; simp; omega) qze) ⟨.inl ⟨rfl, rfl⟩, .inl ⟨rfl, rfl⟩, trivial⟩ ⟨⟨rfl, rfl⟩, ⟨rfl, rfl⟩, ⟨rfl, rfl⟩, trivial⟩ rfl rfl rfl rfl (.inl rfl) (fun _ _ => rfl) (fun _ _ => rfl) ?_))))
  rintro  v119x13 v100119x13
  dsimp only [List.cons_append, List.nil_append]
  refine on (rs (oa rfl (oa rfl (on (qjb 4 4 4 1 rfl fun v4 => ?_)))))
  refine qql ?_
  exact ⟨[.own 4 v4, .p _], .tup [.own 3 0, .p _], [.box 88 [.own 4 0, .p _, .own 5 0, .p _], .gone, .gone], [.row 4 1 _, .row 56 2 _, .deep (.mk 65 5 [(3, (.mk 83 2 []))]) _ none], [(4, v4), (119, v119x13), (100119, v100119x13)], ⟨rfl, rfl, trivial⟩, rfl, rfl, ⟨⟨rfl, rfl⟩, ⟨rfl, rfl⟩, ⟨rfl, rfl⟩, ⟨rfl, rfl⟩, ⟨rfl, rfl⟩, ⟨rfl, rfl⟩, trivial⟩, rfl, rfl, ⟨by (first | (have hr := vs_bad (l := l) (n := n) (D := D) hm (by omega)) | (have hr := qz8 hm hc1 hv0 (fun q => q hk0) (fun q => q hk1) (by omega))); rw [hr]; rfl, by (first | (have hr := vs_bad (l := l) (n := n) (D := D) hm (by omega)) | (have hr := qz8 hm hc1 hv0 (fun q => q hk0) (fun q => q hk1) (by omega))); rw [hr]; rfl, by (first | (have hr := vs_bad (l := l) (n := n) (D := D) hm (by omega)) | (have hr := qz8 hm hc1 hv0 (fun q => q hk0) (fun q => q hk1) (by omega))); rw [hr]; simp only [List.append_assoc]; try rfl⟩⟩
 have h5r := h5
 try simp only [nq, nr, nl, qqi, qqc] at h5
 refine qqg (rs (om rfl (om rfl (op_call2 (v := fun ver ver2 => .tup []) (hp1 := fun ver ver2 => [(0, some (0, .box 88 [.own 119 ver, .p _, .own 100119 ver2, .p _])), (1001, some (v1001x1, .gone)), (1002, some (v1002x2, .gone)), (119, some (ver, .row 56 2 _)), (100119, some (ver2, .deep (.mk 65 5 [(3, (.mk 83 2 []))]) _ none))]) [(0, 0), (1001, v1001x1), (1002, v1002x2)] false ent74 (f_failDS (l ++ st) st (fu - 1) false D hasc (by simp; omega) (by omega)) ⟨.inl ⟨rfl, rfl⟩, .inl ⟨rfl, rfl⟩, trivial⟩ ⟨⟨rfl, rfl⟩, ⟨rfl, rfl⟩, ⟨rfl, rfl⟩, trivial⟩ rfl rfl rfl rfl (.inl rfl) (fun _ _ => rfl) (fun _ _ => rfl) ?_))))
 rintro  v119x14 v100119x14
 dsimp only [List.cons_append, List.nil_append]
 refine on (rs (oa rfl (oa rfl (on (qjb 4 4 4 1 rfl fun v4 => ?_)))))
 refine qql ?_
 exact ⟨[.own 4 v4, .p _], .tup [.own 3 0, .p _], [.box 88 [.own 4 0, .p _, .own 5 0, .p _], .gone, .gone], [.row 4 1 _, .row 56 2 _, .deep (.mk 65 5 [(3, (.mk 83 2 []))]) _ none], [(4, v4), (119, v119x14), (100119, v100119x14)], ⟨rfl, rfl, trivial⟩, rfl, rfl, ⟨⟨rfl, rfl⟩, ⟨rfl, rfl⟩, ⟨rfl, rfl⟩, ⟨rfl, rfl⟩, ⟨rfl, rfl⟩, ⟨rfl, rfl⟩, trivial⟩, rfl, rfl, ⟨by (first | (have hr := vs_bad (l := l) (n := n) (D := D) hm (by omega)) | (have hr := qz8 hm hc1 hv0 (fun q => q hk0) (fun q => q hk1) (by omega))); rw [hr]; rfl, by (first | (have hr := vs_bad (l := l) (n := n) (D := D) hm (by omega)) | (have hr := qz8 hm hc1 hv0 (fun q => q hk0) (fun q => q hk1) (by omega))); rw [hr]; rfl, by (first | (have hr := vs_bad (l := l) (n := n) (D := D) hm (by omega)) | (have hr := qz8 hm hc1 hv0 (fun q => q hk0) (fun q => q hk1) (by omega))); rw [hr]; simp only [List.append_assoc]; try rfl⟩⟩
theorem f_visitD (l : List Con) : ∀ (n : Nat) (st : List Con) (fu : Int) (D : List Int), visH l n st fu D → Fn Try.prog 54 [.ptr 0 0 0, .own 3 0] [.box 88 [.own 1 0, .p (.int .i64 (fu)), .own 2 0, .p (.bool (false))], .row 56 2 ((l ++ st).map dC), .deep (.mk 65 5 [(3, .mk 83 2 [])]) ((st).map dSt) none, .row 3 1 ((D).map dI)] (fun rr ii nn => rr = .tup [.own 4 0, .p (.bool (decide ((visit l n st (fu) (D)).2.2.1 = 1)))] ∧ ii = [.box 88 [.own 5 0, .p (.int .i64 ((visit l n st (fu) (D)).2.1)), .own 6 0, .p (.bool (decide ((visit l n st (fu) (D)).2.2.1 = 0)))], .gone, .gone, .row 3 1 ((D).map dI)] ∧ nn = [.row 4 1 ((visit l n st (fu) (D)).2.2.2.map dB), .row 56 2 ((l ++ (visit l n st (fu) (D)).1).map dC), .deep (.mk 65 5 [(3, .mk 83 2 [])]) (((visit l n st (fu) (D)).1).map dSt) none]) := by
 intro n
 induction n with
 | zero => intro st fu D h; exact absurd rfl (visH_n h)
 | succ n ih => intro st fu D h; exact f_visDO l n st fu D h (fun st' fu' d h' => ih st' fu' (D ++ [d]) h')
theorem f_visitD0 (l : List Con) (fu : Int) (h : visH l 13 [] fu []) : Fn Try.prog 54 [.ptr 0 0 0, .p (.slice none 0 0)] [.box 88 [.own 1 0, .p (.int .i64 (fu)), .own 2 0, .p (.bool (false))], .row 56 2 ((l ++ ([] : List Con)).map dC), .deep (.mk 65 5 [(3, .mk 83 2 [])]) ((([] : List Con)).map dSt) none] (fun rr ii nn => rr = .tup [.own 3 0, .p (.bool (decide ((visit l 13 ([] : List Con) (fu) (([] : List Int))).2.2.1 = 1)))] ∧ ii = [.box 88 [.own 4 0, .p (.int .i64 ((visit l 13 ([] : List Con) (fu) (([] : List Int))).2.1)), .own 5 0, .p (.bool (decide ((visit l 13 ([] : List Con) (fu) (([] : List Int))).2.2.1 = 0)))], .gone, .gone] ∧ nn = [.row 4 1 ((visit l 13 ([] : List Con) (fu) (([] : List Int))).2.2.2.map dB), .row 56 2 ((l ++ (visit l 13 ([] : List Con) (fu) (([] : List Int))).1).map dC), .deep (.mk 65 5 [(3, .mk 83 2 [])]) (((visit l 13 ([] : List Con) (fu) (([] : List Int))).1).map dSt) none]) :=
 f_visDN l 12 [] fu [] h rfl (fun st' fu' d h' => f_visitD l 12 st' fu' ([] ++ [d]) h')
end Go.Ab

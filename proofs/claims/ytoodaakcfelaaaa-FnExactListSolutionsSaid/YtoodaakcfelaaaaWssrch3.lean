/- Walks. -/
import Derived.Test.YtoodaakcfelaaaaBase
import Derived.Test.YtoodaakcfelaaaaCub
import Derived.Test.YtoodaakcfelaaaaWssrch
import Derived.Test.YtoodaakcfelaaaaWsprop
import Derived.Test.YtoodaakcfelaaaaWscons
import Derived.Test.YtoodaakcfelaaaaWsfix
namespace Go.Ab
open Go.Proofs
set_option maxRecDepth 100000
set_option maxHeartbeats 8000000
set_option linter.unusedSimpArgs false
set_option linter.unusedVariables false
theorem qzz {p : Prop} (h : p := by first | omega | (simp only [nr, nl, qqi, qqc, qq0]; omega)) : p := h
theorem f_seaO (l : List Con) (n : Nat) (st : List Con) (fu : Int) (D : List Int) (hh : visH l (n + 1) st fu D) (IH : ∀ (st' : List Con) (fu' : Int) (d : Int), visH l n st' fu' (D ++ [d]) → Fn Try.prog 48 [.agg [.own 0 0, .own 1 0, .p (.int .i64 (fu'))], .own 2 0] [.row 56 2 ((l ++ st').map dC), .row 65 5 ((st').map dSt), .row 3 1 ((D ++ [d]).map dI)] (fun rr ii nn => rr = .tup [.agg [.own 3 0, .own 4 0, .p (.int .i64 (visit l n st' (fu') (D ++ [d])).2.1)], .p (.int .i64 (visit l n st' (fu') (D ++ [d])).2.2.1), .own 5 0] ∧ ii = [.gone, .gone, .row 3 1 ((D ++ [d]).map dI)] ∧ nn = [.row 56 2 ((l ++ (visit l n st' (fu') (D ++ [d])).1).map dC), .row 65 5 (((visit l n st' (fu') (D ++ [d])).1).map dSt), .row 4 1 ((visit l n st' (fu') (D ++ [d])).2.2.2.map dB)])) : Fn Try.prog 48 [.agg [.own 0 0, .own 1 0, .p (.int .i64 (fu))], .own 2 0] [.row 56 2 ((l ++ st).map dC), .row 65 5 ((st).map dSt), .row 3 1 ((D).map dI)] (fun rr ii nn => rr = .tup [.agg [.own 3 0, .own 4 0, .p (.int .i64 (visit l (n + 1) st (fu) (D)).2.1)], .p (.int .i64 (visit l (n + 1) st (fu) (D)).2.2.1), .own 5 0] ∧ ii = [.gone, .gone, .row 3 1 ((D).map dI)] ∧ nn = [.row 56 2 ((l ++ (visit l (n + 1) st (fu) (D)).1).map dC), .row 65 5 (((visit l (n + 1) st (fu) (D)).1).map dSt), .row 4 1 ((visit l (n + 1) st (fu) (D)).2.2.2.map dB)]) := by
 refine qjj Try.func48 rfl (nb rfl) fun w X g => ?_
 show AWp _ _ _ ⟨[(0, .agg [.own 0 0, .own 1 0, .p (.int .i64 (fu))]), (1, .own 2 0)], [(0, some (0, .row 56 2 ((l ++ st).map dC))), (1, some (0, .row 65 5 ((st).map dSt))), (2, some (0, .row 3 1 ((D).map dI)))]⟩
 have hvd := visH_len hh
 have hall := hh.1
 have hst := hh.2.1
 have hfu := hh.2.2.1
 have hinv := hh.2.2.2.1
 have hasc := hinv.1
 have hll := hh.2.2.2.2.2
 have hz12 : zeroP.length = 12 := rfl
 have hpok := prD_ok (l := l) (st := st) (D := D)
 have hpl := qjv hpok
 have hprd : (prop (l ++ st) (asgL zeroP D)).2 = (prD l st D).2 := rfl
 have hprl : (prop (l ++ st) (asgL zeroP D)).1.length = (prD l st D).1.length := rfl
 refine rs (qqu (fun ver => j_boxaI 1010 rfl) fun v1010x1 => ?_)
 refine qqu (fun ver => qjw elt78 rfl) fun v4x2 => ?_
 refine oa rfl (oa rfl (on (qjb 6 6 4 1 rfl fun v6 => ?_)))
 refine a_mvB (i := 0) 1010 0 1001 (by decide) (by decide) rfl rfl rfl rfl fun v1001x3 => ?_
 try dsimp only [List.set]
 refine a_mvB (i := 1) 1010 1 1002 (by decide) (by decide) rfl rfl rfl rfl fun v1002x4 => ?_
 try dsimp only [List.set]
 refine qqd (rs (qqa (qqm fld78f2 rfl rfl) (qqa (qqe qq7 rfl rfl rfl) (qqa (j_eq rfl rfl) (om rfl (qq9 19 rfl (fun h1 => ?_) (fun h1 => ?_)))))))
 ·
  have h1r := h1
  try simp only [nq, nr, nl, qqi, qqc, qq0] at h1
  refine qqa (qqb rfl rfl h1r) (qqa (qqb rfl rfl h1r) (qqa (qqb rfl rfl h1r) (qqa (qqb rfl rfl h1r) (qqa (qq6 rfl h1r (evo rfl)) (on (a_tt rfl ?_))))))
  refine rs (qqa (qqr (ys := [.own 1001 v1001x3, .own 1002 v1002x4, .p _]) qj6 rfl rfl rfl (nb rfl)) (qqu (fun ver => qza slt51 elt4 rfl rfl (by decide)) fun v26x5 => ?_))
  refine qjk (qqk qj6 rfl rfl rfl rfl rfl rfl) ?_
  refine oa rfl (oa rfl (on (qql ?_)))
  have hr := vs_much (l := l) (n := n) (D := D) (fu := fu) (st := st) (by first | exact .inl (by omega) | exact .inr (by omega))
  exact ⟨[.agg [.own 1001 v1001x3, .own 1002 v1002x4, .p _], .p _, .own 26 v26x5], .tup [.agg [.own 3 0, .own 4 0, .p _], .p _, .own 5 0], [.gone, .gone, .row 3 1 _], [.row 56 2 _, .row 65 5 _, .row 4 1 _], [(1001, v1001x3), (1002, v1002x4), (26, v26x5)], ⟨⟨_, _, _, _, rfl, rfl, qj6, rfl⟩, rfl, rfl, trivial⟩, rfl, rfl, ⟨⟨rfl, rfl⟩, ⟨rfl, rfl⟩, ⟨rfl, rfl⟩, ⟨rfl, rfl⟩, ⟨rfl, rfl⟩, ⟨rfl, rfl⟩, trivial⟩, rfl, rfl, ⟨by rw [hr]; try rfl, rfl, by rw [hr]; try rfl⟩⟩
 have h1r := h1
 try simp only [nq, nr, nl, qqi, qqc, qq0] at h1
 refine qqa (qqf rfl rfl h1r (qqm fld78f1 rfl rfl)) (qqa (qqf rfl rfl h1r (qqe leaf26 rfl rfl rfl)) (qqa (qqf rfl rfl h1r (qjc Try.underlying26 rfl rfl)) (qqa (qqf rfl rfl h1r (j_ge rfl rfl)) (qqa (qq3 rfl h1r (evo rfl)) (on (ac rfl (fun h2 => ?_) fun h2 => ?_))))))
 ·
  have h2r := h2
  try simp only [nq, nr, nl, qqi, qqc, qq0] at h2
  refine rs (qqa (qqr (ys := [.own 1001 v1001x3, .own 1002 v1002x4, .p _]) qj6 rfl rfl rfl (nb rfl)) (qqu (fun ver => qza slt51 elt4 rfl rfl (by decide)) fun v26x6 => ?_))
  refine qjk (qqk qj6 rfl rfl rfl rfl rfl rfl) ?_
  refine oa rfl (oa rfl (on (qql ?_)))
  have hr := vs_much (l := l) (n := n) (D := D) (fu := fu) (st := st) (by first | exact .inl (by omega) | exact .inr (by omega))
  exact ⟨[.agg [.own 1001 v1001x3, .own 1002 v1002x4, .p _], .p _, .own 26 v26x6], .tup [.agg [.own 3 0, .own 4 0, .p _], .p _, .own 5 0], [.gone, .gone, .row 3 1 _], [.row 56 2 _, .row 65 5 _, .row 4 1 _], [(1001, v1001x3), (1002, v1002x4), (26, v26x6)], ⟨⟨_, _, _, _, rfl, rfl, qj6, rfl⟩, rfl, rfl, trivial⟩, rfl, rfl, ⟨⟨rfl, rfl⟩, ⟨rfl, rfl⟩, ⟨rfl, rfl⟩, ⟨rfl, rfl⟩, ⟨rfl, rfl⟩, ⟨rfl, rfl⟩, trivial⟩, rfl, rfl, ⟨by rw [hr]; try rfl, rfl, by rw [hr]; try rfl⟩⟩
 have h2r := h2
 try simp only [nq, nr, nl, qqi, qqc, qq0] at h2
 refine qqg (qqd ?_)
 have hm : ¬ (fu = 0 ∨ 1000 ≤ st.length) := by omega
 refine ar (qqa (qqm fld78f2 rfl rfl) (qqa (qqe qq7 rfl rfl rfl) (qqa (j_sub rfl rfl qzz qzz) (qqa (qqm fld78f2 rfl rfl) (qjk (qq8 qq7 rfl rfl (nb rfl) (evo rfl) rfl) ?_)))))
 refine on (rs (qqu (fun ver => j_make (n := 12) qjg elt3 rfl rfl (by decide) rfl rfl rfl rfl qzz (by rw [qqw]; first | omega | (simp only [nr, nl, qqi, qqc, qq0]; omega))) fun v31x7 => ?_))
 refine oa rfl (on (a_row 31 (es' := (asgL zeroP (D.take 0)).map dI) rfl (by rw [List.take_zero]; rfl) ?_))
 refine qqd (rs (oa rfl (on (qqh (qqt (ι := Nat) (fun k => k ≤ D.length) (fun k r => (8, .p (.int .i64 ((k : Nat)))) :: r) (fun k r => (31, some (v31x7, .row 3 1 ((asgL zeroP (D.take k)).map dI))) :: r) (fun k => D.length - k) (fun _ _ => rfl) (fun _ _ => rfl) 0 (Nat.zero_le _) ⟨⟨rfl, rfl⟩, ⟨rfl, trivial⟩, ⟨rfl, trivial⟩, ⟨rfl, rfl⟩, ⟨rfl, rfl⟩⟩ ?_)))))
 intro k hk
 refine qqd (rs (om rfl (om rfl (qqa (qjc Try.underlying23 rfl rfl) (qqa (qzk rfl rfl) (on (ac rfl (fun h3 => ?_) fun h3 => ?_)))))))
 ·
  have h3r := h3
  try simp only [nq, nr, nl, qqi, qqc, qq0] at h3
  refine qqg (qqd (qqh (ar (om rfl (om rfl (om rfl (qqa (qqx qjg rfl rfl rfl rfl qzz) (qqa (qjl qq7 rfl rfl (qqj qzz) rfl) ?_))))))))
  refine qq4 (qqp (v := .tup []) (hp1 := [(31, some (v31x7, .row 3 1 _))]) [(31, v31x7)] false [31] ent64 (f_l3Assign (asgL zeroP (D.take k)) (D.getD k default) (asc_at hasc qzz) (by rw [qqc]; rfl)) ⟨.inl ⟨rfl, rfl⟩, .inl ⟨rfl, rfl⟩, trivial⟩ ⟨⟨rfl, rfl⟩, trivial⟩ rfl rfl (fun h => by cases h) rfl (List.all_eq_true.1 rfl) (.inl rfl) rfl rfl) ?_
  refine on (ar (om rfl (qqa (qje rfl rfl qzz qzz) (oa rfl (on ?_)))))
  exact ⟨k + 1, qzz, ⟨⟨rfl, rfl⟩, ⟨rfl, trivial⟩, ⟨qzd (by rw [asgL_next qzz]; rfl), trivial⟩, ⟨rfl, rfl⟩, ⟨rfl, rfl⟩⟩, qzz⟩
 have h3r := h3
 try simp only [nq, nr, nl, qqi, qqc, qq0] at h3
 refine qjf (qqd (qqd (a_row 31 (es' := (asgL zeroP D).map dI) rfl (by rw [List.take_of_length_le qzz]) ?_)))
 refine ar (qqa (qqm fld78f0 rfl rfl) (qqa (qqe leaf29 rfl rfl rfl) (om rfl ?_)))
 refine qq4 (qqp (v := .p _) (hp1 := [(31, some (v31x7, .row 3 1 _))]) [(31, v31x7)] true [1001, 31] ent65 (f_l3Prop (l ++ st) (asgL zeroP D) hall qzz (asgL_ok zero_ok)) ⟨.inr ⟨rfl, qj1 rfl rfl, rfl⟩, .inl ⟨rfl, rfl⟩, trivial⟩ ⟨⟨rfl, rfl⟩, trivial⟩ rfl rfl (fun _ => rfl) rfl (List.all_eq_true.1 rfl) (.inr ⟨rfl, by first | exact qjy (fun _ => rfl) | exact qj0 | (simp [plO, plV, plV.plL]; done)⟩) rfl rfl) ?_
 refine qqa (j_ge rfl rfl) (on (ac rfl (fun h4 => ?_) fun h4 => ?_))
 ·
  have h4r := h4
  try simp only [nq, nr, nl, qqi, qqc, qq0] at h4
  refine rs (qqa (qqr (ys := [.own 1001 v1001x3, .own 1002 v1002x4, .p _]) qj6 rfl rfl rfl (nb rfl)) (om rfl (op_call2 (v := fun ver ver2 => .agg [.own 51 ver, .own 100051 ver2, .p _]) (hp1 := fun ver ver2 => [(1001, some (v1001x3, .gone)), (1002, some (v1002x4, .gone)), (2, some (0, .row 3 1 _)), (51, some (ver, .row 56 2 _)), (100051, some (ver2, .row 65 5 _))]) [(1001, v1001x3), (1002, v1002x4), (2, 0)] false ent66 (f_l5LearnO (l ++ st) st (fu - 1) D hasc (by simp; omega) (by omega)) ⟨.inl ⟨rfl, rfl⟩, .inl ⟨rfl, rfl⟩, trivial⟩ ⟨⟨rfl, rfl⟩, ⟨rfl, rfl⟩, ⟨rfl, rfl⟩, trivial⟩ rfl rfl rfl rfl (.inl rfl) (fun _ _ => rfl) (fun _ _ => rfl) ?_)))
  rintro  v51x8 v100051x8
  dsimp only [List.cons_append, List.nil_append]
  refine qqu (fun ver => qza slt51 elt4 rfl rfl (by decide)) fun v52x9 => ?_
  refine qjk (qqk qj6 rfl rfl rfl rfl rfl rfl) ?_
  refine oa rfl (oa rfl (on (qql ?_)))
  have hr := vs_bad (l := l) (n := n) (D := D) hm (by omega)
  exact ⟨[.agg [.own 51 v51x8, .own 100051 v100051x8, .p _], .p _, .own 52 v52x9], .tup [.agg [.own 3 0, .own 4 0, .p _], .p _, .own 5 0], [.gone, .gone, .row 3 1 _], [.row 56 2 _, .row 65 5 _, .row 4 1 _], [(51, v51x8), (100051, v100051x8), (52, v52x9)], ⟨⟨_, _, _, _, rfl, rfl, qj6, rfl⟩, rfl, rfl, trivial⟩, rfl, rfl, ⟨⟨rfl, rfl⟩, ⟨rfl, rfl⟩, ⟨rfl, rfl⟩, ⟨rfl, rfl⟩, ⟨rfl, rfl⟩, ⟨rfl, rfl⟩, trivial⟩, rfl, rfl, ⟨by rw [hr]; try rfl, rfl, by rw [hr]; simp only [List.append_assoc]; try rfl⟩⟩
 have h4r := h4
 try simp only [nq, nr, nl, qqi, qqc, qq0] at h4
 refine qqg (qqd ?_)
 have hc1 : ¬ 0 ≤ (prD l st D).2 := by omega
 refine ar (om rfl ?_)
 refine qq4 (qqp (v := .p _) (hp1 := []) [] true [31] ent67 (f_l5Free (prD l st D).1 (by omega)) ⟨.inr ⟨rfl, qj1 rfl rfl, rfl⟩, trivial⟩ trivial rfl rfl (fun _ => rfl) rfl (fun _ h => by cases h) (.inr ⟨rfl, by first | exact qjy (fun _ => rfl) | exact qj0 | (simp [plO, plV, plV.plL]; done)⟩) rfl rfl) ?_
 refine oa rfl (on (qqd (rs (om rfl (qqa (j_eq rfl rfl) (on (ac rfl (fun h5 => ?_) fun h5 => ?_)))))))
 ·
  have h5r := h5
  try simp only [nq, nr, nl, qqi, qqc, qq0] at h5
  refine qqd ?_
  have hv0 : freeV (prD l st D).1 = 0 := by omega
  refine ar (qqu (fun ver => qza slt51 elt4 rfl rfl (by decide)) fun v57x10 => ?_)
  refine oa rfl (on (qqd (rs (oa rfl (on (qqh (qqt (ι := Nat × Nat) (fun x => x.1 ≤ (prD l st D).1.length) (fun x r => (11, .p (.int .i64 ((x.1 : Nat)))) :: (10, .own 57 x.2) :: r) (fun x r => (57, some (x.2, .row 4 1 ((valP ((prD l st D).1.take x.1)).map dB))) :: r) (fun x => (prD l st D).1.length - x.1) (fun _ _ => rfl) (fun _ _ => rfl) (0, v57x10) (by first | exact (Nat.zero_le _) | (dsimp only; exact (Nat.zero_le _))) ⟨⟨rfl, rfl⟩, ⟨rfl, rfl, trivial⟩, ⟨rfl, trivial⟩, ⟨rfl, rfl⟩, ⟨rfl, rfl⟩⟩ ?_)))))))
  rintro ⟨k, v⟩ hk; dsimp only at hk ⊢
  refine qqd (rs (om rfl (om rfl (qqa (qjc Try.underlying23 rfl rfl) (qqa (qzk rfl rfl) (on (ac rfl (fun h6 => ?_) fun h6 => ?_)))))))
  ·
   have h6r := h6
   try simp only [nq, nr, nl, qqi, qqc, qq0] at h6
   refine qqg (qqd (qqh (ar (om rfl (om rfl (om rfl (qqa (qqx qjg rfl rfl rfl rfl qzz) (qqa (qjl qq7 rfl rfl (qqj qzz) rfl) (qqa (j_gt rfl rfl) (qqu (fun ver => qqv (parts := [(0, .tmp 69)]) (es := [[_]]) slt51 elt4 rfl rfl (by decide) (by decide) rfl rfl (by simp) rfl) fun v70x11 => ?_))))))))))
   refine qqu (fun ver => qq2 slt51 elt4 rfl rfl rfl rfl rfl rfl (by rw [qqw]; first | omega | (simp only [nr, nl, qqi, qqc, qq0]; omega)) qzz) fun v57x12 => ?_
   refine oa rfl (on (ar (om rfl (qqa (qje rfl rfl qzz qzz) (oa rfl (on ?_))))))
   exact ⟨(k + 1, v57x12), (by first | exact qzz | (dsimp only; exact qzz)), ⟨⟨rfl, rfl⟩, ⟨rfl, rfl, trivial⟩, ⟨qzd (by dsimp only; rw [valP_next (by omega), List.map_append]; rfl), trivial⟩, ⟨rfl, rfl⟩, ⟨rfl, rfl⟩⟩, (by first | exact qzz | (dsimp only; exact qzz))⟩
  have h6r := h6
  try simp only [nq, nr, nl, qqi, qqc, qq0] at h6
  refine qjf (rs (qqa (qqr (ys := [.own 1001 v1001x3, .own 1002 v1002x4, .p _]) qj6 rfl rfl rfl (nb rfl)) (om rfl (qjk (qqk qj6 rfl rfl rfl rfl rfl rfl) ?_))))
  refine oa rfl (oa rfl (on (qql ?_)))
  have hr := vs_sat (n := n) hm hc1 hv0
  exact ⟨[.agg [.own 1001 v1001x3, .own 1002 v1002x4, .p _], .p _, .own 57 v], .tup [.agg [.own 3 0, .own 4 0, .p _], .p _, .own 5 0], [.gone, .gone, .row 3 1 _], [.row 56 2 _, .row 65 5 _, .row 4 1 _], [(1001, v1001x3), (1002, v1002x4), (57, v)], ⟨⟨_, _, _, _, rfl, rfl, qj6, rfl⟩, rfl, rfl, trivial⟩, rfl, rfl, ⟨⟨rfl, rfl⟩, ⟨rfl, rfl⟩, ⟨rfl, rfl⟩, ⟨rfl, rfl⟩, ⟨rfl, rfl⟩, ⟨rfl, rfl⟩, trivial⟩, rfl, rfl, ⟨by rw [hr]; try rfl, rfl, by rw [hr, List.take_of_length_le (by omega)]⟩⟩
 have h5r := h5
 try simp only [nq, nr, nl, qqi, qqc, qq0] at h5
 refine qqg (qqd (qqd ?_))
 have hv0 : ¬ freeV (prD l st D).1 = 0 := by omega
 have hv12 := (freeV_some hv0).1
 refine ar (om rfl (om rfl (qqa (j_neg rfl qzz qzz) (qqu (fun ver => qqv (parts := [(0, .tmp 74), (1, .tmp 76)]) (es := [[_], [_]]) qjg elt3 rfl rfl (by decide) (by decide) rfl rfl (by simp) rfl) fun v77x13 => ?_))))
 refine qqa (j_len_own Try.underlying23 rfl rfl) (om rfl (on (a_row 77 (es' := (twoV l st D).map dI) rfl rfl ?_)))
 try dsimp only [List.length_cons, List.length_nil]
 refine qqh (qqt (ι := Nat × Nat × Nat) (fun x => x.1 ≤ 2 ∧ ∀ i, i < x.1 → (visN l n st fu D i).2.2.1 = 2) (fun x r => (79, .p (.int .i64 ((x.1 : Nat)))) :: r) (fun x r => (1010, some (v1010x1, .box 78 [.own 1001 x.2.1, .own 1002 x.2.2, .p (.int .i64 (visK l n st fu D x.1).2)])) :: (1001, some (x.2.1, .row 56 2 ((l ++ (visK l n st fu D x.1).1).map dC))) :: (1002, some (x.2.2, .row 65 5 (((visK l n st fu D x.1).1).map dSt))) :: r) (fun x => 2 - x.1) (fun _ _ => rfl) (fun _ _ => rfl) (0, v1001x3, v1002x4) (by first | exact ⟨Nat.zero_le _, fun i h => absurd h (Nat.not_lt_zero i)⟩ | (dsimp only; exact ⟨Nat.zero_le _, fun i h => absurd h (Nat.not_lt_zero i)⟩)) ⟨⟨rfl, rfl⟩, ⟨rfl, trivial⟩, ⟨rfl, rfl, rfl, trivial⟩, ⟨rfl, rfl⟩, ⟨rfl, rfl⟩⟩ ?_)
 rintro ⟨k, v1, v2⟩ hk; dsimp only at hk ⊢
 refine rs (qqa (qzk rfl rfl) (on (qqd (ac rfl (fun h7 => ?_) fun h7 => ?_))))
 ·
  have h7r := h7
  try simp only [nq, nr, nl, qqi, qqc, qq0] at h7
  refine qqg (qqd (qqh (rs (qqa (qqx qjg rfl rfl rfl rfl qzz) (qqa (qjl qq7 rfl rfl (qqj qzz) rfl) (oa rfl (on (rs (oa rfl (on (rs (qqu (fun ver => qza slt51 elt4 rfl rfl (by decide)) fun v83x14 => ?_))))))))))))
  refine oa rfl (on (qqd ?_))
  have hkH := visK_H hh hm hc1 hv0 (k := k) qzz
  have hkG := visN_good hh hm hc1 hv0 (k := k) qzz
  have hvn : (visit l n (visK l n st fu D k).1 (visK l n st fu D k).2 (D ++ [((twoV l st D).getD k default)])).2.2.1 = (visN l n st fu D k).2.2.1 := rfl
  have IH9 := IH _ _ _ hkH
  rw [show (D ++ [((twoV l st D).getD k default)]).map dI = D.map dI ++ [dI ((twoV l st D).getD k default)] from List.map_append ..] at IH9
  refine a_draw mixed (by kernel_rfl) (by kernel_rfl) fun vf => ?_
  refine qqq (qqr (ys := [.own 1001 v1, .own 1002 v2, .p _]) qj6 rfl rfl rfl (nb rfl)) (d_n' (fun ver => qza qjg elt3 rfl rfl (by decide)) ?_)
  refine qqq (qqn (evo rfl)) (d_n1' (fun ver => j_append_ownN (by decide) qjg elt3 rfl rfl rfl rfl rfl (all_lf_dI D) (by rw [qqw]; first | omega | (simp only [nr, nl, qqi, qqc, qq0]; omega)) qzz rfl) ?_)
  refine qqq (qqn (evo rfl)) (d_n' (fun ver => qqv (parts := [(0, .tmp 89)]) (es := [[_]]) qjg elt3 rfl rfl (by decide) (by decide) rfl rfl (by simp) rfl) ?_)
  refine d_n1' (fun ver => j_append_ownN (by decide) qjg elt3 rfl rfl rfl rfl rfl rfl (by rw [qqw]; first | omega | (simp only [nr, nl, qqi, qqc, qq0]; omega)) qzz rfl) ?_
  refine d_n3' (fun ver ver2 ver3 => j_call3 (v := .tup [.agg [.own 92 ver, .own 100092 ver2, .p _], .p _, .own 200092 ver3]) (hp1 := [(1001, some (v1, .gone)), (1002, some (v2, .gone)), (91, some ((vf 91), .row 3 1 _)), (92, some (ver, .row 56 2 _)), (100092, some (ver2, .row 65 5 _)), (200092, some (ver3, .row 4 1 _))]) [(1001, v1), (1002, v2), (91, (vf 91))] false [1001, 1002, 91] ent48 IH9 ⟨.inl ⟨rfl, rfl⟩, .inl ⟨rfl, rfl⟩, trivial⟩ ⟨⟨rfl, rfl⟩, ⟨rfl, rfl⟩, ⟨rfl, rfl⟩, trivial⟩ rfl rfl rfl (fun h => by cases h) rfl (List.all_eq_true.1 rfl) (.inl rfl) rfl rfl) ?_
  refine qqq (qqn (evo rfl)) (qqq (qqy rfl rfl) (qqq (qqy rfl rfl) (qqq (qqy rfl rfl) (d_s' (qqk qj6 rfl rfl rfl rfl rfl rfl) ?_))))
  refine qqq (j_assign (evo rfl)) (qqq (j_assign (evo rfl)) (d_nil (by kernel_rfl) (by kernel_rfl) ?_))
  refine a_mvB (i := 92) 1010 0 1001 (by decide) (by decide) rfl rfl rfl rfl fun v1001x15 => ?_
  try dsimp only [List.set]
  refine a_mvB (i := 100092) 1010 1 1002 (by decide) (by decide) rfl rfl rfl rfl fun v1002x16 => ?_
  try dsimp only [List.set]
  refine rs (om rfl (qqa (j_ne rfl rfl) (on (ac rfl (fun h8 => ?_) fun h8 => ?_))))
  ·
   have h8r := h8
   try simp only [nq, nr, nl, qqi, qqc, qq0] at h8
   refine qqd ?_
   have hne : (visN l n st fu D k).2.2.1 ≠ 2 := by omega
   refine ar (qqa (qqr (ys := [.own 1001 v1001x15, .own 1002 v1002x16, .p _]) qj6 rfl rfl rfl (nb rfl)) (om rfl (om rfl (qjk (qqk qj6 rfl rfl rfl rfl rfl rfl) ?_))))
   refine oa rfl (oa rfl (on (qql ?_)))
   have hr := visN_hit hm hc1 hv0 (k := k) qzz (fun q => hk.2 0 (by omega)) hne
   exact ⟨[.agg [.own 1001 v1001x15, .own 1002 v1002x16, .p _], .p _, .own 200092 (vf 200092)], .tup [.agg [.own 3 0, .own 4 0, .p _], .p _, .own 5 0], [.gone, .gone, .row 3 1 _], [.row 56 2 _, .row 65 5 _, .row 4 1 _], [(1001, v1001x15), (1002, v1002x16), (200092, (vf 200092))], ⟨⟨_, _, _, _, rfl, rfl, qj6, rfl⟩, rfl, rfl, trivial⟩, rfl, rfl, ⟨⟨rfl, rfl⟩, ⟨rfl, rfl⟩, ⟨rfl, rfl⟩, ⟨rfl, rfl⟩, ⟨rfl, rfl⟩, ⟨rfl, rfl⟩, trivial⟩, rfl, rfl, ⟨by rw [hr]; try rfl, rfl, by rw [hr]; try rfl⟩⟩
  have h8r := h8
  try simp only [nq, nr, nl, qqi, qqc, qq0] at h8
  refine qqg ?_
  have h2e : (visN l n st fu D k).2.2.1 = 2 := by omega
  refine ar (qqa (qje rfl rfl qzz qzz) (om rfl (on ?_)))
  exact ⟨(k + 1, v1001x15, v1002x16), (by first | exact ⟨by first | omega | (simp only [nr, nl, qqi, qqc, qq0]; omega), fun i hi => by rcases Nat.lt_succ_iff_lt_or_eq.1 hi with q | q; (· exact hk.2 i q); (· subst q; exact h2e)⟩ | (dsimp only; exact ⟨by first | omega | (simp only [nr, nl, qqi, qqc, qq0]; omega), fun i hi => by rcases Nat.lt_succ_iff_lt_or_eq.1 hi with q | q; (· exact hk.2 i q); (· subst q; exact h2e)⟩)), ⟨⟨rfl, rfl⟩, ⟨rfl, trivial⟩, ⟨(by dsimp only; rw [qzp (by omega)]; rfl), (by dsimp only; rw [qzp (by omega)]; rfl), (by dsimp only; rw [qzp (by omega)]; rfl), trivial⟩, ⟨rfl, rfl⟩, ⟨rfl, rfl⟩⟩, (by first | exact qzz | (dsimp only; exact qzz))⟩
 have h7r := h7
 try simp only [nq, nr, nl, qqi, qqc, qq0] at h7
 refine qjf (qqd (qqd ?_))
 obtain rfl : k = 2 := by omega
 have hk1 := hk.2 1 (by omega)
 have hk0 := hk.2 0 (by omega)
 have hvl2 : (visK l n st fu D 2).1.length = (vis2 l n st fu D).1.length := rfl
 have hk2L : (vis2 l n st fu D).1.length ≤ 1000 := (visN_good hh hm hc1 hv0 (k := 1) (by omega)).len
 refine ar (qqa (qqm fld78f1 rfl rfl) (qqa (qqe leaf26 rfl rfl rfl) (qqa (qjc Try.underlying26 rfl rfl) (qqa (j_ge rfl rfl) (on (ac rfl (fun h9 => ?_) fun h9 => ?_))))))
 ·
  have h9r := h9
  try simp only [nq, nr, nl, qqi, qqc, qq0] at h9
  refine rs (qqa (qqr (ys := [.own 1001 v1, .own 1002 v2, .p _]) qj6 rfl rfl rfl (nb rfl)) (qqu (fun ver => qza slt51 elt4 rfl rfl (by decide)) fun v107x17 => ?_))
  refine qjk (qqk qj6 rfl rfl rfl rfl rfl rfl) ?_
  refine oa rfl (oa rfl (on (qql ?_)))
  have hr := vs_full hm hc1 hv0 (fun q => q hk0) (fun q => q hk1) (by omega)
  exact ⟨[.agg [.own 1001 v1, .own 1002 v2, .p _], .p _, .own 107 v107x17], .tup [.agg [.own 3 0, .own 4 0, .p _], .p _, .own 5 0], [.gone, .gone, .row 3 1 _], [.row 56 2 _, .row 65 5 _, .row 4 1 _], [(1001, v1), (1002, v2), (107, v107x17)], ⟨⟨_, _, _, _, rfl, rfl, qj6, rfl⟩, rfl, rfl, trivial⟩, rfl, rfl, ⟨⟨rfl, rfl⟩, ⟨rfl, rfl⟩, ⟨rfl, rfl⟩, ⟨rfl, rfl⟩, ⟨rfl, rfl⟩, ⟨rfl, rfl⟩, trivial⟩, rfl, rfl, ⟨by rw [hr]; try rfl, rfl, by rw [hr]; try rfl⟩⟩
 have h9r := h9
 try simp only [nq, nr, nl, qqi, qqc, qq0] at h9
 refine qqg (rs (qqa (qqr (ys := [.own 1001 v1, .own 1002 v2, .p _]) qj6 rfl rfl rfl (nb rfl)) (om rfl (op_call2 (v := fun ver ver2 => .agg [.own 110 ver, .own 100110 ver2, .p _]) (hp1 := fun ver ver2 => [(1001, some (v1, .gone)), (1002, some (v2, .gone)), (2, some (0, .row 3 1 _)), (110, some (ver, .row 56 2 _)), (100110, some (ver2, .row 65 5 _))]) [(1001, v1), (1002, v2), (2, 0)] false ent66 (f_l5LearnO (l ++ (visK l n st fu D 2).1) (visK l n st fu D 2).1 (visK l n st fu D 2).2 D hasc (by simp; omega) (by omega)) ⟨.inl ⟨rfl, rfl⟩, .inl ⟨rfl, rfl⟩, trivial⟩ ⟨⟨rfl, rfl⟩, ⟨rfl, rfl⟩, ⟨rfl, rfl⟩, trivial⟩ rfl rfl rfl rfl (.inl rfl) (fun _ _ => rfl) (fun _ _ => rfl) ?_))))
 rintro  v110x18 v100110x18
 dsimp only [List.cons_append, List.nil_append]
 refine qqu (fun ver => qza slt51 elt4 rfl rfl (by decide)) fun v111x19 => ?_
 refine qjk (qqk qj6 rfl rfl rfl rfl rfl rfl) ?_
 refine oa rfl (oa rfl (on (qql ?_)))
 have hr := qz8 hm hc1 hv0 (fun q => q hk0) (fun q => q hk1) (by omega)
 exact ⟨[.agg [.own 110 v110x18, .own 100110 v100110x18, .p _], .p _, .own 111 v111x19], .tup [.agg [.own 3 0, .own 4 0, .p _], .p _, .own 5 0], [.gone, .gone, .row 3 1 _], [.row 56 2 _, .row 65 5 _, .row 4 1 _], [(110, v110x18), (100110, v100110x18), (111, v111x19)], ⟨⟨_, _, _, _, rfl, rfl, qj6, rfl⟩, rfl, rfl, trivial⟩, rfl, rfl, ⟨⟨rfl, rfl⟩, ⟨rfl, rfl⟩, ⟨rfl, rfl⟩, ⟨rfl, rfl⟩, ⟨rfl, rfl⟩, ⟨rfl, rfl⟩, trivial⟩, rfl, rfl, ⟨by rw [hr]; try rfl, rfl, by rw [hr]; simp only [List.append_assoc]; try rfl⟩⟩
theorem f_seaN (l : List Con) (n : Nat) (st : List Con) (fu : Int) (D : List Int) (hh : visH l (n + 1) st fu D) (hD : D = []) (hS : st = []) (IH : ∀ (st' : List Con) (fu' : Int) (d : Int), visH l n st' fu' (D ++ [d]) → Fn Try.prog 48 [.agg [.own 0 0, .own 1 0, .p (.int .i64 (fu'))], .own 2 0] [.row 56 2 ((l ++ st').map dC), .row 65 5 ((st').map dSt), .row 3 1 ((D ++ [d]).map dI)] (fun rr ii nn => rr = .tup [.agg [.own 3 0, .own 4 0, .p (.int .i64 (visit l n st' (fu') (D ++ [d])).2.1)], .p (.int .i64 (visit l n st' (fu') (D ++ [d])).2.2.1), .own 5 0] ∧ ii = [.gone, .gone, .row 3 1 ((D ++ [d]).map dI)] ∧ nn = [.row 56 2 ((l ++ (visit l n st' (fu') (D ++ [d])).1).map dC), .row 65 5 (((visit l n st' (fu') (D ++ [d])).1).map dSt), .row 4 1 ((visit l n st' (fu') (D ++ [d])).2.2.2.map dB)])) : Fn Try.prog 48 [.agg [.own 0 0, .p (.slice none 0 0), .p (.int .i64 (fu))], .p (.slice none 0 0)] [.row 56 2 ((l ++ st).map dC)] (fun rr ii nn => rr = .tup [.agg [.own 1 0, .own 2 0, .p (.int .i64 (visit l (n + 1) st (fu) (D)).2.1)], .p (.int .i64 (visit l (n + 1) st (fu) (D)).2.2.1), .own 3 0] ∧ ii = [.gone] ∧ nn = [.row 56 2 ((l ++ (visit l (n + 1) st (fu) (D)).1).map dC), .row 65 5 (((visit l (n + 1) st (fu) (D)).1).map dSt), .row 4 1 ((visit l (n + 1) st (fu) (D)).2.2.2.map dB)]) := by
 refine qjj Try.func48 rfl (nb rfl) fun w X g => ?_
 show AWp _ _ _ ⟨[(0, .agg [.own 0 0, .p (.slice none 0 0), .p (.int .i64 (fu))]), (1, .p (.slice none 0 0))], [(0, some (0, .row 56 2 ((l ++ st).map dC)))]⟩
 refine a_nil 1 rfl ?_
 rw [show (V.sl []) = .sl (D.map dI) by rw [hD]; rfl]
 have hvd := visH_len hh
 have hall := hh.1
 have hst := hh.2.1
 have hfu := hh.2.2.1
 have hinv := hh.2.2.2.1
 have hasc := hinv.1
 have hll := hh.2.2.2.2.2
 have hz12 : zeroP.length = 12 := rfl
 have hpok := prD_ok (l := l) (st := st) (D := D)
 have hpl := qjv hpok
 have hprd : (prop (l ++ st) (asgL zeroP D)).2 = (prD l st D).2 := rfl
 have hprl : (prop (l ++ st) (asgL zeroP D)).1.length = (prD l st D).1.length := rfl
 refine rs (qqu (fun ver => j_boxaI 1010 rfl) fun v1010x1 => ?_)
 refine qqu (fun ver => qjw elt78 rfl) fun v4x2 => ?_
 refine oa rfl (oa rfl (on (qjb 6 6 4 1 rfl fun v6 => ?_)))
 refine a_mvB (i := 0) 1010 0 1001 (by decide) (by decide) rfl rfl rfl rfl fun v1001x3 => ?_
 try dsimp only [List.set]
 refine a_adopt_box' 1 1002 65 5 (by decide) (id := 1010) rfl rfl fun v1002x4 => ?_
 refine qqd (qqd (a_row 1002 (es' := st.map dSt) rfl (by rw [hS]; rfl) ?_))
 refine ar (qqa (qqm fld78f2 rfl rfl) (qqa (qqe qq7 rfl rfl rfl) (qqa (j_eq rfl rfl) (om rfl (qq9 19 rfl (fun h1 => ?_) (fun h1 => ?_))))))
 ·
  have h1r := h1
  try simp only [nq, nr, nl, qqi, qqc, qq0] at h1
  refine qqa (qqb rfl rfl h1r) (qqa (qqb rfl rfl h1r) (qqa (qqb rfl rfl h1r) (qqa (qqb rfl rfl h1r) (qqa (qq6 rfl h1r (evo rfl)) (on (a_tt rfl ?_))))))
  refine rs (qqa (qqr (ys := [.own 1001 v1001x3, .own 1002 v1002x4, .p _]) qj6 rfl rfl rfl (nb rfl)) (qqu (fun ver => qza slt51 elt4 rfl rfl (by decide)) fun v26x5 => ?_))
  refine qjk (qqk qj6 rfl rfl rfl rfl rfl rfl) ?_
  refine oa rfl (oa rfl (on (qql ?_)))
  have hr := vs_much (l := l) (n := n) (D := D) (fu := fu) (st := st) (by first | exact .inl (by omega) | exact .inr (by omega))
  exact ⟨[.agg [.own 1001 v1001x3, .own 1002 v1002x4, .p _], .p _, .own 26 v26x5], .tup [.agg [.own 1 0, .own 2 0, .p _], .p _, .own 3 0], [.gone], [.row 56 2 _, .row 65 5 _, .row 4 1 _], [(1001, v1001x3), (1002, v1002x4), (26, v26x5)], ⟨⟨_, _, _, _, rfl, rfl, qj6, rfl⟩, rfl, rfl, trivial⟩, rfl, rfl, ⟨⟨rfl, rfl⟩, ⟨rfl, rfl⟩, ⟨rfl, rfl⟩, ⟨rfl, rfl⟩, trivial⟩, rfl, rfl, ⟨by rw [hr]; try rfl, rfl, by rw [hr]; try rfl⟩⟩
 have h1r := h1
 try simp only [nq, nr, nl, qqi, qqc, qq0] at h1
 refine qqa (qqf rfl rfl h1r (qqm fld78f1 rfl rfl)) (qqa (qqf rfl rfl h1r (qqe leaf26 rfl rfl rfl)) (qqa (qqf rfl rfl h1r (qjc Try.underlying26 rfl rfl)) (qqa (qqf rfl rfl h1r (j_ge rfl rfl)) (qqa (qq3 rfl h1r (evo rfl)) (on (ac rfl (fun h2 => ?_) fun h2 => ?_))))))
 ·
  have h2r := h2
  try simp only [nq, nr, nl, qqi, qqc, qq0] at h2
  refine rs (qqa (qqr (ys := [.own 1001 v1001x3, .own 1002 v1002x4, .p _]) qj6 rfl rfl rfl (nb rfl)) (qqu (fun ver => qza slt51 elt4 rfl rfl (by decide)) fun v26x6 => ?_))
  refine qjk (qqk qj6 rfl rfl rfl rfl rfl rfl) ?_
  refine oa rfl (oa rfl (on (qql ?_)))
  have hr := vs_much (l := l) (n := n) (D := D) (fu := fu) (st := st) (by first | exact .inl (by omega) | exact .inr (by omega))
  exact ⟨[.agg [.own 1001 v1001x3, .own 1002 v1002x4, .p _], .p _, .own 26 v26x6], .tup [.agg [.own 1 0, .own 2 0, .p _], .p _, .own 3 0], [.gone], [.row 56 2 _, .row 65 5 _, .row 4 1 _], [(1001, v1001x3), (1002, v1002x4), (26, v26x6)], ⟨⟨_, _, _, _, rfl, rfl, qj6, rfl⟩, rfl, rfl, trivial⟩, rfl, rfl, ⟨⟨rfl, rfl⟩, ⟨rfl, rfl⟩, ⟨rfl, rfl⟩, ⟨rfl, rfl⟩, trivial⟩, rfl, rfl, ⟨by rw [hr]; try rfl, rfl, by rw [hr]; try rfl⟩⟩
 have h2r := h2
 try simp only [nq, nr, nl, qqi, qqc, qq0] at h2
 refine qqg (qqd ?_)
 have hm : ¬ (fu = 0 ∨ 1000 ≤ st.length) := by omega
 refine ar (qqa (qqm fld78f2 rfl rfl) (qqa (qqe qq7 rfl rfl rfl) (qqa (j_sub rfl rfl qzz qzz) (qqa (qqm fld78f2 rfl rfl) (qjk (qq8 qq7 rfl rfl (nb rfl) (evo rfl) rfl) ?_)))))
 refine on (rs (qqu (fun ver => j_make (n := 12) qjg elt3 rfl rfl (by decide) rfl rfl rfl rfl qzz (by rw [qqw]; first | omega | (simp only [nr, nl, qqi, qqc, qq0]; omega))) fun v31x7 => ?_))
 refine oa rfl (on (a_row 31 (es' := (asgL zeroP (D.take 0)).map dI) rfl (by rw [List.take_zero]; rfl) ?_))
 refine qqd (rs (oa rfl (on (qqh (qqt (ι := Nat) (fun k => k ≤ D.length) (fun k r => (8, .p (.int .i64 ((k : Nat)))) :: r) (fun k r => (31, some (v31x7, .row 3 1 ((asgL zeroP (D.take k)).map dI))) :: r) (fun k => D.length - k) (fun _ _ => rfl) (fun _ _ => rfl) 0 (Nat.zero_le _) ⟨⟨rfl, rfl⟩, ⟨rfl, trivial⟩, ⟨rfl, trivial⟩, ⟨rfl, rfl⟩, ⟨rfl, rfl⟩⟩ ?_)))))
 intro k hk
 refine qqd (rs (om rfl (om rfl (qqa (qqs Try.underlying23 rfl) (qqa (qzk rfl rfl) (on (ac rfl (fun h3 => ?_) fun h3 => ?_)))))))
 ·
  have h3r := h3
  try simp only [nq, nr, nl, qqi, qqc, qq0] at h3
  refine qqg (qqd (qqh (ar (om rfl (om rfl (om rfl (qqa (qq5 qjg rfl rfl rfl (qqj qzz) rfl) (qqa (qqz qq7 rfl (qqj qzz) rfl) ?_))))))))
  refine qq4 (qqp (v := .tup []) (hp1 := [(31, some (v31x7, .row 3 1 _))]) [(31, v31x7)] false [31] ent64 (f_l3Assign (asgL zeroP (D.take k)) (D.getD k default) (asc_at hasc qzz) (by rw [qqc]; rfl)) ⟨.inl ⟨rfl, rfl⟩, .inl ⟨rfl, rfl⟩, trivial⟩ ⟨⟨rfl, rfl⟩, trivial⟩ rfl rfl (fun h => by cases h) rfl (List.all_eq_true.1 rfl) (.inl rfl) rfl rfl) ?_
  refine on (ar (om rfl (qqa (qje rfl rfl qzz qzz) (oa rfl (on ?_)))))
  exact ⟨k + 1, qzz, ⟨⟨rfl, rfl⟩, ⟨rfl, trivial⟩, ⟨qzd (by rw [asgL_next qzz]; rfl), trivial⟩, ⟨rfl, rfl⟩, ⟨rfl, rfl⟩⟩, qzz⟩
 have h3r := h3
 try simp only [nq, nr, nl, qqi, qqc, qq0] at h3
 refine qjf (qqd (qqd (a_row 31 (es' := (asgL zeroP D).map dI) rfl (by rw [List.take_of_length_le qzz]) ?_)))
 refine ar (qqa (qqm fld78f0 rfl rfl) (qqa (qqe leaf29 rfl rfl rfl) (om rfl ?_)))
 refine qq4 (qqp (v := .p _) (hp1 := [(31, some (v31x7, .row 3 1 _))]) [(31, v31x7)] true [1001, 31] ent65 (f_l3Prop (l ++ st) (asgL zeroP D) hall qzz (asgL_ok zero_ok)) ⟨.inr ⟨rfl, qj1 rfl rfl, rfl⟩, .inl ⟨rfl, rfl⟩, trivial⟩ ⟨⟨rfl, rfl⟩, trivial⟩ rfl rfl (fun _ => rfl) rfl (List.all_eq_true.1 rfl) (.inr ⟨rfl, by first | exact qjy (fun _ => rfl) | exact qj0 | (simp [plO, plV, plV.plL]; done)⟩) rfl rfl) ?_
 refine qqa (j_ge rfl rfl) (on (ac rfl (fun h4 => ?_) fun h4 => ?_))
 ·
  have h4r := h4
  try simp only [nq, nr, nl, qqi, qqc, qq0] at h4
  refine rs (qqa (qqr (ys := [.own 1001 v1001x3, .own 1002 v1002x4, .p _]) qj6 rfl rfl rfl (nb rfl)) (om rfl (op_call2 (v := fun ver ver2 => .agg [.own 51 ver, .own 100051 ver2, .p _]) (hp1 := fun ver ver2 => [(1001, some (v1001x3, .gone)), (1002, some (v1002x4, .gone)), (51, some (ver, .row 56 2 _)), (100051, some (ver2, .row 65 5 _))]) [(1001, v1001x3), (1002, v1002x4)] false ent66 (f_l5Learn (l ++ st) st (fu - 1) D hasc (by simp; omega) (by omega)) ⟨.inl ⟨rfl, rfl⟩, .inl ⟨rfl, rfl⟩, trivial⟩ ⟨⟨rfl, rfl⟩, ⟨rfl, rfl⟩, trivial⟩ rfl rfl rfl rfl (.inl rfl) (fun _ _ => rfl) (fun _ _ => rfl) ?_)))
  rintro  v51x8 v100051x8
  dsimp only [List.cons_append, List.nil_append]
  refine qqu (fun ver => qza slt51 elt4 rfl rfl (by decide)) fun v52x9 => ?_
  refine qjk (qqk qj6 rfl rfl rfl rfl rfl rfl) ?_
  refine oa rfl (oa rfl (on (qql ?_)))
  have hr := vs_bad (l := l) (n := n) (D := D) hm (by omega)
  exact ⟨[.agg [.own 51 v51x8, .own 100051 v100051x8, .p _], .p _, .own 52 v52x9], .tup [.agg [.own 1 0, .own 2 0, .p _], .p _, .own 3 0], [.gone], [.row 56 2 _, .row 65 5 _, .row 4 1 _], [(51, v51x8), (100051, v100051x8), (52, v52x9)], ⟨⟨_, _, _, _, rfl, rfl, qj6, rfl⟩, rfl, rfl, trivial⟩, rfl, rfl, ⟨⟨rfl, rfl⟩, ⟨rfl, rfl⟩, ⟨rfl, rfl⟩, ⟨rfl, rfl⟩, trivial⟩, rfl, rfl, ⟨by rw [hr]; try rfl, rfl, by rw [hr]; simp only [List.append_assoc]; try rfl⟩⟩
 have h4r := h4
 try simp only [nq, nr, nl, qqi, qqc, qq0] at h4
 refine qqg (qqd ?_)
 have hc1 : ¬ 0 ≤ (prD l st D).2 := by omega
 refine ar (om rfl ?_)
 refine qq4 (qqp (v := .p _) (hp1 := []) [] true [31] ent67 (f_l5Free (prD l st D).1 (by omega)) ⟨.inr ⟨rfl, qj1 rfl rfl, rfl⟩, trivial⟩ trivial rfl rfl (fun _ => rfl) rfl (fun _ h => by cases h) (.inr ⟨rfl, by first | exact qjy (fun _ => rfl) | exact qj0 | (simp [plO, plV, plV.plL]; done)⟩) rfl rfl) ?_
 refine oa rfl (on (qqd (rs (om rfl (qqa (j_eq rfl rfl) (on (ac rfl (fun h5 => ?_) fun h5 => ?_)))))))
 ·
  have h5r := h5
  try simp only [nq, nr, nl, qqi, qqc, qq0] at h5
  refine qqd ?_
  have hv0 : freeV (prD l st D).1 = 0 := by omega
  refine ar (qqu (fun ver => qza slt51 elt4 rfl rfl (by decide)) fun v57x10 => ?_)
  refine oa rfl (on (qqd (rs (oa rfl (on (qqh (qqt (ι := Nat × Nat) (fun x => x.1 ≤ (prD l st D).1.length) (fun x r => (11, .p (.int .i64 ((x.1 : Nat)))) :: (10, .own 57 x.2) :: r) (fun x r => (57, some (x.2, .row 4 1 ((valP ((prD l st D).1.take x.1)).map dB))) :: r) (fun x => (prD l st D).1.length - x.1) (fun _ _ => rfl) (fun _ _ => rfl) (0, v57x10) (by first | exact (Nat.zero_le _) | (dsimp only; exact (Nat.zero_le _))) ⟨⟨rfl, rfl⟩, ⟨rfl, rfl, trivial⟩, ⟨rfl, trivial⟩, ⟨rfl, rfl⟩, ⟨rfl, rfl⟩⟩ ?_)))))))
  rintro ⟨k, v⟩ hk; dsimp only at hk ⊢
  refine qqd (rs (om rfl (om rfl (qqa (qjc Try.underlying23 rfl rfl) (qqa (qzk rfl rfl) (on (ac rfl (fun h6 => ?_) fun h6 => ?_)))))))
  ·
   have h6r := h6
   try simp only [nq, nr, nl, qqi, qqc, qq0] at h6
   refine qqg (qqd (qqh (ar (om rfl (om rfl (om rfl (qqa (qqx qjg rfl rfl rfl rfl qzz) (qqa (qjl qq7 rfl rfl (qqj qzz) rfl) (qqa (j_gt rfl rfl) (qqu (fun ver => qqv (parts := [(0, .tmp 69)]) (es := [[_]]) slt51 elt4 rfl rfl (by decide) (by decide) rfl rfl (by simp) rfl) fun v70x11 => ?_))))))))))
   refine qqu (fun ver => qq2 slt51 elt4 rfl rfl rfl rfl rfl rfl (by rw [qqw]; first | omega | (simp only [nr, nl, qqi, qqc, qq0]; omega)) qzz) fun v57x12 => ?_
   refine oa rfl (on (ar (om rfl (qqa (qje rfl rfl qzz qzz) (oa rfl (on ?_))))))
   exact ⟨(k + 1, v57x12), (by first | exact qzz | (dsimp only; exact qzz)), ⟨⟨rfl, rfl⟩, ⟨rfl, rfl, trivial⟩, ⟨qzd (by dsimp only; rw [valP_next (by omega), List.map_append]; rfl), trivial⟩, ⟨rfl, rfl⟩, ⟨rfl, rfl⟩⟩, (by first | exact qzz | (dsimp only; exact qzz))⟩
  have h6r := h6
  try simp only [nq, nr, nl, qqi, qqc, qq0] at h6
  refine qjf (rs (qqa (qqr (ys := [.own 1001 v1001x3, .own 1002 v1002x4, .p _]) qj6 rfl rfl rfl (nb rfl)) (om rfl (qjk (qqk qj6 rfl rfl rfl rfl rfl rfl) ?_))))
  refine oa rfl (oa rfl (on (qql ?_)))
  have hr := vs_sat (n := n) hm hc1 hv0
  exact ⟨[.agg [.own 1001 v1001x3, .own 1002 v1002x4, .p _], .p _, .own 57 v], .tup [.agg [.own 1 0, .own 2 0, .p _], .p _, .own 3 0], [.gone], [.row 56 2 _, .row 65 5 _, .row 4 1 _], [(1001, v1001x3), (1002, v1002x4), (57, v)], ⟨⟨_, _, _, _, rfl, rfl, qj6, rfl⟩, rfl, rfl, trivial⟩, rfl, rfl, ⟨⟨rfl, rfl⟩, ⟨rfl, rfl⟩, ⟨rfl, rfl⟩, ⟨rfl, rfl⟩, trivial⟩, rfl, rfl, ⟨by rw [hr]; try rfl, rfl, by rw [hr, List.take_of_length_le (by omega)]⟩⟩
 have h5r := h5
 try simp only [nq, nr, nl, qqi, qqc, qq0] at h5
 refine qqg (qqd (qqd ?_))
 have hv0 : ¬ freeV (prD l st D).1 = 0 := by omega
 have hv12 := (freeV_some hv0).1
 refine ar (om rfl (om rfl (qqa (j_neg rfl qzz qzz) (qqu (fun ver => qqv (parts := [(0, .tmp 74), (1, .tmp 76)]) (es := [[_], [_]]) qjg elt3 rfl rfl (by decide) (by decide) rfl rfl (by simp) rfl) fun v77x13 => ?_))))
 refine qqa (j_len_own Try.underlying23 rfl rfl) (om rfl (on (a_row 77 (es' := (twoV l st D).map dI) rfl rfl ?_)))
 try dsimp only [List.length_cons, List.length_nil]
 refine qqh (qqt (ι := Nat × Nat × Nat) (fun x => x.1 ≤ 2 ∧ ∀ i, i < x.1 → (visN l n st fu D i).2.2.1 = 2) (fun x r => (79, .p (.int .i64 ((x.1 : Nat)))) :: r) (fun x r => (1010, some (v1010x1, .box 78 [.own 1001 x.2.1, .own 1002 x.2.2, .p (.int .i64 (visK l n st fu D x.1).2)])) :: (1001, some (x.2.1, .row 56 2 ((l ++ (visK l n st fu D x.1).1).map dC))) :: (1002, some (x.2.2, .row 65 5 (((visK l n st fu D x.1).1).map dSt))) :: r) (fun x => 2 - x.1) (fun _ _ => rfl) (fun _ _ => rfl) (0, v1001x3, v1002x4) (by first | exact ⟨Nat.zero_le _, fun i h => absurd h (Nat.not_lt_zero i)⟩ | (dsimp only; exact ⟨Nat.zero_le _, fun i h => absurd h (Nat.not_lt_zero i)⟩)) ⟨⟨rfl, rfl⟩, ⟨rfl, trivial⟩, ⟨rfl, rfl, rfl, trivial⟩, ⟨rfl, rfl⟩, ⟨rfl, rfl⟩⟩ ?_)
 rintro ⟨k, v1, v2⟩ hk; dsimp only at hk ⊢
 refine rs (qqa (qzk rfl rfl) (on (qqd (ac rfl (fun h7 => ?_) fun h7 => ?_))))
 ·
  have h7r := h7
  try simp only [nq, nr, nl, qqi, qqc, qq0] at h7
  refine qqg (qqd (qqh (rs (qqa (qqx qjg rfl rfl rfl rfl qzz) (qqa (qjl qq7 rfl rfl (qqj qzz) rfl) (oa rfl (on (rs (oa rfl (on (rs (qqu (fun ver => qza slt51 elt4 rfl rfl (by decide)) fun v83x14 => ?_))))))))))))
  refine oa rfl (on (qqd ?_))
  have hkH := visK_H hh hm hc1 hv0 (k := k) qzz
  have hkG := visN_good hh hm hc1 hv0 (k := k) qzz
  have hvn : (visit l n (visK l n st fu D k).1 (visK l n st fu D k).2 (D ++ [((twoV l st D).getD k default)])).2.2.1 = (visN l n st fu D k).2.2.1 := rfl
  have IH9 := IH _ _ _ hkH
  rw [show (D ++ [((twoV l st D).getD k default)]).map dI = D.map dI ++ [dI ((twoV l st D).getD k default)] from List.map_append ..] at IH9
  refine a_draw mixed (by kernel_rfl) (by kernel_rfl) fun vf => ?_
  refine qqq (qqr (ys := [.own 1001 v1, .own 1002 v2, .p _]) qj6 rfl rfl rfl (nb rfl)) (d_n' (fun ver => qza qjg elt3 rfl rfl (by decide)) ?_)
  refine qqq (qqn (evo rfl)) (d_n1' (fun ver => j_append_slN (by decide) qjg elt3 rfl rfl rfl rfl (by intro x hx; obtain ⟨t, _, rfl⟩ := List.mem_map.1 hx; rfl) (all_lf_dI D) (by rw [qqw]; first | omega | (simp only [nr, nl, qqi, qqc, qq0]; omega)) qzz) ?_)
  refine qqq (qqn (evo rfl)) (d_n' (fun ver => qqv (parts := [(0, .tmp 89)]) (es := [[_]]) qjg elt3 rfl rfl (by decide) (by decide) rfl rfl (by simp) rfl) ?_)
  refine d_n1' (fun ver => j_append_ownN (by decide) qjg elt3 rfl rfl rfl rfl rfl rfl (by rw [qqw]; first | omega | (simp only [nr, nl, qqi, qqc, qq0]; omega)) qzz rfl) ?_
  refine d_n3' (fun ver ver2 ver3 => j_call3 (v := .tup [.agg [.own 92 ver, .own 100092 ver2, .p _], .p _, .own 200092 ver3]) (hp1 := [(1001, some (v1, .gone)), (1002, some (v2, .gone)), (91, some ((vf 91), .row 3 1 _)), (92, some (ver, .row 56 2 _)), (100092, some (ver2, .row 65 5 _)), (200092, some (ver3, .row 4 1 _))]) [(1001, v1), (1002, v2), (91, (vf 91))] false [1001, 1002, 91] ent48 IH9 ⟨.inl ⟨rfl, rfl⟩, .inl ⟨rfl, rfl⟩, trivial⟩ ⟨⟨rfl, rfl⟩, ⟨rfl, rfl⟩, ⟨rfl, rfl⟩, trivial⟩ rfl rfl rfl (fun h => by cases h) rfl (List.all_eq_true.1 rfl) (.inl rfl) rfl rfl) ?_
  refine qqq (qqn (evo rfl)) (qqq (qqy rfl rfl) (qqq (qqy rfl rfl) (qqq (qqy rfl rfl) (d_s' (qqk qj6 rfl rfl rfl rfl rfl rfl) ?_))))
  refine qqq (j_assign (evo rfl)) (qqq (j_assign (evo rfl)) (d_nil (by kernel_rfl) (by kernel_rfl) ?_))
  refine a_mvB (i := 92) 1010 0 1001 (by decide) (by decide) rfl rfl rfl rfl fun v1001x15 => ?_
  try dsimp only [List.set]
  refine a_mvB (i := 100092) 1010 1 1002 (by decide) (by decide) rfl rfl rfl rfl fun v1002x16 => ?_
  try dsimp only [List.set]
  refine rs (om rfl (qqa (j_ne rfl rfl) (on (ac rfl (fun h8 => ?_) fun h8 => ?_))))
  ·
   have h8r := h8
   try simp only [nq, nr, nl, qqi, qqc, qq0] at h8
   refine qqd ?_
   have hne : (visN l n st fu D k).2.2.1 ≠ 2 := by omega
   refine ar (qqa (qqr (ys := [.own 1001 v1001x15, .own 1002 v1002x16, .p _]) qj6 rfl rfl rfl (nb rfl)) (om rfl (om rfl (qjk (qqk qj6 rfl rfl rfl rfl rfl rfl) ?_))))
   refine oa rfl (oa rfl (on (qql ?_)))
   have hr := visN_hit hm hc1 hv0 (k := k) qzz (fun q => hk.2 0 (by omega)) hne
   exact ⟨[.agg [.own 1001 v1001x15, .own 1002 v1002x16, .p _], .p _, .own 200092 (vf 200092)], .tup [.agg [.own 1 0, .own 2 0, .p _], .p _, .own 3 0], [.gone], [.row 56 2 _, .row 65 5 _, .row 4 1 _], [(1001, v1001x15), (1002, v1002x16), (200092, (vf 200092))], ⟨⟨_, _, _, _, rfl, rfl, qj6, rfl⟩, rfl, rfl, trivial⟩, rfl, rfl, ⟨⟨rfl, rfl⟩, ⟨rfl, rfl⟩, ⟨rfl, rfl⟩, ⟨rfl, rfl⟩, trivial⟩, rfl, rfl, ⟨by rw [hr]; try rfl, rfl, by rw [hr]; try rfl⟩⟩
  have h8r := h8
  try simp only [nq, nr, nl, qqi, qqc, qq0] at h8
  refine qqg ?_
  have h2e : (visN l n st fu D k).2.2.1 = 2 := by omega
  refine ar (qqa (qje rfl rfl qzz qzz) (om rfl (on ?_)))
  exact ⟨(k + 1, v1001x15, v1002x16), (by first | exact ⟨by first | omega | (simp only [nr, nl, qqi, qqc, qq0]; omega), fun i hi => by rcases Nat.lt_succ_iff_lt_or_eq.1 hi with q | q; (· exact hk.2 i q); (· subst q; exact h2e)⟩ | (dsimp only; exact ⟨by first | omega | (simp only [nr, nl, qqi, qqc, qq0]; omega), fun i hi => by rcases Nat.lt_succ_iff_lt_or_eq.1 hi with q | q; (· exact hk.2 i q); (· subst q; exact h2e)⟩)), ⟨⟨rfl, rfl⟩, ⟨rfl, trivial⟩, ⟨(by dsimp only; rw [qzp (by omega)]; rfl), (by dsimp only; rw [qzp (by omega)]; rfl), (by dsimp only; rw [qzp (by omega)]; rfl), trivial⟩, ⟨rfl, rfl⟩, ⟨rfl, rfl⟩⟩, (by first | exact qzz | (dsimp only; exact qzz))⟩
 have h7r := h7
 try simp only [nq, nr, nl, qqi, qqc, qq0] at h7
 refine qjf (qqd (qqd ?_))
 obtain rfl : k = 2 := by omega
 have hk1 := hk.2 1 (by omega)
 have hk0 := hk.2 0 (by omega)
 have hvl2 : (visK l n st fu D 2).1.length = (vis2 l n st fu D).1.length := rfl
 have hk2L : (vis2 l n st fu D).1.length ≤ 1000 := (visN_good hh hm hc1 hv0 (k := 1) (by omega)).len
 refine ar (qqa (qqm fld78f1 rfl rfl) (qqa (qqe leaf26 rfl rfl rfl) (qqa (qjc Try.underlying26 rfl rfl) (qqa (j_ge rfl rfl) (on (ac rfl (fun h9 => ?_) fun h9 => ?_))))))
 ·
  have h9r := h9
  try simp only [nq, nr, nl, qqi, qqc, qq0] at h9
  refine rs (qqa (qqr (ys := [.own 1001 v1, .own 1002 v2, .p _]) qj6 rfl rfl rfl (nb rfl)) (qqu (fun ver => qza slt51 elt4 rfl rfl (by decide)) fun v107x17 => ?_))
  refine qjk (qqk qj6 rfl rfl rfl rfl rfl rfl) ?_
  refine oa rfl (oa rfl (on (qql ?_)))
  have hr := vs_full hm hc1 hv0 (fun q => q hk0) (fun q => q hk1) (by omega)
  exact ⟨[.agg [.own 1001 v1, .own 1002 v2, .p _], .p _, .own 107 v107x17], .tup [.agg [.own 1 0, .own 2 0, .p _], .p _, .own 3 0], [.gone], [.row 56 2 _, .row 65 5 _, .row 4 1 _], [(1001, v1), (1002, v2), (107, v107x17)], ⟨⟨_, _, _, _, rfl, rfl, qj6, rfl⟩, rfl, rfl, trivial⟩, rfl, rfl, ⟨⟨rfl, rfl⟩, ⟨rfl, rfl⟩, ⟨rfl, rfl⟩, ⟨rfl, rfl⟩, trivial⟩, rfl, rfl, ⟨by rw [hr]; try rfl, rfl, by rw [hr]; try rfl⟩⟩
 have h9r := h9
 try simp only [nq, nr, nl, qqi, qqc, qq0] at h9
 refine qqg (rs (qqa (qqr (ys := [.own 1001 v1, .own 1002 v2, .p _]) qj6 rfl rfl rfl (nb rfl)) (om rfl (op_call2 (v := fun ver ver2 => .agg [.own 110 ver, .own 100110 ver2, .p _]) (hp1 := fun ver ver2 => [(1001, some (v1, .gone)), (1002, some (v2, .gone)), (110, some (ver, .row 56 2 _)), (100110, some (ver2, .row 65 5 _))]) [(1001, v1), (1002, v2)] false ent66 (f_l5Learn (l ++ (visK l n st fu D 2).1) (visK l n st fu D 2).1 (visK l n st fu D 2).2 D hasc (by simp; omega) (by omega)) ⟨.inl ⟨rfl, rfl⟩, .inl ⟨rfl, rfl⟩, trivial⟩ ⟨⟨rfl, rfl⟩, ⟨rfl, rfl⟩, trivial⟩ rfl rfl rfl rfl (.inl rfl) (fun _ _ => rfl) (fun _ _ => rfl) ?_))))
 rintro  v110x18 v100110x18
 dsimp only [List.cons_append, List.nil_append]
 refine qqu (fun ver => qza slt51 elt4 rfl rfl (by decide)) fun v111x19 => ?_
 refine qjk (qqk qj6 rfl rfl rfl rfl rfl rfl) ?_
 refine oa rfl (oa rfl (on (qql ?_)))
 have hr := qz8 hm hc1 hv0 (fun q => q hk0) (fun q => q hk1) (by omega)
 exact ⟨[.agg [.own 110 v110x18, .own 100110 v100110x18, .p _], .p _, .own 111 v111x19], .tup [.agg [.own 1 0, .own 2 0, .p _], .p _, .own 3 0], [.gone], [.row 56 2 _, .row 65 5 _, .row 4 1 _], [(110, v110x18), (100110, v100110x18), (111, v111x19)], ⟨⟨_, _, _, _, rfl, rfl, qj6, rfl⟩, rfl, rfl, trivial⟩, rfl, rfl, ⟨⟨rfl, rfl⟩, ⟨rfl, rfl⟩, ⟨rfl, rfl⟩, ⟨rfl, rfl⟩, trivial⟩, rfl, rfl, ⟨by rw [hr]; try rfl, rfl, by rw [hr]; simp only [List.append_assoc]; try rfl⟩⟩
theorem f_search (l : List Con) : ∀ (n : Nat) (st : List Con) (fu : Int) (D : List Int), visH l n st fu D → Fn Try.prog 48 [.agg [.own 0 0, .own 1 0, .p (.int .i64 (fu))], .own 2 0] [.row 56 2 ((l ++ st).map dC), .row 65 5 ((st).map dSt), .row 3 1 ((D).map dI)] (fun rr ii nn => rr = .tup [.agg [.own 3 0, .own 4 0, .p (.int .i64 (visit l n st (fu) (D)).2.1)], .p (.int .i64 (visit l n st (fu) (D)).2.2.1), .own 5 0] ∧ ii = [.gone, .gone, .row 3 1 ((D).map dI)] ∧ nn = [.row 56 2 ((l ++ (visit l n st (fu) (D)).1).map dC), .row 65 5 (((visit l n st (fu) (D)).1).map dSt), .row 4 1 ((visit l n st (fu) (D)).2.2.2.map dB)]) := by
 intro n
 induction n with
 | zero => intro st fu D h; exact absurd rfl (visH_n h)
 | succ n ih => intro st fu D h; exact f_seaO l n st fu D h (fun st' fu' d h' => ih st' fu' (D ++ [d]) h')
theorem f_search0 (l : List Con) (fu : Int) (h : visH l 13 [] fu []) : Fn Try.prog 48 [.agg [.own 0 0, .p (.slice none 0 0), .p (.int .i64 fu)], .p (.slice none 0 0)] [.row 56 2 ((l ++ ([] : List Con)).map dC)] (fun rr ii nn => rr = .tup [.agg [.own 1 0, .own 2 0, .p (.int .i64 (visit l 13 ([] : List Con) (fu) (([] : List Int))).2.1)], .p (.int .i64 (visit l 13 ([] : List Con) (fu) (([] : List Int))).2.2.1), .own 3 0] ∧ ii = [.gone] ∧ nn = [.row 56 2 ((l ++ (visit l 13 ([] : List Con) (fu) (([] : List Int))).1).map dC), .row 65 5 (((visit l 13 ([] : List Con) (fu) (([] : List Int))).1).map dSt), .row 4 1 ((visit l 13 ([] : List Con) (fu) (([] : List Int))).2.2.2.map dB)]) :=
 f_seaN l 12 [] fu [] h rfl rfl (fun st' fu' d h' => f_search l 12 st' fu' ([] ++ [d]) h')
end Go.Ab

/- Walks. -/
import Derived.Test.YtoodaakcfelaaaaBase
import Derived.Test.YtoodaakcfelaaaaAb28
import Derived.Test.YtoodaakcfelaaaaWssrch
namespace Go.Ab
open Go.Proofs
set_option maxRecDepth 100000
set_option maxHeartbeats 8000000
set_option linter.unusedSimpArgs false
set_option linter.unusedVariables false
theorem zaq0 {p : Prop} (h : p := by first | omega | (simp only [nr, nl, qj2]; omega)) : p := h
theorem f_clauseImplI (L : List Int) (h : asc L) : Fn Try.prog 84 [.own 0 0] [.row 3 1 (L.map dI)] (fun rr ii nn => rr = .tup [.agg [.sl ((L.map oneL).map dT), .p (.int .i64 1)], .p (.bool true)] ∧ ii = [.row 3 1 (L.map dI)] ∧ nn = []) := by
 refine qjj Try.func84 rfl (nb rfl) fun w X g => ?_
 show AWp _ _ _ ⟨[(0, .own 0 0)], [(0, some (0, .row 3 1 (L.map dI)))]⟩
 have hl12 := asc_len h
 refine rs (qqu (fun ver => qjw qzh rfl) fun v2x1 => ?_)
 refine oa rfl (on (qqd (rs (om rfl (qqa (qjc Try.underlying23 rfl rfl) (qqa (j_gt rfl rfl) (on (ac rfl (fun h1 => ?_) fun h1 => ?_))))))))
 ·
  have h1r := h1
  try simp only [nq, nr, nl] at h1
  exact absurd (of_decide_eq_true h1r) (by omega)
 have h1r := h1
 try simp only [nq, nr, nl] at h1
 refine qqg (qqd (rs (om rfl (qqa (qjc Try.underlying23 rfl rfl) (om rfl (on (qqh (qqt (ι := Nat) (fun k => k ≤ L.length) (fun k r => (16, .p (.int .i64 ((k : Nat)))) :: r) (fun k r => r) (fun k => L.length - k) (fun _ _ => rfl) (fun _ _ => rfl) 0 (Nat.zero_le _) ⟨⟨rfl, rfl⟩, ⟨rfl, trivial⟩, trivial, ⟨rfl, rfl⟩, ⟨rfl, rfl⟩⟩ ?_))))))))
 intro k hk
 refine rs (qqa (qzk rfl rfl) (on (qqd (ac rfl (fun h2 => ?_) fun h2 => ?_))))
 ·
  have h2r := h2
  try simp only [nq, nr, nl] at h2
  refine qqg (qqd (qqh (rs (qqa (qqx qjg rfl rfl rfl rfl zz) (qqa (qjl qq7 rfl rfl (qqj zz) rfl) (oa rfl (on (qqd ?_))))))))
  have hli := litOk_iff.1 (asc_at h (k := k) zz)
  refine ar (om rfl ?_)
  refine qq4 (qqp (v := .p _) (hp1 := []) [] false [] ent88 (f_isLit (L.getD k default)) ⟨.inl ⟨rfl, rfl⟩, trivial⟩ trivial rfl rfl (fun h => by cases h) rfl (fun _ h => by cases h) (.inl rfl) rfl rfl) ?_
  refine qqa (j_not rfl) (om rfl (qq9 23 rfl (fun h3 => ?_) (fun h3 => ?_)))
  ·
   have h3r := h3
   try simp only [nq, nr, nl] at h3
   exact absurd h3r (by first | (rw [asc_at h (k := k) (by omega)]; decide) | (rw [decide_eq_true_eq]; exact asc_noneg h (by omega)))
  have h3r := h3
  try simp only [nq, nr, nl] at h3
  refine qqa (qqf rfl rfl h3r (qqn (evo rfl))) (qqa (qqf rfl rfl h3r (qqn (evo rfl))) (qqa (qqf rfl rfl h3r (j_neg rfl zz zz)) ?_))
  refine qq4 (qqf rfl rfl h3r (qqp (v := .p _) (hp1 := []) [] true [0] ent90 (f_containsInt L (-(L.getD k default))) ⟨.inr ⟨rfl, qj1 rfl rfl, rfl⟩, .inl ⟨rfl, rfl⟩, trivial⟩ trivial rfl rfl (fun _ => rfl) rfl (fun _ h => by cases h) (.inr ⟨rfl, by first | exact qjy (fun _ => rfl) | exact qj0 | (simp [plO, plV, plV.plL]; done)⟩) rfl rfl)) ?_
  refine qqa (qq3 rfl h3r (evo rfl)) (on (ac rfl (fun h4 => ?_) fun h4 => ?_))
  ·
   have h4r := h4
   try simp only [nq, nr, nl] at h4
   exact absurd h4r (by first | (rw [asc_at h (k := k) (by omega)]; decide) | (rw [decide_eq_true_eq]; exact asc_noneg h (by omega)))
  have h4r := h4
  try simp only [nq, nr, nl] at h4
  refine qqg (ar (qqa (qje rfl rfl zz zz) (om rfl (on ?_))))
  exact ⟨k + 1, zz, ⟨⟨rfl, rfl⟩, ⟨rfl, trivial⟩, trivial, ⟨rfl, rfl⟩, ⟨rfl, rfl⟩⟩, zz⟩
 have h2r := h2
 try simp only [nq, nr, nl] at h2
 refine qjf (rs (om rfl ?_))
 refine qzi (fun ver => qj8 (v := .own 32 ver) (hp1 := [(32, some (ver, .row 3 1 _))]) [] true [0] ent73 (f_cloneI L (by omega)) ⟨.inr ⟨rfl, qj1 rfl rfl, rfl⟩, trivial⟩ trivial rfl rfl rfl (fun _ => rfl) rfl (List.all_eq_true.1 rfl) (.inr ⟨rfl, by first | exact qjy (fun _ => rfl) | exact qj0 | (simp [plO, plV, plV.plL]; done)⟩) rfl rfl) fun v32x2 => ?_
 refine oa rfl (on (rs (om rfl ?_)))
 refine qq4 (qqp (v := .tup []) (hp1 := [(32, some (v32x2, .row 3 1 _))]) [(32, v32x2)] false [32] ent91 (f_sortFunc L h) ⟨.inl ⟨rfl, rfl⟩, .inl ⟨rfl, rfl⟩, trivial⟩ ⟨⟨rfl, rfl⟩, trivial⟩ rfl rfl (fun h => by cases h) rfl (List.all_eq_true.1 rfl) (.inl rfl) rfl rfl) ?_
 refine on (rs (qqa (qz3 (parts := [(1, .const (.int .i64 1))]) str56 qzh rfl rfl) ?_))
 refine qqu (fun ver => qjw qzh rfl) fun v7x3 => ?_
 refine qjk (qqk qj5 rfl rfl rfl rfl rfl rfl) ?_
 refine on (a_adopt_box' 0 1007 83 2 (by decide) (id := 7) rfl rfl fun v1007x4 => ?_)
 refine qqd (rs (om rfl ?_))
 refine qq4 (qqp (v := .own 32 v32x2) (hp1 := [(32, some (v32x2, .row 3 1 _))]) [(32, v32x2)] false [32] ent93 (f_compact L h) ⟨.inl ⟨rfl, rfl⟩, trivial⟩ ⟨⟨rfl, rfl⟩, trivial⟩ rfl rfl (fun h => by cases h) rfl (List.all_eq_true.1 rfl) (.inl rfl) rfl rfl) ?_
 refine qqa (qjc Try.underlying23 rfl rfl) (om rfl (on (qqh (qqt (ι := Nat × Nat) (fun x => x.1 ≤ L.length) (fun x r => (39, .p (.int .i64 ((x.1 : Nat)))) :: r) (fun x r => (7, some (v7x3, .box 56 [.own 1007 x.2, .p (.int .i64 1)])) :: (1007, some (x.2, .row 83 2 (((L.take x.1).map oneL).map dT))) :: r) (fun x => L.length - x.1) (fun _ _ => rfl) (fun _ _ => rfl) (0, v1007x4) (by first | exact (Nat.zero_le _) | (dsimp only; exact (Nat.zero_le _))) ⟨⟨rfl, rfl⟩, ⟨rfl, trivial⟩, ⟨rfl, rfl, trivial⟩, ⟨rfl, rfl⟩, ⟨rfl, rfl⟩⟩ ?_))))
 rintro ⟨j, w⟩ hj; dsimp only at hj ⊢
 refine rs (qqa (qzk rfl rfl) (on (qqd (ac rfl (fun h5 => ?_) fun h5 => ?_))))
 ·
  have h5r := h5
  try simp only [nq, nr, nl] at h5
  refine qqg (qqd (qqh (rs (qqa (qqx qjg rfl rfl rfl rfl zz) (qqa (qjl qq7 rfl rfl (qqj zz) rfl) (oa rfl (on (ar (qqa (qqm qjp rfl rfl) (qqa (qqe qj7 rfl rfl rfl) (om rfl (qqa (qz3 (parts := [(0, .const (.int .i64 1)), (1, .tmp 45)]) str83 elt83 rfl rfl) ?_))))))))))))
  refine qqu (fun ver => qqv (parts := [(0, .tmp 46)]) (es := [[_, _]]) qz0 elt83 rfl rfl (by decide) (by decide) rfl rfl (by simp) rfl) fun v47x5 => ?_
  refine qqu (fun ver => qq2 qz0 elt83 rfl rfl rfl rfl rfl rfl (by rw [qqw]; first | omega | (simp only [nr, nl]; omega)) zz) fun v1007x6 => ?_
  refine qqa (qqm qjp rfl rfl) (qjk (qq8 qj7 rfl rfl (nb rfl) (evo rfl) rfl) ?_)
  refine on (ar (qqa (qje rfl rfl zz zz) (om rfl (on ?_))))
  exact ⟨(j + 1, v1007x6), (by first | exact zz | (dsimp only; exact zz)), ⟨⟨rfl, rfl⟩, ⟨rfl, trivial⟩, ⟨rfl, qzd (by dsimp only; rw [qjt (d := (default : Int)) zz, List.map_append, List.map_append]; rfl), trivial⟩, ⟨rfl, rfl⟩, ⟨rfl, rfl⟩⟩, (by first | exact zz | (dsimp only; exact zz))⟩
 have h5r := h5
 try simp only [nq, nr, nl] at h5
 refine qjf (qqd (a_freezeboxK 0 7 (by decide) ⟨⟨_, _, _, rfl⟩, trivial⟩ rfl rfl rfl rfl ?_))
 try dsimp only [List.set]
 refine ar (qqa (qqr (ys := [.sl _, .p _]) qj5 rfl rfl rfl (nb rfl)) (qjk (qqk qj5 rfl rfl rfl rfl rfl rfl) ?_))
 refine oa rfl (on (qql ?_))
 exact ⟨[.agg [.sl _, .p _], .p _], .tup [.agg [.sl _, .p _], .p _], [.row 3 1 _], [], [], ⟨⟨_, _, _, _, rfl, rfl, qj5, rfl⟩, rfl, trivial⟩, rfl, rfl, ⟨⟨rfl, rfl⟩, trivial⟩, rfl, rfl, ⟨by rw [List.take_of_length_le zz], rfl, rfl⟩⟩
theorem f_failDS (A S : List Con) (fu : Int) (mu : Bool) (D : List Int) (h : asc D) (hA : A.length ≤ 2000) (hS : S.length ≤ 2000) : Fn Try.prog 74 [.ptr 0 0 0, .sl (D.map dI)] [.box 88 [.own 1 0, .p (.int .i64 (fu)), .own 2 0, .p (.bool (mu))], .row 56 2 ((A).map dC), .deep (.mk 65 5 [(3, .mk 83 2 [])]) ((S).map dSt) none] (fun rr ii nn => rr = .tup [] ∧ ii = [.box 88 [.own 3 0, .p (.int .i64 (fu)), .own 4 0, .p (.bool (mu))], .gone, .gone] ∧ nn = [.row 56 2 ((A ++ [cle D]).map dC), .deep (.mk 65 5 [(3, .mk 83 2 [])]) ((S ++ [cle D]).map dSt) none]) := by
 refine qjj Try.func74 rfl (nb rfl) fun w X g => ?_
 show AWp _ _ _ ⟨[(0, .ptr 0 0 0), (1, .sl (D.map dI))], [(0, some (0, .box 88 [.own 1 0, .p (.int .i64 (fu)), .own 2 0, .p (.bool (mu))])), (1, some (0, .row 56 2 ((A).map dC))), (2, some (0, .deep (.mk 65 5 [(3, .mk 83 2 [])]) ((S).map dSt) none))]⟩
 have hl12 := asc_len h
 have hcl := cle_len h
 refine rs (oa rfl (on (qjb 4 4 3 1 rfl fun v4 => ?_)))
 refine qqd (rs (om rfl (qqa (qqs Try.underlying23 rfl) (om rfl (on (qqh (qqt (ι := Nat × Nat) (fun x => x.1 ≤ D.length) (fun x r => (11, .p (.int .i64 ((x.1 : Nat)))) :: (4, .own 4 x.2) :: r) (fun x r => (4, some (x.2, .row 3 1 ((negL (D.take x.1)).map dI))) :: r) (fun x => D.length - x.1) (fun _ _ => rfl) (fun _ _ => rfl) (0, v4) (by first | exact (Nat.zero_le _) | (dsimp only; exact (Nat.zero_le _))) ⟨⟨rfl, rfl⟩, ⟨rfl, rfl, trivial⟩, ⟨rfl, trivial⟩, ⟨rfl, rfl⟩, ⟨rfl, rfl⟩⟩ ?_)))))))
 rintro ⟨k, v⟩ hk; dsimp only at hk ⊢
 refine rs (qqa (qzk rfl rfl) (on (qqd (ac rfl (fun h1 => ?_) fun h1 => ?_))))
 ·
  have h1r := h1
  try simp only [nq, nr, nl, qj2] at h1
  refine qqg (qqd (qqh (rs (qqa (qq5 qjg rfl rfl rfl (qqj zaq0) rfl) (qqa (qqz qq7 rfl (qqj zaq0) rfl) (oa rfl (on ?_)))))))
  have hli := litOk_iff.1 (asc_at h (k := k) zaq0)
  refine ar (om rfl (om rfl (qqa (j_neg rfl zaq0 zaq0) (qqu (fun ver => qqv (parts := [(0, .tmp 17)]) (es := [[_]]) qjg elt3 rfl rfl (by decide) (by decide) rfl rfl (by simp) rfl) fun v18x1 => ?_))))
  refine qqu (fun ver => qq2 qjg elt3 rfl rfl rfl rfl rfl rfl (by rw [qqw]; first | omega | (simp only [nr, nl, qj2]; omega)) zaq0) fun v4x2 => ?_
  refine oa rfl (on (ar (qqa (qje rfl rfl zaq0 zaq0) (om rfl (on ?_)))))
  exact ⟨(k + 1, v4x2), (by first | exact zaq0 | (dsimp only; exact zaq0)), ⟨⟨rfl, rfl⟩, ⟨rfl, rfl, trivial⟩, ⟨qzd (by dsimp only; rw [negL_take zaq0, List.map_append]; rfl), trivial⟩, ⟨rfl, rfl⟩, ⟨rfl, rfl⟩⟩, (by first | exact zaq0 | (dsimp only; exact zaq0))⟩
 have h1r := h1
 try simp only [nq, nr, nl, qj2] at h1
 refine qjf (qqd (a_row 4 (es' := (negL D).map dI) rfl (by rw [List.take_of_length_le zaq0]) ?_))
 refine ar (om rfl ?_)
 refine qq4 (qqp (v := .tup [.agg [.sl _, .p _], .p _]) (hp1 := [(4, some (v, .row 3 1 _))]) [(4, v)] false [4] ent84 (f_clauseImplI (negL D) (asc_negL h)) ⟨.inl ⟨rfl, rfl⟩, trivial⟩ ⟨⟨rfl, rfl⟩, trivial⟩ rfl rfl (fun h => by cases h) rfl (List.all_eq_true.1 rfl) (.inl rfl) rfl rfl) ?_
 refine om rfl (qqa (qqy rfl rfl) (qqa (qqy rfl rfl) (qqu (fun ver => qjw qzh rfl) fun v7x3 => ?_)))
 refine qjk (qqk qj5 rfl rfl rfl rfl rfl rfl) ?_
 refine oa rfl (on (a_mvB (i := 1) 0 0 1001 (by decide) (by decide) rfl rfl rfl rfl fun v1001x4 => ?_))
 try dsimp only [List.set]
 refine a_mvB (i := 2) 0 2 1002 (by decide) (by decide) rfl rfl rfl rfl fun v1002x5 => ?_
 try dsimp only [List.set]
 refine qqd (a_draw mixed (by kernel_rfl) (by kernel_rfl) fun vf => ?_)
 refine qqq (qqn (evo rfl)) (qqq (qqn (evo rfl)) (qqq (qji rfl rfl) (qqq (qqm fld88f0 rfl rfl) (qqq (qqe leaf29 rfl rfl rfl) (qqq (qqr (ys := [.sl _, .p _]) qj5 rfl rfl rfl (nb rfl)) (d_n' (fun ver => qqv (parts := [(0, .tmp 31)]) (es := [[_, _]]) qz9 qzh rfl rfl (by decide) (by decide) rfl rfl (by simp) rfl) ?_))))))
 refine d_n' (fun ver => qq2 qz9 qzh rfl rfl rfl rfl rfl rfl (by rw [qqw]; first | omega | (simp only [nr, nl, qj2]; omega)) zaq0) ?_
 refine qqq (qji rfl rfl) (qqq (qqm fld88f0 rfl rfl) (d_s' (qq8 leaf29 rfl rfl (nb rfl) (evo rfl) rfl) ?_))
 refine d_nil (by kernel_rfl) (by kernel_rfl) ?_
 refine a_draw mixed (by kernel_rfl) (by kernel_rfl) fun vf8 => ?_
 refine qqq (qqn (evo rfl)) (qqq (qqn (evo rfl)) (qqq (qji rfl rfl) (qqq (qqm fld88f2 rfl rfl) (qqq (qqe leaf26 rfl rfl rfl) (qqq (qqr (ys := [.sl _, .p _]) qj5 rfl rfl rfl (nb rfl)) ?_)))))
 refine d_n1' (fun ver => qj8 (v := .agg [.own 42 ver, .p _]) (hp1 := [(42, some (ver, .row 83 2 _))]) [] false [] ent85 (f_own (cle D) (by omega)) ⟨.inl ⟨rfl, rfl⟩, trivial⟩ trivial rfl rfl rfl (fun h => by cases h) rfl (List.all_eq_true.1 rfl) (.inl rfl) rfl rfl) ?_
 refine qqq (qz3 (parts := [(0, .const (.int .i64 7)), (3, .tmp 42)]) str65 elt65 rfl rfl) ?_
 refine d_n1' (fun ver => j_buildSlice_deep (x := .tmp 43) (t := (.mk 65 5 [(3, (.mk 83 2 []))])) qzy elt65 rfl rfl rfl (by decide) (by decide) rfl rfl rfl (eat_leaf rfl rfl rfl (eat_leaf rfl rfl rfl (eat_leaf rfl rfl rfl (eat_own rfl rfl rfl (eat_leaf rfl rfl rfl qzv))))) rfl rfl) ?_
 refine d_n1' (fun ver => j_append_deep (by decide) qzy elt65 rfl rfl rfl rfl rfl rfl rfl rfl (nb rfl) (by rw [qqw]; first | omega | (simp only [nr, nl, qj2]; omega)) zaq0) ?_
 refine qqq (qji rfl rfl) (qqq (qqm fld88f2 rfl rfl) (d_s' (qq8 leaf26 rfl rfl (nb rfl) (evo rfl) rfl) ?_))
 refine d_nil (by kernel_rfl) (by kernel_rfl) ?_
 exact ⟨[], .tup [], [.box 88 [.own 3 0, .p _, .own 4 0, .p _], .gone, .gone], [.row 56 2 _, .deep (.mk 65 5 [(3, (.mk 83 2 []))]) _ none], [(1001, (vf 1001)), (1002, (vf8 1002))], trivial, rfl, rfl, ⟨⟨rfl, rfl⟩, ⟨rfl, rfl⟩, ⟨rfl, rfl⟩, ⟨rfl, rfl⟩, ⟨rfl, rfl⟩, trivial⟩, rfl, rfl, ⟨rfl, rfl, by rw [dSt_snoc, List.map_append]; rfl⟩⟩
theorem f_failDO (A S : List Con) (fu : Int) (mu : Bool) (D : List Int) (h : asc D) (hA : A.length ≤ 2000) (hS : S.length ≤ 2000) : Fn Try.prog 74 [.ptr 0 0 0, .own 3 0] [.box 88 [.own 1 0, .p (.int .i64 (fu)), .own 2 0, .p (.bool (mu))], .row 56 2 ((A).map dC), .deep (.mk 65 5 [(3, .mk 83 2 [])]) ((S).map dSt) none, .row 3 1 (D.map dI)] (fun rr ii nn => rr = .tup [] ∧ ii = [.box 88 [.own 4 0, .p (.int .i64 (fu)), .own 5 0, .p (.bool (mu))], .gone, .gone, .row 3 1 (D.map dI)] ∧ nn = [.row 56 2 ((A ++ [cle D]).map dC), .deep (.mk 65 5 [(3, .mk 83 2 [])]) ((S ++ [cle D]).map dSt) none]) := by
 refine qjj Try.func74 rfl (nb rfl) fun w X g => ?_
 show AWp _ _ _ ⟨[(0, .ptr 0 0 0), (1, .own 3 0)], [(0, some (0, .box 88 [.own 1 0, .p (.int .i64 (fu)), .own 2 0, .p (.bool (mu))])), (1, some (0, .row 56 2 ((A).map dC))), (2, some (0, .deep (.mk 65 5 [(3, .mk 83 2 [])]) ((S).map dSt) none)), (3, some (0, .row 3 1 (D.map dI)))]⟩
 have hl12 := asc_len h
 have hcl := cle_len h
 refine rs (oa rfl (on (qjb 4 4 3 1 rfl fun v4 => ?_)))
 refine qqd (rs (om rfl (qqa (qjc Try.underlying23 rfl rfl) (om rfl (on (qqh (qqt (ι := Nat × Nat) (fun x => x.1 ≤ D.length) (fun x r => (11, .p (.int .i64 ((x.1 : Nat)))) :: (4, .own 4 x.2) :: r) (fun x r => (4, some (x.2, .row 3 1 ((negL (D.take x.1)).map dI))) :: r) (fun x => D.length - x.1) (fun _ _ => rfl) (fun _ _ => rfl) (0, v4) (by first | exact (Nat.zero_le _) | (dsimp only; exact (Nat.zero_le _))) ⟨⟨rfl, rfl⟩, ⟨rfl, rfl, trivial⟩, ⟨rfl, trivial⟩, ⟨rfl, rfl⟩, ⟨rfl, rfl⟩⟩ ?_)))))))
 rintro ⟨k, v⟩ hk; dsimp only at hk ⊢
 refine rs (qqa (qzk rfl rfl) (on (qqd (ac rfl (fun h1 => ?_) fun h1 => ?_))))
 ·
  have h1r := h1
  try simp only [nq, nr, nl, qj2] at h1
  refine qqg (qqd (qqh (rs (qqa (qqx qjg rfl rfl rfl rfl zaq0) (qqa (qjl qq7 rfl rfl (qqj zaq0) rfl) (oa rfl (on ?_)))))))
  have hli := litOk_iff.1 (asc_at h (k := k) zaq0)
  refine ar (om rfl (om rfl (qqa (j_neg rfl zaq0 zaq0) (qqu (fun ver => qqv (parts := [(0, .tmp 17)]) (es := [[_]]) qjg elt3 rfl rfl (by decide) (by decide) rfl rfl (by simp) rfl) fun v18x1 => ?_))))
  refine qqu (fun ver => qq2 qjg elt3 rfl rfl rfl rfl rfl rfl (by rw [qqw]; first | omega | (simp only [nr, nl, qj2]; omega)) zaq0) fun v4x2 => ?_
  refine oa rfl (on (ar (qqa (qje rfl rfl zaq0 zaq0) (om rfl (on ?_)))))
  exact ⟨(k + 1, v4x2), (by first | exact zaq0 | (dsimp only; exact zaq0)), ⟨⟨rfl, rfl⟩, ⟨rfl, rfl, trivial⟩, ⟨qzd (by dsimp only; rw [negL_take zaq0, List.map_append]; rfl), trivial⟩, ⟨rfl, rfl⟩, ⟨rfl, rfl⟩⟩, (by first | exact zaq0 | (dsimp only; exact zaq0))⟩
 have h1r := h1
 try simp only [nq, nr, nl, qj2] at h1
 refine qjf (qqd (a_row 4 (es' := (negL D).map dI) rfl (by rw [List.take_of_length_le zaq0]) ?_))
 refine ar (om rfl ?_)
 refine qq4 (qqp (v := .tup [.agg [.sl _, .p _], .p _]) (hp1 := [(4, some (v, .row 3 1 _))]) [(4, v)] false [4] ent84 (f_clauseImplI (negL D) (asc_negL h)) ⟨.inl ⟨rfl, rfl⟩, trivial⟩ ⟨⟨rfl, rfl⟩, trivial⟩ rfl rfl (fun h => by cases h) rfl (List.all_eq_true.1 rfl) (.inl rfl) rfl rfl) ?_
 refine om rfl (qqa (qqy rfl rfl) (qqa (qqy rfl rfl) (qqu (fun ver => qjw qzh rfl) fun v7x3 => ?_)))
 refine qjk (qqk qj5 rfl rfl rfl rfl rfl rfl) ?_
 refine oa rfl (on (a_mvB (i := 1) 0 0 1001 (by decide) (by decide) rfl rfl rfl rfl fun v1001x4 => ?_))
 try dsimp only [List.set]
 refine a_mvB (i := 2) 0 2 1002 (by decide) (by decide) rfl rfl rfl rfl fun v1002x5 => ?_
 try dsimp only [List.set]
 refine qqd (a_draw mixed (by kernel_rfl) (by kernel_rfl) fun vf => ?_)
 refine qqq (qqn (evo rfl)) (qqq (qqn (evo rfl)) (qqq (qji rfl rfl) (qqq (qqm fld88f0 rfl rfl) (qqq (qqe leaf29 rfl rfl rfl) (qqq (qqr (ys := [.sl _, .p _]) qj5 rfl rfl rfl (nb rfl)) (d_n' (fun ver => qqv (parts := [(0, .tmp 31)]) (es := [[_, _]]) qz9 qzh rfl rfl (by decide) (by decide) rfl rfl (by simp) rfl) ?_))))))
 refine d_n' (fun ver => qq2 qz9 qzh rfl rfl rfl rfl rfl rfl (by rw [qqw]; first | omega | (simp only [nr, nl, qj2]; omega)) zaq0) ?_
 refine qqq (qji rfl rfl) (qqq (qqm fld88f0 rfl rfl) (d_s' (qq8 leaf29 rfl rfl (nb rfl) (evo rfl) rfl) ?_))
 refine d_nil (by kernel_rfl) (by kernel_rfl) ?_
 refine a_draw mixed (by kernel_rfl) (by kernel_rfl) fun vf8 => ?_
 refine qqq (qqn (evo rfl)) (qqq (qqn (evo rfl)) (qqq (qji rfl rfl) (qqq (qqm fld88f2 rfl rfl) (qqq (qqe leaf26 rfl rfl rfl) (qqq (qqr (ys := [.sl _, .p _]) qj5 rfl rfl rfl (nb rfl)) ?_)))))
 refine d_n1' (fun ver => qj8 (v := .agg [.own 42 ver, .p _]) (hp1 := [(42, some (ver, .row 83 2 _))]) [] false [] ent85 (f_own (cle D) (by omega)) ⟨.inl ⟨rfl, rfl⟩, trivial⟩ trivial rfl rfl rfl (fun h => by cases h) rfl (List.all_eq_true.1 rfl) (.inl rfl) rfl rfl) ?_
 refine qqq (qz3 (parts := [(0, .const (.int .i64 7)), (3, .tmp 42)]) str65 elt65 rfl rfl) ?_
 refine d_n1' (fun ver => j_buildSlice_deep (x := .tmp 43) (t := (.mk 65 5 [(3, (.mk 83 2 []))])) qzy elt65 rfl rfl rfl (by decide) (by decide) rfl rfl rfl (eat_leaf rfl rfl rfl (eat_leaf rfl rfl rfl (eat_leaf rfl rfl rfl (eat_own rfl rfl rfl (eat_leaf rfl rfl rfl qzv))))) rfl rfl) ?_
 refine d_n1' (fun ver => j_append_deep (by decide) qzy elt65 rfl rfl rfl rfl rfl rfl rfl rfl (nb rfl) (by rw [qqw]; first | omega | (simp only [nr, nl, qj2]; omega)) zaq0) ?_
 refine qqq (qji rfl rfl) (qqq (qqm fld88f2 rfl rfl) (d_s' (qq8 leaf26 rfl rfl (nb rfl) (evo rfl) rfl) ?_))
 refine d_nil (by kernel_rfl) (by kernel_rfl) ?_
 exact ⟨[], .tup [], [.box 88 [.own 4 0, .p _, .own 5 0, .p _], .gone, .gone, .row 3 1 _], [.row 56 2 _, .deep (.mk 65 5 [(3, (.mk 83 2 []))]) _ none], [(1001, (vf 1001)), (1002, (vf8 1002))], trivial, rfl, rfl, ⟨⟨rfl, rfl⟩, ⟨rfl, rfl⟩, ⟨rfl, rfl⟩, ⟨rfl, rfl⟩, ⟨rfl, rfl⟩, ⟨rfl, rfl⟩, trivial⟩, rfl, rfl, ⟨rfl, rfl, by rw [dSt_snoc, List.map_append]; rfl⟩⟩
end Go.Ab

/- Walks. -/
import Derived.Test.YtoodaakcfelaaaaBase
import Derived.Test.YtoodaakcfelaaaaCub
import Derived.Test.YtoodaakcfelaaaaAb28
import Derived.Test.YtoodaakcfelaaaaWsxls3
import Derived.Test.YtoodaakcfelaaaaWslist
namespace Go.Ab
open Go.Proofs
set_option maxRecDepth 100000
set_option maxHeartbeats 8000000
set_option linter.unusedSimpArgs false
set_option linter.unusedVariables false
theorem zax0 {p : Prop} (h : p := by first | omega | (simp only [nr, nl, qjz]; omega)) : p := h
theorem f_exclImplI (vs : List Int) (bs : List Bool) (hok : varsFrom 0 vs = true) (hb : bs.length = 12) : Fn Try.prog 32 [.sl (vs.map dI), .own 0 0] [.row 4 1 (bs.map dB)] (fun rr ii nn => rr = .agg [.sl ((exTs vs bs).map dT), .p (.int .i64 1)] ∧ ii = [.row 4 1 (bs.map dB)] ∧ nn = []) := by
 refine qjj Try.func32 rfl (nb rfl) fun w X g => ?_
 show AWp _ _ _ ⟨[(0, .sl (vs.map dI)), (1, .own 0 0)], [(0, some (0, .row 4 1 (bs.map dB)))]⟩
 have hvl := vars_len hok
 refine rs (qqu (fun ver => qjw qzh rfl) fun v4x1 => ?_)
 refine on (rs (qqa (qz3 (parts := [(1, .const (.int .i64 1))]) str56 qzh rfl rfl) ?_))
 refine qqu (fun ver => qjw qzh rfl) fun v5x2 => ?_
 refine qjk (qqk qj5 rfl rfl rfl rfl rfl rfl) ?_
 refine on (a_adopt_box' 0 1005 83 2 (by decide) (id := 5) rfl rfl fun v1005x3 => ?_)
 refine qqd (rs (om rfl (qqa (qqs Try.underlying23 rfl) (om rfl (on (qqh (qqt (ι := Nat × Nat) (fun x => x.1 ≤ vs.length) (fun x r => (12, .p (.int .i64 ((x.1 : Nat)))) :: r) (fun x r => (5, some (v5x2, .box 56 [.own 1005 x.2, .p (.int .i64 1)])) :: (1005, some (x.2, .row 83 2 ((exTs (vs.take x.1) bs).map dT))) :: r) (fun x => vs.length - x.1) (fun _ _ => rfl) (fun _ _ => rfl) (0, v1005x3) (by first | exact (Nat.zero_le _) | (dsimp only; exact (Nat.zero_le _))) ⟨⟨rfl, rfl⟩, ⟨rfl, trivial⟩, ⟨rfl, rfl, trivial⟩, ⟨rfl, rfl⟩, ⟨rfl, rfl⟩⟩ ?_)))))))
 rintro ⟨k, v⟩ hpre; dsimp only at hpre ⊢
 refine rs (qqa (qzk rfl rfl) (on (qqd (ac rfl (fun h1 => ?_) fun h1 => ?_))))
 ·
  have h1r := h1
  try simp only [nq, nr, nl, qjz] at h1
  have hv := vars_at hok (k := k) (by omega)
  refine qqg (qqd (qqh (rs (qqa (qq5 qjg rfl rfl rfl (qqj zax0) rfl) (qqa (qqz qq7 rfl (qqj zax0) rfl) (oa rfl (on (rs (om rfl (oa rfl (on (qqd (rs ?_)))))))))))))
  refine om rfl (om rfl (qqa (j_sub rfl rfl zax0 zax0) (qqa (qqx (n := (vs.getD k default - 1).toNat) slt51 rfl rfl rfl zax0 zax0) (qqa (qjl leaf4 rfl rfl (qqj zax0) rfl) (on (ac rfl (fun h2 => ?_) fun h2 => ?_))))))
  ·
   have h2r := h2
   try simp only [nq, nr, nl, qjz] at h2
   refine ar (om rfl (qqa (j_neg rfl zax0 zax0) (oa rfl (on (ar (qqa (qqm qjp rfl rfl) (qqa (qqe qj7 rfl rfl rfl) (om rfl (qqa (qz3 (parts := [(0, .const (.int .i64 1)), (1, .tmp 26)]) str83 elt83 rfl rfl) ?_)))))))))
   refine qqu (fun ver => qqv (parts := [(0, .tmp 27)]) (es := [[_, _]]) qz0 elt83 rfl rfl (by decide) (by decide) rfl rfl (by simp) rfl) fun v28x4 => ?_
   refine qqu (fun ver => qq2 qz0 elt83 rfl rfl rfl rfl rfl rfl (by rw [qqw]; first | omega | (simp only [nr, nl, qjz]; omega)) zax0) fun v1005x5 => ?_
   refine qqa (qqm qjp rfl rfl) (qjk (qq8 qj7 rfl rfl (nb rfl) (evo rfl) rfl) ?_)
   refine on (ar (qqa (qje rfl rfl zax0 zax0) (om rfl (on ?_))))
   exact ⟨(k + 1, v1005x5), (by first | exact zax0 | (dsimp only; exact zax0)), ⟨⟨rfl, rfl⟩, ⟨rfl, trivial⟩, ⟨rfl, qzd (exTs_next (by omega) (exT_t h2r)), trivial⟩, ⟨rfl, rfl⟩, ⟨rfl, rfl⟩⟩, (by first | exact zax0 | (dsimp only; exact zax0))⟩
  have h2r := h2
  try simp only [nq, nr, nl, qjz] at h2
  refine qqg (ar (qqa (qqm qjp rfl rfl) (qqa (qqe qj7 rfl rfl rfl) (om rfl (qqa (qz3 (parts := [(0, .const (.int .i64 1)), (1, .tmp 26)]) str83 elt83 rfl rfl) ?_)))))
  refine qqu (fun ver => qqv (parts := [(0, .tmp 27)]) (es := [[_, _]]) qz0 elt83 rfl rfl (by decide) (by decide) rfl rfl (by simp) rfl) fun v28x6 => ?_
  refine qqu (fun ver => qq2 qz0 elt83 rfl rfl rfl rfl rfl rfl (by rw [qqw]; first | omega | (simp only [nr, nl, qjz]; omega)) zax0) fun v1005x7 => ?_
  refine qqa (qqm qjp rfl rfl) (qjk (qq8 qj7 rfl rfl (nb rfl) (evo rfl) rfl) ?_)
  refine on (ar (qqa (qje rfl rfl zax0 zax0) (om rfl (on ?_))))
  exact ⟨(k + 1, v1005x7), (by first | exact zax0 | (dsimp only; exact zax0)), ⟨⟨rfl, rfl⟩, ⟨rfl, trivial⟩, ⟨rfl, qzd (exTs_next (by omega) (exT_f h2r)), trivial⟩, ⟨rfl, rfl⟩, ⟨rfl, rfl⟩⟩, (by first | exact zax0 | (dsimp only; exact zax0))⟩
 have h1r := h1
 try simp only [nq, nr, nl, qjz] at h1
 refine qjf (qqd (a_freezeboxK 0 5 (by decide) ⟨⟨_, _, _, rfl⟩, trivial⟩ rfl rfl rfl rfl ?_))
 try dsimp only [List.set]
 refine ar (qqa (qqr (ys := [.sl _, .p _]) qj5 rfl rfl rfl (nb rfl)) (qjk (qqk qj5 rfl rfl rfl rfl rfl rfl) ?_))
 refine on (qql ?_)
 exact ⟨[.agg [.sl _, .p _]], .agg [.sl _, .p _], [.row 4 1 _], [], [], ⟨⟨_, _, _, _, rfl, rfl, qj5, rfl⟩, trivial⟩, rfl, rfl, ⟨⟨rfl, rfl⟩, trivial⟩, rfl, rfl, ⟨by rw [List.take_of_length_le (by omega)], rfl, rfl⟩⟩
theorem f_listImplD (l : List Con) (vs : List Int) (fu : Int) : Fn Try.prog 9 [.sl (l.map dC), .sl (vs.map dI), .p (.int .i64 (fu))] [] (fun rr ii nn => rr = .tup [.p (.int .i64 (lsV l vs fu).1), .own 0 0, .own 1 0] ∧ ii = [] ∧ nn = [.deep (.mk 51 1 [(0, .mk 4 1 [])]) (((lsV l vs fu).2.1).map dD) none, .deep (.mk 65 5 [(3, .mk 83 2 [])]) (((lsV l vs fu).2.2).map dSt) none]) := by
 refine qjj Try.func9 rfl (nb rfl) fun w X g => ?_
 show AWp _ _ _ ⟨[(0, .sl (l.map dC)), (1, .sl (vs.map dI)), (2, .p (.int .i64 (fu)))], []⟩
 refine rs (oa rfl (oa rfl (oa rfl (on (qqd (rs (om rfl (om rfl ?_))))))))
 refine qq4 (qqp (v := .p _) (hp1 := []) [] false [] ent28 (f_listable l vs) ⟨.inl ⟨rfl, rfl⟩, .inl ⟨rfl, rfl⟩, trivial⟩ trivial rfl rfl (fun h => by cases h) rfl (fun _ h => by cases h) (.inl rfl) rfl rfl) ?_
 refine qqa (j_not rfl) (om rfl (qq9 18 rfl (fun h1 => ?_) (fun h1 => ?_)))
 ·
  have h1r := h1
  try simp only [nq, nr, nl] at h1
  refine qqa (qqb rfl rfl h1r) (qqa (qqb rfl rfl h1r) (qqa (qqb rfl rfl h1r) (qqa (qq6 rfl h1r (evo rfl)) (on (a_tt rfl ?_)))))
  refine rs (oa rfl (oa rfl (oa rfl (on (qjb 7 7 51 1 rfl fun v7 => ?_)))))
  refine qjb 8 8 65 5 rfl fun v8 => ?_
  refine qzx 7 0 (.mk 51 1 [(0, (.mk 4 1 []))]) (zs := []) (zs' := []) rfl rfl rfl rfl qzv rfl ?_
  refine qzx 8 0 (.mk 65 5 [(3, (.mk 83 2 []))]) (zs := []) (zs' := []) rfl rfl rfl rfl qzv rfl ?_
  refine qql ?_
  have hb : lsOk l vs fu = false := (by unfold lsOk; first | (simp_all; done) | (simp_all; omega))
  exact ⟨[.p _, .own 7 v7, .own 8 v8], .tup [.p _, .own 0 0, .own 1 0], [], [.deep (.mk 51 1 [(0, (.mk 4 1 []))]) _ none, .deep (.mk 65 5 [(3, (.mk 83 2 []))]) _ none], [(7, v7), (8, v8)], ⟨rfl, rfl, rfl, trivial⟩, rfl, rfl, ⟨⟨rfl, rfl⟩, ⟨rfl, rfl⟩, trivial⟩, rfl, rfl, ⟨by rw [ls_bad hb], rfl, by rw [ls_bad hb]; rfl⟩⟩
 have h1r := h1
 try simp only [nq, nr, nl] at h1
 refine qqa (qqf rfl rfl h1r (qqn (evo rfl))) ?_
 refine qq4 (qqf rfl rfl h1r (qqp (v := .p _) (hp1 := []) [] false [] ent29 (f_isFuel fu) ⟨.inl ⟨rfl, rfl⟩, trivial⟩ trivial rfl rfl (fun h => by cases h) rfl (fun _ h => by cases h) (.inl rfl) rfl rfl)) ?_
 refine qqa (qqf rfl rfl h1r (j_not rfl)) (qqa (qq3 rfl h1r (evo rfl)) (on (ac rfl (fun h2 => ?_) fun h2 => ?_)))
 ·
  have h2r := h2
  try simp only [nq, nr, nl] at h2
  refine rs (oa rfl (oa rfl (oa rfl (on (qjb 7 7 51 1 rfl fun v7 => ?_)))))
  refine qjb 8 8 65 5 rfl fun v8 => ?_
  refine qzx 7 0 (.mk 51 1 [(0, (.mk 4 1 []))]) (zs := []) (zs' := []) rfl rfl rfl rfl qzv rfl ?_
  refine qzx 8 0 (.mk 65 5 [(3, (.mk 83 2 []))]) (zs := []) (zs' := []) rfl rfl rfl rfl qzv rfl ?_
  refine qql ?_
  have hb : lsOk l vs fu = false := (by unfold lsOk; first | (simp_all; done) | (simp_all; omega))
  exact ⟨[.p _, .own 7 v7, .own 8 v8], .tup [.p _, .own 0 0, .own 1 0], [], [.deep (.mk 51 1 [(0, (.mk 4 1 []))]) _ none, .deep (.mk 65 5 [(3, (.mk 83 2 []))]) _ none], [(7, v7), (8, v8)], ⟨rfl, rfl, rfl, trivial⟩, rfl, rfl, ⟨⟨rfl, rfl⟩, ⟨rfl, rfl⟩, trivial⟩, rfl, rfl, ⟨by rw [ls_bad hb], rfl, by rw [ls_bad hb]; rfl⟩⟩
 have h2r := h2
 try simp only [nq, nr, nl] at h2
 refine qqg (qqd ?_)
 have hok : lsOk l vs fu = true := (by unfold lsOk; first | (simp_all; done) | (simp_all; omega))
 have hpt := lsOk_parts hok
 have hls := ls_start hok
 have hln := pOk_len hpt.1
 refine ar (om rfl ?_)
 refine qzi (fun ver => qj8 (v := .own 24 ver) (hp1 := [(24, some (ver, .row 56 2 _))]) [] false [] ent30 (f_cloneC l (by omega)) ⟨.inl ⟨rfl, rfl⟩, trivial⟩ trivial rfl rfl rfl (fun h => by cases h) rfl (List.all_eq_true.1 rfl) (.inl rfl) rfl rfl) fun v24x1 => ?_
 refine oa rfl (on (rs (oa rfl (on (qjb 10 10 51 1 rfl fun v10 => ?_)))))
 refine qzx 10 0 (.mk 51 1 [(0, (.mk 4 1 []))]) (zs := []) (zs' := []) rfl rfl rfl rfl qzv rfl ?_
 refine qqh (qqt (ι := Nat × List Con × List (List Bool) × Nat × Nat) (fun x => lsI l vs fu x.1 x.2.1 x.2.2.1) (fun x r => (9, .own 24 x.2.2.2.1) :: (10, .own 10 x.2.2.2.2) :: r) (fun x r => (24, some (x.2.2.2.1, .row 56 2 ((x.2.1).map dC))) :: (10, some (x.2.2.2.2, .deep (.mk 51 1 [(0, .mk 4 1 [])]) ((x.2.2.1).map dD) none)) :: r) (fun x => x.1) (fun _ _ => rfl) (fun _ _ => rfl) (64, l, [], v24x1, v10) (by first | exact hls | (dsimp only; exact hls)) ⟨⟨rfl, rfl⟩, ⟨rfl, rfl, trivial⟩, ⟨rfl, rfl, trivial⟩, ⟨rfl, rfl⟩, ⟨rfl, rfl⟩⟩ ?_)
 rintro ⟨n, L, f, v1, v2⟩ hi; dsimp only at hi ⊢
 refine qqh (qqd ?_)
 have hsv := ls_sv hok hi
 have hcs := svC_cases hsv
 have hLl := hi.2.2.1
 have hfl := hi.2.1
 refine ar (om rfl (om rfl (op_call2 (v := fun ver ver2 => .tup [.p _, .own 28 ver, .own 100028 ver2]) (hp1 := fun ver ver2 => [(24, some (v1, .row 56 2 _)), (28, some (ver, .row 4 1 _)), (100028, some (ver2, .deep (.mk 65 5 [(3, (.mk 83 2 []))]) _ none))]) [(24, v1)] false ent31 (f_solveImplD L fu) ⟨.inl ⟨rfl, rfl⟩, .inl ⟨rfl, rfl⟩, trivial⟩ ⟨⟨rfl, rfl⟩, trivial⟩ rfl rfl rfl rfl (.inl rfl) (fun _ _ => rfl) (fun _ _ => rfl) ?_)))
 rintro  v28x2 v100028x2
 dsimp only [List.cons_append, List.nil_append]
 refine om rfl (qqa (qqy rfl rfl) (qqa (qqy rfl rfl) (qqa (qqy rfl rfl) (oa rfl (oa rfl (oa rfl (on (qqd (qqh (rs (om rfl (qqa (j_eq rfl rfl) (oa rfl ?_)))))))))))))
 refine on (ac rfl (fun h3 => ?_) fun h3 => ?_)
 ·
  have h3r := h3
  try simp only [nq, nr, nl] at h3
  refine rs (om rfl (om rfl (oa rfl (oa rfl (oa rfl (on (qql ?_)))))))
  have hu := ls_uns hi (by assumption)
  exact ⟨[.p _, .own 10 v2, .own 100028 v100028x2], .tup [.p _, .own 0 0, .own 1 0], [], [.deep (.mk 51 1 [(0, (.mk 4 1 []))]) _ none, .deep (.mk 65 5 [(3, (.mk 83 2 []))]) _ none], [(10, v2), (100028, v100028x2)], ⟨rfl, rfl, rfl, trivial⟩, rfl, rfl, ⟨⟨rfl, rfl⟩, ⟨rfl, rfl⟩, trivial⟩, rfl, rfl, ⟨by rw [hu], rfl, by rw [hu]; try rfl⟩⟩
 have h3r := h3
 try simp only [nq, nr, nl] at h3
 refine rs (om rfl (qqa (j_ne rfl rfl) (om rfl (qq9 40 rfl (fun h4 => ?_) (fun h4 => ?_)))))
 ·
  have h4r := h4
  try simp only [nq, nr, nl] at h4
  refine qqa (qqb rfl rfl h4r) (qqa (qqb rfl rfl h4r) (qqa (qqb rfl rfl h4r) (qqa (qq6 rfl h4r (evo rfl)) (oa rfl (on (a_tt rfl ?_))))))
  refine rs (oa rfl (oa rfl (oa rfl (on (qjb 7 7 51 1 rfl fun v7 => ?_)))))
  refine qjb 8 8 65 5 rfl fun v8 => ?_
  refine qzx 7 0 (.mk 51 1 [(0, (.mk 4 1 []))]) (zs := []) (zs' := []) rfl rfl rfl rfl qzv rfl ?_
  refine qzx 8 0 (.mk 65 5 [(3, (.mk 83 2 []))]) (zs := []) (zs' := []) rfl rfl rfl rfl qzv rfl ?_
  refine qql ?_
  have hst := ls_stop hi (by omega) (by omega)
  exact ⟨[.p _, .own 7 v7, .own 8 v8], .tup [.p _, .own 0 0, .own 1 0], [], [.deep (.mk 51 1 [(0, (.mk 4 1 []))]) _ none, .deep (.mk 65 5 [(3, (.mk 83 2 []))]) _ none], [(7, v7), (8, v8)], ⟨rfl, rfl, rfl, trivial⟩, rfl, rfl, ⟨⟨rfl, rfl⟩, ⟨rfl, rfl⟩, trivial⟩, rfl, rfl, ⟨by rw [hst], rfl, by rw [hst]; try rfl⟩⟩
 have h4r := h4
 try simp only [nq, nr, nl] at h4
 refine qqa (qqf rfl rfl h4r (qqn (evo rfl))) (qqa (qqf rfl rfl h4r (qz4 Try.underlying25 rfl rfl)) (qqa (qqf rfl rfl h4r (j_eq rfl rfl)) (qqa (qq3 rfl h4r (evo rfl)) (oa rfl (on (ac rfl (fun h5 => ?_) fun h5 => ?_))))))
 ·
  have h5r := h5
  try simp only [nq, nr, nl] at h5
  refine rs (oa rfl (oa rfl (oa rfl (on (qjb 7 7 51 1 rfl fun v7 => ?_)))))
  refine qjb 8 8 65 5 rfl fun v8 => ?_
  refine qzx 7 0 (.mk 51 1 [(0, (.mk 4 1 []))]) (zs := []) (zs' := []) rfl rfl rfl rfl qzv rfl ?_
  refine qzx 8 0 (.mk 65 5 [(3, (.mk 83 2 []))]) (zs := []) (zs' := []) rfl rfl rfl rfl qzv rfl ?_
  refine qql ?_
  have hst := ls_stop hi (by omega) (by omega)
  exact ⟨[.p _, .own 7 v7, .own 8 v8], .tup [.p _, .own 0 0, .own 1 0], [], [.deep (.mk 51 1 [(0, (.mk 4 1 []))]) _ none, .deep (.mk 65 5 [(3, (.mk 83 2 []))]) _ none], [(7, v7), (8, v8)], ⟨rfl, rfl, rfl, trivial⟩, rfl, rfl, ⟨⟨rfl, rfl⟩, ⟨rfl, rfl⟩, trivial⟩, rfl, rfl, ⟨by rw [hst], rfl, by rw [hst]; try rfl⟩⟩
 have h5r := h5
 try simp only [nq, nr, nl] at h5
 refine qqg (qqd ?_)
 have hc1 : svC L fu = 1 := by omega
 have hva := ls_val hsv hc1
 have hnx := ls_next hok hi (by omega) (by omega)
 refine ar (om rfl (om rfl (qzi (fun ver => j_buildSlice_lend (t := (.mk 51 1 [(0, (.mk 4 1 []))])) (by decide) slt25 elt51 rfl rfl rfl rfl rfl rfl) fun v47x3 => ?_)))
 refine qzi (fun ver => j_append_deepH (by decide) slt25 elt51 rfl rfl rfl rfl rfl rfl rfl rfl (by decide) rfl (nb rfl) (by rw [qqw]; first | omega | (simp only [nr, nl]; omega)) zz) fun v10x4 => ?_
 refine oa rfl (on (ar (om rfl (om rfl (om rfl ?_)))))
 refine qq4 (qqp (v := .agg [.sl _, .p _]) (hp1 := [(28, some (v28x2, .row 4 1 _))]) [(28, v28x2)] false [28] ent32 (f_exclImplI vs (svV L fu) hpt.2.2.1 hva.1) ⟨.inl ⟨rfl, rfl⟩, .inl ⟨rfl, rfl⟩, trivial⟩ ⟨⟨rfl, rfl⟩, trivial⟩ rfl rfl (fun h => by cases h) rfl (List.all_eq_true.1 rfl) (.inl rfl) rfl rfl) ?_
 refine qqu (fun ver => qqv (parts := [(0, .tmp 52)]) (es := [[_, _]]) qz9 qzh rfl rfl (by decide) (by decide) rfl rfl (by simp) rfl) fun v53x5 => ?_
 refine qqu (fun ver => qq2 qz9 qzh rfl rfl rfl rfl rfl rfl (by rw [qqw]; first | omega | (simp only [nr, nl]; omega)) zz) fun v24x6 => ?_
 refine oa rfl (op_back 10 28 (by decide) rfl rfl rfl rfl lend_at lend_set ?_)
 refine on ?_
 exact ⟨(n - 1, L ++ [lsX vs (svV L fu)], f ++ [svV L fu], v24x6, v10x4), (by first | exact hnx.2 | (dsimp only; exact hnx.2)), ⟨⟨rfl, rfl⟩, ⟨rfl, rfl, trivial⟩, ⟨qzd (by dsimp only; rw [List.map_append]; rfl), deepEq (by dsimp only; rw [List.map_append]; try rfl), trivial⟩, ⟨rfl, rfl⟩, ⟨rfl, rfl⟩⟩, (by first | exact (by have := hnx.1; dsimp only; omega) | (dsimp only; exact (by have := hnx.1; dsimp only; omega)))⟩
end Go.Ab

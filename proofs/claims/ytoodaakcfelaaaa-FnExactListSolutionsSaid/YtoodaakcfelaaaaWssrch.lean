/- Walks. -/
import Derived.Test.YtoodaakcfelaaaaBase
import Derived.Test.YtoodaakcfelaaaaCub
import Derived.Test.YtoodaakcfelaaaaWsclof
import Derived.Test.YtoodaakcfelaaaaWstight
import Derived.Test.YtoodaakcfelaaaaWsclau
import Derived.Test.YtoodaakcfelaaaaSimp
import Derived.Test.YtoodaakcfelaaaaWsprop
import Derived.Test.YtoodaakcfelaaaaWsparse
import Derived.Test.YtoodaakcfelaaaaWsexcl2
import Derived.Test.YtoodaakcfelaaaaWscon2
import Derived.Test.YtoodaakcfelaaaaWsexcl
import Derived.Test.YtoodaakcfelaaaaDeep2
import Derived.Test.YtoodaakcfelaaaaWsdeep
import Derived.Test.YtoodaakcfelaaaaWsfix
import Derived.Test.YtoodaakcfelaaaaWsfun
import Derived.Test.YtoodaakcfelaaaaWsprob
namespace Go.Ab
open Go.Proofs
set_option maxRecDepth 100000
set_option maxHeartbeats 8000000
set_option linter.unusedSimpArgs false
set_option linter.unusedVariables false
theorem zap0 {p : Prop} (h : p := by first | omega | (simp only [nr, nl, qj2]; omega)) : p := h
theorem zap1 {p : Prop} (h : p := by first | omega | (simp only [nr, nl, qq0]; omega)) : p := h
theorem f_isFuel (n : Int) : Fn Try.prog 29 [.p (.int .i64 (n))] [] (fun rr ii nn => rr = .p (.bool (decide (0 ≤ n ∧ n ≤ 2000))) ∧ ii = [] ∧ nn = []) := by
 refine qjj Try.func29 rfl (nb rfl) fun w X g => ?_
 show AWp _ _ _ ⟨[(0, .p (.int .i64 (n)))], []⟩
 refine rs (oa rfl (on (rs (om rfl ?_))))
 refine qq4 (qqp (v := .p _) (hp1 := []) [] false [] ent53 (f_within n 0 2000) ⟨.inl ⟨rfl, rfl⟩, .inl ⟨rfl, rfl⟩, .inl ⟨rfl, rfl⟩, trivial⟩ trivial rfl rfl (fun h => by cases h) rfl (fun _ h => by cases h) (.inl rfl) rfl rfl) ?_
 refine oa rfl (on (qql ?_))
 exact qjh rfl ⟨rfl, rfl, rfl⟩
theorem f_valuesOf (p : List Int) (hp : p.length = 12) : Fn Try.prog 72 [.sl (p.map dI)] [] (fun rr ii nn => rr = .tup [.own 0 0, .p (.int .i64 (freeV p : Nat)), .p (.bool (decide (freeV p = 0)))] ∧ ii = [] ∧ nn = [.row 4 1 ((valO p).map dB)]) := by
 refine qjj Try.func72 rfl (nb rfl) fun w X g => ?_
 show AWp _ _ _ ⟨[(0, .sl (p.map dI))], []⟩
 refine rs (oa rfl (oa rfl (oa rfl (on (qjb 2 2 4 1 rfl fun v2 => ?_)))))
 refine rs (oa rfl (on (qjb 5 5 4 1 rfl fun v5 => ?_)))
 refine qqd (rs (om rfl (qqa (qqs Try.underlying23 rfl) (om rfl (on (qqh (qqt (ι := Nat × Nat) (fun x => x.1 ≤ p.length ∧ ∀ i, i < x.1 → p.getD i default ≠ 0) (fun x r => (10, .p (.int .i64 ((x.1 : Nat)))) :: (5, .own 5 x.2) :: r) (fun x r => (5, some (x.2, .row 4 1 ((valP (p.take x.1)).map dB))) :: r) (fun x => p.length - x.1) (fun _ _ => rfl) (fun _ _ => rfl) (0, v5) (by first | exact ⟨Nat.zero_le _, fun i h => absurd h (Nat.not_lt_zero i)⟩ | (dsimp only; exact ⟨Nat.zero_le _, fun i h => absurd h (Nat.not_lt_zero i)⟩)) ⟨⟨rfl, rfl⟩, ⟨rfl, rfl, trivial⟩, ⟨rfl, trivial⟩, ⟨rfl, rfl⟩, ⟨rfl, rfl⟩⟩ ?_)))))))
 rintro ⟨k, v⟩ hk; dsimp only at hk ⊢
 refine rs (qqa (qzk rfl rfl) (on (qqd (ac rfl (fun h1 => ?_) fun h1 => ?_))))
 ·
  have h1r := h1
  try simp only [nq, nr, nl, qq0] at h1
  refine qqg (qqd (qqh (rs (om rfl (qqa (qq5 qjg rfl rfl rfl (qqj zap1) rfl) (qqa (qqz qq7 rfl (qqj zap1) rfl) (oa rfl (oa rfl (on (qqd (rs (om rfl (qqa (j_eq rfl rfl) ?_)))))))))))))
  refine on (ac rfl (fun h2 => ?_) fun h2 => ?_)
  ·
   have h2r := h2
   try simp only [nq, nr, nl, qq0] at h2
   refine rs (om rfl (qqa (qje rfl rfl zap1 zap1) (oa rfl (oa rfl (oa rfl (on (qjb 2 2 4 1 rfl fun v2 => ?_)))))))
   refine qql ?_
   have hfv := freeV_hit (p := p) (k := k) (by omega) (by assumption) hk.2
   exact ⟨[.own 2 v2, .p _, .p _], .tup [.own 0 0, .p _, .p _], [], [.row 4 1 _], [(2, v2)], ⟨rfl, rfl, rfl, trivial⟩, rfl, rfl, ⟨⟨rfl, rfl⟩, trivial⟩, rfl, rfl, ⟨by rw [hfv]; rfl, rfl, by rw [valO_n (by omega)]; rfl⟩⟩
  have h2r := h2
  try simp only [nq, nr, nl, qq0] at h2
  refine qqg (ar (om rfl (om rfl (qqa (j_gt rfl rfl) (qqu (fun ver => qqv (parts := [(0, .tmp 21)]) (es := [[_]]) slt51 elt4 rfl rfl (by decide) (by decide) rfl rfl (by simp) rfl) fun v22x1 => ?_)))))
  refine qqu (fun ver => qq2 slt51 elt4 rfl rfl rfl rfl rfl rfl (by rw [qqw]; first | omega | (simp only [nr, nl, qq0]; omega)) zap1) fun v5x2 => ?_
  refine oa rfl (on (ar (qqa (qje rfl rfl zap1 zap1) (om rfl (on ?_)))))
  exact ⟨(k + 1, v5x2), (by first | exact ⟨by omega, fun i hi => by rcases Nat.lt_succ_iff_lt_or_eq.1 hi with q | q; (· exact hk.2 i q); (· subst q; assumption)⟩ | (dsimp only; exact ⟨by omega, fun i hi => by rcases Nat.lt_succ_iff_lt_or_eq.1 hi with q | q; (· exact hk.2 i q); (· subst q; assumption)⟩)), ⟨⟨rfl, rfl⟩, ⟨rfl, rfl, trivial⟩, ⟨qzd (by dsimp only; rw [valP_next (by omega), List.map_append]; rfl), trivial⟩, ⟨rfl, rfl⟩, ⟨rfl, rfl⟩⟩, (by first | exact zap1 | (dsimp only; exact zap1))⟩
 have h1r := h1
 try simp only [nq, nr, nl, qq0] at h1
 refine qjf (rs (om rfl (oa rfl (oa rfl (oa rfl (on (qql ?_)))))))
 have hfv := freeV_none (p := p) (fun i hi => hk.2 i (by omega))
 exact ⟨[.own 5 v, .p _, .p _], .tup [.own 0 0, .p _, .p _], [], [.row 4 1 _], [(5, v)], ⟨rfl, rfl, rfl, trivial⟩, rfl, rfl, ⟨⟨rfl, rfl⟩, trivial⟩, rfl, rfl, ⟨by rw [hfv]; rfl, rfl, by rw [valO_y hfv, List.take_of_length_le (by omega)]⟩⟩
theorem f_l5Free (p : List Int) (hp : p.length = 12) : Fn Try.prog 67 [.sl (p.map dI)] [] (fun rr ii nn => rr = .p (.int .i64 ((freeV p : Nat))) ∧ ii = [] ∧ nn = []) := by
 refine qjj Try.func67 rfl (nb rfl) fun w X g => ?_
 show AWp _ _ _ ⟨[(0, .sl (p.map dI))], []⟩
 refine rs (oa rfl (on (qqd (rs (oa rfl (on (qqh (qqt (ι := Nat) (fun k => k ≤ p.length ∧ ∀ i, i < k → p.getD i default ≠ 0) (fun k r => (3, .p (.int .i64 ((k : Nat)))) :: r) (fun k r => r) (fun k => p.length - k) (fun _ _ => rfl) (fun _ _ => rfl) 0 ⟨Nat.zero_le _, fun i h => absurd h (Nat.not_lt_zero i)⟩ ⟨⟨rfl, rfl⟩, ⟨rfl, trivial⟩, trivial, ⟨rfl, rfl⟩, ⟨rfl, rfl⟩⟩ ?_))))))))
 intro k hk
 refine qqd (rs (om rfl (om rfl (qqa (qqs Try.underlying23 rfl) (qqa (qzk rfl rfl) (on (ac rfl (fun h1 => ?_) fun h1 => ?_)))))))
 ·
  have h1r := h1
  try simp only [nq, nr, nl] at h1
  refine qqg (qqd (qqh (rs (om rfl (om rfl (qqa (qq5 qjg rfl rfl rfl (qqj zz) rfl) (qqa (qqz qq7 rfl (qqj zz) rfl) (qqa (j_eq rfl rfl) (on (ac rfl (fun h2 => ?_) fun h2 => ?_))))))))))
  ·
   have h2r := h2
   try simp only [nq, nr, nl] at h2
   refine rs (om rfl (qqa (qje rfl rfl zz zz) (oa rfl (on (qql ?_)))))
   have hfv := freeV_hit (p := p) (k := k) (by omega) (by assumption) hk.2
   exact qjh rfl ⟨by rw [hfv]; rfl, rfl, rfl⟩
  have h2r := h2
  try simp only [nq, nr, nl] at h2
  refine qqg (ar (om rfl (qqa (qje rfl rfl zz zz) (oa rfl (on ?_)))))
  exact ⟨k + 1, ⟨by omega, fun i hi => by rcases Nat.lt_succ_iff_lt_or_eq.1 hi with q | q; (· exact hk.2 i q); (· subst q; assumption)⟩, ⟨⟨rfl, rfl⟩, ⟨rfl, trivial⟩, trivial, ⟨rfl, rfl⟩, ⟨rfl, rfl⟩⟩, zz⟩
 have h1r := h1
 try simp only [nq, nr, nl] at h1
 refine qjf (rs (oa rfl (on (qql ?_))))
 have hfv := freeV_none (p := p) (fun i hi => hk.2 i (by omega))
 exact qjh rfl ⟨by rw [hfv]; rfl, rfl, rfl⟩
theorem f_l5Learn (A S : List Con) (fu : Int) (D : List Int) (h : asc D) (hA : A.length ≤ 2000) (hS : S.length ≤ 2000) : Fn Try.prog 66 [.agg [.own 0 0, .own 1 0, .p (.int .i64 fu)], .sl (D.map dI)] [.row 56 2 ((A).map dC), .row 65 5 ((S).map dSt)] (fun rr ii nn => rr = .agg [.own 2 0, .own 3 0, .p (.int .i64 fu)] ∧ ii = [.gone, .gone] ∧ nn = [.row 56 2 ((A ++ [cle D]).map dC), .row 65 5 ((S ++ [cle D]).map dSt)]) := by
 refine qjj Try.func66 rfl (nb rfl) fun w X g => ?_
 show AWp _ _ _ ⟨[(0, .agg [.own 0 0, .own 1 0, .p (.int .i64 fu)]), (1, .sl (D.map dI))], [(0, some (0, .row 56 2 ((A).map dC))), (1, some (0, .row 65 5 ((S).map dSt)))]⟩
 have hl12 := asc_len h
 have hcl := cle_len h
 refine rs (qqu (fun ver => j_boxaI 1010 rfl) fun v1010x1 => ?_)
 refine qqu (fun ver => qjw elt78 rfl) fun v4x2 => ?_
 refine on (rs (qqu (fun ver => qza qjg elt3 rfl rfl (by decide)) fun v9x3 => ?_))
 refine oa rfl (on (qqd (rs (oa rfl (on (qqh (qqt (ι := Nat × Nat) (fun x => x.1 ≤ D.length) (fun x r => (6, .p (.int .i64 ((x.1 : Nat)))) :: (5, .own 9 x.2) :: r) (fun x r => (9, some (x.2, .row 3 1 ((negL (D.take x.1)).map dI))) :: r) (fun x => D.length - x.1) (fun _ _ => rfl) (fun _ _ => rfl) (0, v9x3) (by first | exact (Nat.zero_le _) | (dsimp only; exact (Nat.zero_le _))) ⟨⟨rfl, rfl⟩, ⟨rfl, rfl, trivial⟩, ⟨rfl, trivial⟩, ⟨rfl, rfl⟩, ⟨rfl, rfl⟩⟩ ?_)))))))
 rintro ⟨k, v⟩ hk; dsimp only at hk ⊢
 refine qqd (rs (om rfl (om rfl (qqa (qqs Try.underlying23 rfl) (qqa (qzk rfl rfl) (on (ac rfl (fun h1 => ?_) fun h1 => ?_)))))))
 ·
  have h1r := h1
  try simp only [nq, nr, nl, qj2] at h1
  refine qqg (qqd (qqh ?_))
  have hli := litOk_iff.1 (asc_at h (k := k) zap0)
  refine ar (om rfl (om rfl (om rfl (qqa (qq5 qjg rfl rfl rfl (qqj zap0) rfl) (qqa (qqz qq7 rfl (qqj zap0) rfl) (qqa (j_neg rfl zap0 zap0) (qqu (fun ver => qqv (parts := [(0, .tmp 21)]) (es := [[_]]) qjg elt3 rfl rfl (by decide) (by decide) rfl rfl (by simp) rfl) fun v22x4 => ?_)))))))
  refine qqu (fun ver => qq2 qjg elt3 rfl rfl rfl rfl rfl rfl (by rw [qqw]; first | omega | (simp only [nr, nl, qj2]; omega)) zap0) fun v9x5 => ?_
  refine oa rfl (on (ar (om rfl (qqa (qje rfl rfl zap0 zap0) (oa rfl (on ?_))))))
  exact ⟨(k + 1, v9x5), (by first | exact zap0 | (dsimp only; exact zap0)), ⟨⟨rfl, rfl⟩, ⟨rfl, rfl, trivial⟩, ⟨qzd (by dsimp only; rw [negL_take zap0, List.map_append]; rfl), trivial⟩, ⟨rfl, rfl⟩, ⟨rfl, rfl⟩⟩, (by first | exact zap0 | (dsimp only; exact zap0))⟩
 have h1r := h1
 try simp only [nq, nr, nl, qj2] at h1
 refine qjf (qqd (a_row 9 (es' := (negL D).map dI) rfl (by rw [List.take_of_length_le zap0]) ?_))
 refine qzq 5 ⟨⟨_, _, _, rfl⟩, ⟨_, _, _, rfl⟩, trivial⟩ rfl rfl rfl ?_
 refine ar (om rfl ?_)
 refine qq4 (qqp (v := .tup [.agg [.sl _, .p _], .p _]) (hp1 := []) [] false [] ent78 (f_clauseSpec (negL D) (asc_negL h)) ⟨.inl ⟨rfl, rfl⟩, trivial⟩ trivial rfl rfl (fun h => by cases h) rfl (fun _ h => by cases h) (.inl rfl) rfl rfl) ?_
 refine om rfl (qqa (qqy rfl rfl) (qqa (qqy rfl rfl) (qqu (fun ver => qjw qzh rfl) fun v7x6 => ?_)))
 refine qjk (qqk qj5 rfl rfl rfl rfl rfl rfl) ?_
 refine oa rfl (on (a_mvB (i := 0) 1010 0 1001 (by decide) (by decide) rfl rfl rfl rfl fun v1001x7 => ?_))
 try dsimp only [List.set]
 refine a_mvB (i := 1) 1010 1 1002 (by decide) (by decide) rfl rfl rfl rfl fun v1002x8 => ?_
 try dsimp only [List.set]
 refine rs (qqa (qqm fld78f0 rfl rfl) (qqa (qqe leaf29 rfl rfl rfl) (qqa (qqr (ys := [.sl _, .p _]) qj5 rfl rfl rfl (nb rfl)) (qqu (fun ver => qqv (parts := [(0, .tmp 31)]) (es := [[_, _]]) qz9 qzh rfl rfl (by decide) (by decide) rfl rfl (by simp) rfl) fun v32x9 => ?_))))
 refine qqu (fun ver => qq2 qz9 qzh rfl rfl rfl rfl rfl rfl (by rw [qqw]; first | omega | (simp only [nr, nl, qj2]; omega)) zap0) fun v1001x10 => ?_
 refine qqa (qqm fld78f0 rfl rfl) (qjk (qq8 leaf29 rfl rfl (nb rfl) (evo rfl) rfl) ?_)
 refine on (rs (qqa (qqm fld78f1 rfl rfl) (qqa (qqe leaf26 rfl rfl rfl) (qqa (qqr (ys := [.sl _, .p _]) qj5 rfl rfl rfl (nb rfl)) (qqa (qz3 (parts := [(0, .const (.int .i64 7)), (3, .tmp 37)]) str65 elt65 rfl rfl) ?_)))))
 refine qqu (fun ver => qqv (parts := [(0, .tmp 38)]) (es := [[_, _, _, _, _]]) qzy elt65 rfl rfl (by decide) (by decide) rfl rfl (by simp) rfl) fun v39x11 => ?_
 refine qqu (fun ver => qq2 qzy elt65 rfl rfl rfl rfl rfl rfl (by rw [qqw]; first | omega | (simp only [nr, nl, qj2]; omega)) zap0) fun v1002x12 => ?_
 refine qqa (qqm fld78f1 rfl rfl) (qjk (qq8 leaf26 rfl rfl (nb rfl) (evo rfl) rfl) ?_)
 refine on (rs (qqa (qqr (ys := [.own 1001 v1001x10, .own 1002 v1002x12, .p _]) qj6 rfl rfl rfl (nb rfl)) (qjk (qqk qj6 rfl rfl rfl rfl rfl rfl) ?_)))
 refine on (qql ?_)
 exact ⟨[.agg [.own 1001 v1001x10, .own 1002 v1002x12, .p _]], .agg [.own 2 0, .own 3 0, .p _], [.gone, .gone], [.row 56 2 _, .row 65 5 _], [(1001, v1001x10), (1002, v1002x12)], ⟨⟨_, _, _, _, rfl, rfl, qj6, rfl⟩, trivial⟩, rfl, rfl, ⟨⟨rfl, rfl⟩, ⟨rfl, rfl⟩, ⟨rfl, rfl⟩, ⟨rfl, rfl⟩, trivial⟩, rfl, rfl, ⟨rfl, rfl, by rw [dSt_snoc, List.map_append]; rfl⟩⟩
theorem f_l5LearnO (A S : List Con) (fu : Int) (D : List Int) (h : asc D) (hA : A.length ≤ 2000) (hS : S.length ≤ 2000) : Fn Try.prog 66 [.agg [.own 0 0, .own 1 0, .p (.int .i64 fu)], .own 2 0] [.row 56 2 ((A).map dC), .row 65 5 ((S).map dSt), .row 3 1 (D.map dI)] (fun rr ii nn => rr = .agg [.own 3 0, .own 4 0, .p (.int .i64 fu)] ∧ ii = [.gone, .gone, .row 3 1 (D.map dI)] ∧ nn = [.row 56 2 ((A ++ [cle D]).map dC), .row 65 5 ((S ++ [cle D]).map dSt)]) := by
 refine qjj Try.func66 rfl (nb rfl) fun w X g => ?_
 show AWp _ _ _ ⟨[(0, .agg [.own 0 0, .own 1 0, .p (.int .i64 fu)]), (1, .own 2 0)], [(0, some (0, .row 56 2 ((A).map dC))), (1, some (0, .row 65 5 ((S).map dSt))), (2, some (0, .row 3 1 (D.map dI)))]⟩
 have hl12 := asc_len h
 have hcl := cle_len h
 refine rs (qqu (fun ver => j_boxaI 1010 rfl) fun v1010x1 => ?_)
 refine qqu (fun ver => qjw elt78 rfl) fun v4x2 => ?_
 refine on (rs (qqu (fun ver => qza qjg elt3 rfl rfl (by decide)) fun v9x3 => ?_))
 refine oa rfl (on (qqd (rs (oa rfl (on (qqh (qqt (ι := Nat × Nat) (fun x => x.1 ≤ D.length) (fun x r => (6, .p (.int .i64 ((x.1 : Nat)))) :: (5, .own 9 x.2) :: r) (fun x r => (9, some (x.2, .row 3 1 ((negL (D.take x.1)).map dI))) :: r) (fun x => D.length - x.1) (fun _ _ => rfl) (fun _ _ => rfl) (0, v9x3) (by first | exact (Nat.zero_le _) | (dsimp only; exact (Nat.zero_le _))) ⟨⟨rfl, rfl⟩, ⟨rfl, rfl, trivial⟩, ⟨rfl, trivial⟩, ⟨rfl, rfl⟩, ⟨rfl, rfl⟩⟩ ?_)))))))
 rintro ⟨k, v⟩ hk; dsimp only at hk ⊢
 refine qqd (rs (om rfl (om rfl (qqa (qjc Try.underlying23 rfl rfl) (qqa (qzk rfl rfl) (on (ac rfl (fun h1 => ?_) fun h1 => ?_)))))))
 ·
  have h1r := h1
  try simp only [nq, nr, nl, qj2] at h1
  refine qqg (qqd (qqh ?_))
  have hli := litOk_iff.1 (asc_at h (k := k) zap0)
  refine ar (om rfl (om rfl (om rfl (qqa (qqx qjg rfl rfl rfl rfl zap0) (qqa (qjl qq7 rfl rfl (qqj zap0) rfl) (qqa (j_neg rfl zap0 zap0) (qqu (fun ver => qqv (parts := [(0, .tmp 21)]) (es := [[_]]) qjg elt3 rfl rfl (by decide) (by decide) rfl rfl (by simp) rfl) fun v22x4 => ?_)))))))
  refine qqu (fun ver => qq2 qjg elt3 rfl rfl rfl rfl rfl rfl (by rw [qqw]; first | omega | (simp only [nr, nl, qj2]; omega)) zap0) fun v9x5 => ?_
  refine oa rfl (on (ar (om rfl (qqa (qje rfl rfl zap0 zap0) (oa rfl (on ?_))))))
  exact ⟨(k + 1, v9x5), (by first | exact zap0 | (dsimp only; exact zap0)), ⟨⟨rfl, rfl⟩, ⟨rfl, rfl, trivial⟩, ⟨qzd (by dsimp only; rw [negL_take zap0, List.map_append]; rfl), trivial⟩, ⟨rfl, rfl⟩, ⟨rfl, rfl⟩⟩, (by first | exact zap0 | (dsimp only; exact zap0))⟩
 have h1r := h1
 try simp only [nq, nr, nl, qj2] at h1
 refine qjf (qqd (a_row 9 (es' := (negL D).map dI) rfl (by rw [List.take_of_length_le zap0]) ?_))
 refine qzq 5 ⟨⟨_, _, _, rfl⟩, ⟨_, _, _, rfl⟩, ⟨_, _, _, rfl⟩, trivial⟩ rfl rfl rfl ?_
 refine ar (om rfl ?_)
 refine qq4 (qqp (v := .tup [.agg [.sl _, .p _], .p _]) (hp1 := []) [] false [] ent78 (f_clauseSpec (negL D) (asc_negL h)) ⟨.inl ⟨rfl, rfl⟩, trivial⟩ trivial rfl rfl (fun h => by cases h) rfl (fun _ h => by cases h) (.inl rfl) rfl rfl) ?_
 refine om rfl (qqa (qqy rfl rfl) (qqa (qqy rfl rfl) (qqu (fun ver => qjw qzh rfl) fun v7x6 => ?_)))
 refine qjk (qqk qj5 rfl rfl rfl rfl rfl rfl) ?_
 refine oa rfl (on (a_mvB (i := 0) 1010 0 1001 (by decide) (by decide) rfl rfl rfl rfl fun v1001x7 => ?_))
 try dsimp only [List.set]
 refine a_mvB (i := 1) 1010 1 1002 (by decide) (by decide) rfl rfl rfl rfl fun v1002x8 => ?_
 try dsimp only [List.set]
 refine rs (qqa (qqm fld78f0 rfl rfl) (qqa (qqe leaf29 rfl rfl rfl) (qqa (qqr (ys := [.sl _, .p _]) qj5 rfl rfl rfl (nb rfl)) (qqu (fun ver => qqv (parts := [(0, .tmp 31)]) (es := [[_, _]]) qz9 qzh rfl rfl (by decide) (by decide) rfl rfl (by simp) rfl) fun v32x9 => ?_))))
 refine qqu (fun ver => qq2 qz9 qzh rfl rfl rfl rfl rfl rfl (by rw [qqw]; first | omega | (simp only [nr, nl, qj2]; omega)) zap0) fun v1001x10 => ?_
 refine qqa (qqm fld78f0 rfl rfl) (qjk (qq8 leaf29 rfl rfl (nb rfl) (evo rfl) rfl) ?_)
 refine on (rs (qqa (qqm fld78f1 rfl rfl) (qqa (qqe leaf26 rfl rfl rfl) (qqa (qqr (ys := [.sl _, .p _]) qj5 rfl rfl rfl (nb rfl)) (qqa (qz3 (parts := [(0, .const (.int .i64 7)), (3, .tmp 37)]) str65 elt65 rfl rfl) ?_)))))
 refine qqu (fun ver => qqv (parts := [(0, .tmp 38)]) (es := [[_, _, _, _, _]]) qzy elt65 rfl rfl (by decide) (by decide) rfl rfl (by simp) rfl) fun v39x11 => ?_
 refine qqu (fun ver => qq2 qzy elt65 rfl rfl rfl rfl rfl rfl (by rw [qqw]; first | omega | (simp only [nr, nl, qj2]; omega)) zap0) fun v1002x12 => ?_
 refine qqa (qqm fld78f1 rfl rfl) (qjk (qq8 leaf26 rfl rfl (nb rfl) (evo rfl) rfl) ?_)
 refine on (rs (qqa (qqr (ys := [.own 1001 v1001x10, .own 1002 v1002x12, .p _]) qj6 rfl rfl rfl (nb rfl)) (qjk (qqk qj6 rfl rfl rfl rfl rfl rfl) ?_)))
 refine on (qql ?_)
 exact ⟨[.agg [.own 1001 v1001x10, .own 1002 v1002x12, .p _]], .agg [.own 3 0, .own 4 0, .p _], [.gone, .gone, .row 3 1 _], [.row 56 2 _, .row 65 5 _], [(1001, v1001x10), (1002, v1002x12)], ⟨⟨_, _, _, _, rfl, rfl, qj6, rfl⟩, trivial⟩, rfl, rfl, ⟨⟨rfl, rfl⟩, ⟨rfl, rfl⟩, ⟨rfl, rfl⟩, ⟨rfl, rfl⟩, ⟨rfl, rfl⟩, trivial⟩, rfl, rfl, ⟨rfl, rfl, by rw [dSt_snoc, List.map_append]; rfl⟩⟩
end Go.Ab

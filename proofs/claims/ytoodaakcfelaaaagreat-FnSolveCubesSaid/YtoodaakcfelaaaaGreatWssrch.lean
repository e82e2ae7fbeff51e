/- Walks. -/
import Derived.Test.YtoodaakcfelaaaaGreatBase
import Derived.Test.YtoodaakcfelaaaaGreatPf3
import Derived.Test.YtoodaakcfelaaaaGreatWsclof
import Derived.Test.YtoodaakcfelaaaaGreatWstight
import Derived.Test.YtoodaakcfelaaaaGreatWsclau
import Derived.Test.YtoodaakcfelaaaaGreatWsrup
namespace Go.Ab
open Go.Proofs
set_option maxRecDepth 100000
set_option maxHeartbeats 8000000
set_option linter.unusedSimpArgs false
set_option linter.unusedVariables false
theorem zat0 {p : Prop} (h : p := by first | omega | (simp only [nr, nl, qjc]; omega)) : p := h
theorem zat1 {p : Prop} (h : p := by first | omega | (simp only [nr, nl, qji]; omega)) : p := h
theorem f_ownF (c : Con) (hc : c.1.length ≤ 1048576) : Fn Tryz.prog 189 [.agg [.sl (c.1.map dT), .p (.int .i64 c.2)]] [] (fun rr ii nn => rr = .agg [.sl (c.1.map dT), .p (.int .i64 c.2)] ∧ ii = [] ∧ nn = []) := by
 refine qjl Tryz.func189 rfl (nb rfl) fun w X g => ?_
 show AWp _ _ _ ⟨[(0, .agg [.sl (c.1.map dT), .p (.int .i64 c.2)])], []⟩
 refine rs (qqv (fun ver => qzg rfl) fun v1x1 => ?_)
 refine qqv (fun ver => qjd qjm rfl) fun v2x2 => ?_
 refine on (rs (qqa (qqi qjn rfl rfl) (qqa (qqc qjv rfl rfl rfl) ?_)))
 refine qz0 (fun ver => qza (v := .own 5 ver) (hp1 := [(5, some (ver, .row 135 2 _))]) [] false [] ent231 (f_clone c.1 hc) ⟨.inl ⟨rfl, rfl⟩, trivial⟩ trivial rfl rfl rfl (fun h => by cases h) rfl (List.all_eq_true.1 rfl) (.inl rfl) rfl rfl) fun v5x3 => ?_
 refine qqa (qqi qjn rfl rfl) (qjg (qq5 qjv rfl rfl (nb rfl) (evo rfl) rfl) ?_)
 refine on (qqf (qjk 0 1 (by decide) trivial rfl rfl rfl rfl ?_))
 try dsimp only [List.set]
 refine ar (qqa (qqg (ys := [.sl _, .p _]) qq7 rfl rfl rfl (nb rfl)) (qjg (qqe qq7 rfl rfl rfl rfl rfl rfl) ?_))
 refine on (qqx ?_)
 exact ⟨[.agg [.sl _, .p _]], .agg [.sl _, .p _], [], [], [], ⟨⟨_, _, _, _, rfl, rfl, qq7, rfl⟩, trivial⟩, rfl, rfl, trivial, rfl, rfl, ⟨rfl, rfl, rfl⟩⟩
theorem f_isFuel (n : Int) : Fn Tryz.prog 73 [.p (.int .i64 (n))] [] (fun rr ii nn => rr = .p (.bool (decide (0 ≤ n ∧ n ≤ 2000))) ∧ ii = [] ∧ nn = []) := by
 refine qjl Tryz.func73 rfl (nb rfl) fun w X g => ?_
 show AWp _ _ _ ⟨[(0, .p (.int .i64 (n)))], []⟩
 refine rs (oa rfl (on (rs (om rfl ?_))))
 refine qq0 (qqn (v := .p _) (hp1 := []) [] false [] ent113 (f_within n 0 2000) ⟨.inl ⟨rfl, rfl⟩, .inl ⟨rfl, rfl⟩, .inl ⟨rfl, rfl⟩, trivial⟩ trivial rfl rfl (fun h => by cases h) rfl (fun _ h => by cases h) (.inl rfl) rfl rfl) ?_
 refine oa rfl (on (qqx ?_))
 exact qjt rfl ⟨rfl, rfl, rfl⟩
theorem f_valuesOf (p : List Int) (hp : p.length = 12) : Fn Tryz.prog 183 [.sl (p.map dI)] [] (fun rr ii nn => rr = .tup [.own 0 0, .p (.int .i64 (freeV p : Nat)), .p (.bool (decide (freeV p = 0)))] ∧ ii = [] ∧ nn = [.row 4 1 ((valO p).map dB)]) := by
 refine qjl Tryz.func183 rfl (nb rfl) fun w X g => ?_
 show AWp _ _ _ ⟨[(0, .sl (p.map dI))], []⟩
 refine rs (oa rfl (oa rfl (oa rfl (on (qj5 2 2 4 1 rfl fun v2 => ?_)))))
 refine rs (oa rfl (on (qj5 5 5 4 1 rfl fun v5 => ?_)))
 refine qqf (rs (om rfl (qqa (qqw Tryz.underlying23 rfl) (om rfl (on (qqk (qq4 (ι := Nat × Nat) (fun x => x.1 ≤ p.length ∧ ∀ i, i < x.1 → p.getD i default ≠ 0) (fun x r => (10, .p (.int .i64 ((x.1 : Nat)))) :: (5, .own 5 x.2) :: r) (fun x r => (5, some (x.2, .row 4 1 ((valP (p.take x.1)).map dB))) :: r) (fun x => p.length - x.1) (fun _ _ => rfl) (fun _ _ => rfl) (0, v5) (by first | exact ⟨Nat.zero_le _, fun i h => absurd h (Nat.not_lt_zero i)⟩ | (dsimp only; exact ⟨Nat.zero_le _, fun i h => absurd h (Nat.not_lt_zero i)⟩)) ⟨⟨rfl, rfl⟩, ⟨rfl, rfl, trivial⟩, ⟨rfl, trivial⟩, ⟨rfl, rfl⟩, ⟨rfl, rfl⟩⟩ ?_)))))))
 rintro ⟨k, v⟩ hk; dsimp only at hk ⊢
 refine rs (qqa (qzt rfl rfl) (on (qqf (ac rfl (fun h1 => ?_) fun h1 => ?_))))
 ·
  have h1r := h1
  try simp only [nq, nr, nl, qji] at h1
  refine qqo (qqf (qqk (rs (om rfl (qqa (qq9 qjb rfl rfl rfl (qqq zat1) rfl) (qqa (qq8 qq6 rfl (qqq zat1) rfl) (oa rfl (oa rfl (on (qqf (rs (om rfl (qqa (qz5 rfl rfl) ?_)))))))))))))
  refine on (ac rfl (fun h2 => ?_) fun h2 => ?_)
  ·
   have h2r := h2
   try simp only [nq, nr, nl, qji] at h2
   refine rs (om rfl (qqa (qjh rfl rfl zat1 zat1) (oa rfl (oa rfl (oa rfl (on (qj5 2 2 4 1 rfl fun v2 => ?_)))))))
   refine qqx ?_
   have hfv := freeV_hit (p := p) (k := k) (by omega) (by assumption) hk.2
   exact ⟨[.own 2 v2, .p _, .p _], .tup [.own 0 0, .p _, .p _], [], [.row 4 1 _], [(2, v2)], ⟨rfl, rfl, rfl, trivial⟩, rfl, rfl, ⟨⟨rfl, rfl⟩, trivial⟩, rfl, rfl, ⟨by rw [hfv]; rfl, rfl, by rw [valO_n (by omega)]; rfl⟩⟩
  have h2r := h2
  try simp only [nq, nr, nl, qji] at h2
  refine qqo (ar (om rfl (om rfl (qqa (j_gt rfl rfl) (qqv (fun ver => qqh (parts := [(0, .tmp 21)]) (es := [[_]]) qzm elt4 rfl rfl (by decide) (by decide) rfl rfl (by simp) rfl) fun v22x1 => ?_)))))
  refine qqv (fun ver => qqs qzm elt4 rfl rfl rfl rfl rfl rfl (by rw [qqu]; first | omega | (simp only [nr, nl, qji]; omega)) zat1) fun v5x2 => ?_
  refine oa rfl (on (ar (qqa (qjh rfl rfl zat1 zat1) (om rfl (on ?_)))))
  exact ⟨(k + 1, v5x2), (by first | exact ⟨by omega, fun i hi => by rcases Nat.lt_succ_iff_lt_or_eq.1 hi with q | q; (· exact hk.2 i q); (· subst q; assumption)⟩ | (dsimp only; exact ⟨by omega, fun i hi => by rcases Nat.lt_succ_iff_lt_or_eq.1 hi with q | q; (· exact hk.2 i q); (· subst q; assumption)⟩)), ⟨⟨rfl, rfl⟩, ⟨rfl, rfl, trivial⟩, ⟨qj0 (by dsimp only; rw [valP_next (by omega), List.map_append]; rfl), trivial⟩, ⟨rfl, rfl⟩, ⟨rfl, rfl⟩⟩, (by first | exact zat1 | (dsimp only; exact zat1))⟩
 have h1r := h1
 try simp only [nq, nr, nl, qji] at h1
 refine qjf (rs (om rfl (oa rfl (oa rfl (oa rfl (on (qqx ?_)))))))
 have hfv := freeV_none (p := p) (fun i hi => hk.2 i (by omega))
 exact ⟨[.own 5 v, .p _, .p _], .tup [.own 0 0, .p _, .p _], [], [.row 4 1 _], [(5, v)], ⟨rfl, rfl, rfl, trivial⟩, rfl, rfl, ⟨⟨rfl, rfl⟩, trivial⟩, rfl, rfl, ⟨by rw [hfv]; rfl, rfl, by rw [valO_y hfv, List.take_of_length_le (by omega)]⟩⟩
theorem f_l5Free (p : List Int) (hp : p.length = 12) : Fn Tryz.prog 188 [.sl (p.map dI)] [] (fun rr ii nn => rr = .p (.int .i64 ((freeV p : Nat))) ∧ ii = [] ∧ nn = []) := by
 refine qjl Tryz.func188 rfl (nb rfl) fun w X g => ?_
 show AWp _ _ _ ⟨[(0, .sl (p.map dI))], []⟩
 refine rs (oa rfl (on (qqf (rs (oa rfl (on (qqk (qq4 (ι := Nat) (fun k => k ≤ p.length ∧ ∀ i, i < k → p.getD i default ≠ 0) (fun k r => (3, .p (.int .i64 ((k : Nat)))) :: r) (fun k r => r) (fun k => p.length - k) (fun _ _ => rfl) (fun _ _ => rfl) 0 ⟨Nat.zero_le _, fun i h => absurd h (Nat.not_lt_zero i)⟩ ⟨⟨rfl, rfl⟩, ⟨rfl, trivial⟩, trivial, ⟨rfl, rfl⟩, ⟨rfl, rfl⟩⟩ ?_))))))))
 intro k hk
 refine qqf (rs (om rfl (om rfl (qqa (qqw Tryz.underlying23 rfl) (qqa (qzt rfl rfl) (on (ac rfl (fun h1 => ?_) fun h1 => ?_)))))))
 ·
  have h1r := h1
  try simp only [nq, nr, nl] at h1
  refine qqo (qqf (qqk (rs (om rfl (om rfl (qqa (qq9 qjb rfl rfl rfl (qqq zz) rfl) (qqa (qq8 qq6 rfl (qqq zz) rfl) (qqa (qz5 rfl rfl) (on (ac rfl (fun h2 => ?_) fun h2 => ?_))))))))))
  ·
   have h2r := h2
   try simp only [nq, nr, nl] at h2
   refine rs (om rfl (qqa (qjh rfl rfl zz zz) (oa rfl (on (qqx ?_)))))
   have hfv := freeV_hit (p := p) (k := k) (by omega) (by assumption) hk.2
   exact qjt rfl ⟨by rw [hfv]; rfl, rfl, rfl⟩
  have h2r := h2
  try simp only [nq, nr, nl] at h2
  refine qqo (ar (om rfl (qqa (qjh rfl rfl zz zz) (oa rfl (on ?_)))))
  exact ⟨k + 1, ⟨by omega, fun i hi => by rcases Nat.lt_succ_iff_lt_or_eq.1 hi with q | q; (· exact hk.2 i q); (· subst q; assumption)⟩, ⟨⟨rfl, rfl⟩, ⟨rfl, trivial⟩, trivial, ⟨rfl, rfl⟩, ⟨rfl, rfl⟩⟩, zz⟩
 have h1r := h1
 try simp only [nq, nr, nl] at h1
 refine qjf (rs (oa rfl (on (qqx ?_))))
 have hfv := freeV_none (p := p) (fun i hi => hk.2 i (by omega))
 exact qjt rfl ⟨by rw [hfv]; rfl, rfl, rfl⟩
theorem f_failS (A S : List Con) (fu : Int) (mu : Bool) (D : List Int) (h : asc D) (hA : A.length ≤ 2000) (hS : S.length ≤ 2000) : Fn Tryz.prog 184 [.ptr 0 0 0, .sl (D.map dI)] [.box 158 [.own 1 0, .p (.int .i64 (fu)), .own 2 0, .p (.bool (mu))], .row 69 2 ((A).map dC), .row 89 5 ((S).map dSt)] (fun rr ii nn => rr = .tup [] ∧ ii = [.box 158 [.own 3 0, .p (.int .i64 (fu)), .own 4 0, .p (.bool (mu))], .gone, .gone] ∧ nn = [.row 69 2 ((A ++ [cle D]).map dC), .row 89 5 ((S ++ [cle D]).map dSt)]) := by
 refine qjl Tryz.func184 rfl (nb rfl) fun w X g => ?_
 show AWp _ _ _ ⟨[(0, .ptr 0 0 0), (1, .sl (D.map dI))], [(0, some (0, .box 158 [.own 1 0, .p (.int .i64 (fu)), .own 2 0, .p (.bool (mu))])), (1, some (0, .row 69 2 ((A).map dC))), (2, some (0, .row 89 5 ((S).map dSt)))]⟩
 have hl12 := asc_len h
 have hcl := cle_len h
 refine rs (oa rfl (on (qj5 4 4 3 1 rfl fun v4 => ?_)))
 refine qqf (rs (om rfl (qqa (qqw Tryz.underlying23 rfl) (om rfl (on (qqk (qq4 (ι := Nat × Nat) (fun x => x.1 ≤ D.length) (fun x r => (11, .p (.int .i64 ((x.1 : Nat)))) :: (4, .own 4 x.2) :: r) (fun x r => (4, some (x.2, .row 3 1 ((negL (D.take x.1)).map dI))) :: r) (fun x => D.length - x.1) (fun _ _ => rfl) (fun _ _ => rfl) (0, v4) (by first | exact (Nat.zero_le _) | (dsimp only; exact (Nat.zero_le _))) ⟨⟨rfl, rfl⟩, ⟨rfl, rfl, trivial⟩, ⟨rfl, trivial⟩, ⟨rfl, rfl⟩, ⟨rfl, rfl⟩⟩ ?_)))))))
 rintro ⟨k, v⟩ hk; dsimp only at hk ⊢
 refine rs (qqa (qzt rfl rfl) (on (qqf (ac rfl (fun h1 => ?_) fun h1 => ?_))))
 ·
  have h1r := h1
  try simp only [nq, nr, nl, qjc] at h1
  refine qqo (qqf (qqk (rs (qqa (qq9 qjb rfl rfl rfl (qqq zat0) rfl) (qqa (qq8 qq6 rfl (qqq zat0) rfl) (oa rfl (on ?_)))))))
  have hli := litOk_iff.1 (asc_at h (k := k) zat0)
  refine ar (om rfl (om rfl (qqa (j_neg rfl zat0 zat0) (qqv (fun ver => qqh (parts := [(0, .tmp 17)]) (es := [[_]]) qjb elt3 rfl rfl (by decide) (by decide) rfl rfl (by simp) rfl) fun v18x1 => ?_))))
  refine qqv (fun ver => qqs qjb elt3 rfl rfl rfl rfl rfl rfl (by rw [qqu]; first | omega | (simp only [nr, nl, qjc]; omega)) zat0) fun v4x2 => ?_
  refine oa rfl (on (ar (qqa (qjh rfl rfl zat0 zat0) (om rfl (on ?_)))))
  exact ⟨(k + 1, v4x2), (by first | exact zat0 | (dsimp only; exact zat0)), ⟨⟨rfl, rfl⟩, ⟨rfl, rfl, trivial⟩, ⟨qj0 (by dsimp only; rw [negL_take zat0, List.map_append]; rfl), trivial⟩, ⟨rfl, rfl⟩, ⟨rfl, rfl⟩⟩, (by first | exact zat0 | (dsimp only; exact zat0))⟩
 have h1r := h1
 try simp only [nq, nr, nl, qjc] at h1
 refine qjf (qqf (a_row 4 (es' := (negL D).map dI) rfl (by rw [List.take_of_length_le zat0]) ?_))
 refine a_freezeK 4 ⟨⟨_, _, rfl⟩, ⟨_, _, _, rfl⟩, ⟨_, _, _, rfl⟩, trivial⟩ rfl rfl rfl ?_
 refine ar (om rfl ?_)
 refine qq0 (qqn (v := .tup [.agg [.sl _, .p _], .p _]) (hp1 := []) [] false [] ent42 (f_clauseImpl (negL D) (asc_negL h)) ⟨.inl ⟨rfl, rfl⟩, trivial⟩ trivial rfl rfl (fun h => by cases h) rfl (fun _ h => by cases h) (.inl rfl) rfl rfl) ?_
 refine om rfl (qqa (qqt rfl rfl) (qqa (qqt rfl rfl) (qqv (fun ver => qjd qjm rfl) fun v7x3 => ?_)))
 refine qjg (qqe qq7 rfl rfl rfl rfl rfl rfl) ?_
 refine oa rfl (on (a_mvB (i := 1) 0 0 1001 (by decide) (by decide) rfl rfl rfl rfl fun v1001x4 => ?_))
 try dsimp only [List.set]
 refine a_mvB (i := 2) 0 2 1002 (by decide) (by decide) rfl rfl rfl rfl fun v1002x5 => ?_
 try dsimp only [List.set]
 refine qqf (qj3 qzr (by kernel_rfl) (by kernel_rfl) fun vf => ?_)
 refine qql (qqj (evo rfl)) (qql (qqj (evo rfl)) (qql (qq1 rfl rfl) (qql (qqi fld158f0 rfl rfl) (qql (qqc qzn rfl rfl rfl) (qql (qqg (ys := [.sl _, .p _]) qq7 rfl rfl rfl (nb rfl)) (d_n' (fun ver => qqh (parts := [(0, .tmp 31)]) (es := [[_, _]]) qj7 qjm rfl rfl (by decide) (by decide) rfl rfl (by simp) rfl) ?_))))))
 refine d_n' (fun ver => qqs qj7 qjm rfl rfl rfl rfl rfl rfl (by rw [qqu]; first | omega | (simp only [nr, nl, qjc]; omega)) zat0) ?_
 refine qql (qq1 rfl rfl) (qql (qqi fld158f0 rfl rfl) (d_s' (qq5 qzn rfl rfl (nb rfl) (evo rfl) rfl) ?_))
 refine qzf (by kernel_rfl) (by kernel_rfl) ?_
 refine qj3 qzr (by kernel_rfl) (by kernel_rfl) fun vf8 => ?_
 refine qql (qqj (evo rfl)) (qql (qqj (evo rfl)) (qql (qq1 rfl rfl) (qql (qqi fld158f2 rfl rfl) (qql (qqc leaf34 rfl rfl rfl) (qql (qqg (ys := [.sl _, .p _]) qq7 rfl rfl rfl (nb rfl)) ?_)))))
 refine d_v0' (qqn (v := .agg [.sl _, .p _]) (hp1 := []) [] false [] ent189 (f_ownF (cle D) (by omega)) ⟨.inl ⟨rfl, rfl⟩, trivial⟩ trivial rfl rfl (fun h => by cases h) rfl (fun _ h => by cases h) (.inl rfl) rfl rfl) ?_
 refine qql (qjp (parts := [(0, .const (.int .i64 7)), (3, .tmp 42)]) str89 qzs rfl rfl) ?_
 refine d_n' (fun ver => qqh (parts := [(0, .tmp 43)]) (es := [[_, _, _, _, _]]) qxa qzs rfl rfl (by decide) (by decide) rfl rfl (by simp) rfl) ?_
 refine d_n' (fun ver => qqs qxa qzs rfl rfl rfl rfl rfl rfl (by rw [qqu]; first | omega | (simp only [nr, nl, qjc]; omega)) zat0) ?_
 refine qql (qq1 rfl rfl) (qql (qqi fld158f2 rfl rfl) (d_s' (qq5 leaf34 rfl rfl (nb rfl) (evo rfl) rfl) ?_))
 refine qzf (by kernel_rfl) (by kernel_rfl) ?_
 exact ⟨[], .tup [], [.box 158 [.own 3 0, .p _, .own 4 0, .p _], .gone, .gone], [.row 69 2 _, .row 89 5 _], [(1001, (vf 1001)), (1002, (vf8 1002))], trivial, rfl, rfl, ⟨⟨rfl, rfl⟩, ⟨rfl, rfl⟩, ⟨rfl, rfl⟩, ⟨rfl, rfl⟩, ⟨rfl, rfl⟩, trivial⟩, rfl, rfl, ⟨rfl, rfl, by rw [dSt_snoc, List.map_append]; rfl⟩⟩
theorem f_failO (A S : List Con) (fu : Int) (mu : Bool) (D : List Int) (h : asc D) (hA : A.length ≤ 2000) (hS : S.length ≤ 2000) : Fn Tryz.prog 184 [.ptr 0 0 0, .own 3 0] [.box 158 [.own 1 0, .p (.int .i64 (fu)), .own 2 0, .p (.bool (mu))], .row 69 2 ((A).map dC), .row 89 5 ((S).map dSt), .row 3 1 (D.map dI)] (fun rr ii nn => rr = .tup [] ∧ ii = [.box 158 [.own 4 0, .p (.int .i64 (fu)), .own 5 0, .p (.bool (mu))], .gone, .gone, .row 3 1 (D.map dI)] ∧ nn = [.row 69 2 ((A ++ [cle D]).map dC), .row 89 5 ((S ++ [cle D]).map dSt)]) := by
 refine qjl Tryz.func184 rfl (nb rfl) fun w X g => ?_
 show AWp _ _ _ ⟨[(0, .ptr 0 0 0), (1, .own 3 0)], [(0, some (0, .box 158 [.own 1 0, .p (.int .i64 (fu)), .own 2 0, .p (.bool (mu))])), (1, some (0, .row 69 2 ((A).map dC))), (2, some (0, .row 89 5 ((S).map dSt))), (3, some (0, .row 3 1 (D.map dI)))]⟩
 have hl12 := asc_len h
 have hcl := cle_len h
 refine rs (oa rfl (on (qj5 4 4 3 1 rfl fun v4 => ?_)))
 refine qqf (rs (om rfl (qqa (qja Tryz.underlying23 rfl rfl) (om rfl (on (qqk (qq4 (ι := Nat × Nat) (fun x => x.1 ≤ D.length) (fun x r => (11, .p (.int .i64 ((x.1 : Nat)))) :: (4, .own 4 x.2) :: r) (fun x r => (4, some (x.2, .row 3 1 ((negL (D.take x.1)).map dI))) :: r) (fun x => D.length - x.1) (fun _ _ => rfl) (fun _ _ => rfl) (0, v4) (by first | exact (Nat.zero_le _) | (dsimp only; exact (Nat.zero_le _))) ⟨⟨rfl, rfl⟩, ⟨rfl, rfl, trivial⟩, ⟨rfl, trivial⟩, ⟨rfl, rfl⟩, ⟨rfl, rfl⟩⟩ ?_)))))))
 rintro ⟨k, v⟩ hk; dsimp only at hk ⊢
 refine rs (qqa (qzt rfl rfl) (on (qqf (ac rfl (fun h1 => ?_) fun h1 => ?_))))
 ·
  have h1r := h1
  try simp only [nq, nr, nl, qjc] at h1
  refine qqo (qqf (qqk (rs (qqa (qq2 qjb rfl rfl rfl rfl zat0) (qqa (qjo qq6 rfl rfl (qqq zat0) rfl) (oa rfl (on ?_)))))))
  have hli := litOk_iff.1 (asc_at h (k := k) zat0)
  refine ar (om rfl (om rfl (qqa (j_neg rfl zat0 zat0) (qqv (fun ver => qqh (parts := [(0, .tmp 17)]) (es := [[_]]) qjb elt3 rfl rfl (by decide) (by decide) rfl rfl (by simp) rfl) fun v18x1 => ?_))))
  refine qqv (fun ver => qqs qjb elt3 rfl rfl rfl rfl rfl rfl (by rw [qqu]; first | omega | (simp only [nr, nl, qjc]; omega)) zat0) fun v4x2 => ?_
  refine oa rfl (on (ar (qqa (qjh rfl rfl zat0 zat0) (om rfl (on ?_)))))
  exact ⟨(k + 1, v4x2), (by first | exact zat0 | (dsimp only; exact zat0)), ⟨⟨rfl, rfl⟩, ⟨rfl, rfl, trivial⟩, ⟨qj0 (by dsimp only; rw [negL_take zat0, List.map_append]; rfl), trivial⟩, ⟨rfl, rfl⟩, ⟨rfl, rfl⟩⟩, (by first | exact zat0 | (dsimp only; exact zat0))⟩
 have h1r := h1
 try simp only [nq, nr, nl, qjc] at h1
 refine qjf (qqf (a_row 4 (es' := (negL D).map dI) rfl (by rw [List.take_of_length_le zat0]) ?_))
 refine a_freezeK 4 ⟨⟨_, _, rfl⟩, ⟨_, _, _, rfl⟩, ⟨_, _, _, rfl⟩, ⟨_, _, _, rfl⟩, trivial⟩ rfl rfl rfl ?_
 refine ar (om rfl ?_)
 refine qq0 (qqn (v := .tup [.agg [.sl _, .p _], .p _]) (hp1 := []) [] false [] ent42 (f_clauseImpl (negL D) (asc_negL h)) ⟨.inl ⟨rfl, rfl⟩, trivial⟩ trivial rfl rfl (fun h => by cases h) rfl (fun _ h => by cases h) (.inl rfl) rfl rfl) ?_
 refine om rfl (qqa (qqt rfl rfl) (qqa (qqt rfl rfl) (qqv (fun ver => qjd qjm rfl) fun v7x3 => ?_)))
 refine qjg (qqe qq7 rfl rfl rfl rfl rfl rfl) ?_
 refine oa rfl (on (a_mvB (i := 1) 0 0 1001 (by decide) (by decide) rfl rfl rfl rfl fun v1001x4 => ?_))
 try dsimp only [List.set]
 refine a_mvB (i := 2) 0 2 1002 (by decide) (by decide) rfl rfl rfl rfl fun v1002x5 => ?_
 try dsimp only [List.set]
 refine qqf (qj3 qzr (by kernel_rfl) (by kernel_rfl) fun vf => ?_)
 refine qql (qqj (evo rfl)) (qql (qqj (evo rfl)) (qql (qq1 rfl rfl) (qql (qqi fld158f0 rfl rfl) (qql (qqc qzn rfl rfl rfl) (qql (qqg (ys := [.sl _, .p _]) qq7 rfl rfl rfl (nb rfl)) (d_n' (fun ver => qqh (parts := [(0, .tmp 31)]) (es := [[_, _]]) qj7 qjm rfl rfl (by decide) (by decide) rfl rfl (by simp) rfl) ?_))))))
 refine d_n' (fun ver => qqs qj7 qjm rfl rfl rfl rfl rfl rfl (by rw [qqu]; first | omega | (simp only [nr, nl, qjc]; omega)) zat0) ?_
 refine qql (qq1 rfl rfl) (qql (qqi fld158f0 rfl rfl) (d_s' (qq5 qzn rfl rfl (nb rfl) (evo rfl) rfl) ?_))
 refine qzf (by kernel_rfl) (by kernel_rfl) ?_
 refine qj3 qzr (by kernel_rfl) (by kernel_rfl) fun vf8 => ?_
 refine qql (qqj (evo rfl)) (qql (qqj (evo rfl)) (qql (qq1 rfl rfl) (qql (qqi fld158f2 rfl rfl) (qql (qqc leaf34 rfl rfl rfl) (qql (qqg (ys := [.sl _, .p _]) qq7 rfl rfl rfl (nb rfl)) ?_)))))
 refine d_v0' (qqn (v := .agg [.sl _, .p _]) (hp1 := []) [] false [] ent189 (f_ownF (cle D) (by omega)) ⟨.inl ⟨rfl, rfl⟩, trivial⟩ trivial rfl rfl (fun h => by cases h) rfl (fun _ h => by cases h) (.inl rfl) rfl rfl) ?_
 refine qql (qjp (parts := [(0, .const (.int .i64 7)), (3, .tmp 42)]) str89 qzs rfl rfl) ?_
 refine d_n' (fun ver => qqh (parts := [(0, .tmp 43)]) (es := [[_, _, _, _, _]]) qxa qzs rfl rfl (by decide) (by decide) rfl rfl (by simp) rfl) ?_
 refine d_n' (fun ver => qqs qxa qzs rfl rfl rfl rfl rfl rfl (by rw [qqu]; first | omega | (simp only [nr, nl, qjc]; omega)) zat0) ?_
 refine qql (qq1 rfl rfl) (qql (qqi fld158f2 rfl rfl) (d_s' (qq5 leaf34 rfl rfl (nb rfl) (evo rfl) rfl) ?_))
 refine qzf (by kernel_rfl) (by kernel_rfl) ?_
 exact ⟨[], .tup [], [.box 158 [.own 4 0, .p _, .own 5 0, .p _], .gone, .gone, .row 3 1 _], [.row 69 2 _, .row 89 5 _], [(1001, (vf 1001)), (1002, (vf8 1002))], trivial, rfl, rfl, ⟨⟨rfl, rfl⟩, ⟨rfl, rfl⟩, ⟨rfl, rfl⟩, ⟨rfl, rfl⟩, ⟨rfl, rfl⟩, ⟨rfl, rfl⟩, trivial⟩, rfl, rfl, ⟨rfl, rfl, by rw [dSt_snoc, List.map_append]; rfl⟩⟩
theorem f_l5Learn (A S : List Con) (fu : Int) (D : List Int) (h : asc D) (hA : A.length ≤ 2000) (hS : S.length ≤ 2000) : Fn Tryz.prog 187 [.agg [.own 0 0, .own 1 0, .p (.int .i64 fu)], .sl (D.map dI)] [.row 69 2 ((A).map dC), .row 89 5 ((S).map dSt)] (fun rr ii nn => rr = .agg [.own 2 0, .own 3 0, .p (.int .i64 fu)] ∧ ii = [.gone, .gone] ∧ nn = [.row 69 2 ((A ++ [cle D]).map dC), .row 89 5 ((S ++ [cle D]).map dSt)]) := by
 refine qjl Tryz.func187 rfl (nb rfl) fun w X g => ?_
 show AWp _ _ _ ⟨[(0, .agg [.own 0 0, .own 1 0, .p (.int .i64 fu)]), (1, .sl (D.map dI))], [(0, some (0, .row 69 2 ((A).map dC))), (1, some (0, .row 89 5 ((S).map dSt)))]⟩
 have hl12 := asc_len h
 have hcl := cle_len h
 refine rs (qqv (fun ver => j_boxaI 1010 rfl) fun v1010x1 => ?_)
 refine qqv (fun ver => qjd elt162 rfl) fun v4x2 => ?_
 refine on (rs (qqv (fun ver => qzh qjb elt3 rfl rfl (by decide)) fun v9x3 => ?_))
 refine oa rfl (on (qqf (rs (oa rfl (on (qqk (qq4 (ι := Nat × Nat) (fun x => x.1 ≤ D.length) (fun x r => (6, .p (.int .i64 ((x.1 : Nat)))) :: (5, .own 9 x.2) :: r) (fun x r => (9, some (x.2, .row 3 1 ((negL (D.take x.1)).map dI))) :: r) (fun x => D.length - x.1) (fun _ _ => rfl) (fun _ _ => rfl) (0, v9x3) (by first | exact (Nat.zero_le _) | (dsimp only; exact (Nat.zero_le _))) ⟨⟨rfl, rfl⟩, ⟨rfl, rfl, trivial⟩, ⟨rfl, trivial⟩, ⟨rfl, rfl⟩, ⟨rfl, rfl⟩⟩ ?_)))))))
 rintro ⟨k, v⟩ hk; dsimp only at hk ⊢
 refine qqf (rs (om rfl (om rfl (qqa (qqw Tryz.underlying23 rfl) (qqa (qzt rfl rfl) (on (ac rfl (fun h1 => ?_) fun h1 => ?_)))))))
 ·
  have h1r := h1
  try simp only [nq, nr, nl, qjc] at h1
  refine qqo (qqf (qqk ?_))
  have hli := litOk_iff.1 (asc_at h (k := k) zat0)
  refine ar (om rfl (om rfl (om rfl (qqa (qq9 qjb rfl rfl rfl (qqq zat0) rfl) (qqa (qq8 qq6 rfl (qqq zat0) rfl) (qqa (j_neg rfl zat0 zat0) (qqv (fun ver => qqh (parts := [(0, .tmp 21)]) (es := [[_]]) qjb elt3 rfl rfl (by decide) (by decide) rfl rfl (by simp) rfl) fun v22x4 => ?_)))))))
  refine qqv (fun ver => qqs qjb elt3 rfl rfl rfl rfl rfl rfl (by rw [qqu]; first | omega | (simp only [nr, nl, qjc]; omega)) zat0) fun v9x5 => ?_
  refine oa rfl (on (ar (om rfl (qqa (qjh rfl rfl zat0 zat0) (oa rfl (on ?_))))))
  exact ⟨(k + 1, v9x5), (by first | exact zat0 | (dsimp only; exact zat0)), ⟨⟨rfl, rfl⟩, ⟨rfl, rfl, trivial⟩, ⟨qj0 (by dsimp only; rw [negL_take zat0, List.map_append]; rfl), trivial⟩, ⟨rfl, rfl⟩, ⟨rfl, rfl⟩⟩, (by first | exact zat0 | (dsimp only; exact zat0))⟩
 have h1r := h1
 try simp only [nq, nr, nl, qjc] at h1
 refine qjf (qqf (a_row 9 (es' := (negL D).map dI) rfl (by rw [List.take_of_length_le zat0]) ?_))
 refine a_freezeK 5 ⟨⟨_, _, _, rfl⟩, ⟨_, _, _, rfl⟩, trivial⟩ rfl rfl rfl ?_
 refine ar (om rfl ?_)
 refine qq0 (qqn (v := .tup [.agg [.sl _, .p _], .p _]) (hp1 := []) [] false [] ent191 (f_clauseSpec (negL D) (asc_negL h)) ⟨.inl ⟨rfl, rfl⟩, trivial⟩ trivial rfl rfl (fun h => by cases h) rfl (fun _ h => by cases h) (.inl rfl) rfl rfl) ?_
 refine om rfl (qqa (qqt rfl rfl) (qqa (qqt rfl rfl) (qqv (fun ver => qjd qjm rfl) fun v7x6 => ?_)))
 refine qjg (qqe qq7 rfl rfl rfl rfl rfl rfl) ?_
 refine oa rfl (on (a_mvB (i := 0) 1010 0 1001 (by decide) (by decide) rfl rfl rfl rfl fun v1001x7 => ?_))
 try dsimp only [List.set]
 refine a_mvB (i := 1) 1010 1 1002 (by decide) (by decide) rfl rfl rfl rfl fun v1002x8 => ?_
 try dsimp only [List.set]
 refine rs (qqa (qqi fld162f0 rfl rfl) (qqa (qqc qzn rfl rfl rfl) (qqa (qqg (ys := [.sl _, .p _]) qq7 rfl rfl rfl (nb rfl)) (qqv (fun ver => qqh (parts := [(0, .tmp 31)]) (es := [[_, _]]) qj7 qjm rfl rfl (by decide) (by decide) rfl rfl (by simp) rfl) fun v32x9 => ?_))))
 refine qqv (fun ver => qqs qj7 qjm rfl rfl rfl rfl rfl rfl (by rw [qqu]; first | omega | (simp only [nr, nl, qjc]; omega)) zat0) fun v1001x10 => ?_
 refine qqa (qqi fld162f0 rfl rfl) (qjg (qq5 qzn rfl rfl (nb rfl) (evo rfl) rfl) ?_)
 refine on (rs (qqa (qqi fld162f1 rfl rfl) (qqa (qqc leaf34 rfl rfl rfl) (qqa (qqg (ys := [.sl _, .p _]) qq7 rfl rfl rfl (nb rfl)) (qqa (qjp (parts := [(0, .const (.int .i64 7)), (3, .tmp 37)]) str89 qzs rfl rfl) ?_)))))
 refine qqv (fun ver => qqh (parts := [(0, .tmp 38)]) (es := [[_, _, _, _, _]]) qxa qzs rfl rfl (by decide) (by decide) rfl rfl (by simp) rfl) fun v39x11 => ?_
 refine qqv (fun ver => qqs qxa qzs rfl rfl rfl rfl rfl rfl (by rw [qqu]; first | omega | (simp only [nr, nl, qjc]; omega)) zat0) fun v1002x12 => ?_
 refine qqa (qqi fld162f1 rfl rfl) (qjg (qq5 leaf34 rfl rfl (nb rfl) (evo rfl) rfl) ?_)
 refine on (rs (qqa (qqg (ys := [.own 1001 v1001x10, .own 1002 v1002x12, .p _]) qj1 rfl rfl rfl (nb rfl)) (qjg (qqe qj1 rfl rfl rfl rfl rfl rfl) ?_)))
 refine on (qqx ?_)
 exact ⟨[.agg [.own 1001 v1001x10, .own 1002 v1002x12, .p _]], .agg [.own 2 0, .own 3 0, .p _], [.gone, .gone], [.row 69 2 _, .row 89 5 _], [(1001, v1001x10), (1002, v1002x12)], ⟨⟨_, _, _, _, rfl, rfl, qj1, rfl⟩, trivial⟩, rfl, rfl, ⟨⟨rfl, rfl⟩, ⟨rfl, rfl⟩, ⟨rfl, rfl⟩, ⟨rfl, rfl⟩, trivial⟩, rfl, rfl, ⟨rfl, rfl, by rw [dSt_snoc, List.map_append]; rfl⟩⟩
theorem f_l5LearnO (A S : List Con) (fu : Int) (D : List Int) (h : asc D) (hA : A.length ≤ 2000) (hS : S.length ≤ 2000) : Fn Tryz.prog 187 [.agg [.own 0 0, .own 1 0, .p (.int .i64 fu)], .own 2 0] [.row 69 2 ((A).map dC), .row 89 5 ((S).map dSt), .row 3 1 (D.map dI)] (fun rr ii nn => rr = .agg [.own 3 0, .own 4 0, .p (.int .i64 fu)] ∧ ii = [.gone, .gone, .row 3 1 (D.map dI)] ∧ nn = [.row 69 2 ((A ++ [cle D]).map dC), .row 89 5 ((S ++ [cle D]).map dSt)]) := by
 refine qjl Tryz.func187 rfl (nb rfl) fun w X g => ?_
 show AWp _ _ _ ⟨[(0, .agg [.own 0 0, .own 1 0, .p (.int .i64 fu)]), (1, .own 2 0)], [(0, some (0, .row 69 2 ((A).map dC))), (1, some (0, .row 89 5 ((S).map dSt))), (2, some (0, .row 3 1 (D.map dI)))]⟩
 have hl12 := asc_len h
 have hcl := cle_len h
 refine rs (qqv (fun ver => j_boxaI 1010 rfl) fun v1010x1 => ?_)
 refine qqv (fun ver => qjd elt162 rfl) fun v4x2 => ?_
 refine on (rs (qqv (fun ver => qzh qjb elt3 rfl rfl (by decide)) fun v9x3 => ?_))
 refine oa rfl (on (qqf (rs (oa rfl (on (qqk (qq4 (ι := Nat × Nat) (fun x => x.1 ≤ D.length) (fun x r => (6, .p (.int .i64 ((x.1 : Nat)))) :: (5, .own 9 x.2) :: r) (fun x r => (9, some (x.2, .row 3 1 ((negL (D.take x.1)).map dI))) :: r) (fun x => D.length - x.1) (fun _ _ => rfl) (fun _ _ => rfl) (0, v9x3) (by first | exact (Nat.zero_le _) | (dsimp only; exact (Nat.zero_le _))) ⟨⟨rfl, rfl⟩, ⟨rfl, rfl, trivial⟩, ⟨rfl, trivial⟩, ⟨rfl, rfl⟩, ⟨rfl, rfl⟩⟩ ?_)))))))
 rintro ⟨k, v⟩ hk; dsimp only at hk ⊢
 refine qqf (rs (om rfl (om rfl (qqa (qja Tryz.underlying23 rfl rfl) (qqa (qzt rfl rfl) (on (ac rfl (fun h1 => ?_) fun h1 => ?_)))))))
 ·
  have h1r := h1
  try simp only [nq, nr, nl, qjc] at h1
  refine qqo (qqf (qqk ?_))
  have hli := litOk_iff.1 (asc_at h (k := k) zat0)
  refine ar (om rfl (om rfl (om rfl (qqa (qq2 qjb rfl rfl rfl rfl zat0) (qqa (qjo qq6 rfl rfl (qqq zat0) rfl) (qqa (j_neg rfl zat0 zat0) (qqv (fun ver => qqh (parts := [(0, .tmp 21)]) (es := [[_]]) qjb elt3 rfl rfl (by decide) (by decide) rfl rfl (by simp) rfl) fun v22x4 => ?_)))))))
  refine qqv (fun ver => qqs qjb elt3 rfl rfl rfl rfl rfl rfl (by rw [qqu]; first | omega | (simp only [nr, nl, qjc]; omega)) zat0) fun v9x5 => ?_
  refine oa rfl (on (ar (om rfl (qqa (qjh rfl rfl zat0 zat0) (oa rfl (on ?_))))))
  exact ⟨(k + 1, v9x5), (by first | exact zat0 | (dsimp only; exact zat0)), ⟨⟨rfl, rfl⟩, ⟨rfl, rfl, trivial⟩, ⟨qj0 (by dsimp only; rw [negL_take zat0, List.map_append]; rfl), trivial⟩, ⟨rfl, rfl⟩, ⟨rfl, rfl⟩⟩, (by first | exact zat0 | (dsimp only; exact zat0))⟩
 have h1r := h1
 try simp only [nq, nr, nl, qjc] at h1
 refine qjf (qqf (a_row 9 (es' := (negL D).map dI) rfl (by rw [List.take_of_length_le zat0]) ?_))
 refine a_freezeK 5 ⟨⟨_, _, _, rfl⟩, ⟨_, _, _, rfl⟩, ⟨_, _, _, rfl⟩, trivial⟩ rfl rfl rfl ?_
 refine ar (om rfl ?_)
 refine qq0 (qqn (v := .tup [.agg [.sl _, .p _], .p _]) (hp1 := []) [] false [] ent191 (f_clauseSpec (negL D) (asc_negL h)) ⟨.inl ⟨rfl, rfl⟩, trivial⟩ trivial rfl rfl (fun h => by cases h) rfl (fun _ h => by cases h) (.inl rfl) rfl rfl) ?_
 refine om rfl (qqa (qqt rfl rfl) (qqa (qqt rfl rfl) (qqv (fun ver => qjd qjm rfl) fun v7x6 => ?_)))
 refine qjg (qqe qq7 rfl rfl rfl rfl rfl rfl) ?_
 refine oa rfl (on (a_mvB (i := 0) 1010 0 1001 (by decide) (by decide) rfl rfl rfl rfl fun v1001x7 => ?_))
 try dsimp only [List.set]
 refine a_mvB (i := 1) 1010 1 1002 (by decide) (by decide) rfl rfl rfl rfl fun v1002x8 => ?_
 try dsimp only [List.set]
 refine rs (qqa (qqi fld162f0 rfl rfl) (qqa (qqc qzn rfl rfl rfl) (qqa (qqg (ys := [.sl _, .p _]) qq7 rfl rfl rfl (nb rfl)) (qqv (fun ver => qqh (parts := [(0, .tmp 31)]) (es := [[_, _]]) qj7 qjm rfl rfl (by decide) (by decide) rfl rfl (by simp) rfl) fun v32x9 => ?_))))
 refine qqv (fun ver => qqs qj7 qjm rfl rfl rfl rfl rfl rfl (by rw [qqu]; first | omega | (simp only [nr, nl, qjc]; omega)) zat0) fun v1001x10 => ?_
 refine qqa (qqi fld162f0 rfl rfl) (qjg (qq5 qzn rfl rfl (nb rfl) (evo rfl) rfl) ?_)
 refine on (rs (qqa (qqi fld162f1 rfl rfl) (qqa (qqc leaf34 rfl rfl rfl) (qqa (qqg (ys := [.sl _, .p _]) qq7 rfl rfl rfl (nb rfl)) (qqa (qjp (parts := [(0, .const (.int .i64 7)), (3, .tmp 37)]) str89 qzs rfl rfl) ?_)))))
 refine qqv (fun ver => qqh (parts := [(0, .tmp 38)]) (es := [[_, _, _, _, _]]) qxa qzs rfl rfl (by decide) (by decide) rfl rfl (by simp) rfl) fun v39x11 => ?_
 refine qqv (fun ver => qqs qxa qzs rfl rfl rfl rfl rfl rfl (by rw [qqu]; first | omega | (simp only [nr, nl, qjc]; omega)) zat0) fun v1002x12 => ?_
 refine qqa (qqi fld162f1 rfl rfl) (qjg (qq5 leaf34 rfl rfl (nb rfl) (evo rfl) rfl) ?_)
 refine on (rs (qqa (qqg (ys := [.own 1001 v1001x10, .own 1002 v1002x12, .p _]) qj1 rfl rfl rfl (nb rfl)) (qjg (qqe qj1 rfl rfl rfl rfl rfl rfl) ?_)))
 refine on (qqx ?_)
 exact ⟨[.agg [.own 1001 v1001x10, .own 1002 v1002x12, .p _]], .agg [.own 3 0, .own 4 0, .p _], [.gone, .gone, .row 3 1 _], [.row 69 2 _, .row 89 5 _], [(1001, v1001x10), (1002, v1002x12)], ⟨⟨_, _, _, _, rfl, rfl, qj1, rfl⟩, trivial⟩, rfl, rfl, ⟨⟨rfl, rfl⟩, ⟨rfl, rfl⟩, ⟨rfl, rfl⟩, ⟨rfl, rfl⟩, ⟨rfl, rfl⟩, trivial⟩, rfl, rfl, ⟨rfl, rfl, by rw [dSt_snoc, List.map_append]; rfl⟩⟩
end Go.Ab

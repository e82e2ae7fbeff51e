/- Walks. -/
import Derived.Test.YtoodaakcfelaaaaGreatBase
import Derived.Test.YtoodaakcfelaaaaGreatPf2
import Derived.Test.YtoodaakcfelaaaaGreatWsclof
import Derived.Test.YtoodaakcfelaaaaGreatWstight
import Derived.Test.YtoodaakcfelaaaaGreatSimp
import Derived.Test.YtoodaakcfelaaaaGreatWsfix
import Derived.Test.YtoodaakcfelaaaaGreatWsdraw
import Derived.Test.YtoodaakcfelaaaaGreatWscons
import Derived.Test.YtoodaakcfelaaaaGreatVals
import Derived.Test.YtoodaakcfelaaaaGreatWstab
import Derived.Test.YtoodaakcfelaaaaGreatWsrup
namespace Go.Ab
open Go.Proofs
set_option maxRecDepth 100000
set_option maxHeartbeats 8000000
set_option linter.unusedSimpArgs false
set_option linter.unusedVariables false
theorem zao0 {p : Prop} (h : p := by first | omega | (simp only [nr, nl, negL_len]; omega)) : p := h
theorem zao1 {p : Prop} (h : p := by first | omega | (simp only [nr, nl, valP_len]; omega)) : p := h
theorem f_ownF (c : Con) (hc : c.1.length ≤ 1048576) : Fn Tryz.prog 189 [.agg [.sl (c.1.map dT), .p (.int .i64 c.2)]] [] (fun rr ii nn => rr = .agg [.sl (c.1.map dT), .p (.int .i64 c.2)] ∧ ii = [] ∧ nn = []) := by
 refine qjm Tryz.func189 rfl (nb rfl) fun w X g => ?_
 show AWp _ _ _ ⟨[(0, .agg [.sl (c.1.map dT), .p (.int .i64 c.2)])], []⟩
 refine rs (qq5 (fun ver => qj3 rfl) fun v1x1 => ?_)
 refine qq5 (fun ver => qjv qz5 rfl) fun v2x2 => ?_
 refine on (rs (qqa (qqi fld69f0 rfl rfl) (qqa (qqc leaf67 rfl rfl rfl) ?_)))
 refine qj9 (fun ver => qj8 (v := .own 5 ver) (hp1 := [(5, some (ver, .row 135 2 _))]) [] false [] ent231 (f_clone c.1 hc) ⟨.inl ⟨rfl, rfl⟩, trivial⟩ trivial rfl rfl rfl (fun h => by cases h) rfl (List.all_eq_true.1 rfl) (.inl rfl) rfl rfl) fun v5x3 => ?_
 refine qqa (qqi fld69f0 rfl rfl) (qjo (qje leaf67 rfl rfl (nb rfl) (evo rfl) rfl) ?_)
 refine on (qqe (qjf 0 1 (by decide) trivial rfl rfl rfl rfl ?_))
 try dsimp only [List.set]
 refine ar (qqa (qqk (ys := [.sl _, .p _]) qzn rfl rfl rfl (nb rfl)) (qjo (qqs qzn rfl rfl rfl rfl rfl rfl) ?_))
 refine on (qqm ?_)
 exact ⟨[.agg [.sl _, .p _]], .agg [.sl _, .p _], [], [], [], ⟨⟨_, _, _, _, rfl, rfl, qzn, rfl⟩, trivial⟩, rfl, rfl, trivial, rfl, rfl, ⟨rfl, rfl, rfl⟩⟩
theorem f_isFuel (n : Int) : Fn Tryz.prog 73 [.p (.int .i64 (n))] [] (fun rr ii nn => rr = .p (.bool (decide (0 ≤ n ∧ n ≤ 2000))) ∧ ii = [] ∧ nn = []) := by
 refine qjm Tryz.func73 rfl (nb rfl) fun w X g => ?_
 show AWp _ _ _ ⟨[(0, .p (.int .i64 (n)))], []⟩
 refine rs (oa rfl (on (rs (om rfl ?_))))
 refine qq3 (qqn (v := .p _) (hp1 := []) [] false [] ent113 (qxa n 0 2000) ⟨.inl ⟨rfl, rfl⟩, .inl ⟨rfl, rfl⟩, .inl ⟨rfl, rfl⟩, trivial⟩ trivial rfl rfl (fun h => by cases h) rfl (fun _ h => by cases h) (.inl rfl) rfl rfl) ?_
 refine oa rfl (on (qqm ?_))
 exact qq8 rfl ⟨rfl, rfl, rfl⟩
theorem f_valuesOf (p : List Int) (hp : p.length = 12) : Fn Tryz.prog 183 [.sl (p.map dI)] [] (fun rr ii nn => rr = .tup [.own 0 0, .p (.int .i64 (freeV p : Nat)), .p (.bool (decide (freeV p = 0)))] ∧ ii = [] ∧ nn = [.row 4 1 ((valO p).map dB)]) := by
 refine qjm Tryz.func183 rfl (nb rfl) fun w X g => ?_
 show AWp _ _ _ ⟨[(0, .sl (p.map dI))], []⟩
 refine rs (oa rfl (oa rfl (oa rfl (on (qjt 2 2 4 1 rfl fun v2 => ?_)))))
 refine rs (oa rfl (on (qjt 5 5 4 1 rfl fun v5 => ?_)))
 refine qqe (rs (om rfl (qqa (qqg Tryz.underlying23 rfl) (om rfl (on (qqf (qqr (ι := Nat × Nat) (fun x => x.1 ≤ p.length ∧ ∀ i, i < x.1 → p.getD i default ≠ 0) (fun x r => (10, .p (.int .i64 ((x.1 : Nat)))) :: (5, .own 5 x.2) :: r) (fun x r => (5, some (x.2, .row 4 1 ((valP (p.take x.1)).map dB))) :: r) (fun x => p.length - x.1) (fun _ _ => rfl) (fun _ _ => rfl) (0, v5) (by first | exact ⟨Nat.zero_le _, fun i h => absurd h (Nat.not_lt_zero i)⟩ | (dsimp only; exact ⟨Nat.zero_le _, fun i h => absurd h (Nat.not_lt_zero i)⟩)) ⟨⟨rfl, rfl⟩, ⟨rfl, rfl, trivial⟩, ⟨rfl, trivial⟩, ⟨rfl, rfl⟩, ⟨rfl, rfl⟩⟩ ?_)))))))
 rintro ⟨k, v⟩ hk; dsimp only at hk ⊢
 refine rs (qqa (qzb rfl rfl) (on (qqe (ac rfl (fun h1 => ?_) fun h1 => ?_))))
 ·
  have h1r := h1
  try simp only [nq, nr, nl, valP_len] at h1
  refine qqj (qqe (qqf (rs (om rfl (qqa (qqy qqz rfl rfl rfl (qqh zao1) rfl) (qqa (qqp qq2 rfl (qqh zao1) rfl) (oa rfl (oa rfl (on (qqe (rs (om rfl (qqa (qz4 rfl rfl) ?_)))))))))))))
  refine on (ac rfl (fun h2 => ?_) fun h2 => ?_)
  ·
   have h2r := h2
   try simp only [nq, nr, nl, valP_len] at h2
   refine rs (om rfl (qqa (qjh rfl rfl zao1 zao1) (oa rfl (oa rfl (oa rfl (on (qjt 2 2 4 1 rfl fun v2 => ?_)))))))
   refine qqm ?_
   have hfv := freeV_hit (p := p) (k := k) (by omega) (by assumption) hk.2
   exact ⟨[.own 2 v2, .p _, .p _], .tup [.own 0 0, .p _, .p _], [], [.row 4 1 _], [(2, v2)], ⟨rfl, rfl, rfl, trivial⟩, rfl, rfl, ⟨⟨rfl, rfl⟩, trivial⟩, rfl, rfl, ⟨by rw [hfv]; rfl, rfl, by rw [valO_n (by omega)]; rfl⟩⟩
  have h2r := h2
  try simp only [nq, nr, nl, valP_len] at h2
  refine qqj (ar (om rfl (om rfl (qqa (j_gt rfl rfl) (qq5 (fun ver => qqw (parts := [(0, .tmp 21)]) (es := [[_]]) slt44 elt4 rfl rfl (by decide) (by decide) rfl rfl (by simp) rfl) fun v22x1 => ?_)))))
  refine qq5 (fun ver => qq6 slt44 elt4 rfl rfl rfl rfl rfl rfl (by rw [qq0]; first | omega | (simp only [nr, nl, valP_len]; omega)) zao1) fun v5x2 => ?_
  refine oa rfl (on (ar (qqa (qjh rfl rfl zao1 zao1) (om rfl (on ?_)))))
  exact ⟨(k + 1, v5x2), (by first | exact ⟨by omega, fun i hi => by rcases Nat.lt_succ_iff_lt_or_eq.1 hi with q | q; (· exact hk.2 i q); (· subst q; assumption)⟩ | (dsimp only; exact ⟨by omega, fun i hi => by rcases Nat.lt_succ_iff_lt_or_eq.1 hi with q | q; (· exact hk.2 i q); (· subst q; assumption)⟩)), ⟨⟨rfl, rfl⟩, ⟨rfl, rfl, trivial⟩, ⟨qza (by dsimp only; rw [valP_next (by omega), List.map_append]; rfl), trivial⟩, ⟨rfl, rfl⟩, ⟨rfl, rfl⟩⟩, (by first | exact zao1 | (dsimp only; exact zao1))⟩
 have h1r := h1
 try simp only [nq, nr, nl, valP_len] at h1
 refine qja (rs (om rfl (oa rfl (oa rfl (oa rfl (on (qqm ?_)))))))
 have hfv := freeV_none (p := p) (fun i hi => hk.2 i (by omega))
 exact ⟨[.own 5 v, .p _, .p _], .tup [.own 0 0, .p _, .p _], [], [.row 4 1 _], [(5, v)], ⟨rfl, rfl, rfl, trivial⟩, rfl, rfl, ⟨⟨rfl, rfl⟩, trivial⟩, rfl, rfl, ⟨by rw [hfv]; rfl, rfl, by rw [valO_y hfv, List.take_of_length_le (by omega)]⟩⟩
theorem f_failS (A S : List Con) (fu : Int) (mu : Bool) (D : List Int) (h : asc D) (hA : A.length ≤ 2000) (hS : S.length ≤ 2000) : Fn Tryz.prog 184 [.ptr 0 0 0, .sl (D.map dI)] [.box 158 [.own 1 0, .p (.int .i64 (fu)), .own 2 0, .p (.bool (mu))], .row 69 2 ((A).map dC), .row 89 5 ((S).map dSt)] (fun rr ii nn => rr = .tup [] ∧ ii = [.box 158 [.own 3 0, .p (.int .i64 (fu)), .own 4 0, .p (.bool (mu))], .gone, .gone] ∧ nn = [.row 69 2 ((A ++ [cle D]).map dC), .row 89 5 ((S ++ [cle D]).map dSt)]) := by
 refine qjm Tryz.func184 rfl (nb rfl) fun w X g => ?_
 show AWp _ _ _ ⟨[(0, .ptr 0 0 0), (1, .sl (D.map dI))], [(0, some (0, .box 158 [.own 1 0, .p (.int .i64 (fu)), .own 2 0, .p (.bool (mu))])), (1, some (0, .row 69 2 ((A).map dC))), (2, some (0, .row 89 5 ((S).map dSt)))]⟩
 have hl12 := asc_len h
 have hcl := cle_len h
 refine rs (oa rfl (on (qjt 4 4 3 1 rfl fun v4 => ?_)))
 refine qqe (rs (om rfl (qqa (qqg Tryz.underlying23 rfl) (om rfl (on (qqf (qqr (ι := Nat × Nat) (fun x => x.1 ≤ D.length) (fun x r => (11, .p (.int .i64 ((x.1 : Nat)))) :: (4, .own 4 x.2) :: r) (fun x r => (4, some (x.2, .row 3 1 ((negL (D.take x.1)).map dI))) :: r) (fun x => D.length - x.1) (fun _ _ => rfl) (fun _ _ => rfl) (0, v4) (by first | exact (Nat.zero_le _) | (dsimp only; exact (Nat.zero_le _))) ⟨⟨rfl, rfl⟩, ⟨rfl, rfl, trivial⟩, ⟨rfl, trivial⟩, ⟨rfl, rfl⟩, ⟨rfl, rfl⟩⟩ ?_)))))))
 rintro ⟨k, v⟩ hk; dsimp only at hk ⊢
 refine rs (qqa (qzb rfl rfl) (on (qqe (ac rfl (fun h1 => ?_) fun h1 => ?_))))
 ·
  have h1r := h1
  try simp only [nq, nr, nl, negL_len] at h1
  refine qqj (qqe (qqf (rs (qqa (qqy qqz rfl rfl rfl (qqh zao0) rfl) (qqa (qqp qq2 rfl (qqh zao0) rfl) (oa rfl (on ?_)))))))
  have hli := litOk_iff.1 (asc_at h (k := k) zao0)
  refine ar (om rfl (om rfl (qqa (j_neg rfl zao0 zao0) (qq5 (fun ver => qqw (parts := [(0, .tmp 17)]) (es := [[_]]) qqz qz7 rfl rfl (by decide) (by decide) rfl rfl (by simp) rfl) fun v18x1 => ?_))))
  refine qq5 (fun ver => qq6 qqz qz7 rfl rfl rfl rfl rfl rfl (by rw [qq0]; first | omega | (simp only [nr, nl, negL_len]; omega)) zao0) fun v4x2 => ?_
  refine oa rfl (on (ar (qqa (qjh rfl rfl zao0 zao0) (om rfl (on ?_)))))
  exact ⟨(k + 1, v4x2), (by first | exact zao0 | (dsimp only; exact zao0)), ⟨⟨rfl, rfl⟩, ⟨rfl, rfl, trivial⟩, ⟨qza (by dsimp only; rw [negL_take zao0, List.map_append]; rfl), trivial⟩, ⟨rfl, rfl⟩, ⟨rfl, rfl⟩⟩, (by first | exact zao0 | (dsimp only; exact zao0))⟩
 have h1r := h1
 try simp only [nq, nr, nl, negL_len] at h1
 refine qja (qqe (a_row 4 (es' := (negL D).map dI) rfl (by rw [List.take_of_length_le zao0]) ?_))
 refine qj4 4 ⟨⟨_, _, rfl⟩, ⟨_, _, _, rfl⟩, ⟨_, _, _, rfl⟩, trivial⟩ rfl rfl rfl ?_
 refine ar (om rfl ?_)
 refine qq3 (qqn (v := .tup [.agg [.sl _, .p _], .p _]) (hp1 := []) [] false [] ent42 (f_clauseImpl (negL D) (asc_negL h)) ⟨.inl ⟨rfl, rfl⟩, trivial⟩ trivial rfl rfl (fun h => by cases h) rfl (fun _ h => by cases h) (.inl rfl) rfl rfl) ?_
 refine om rfl (qqa (qjg rfl rfl) (qqa (qjg rfl rfl) (qq5 (fun ver => qjv qz5 rfl) fun v7x3 => ?_)))
 refine qjo (qqs qzn rfl rfl rfl rfl rfl rfl) ?_
 refine oa rfl (on (a_mvB (i := 1) 0 0 1001 (by decide) (by decide) rfl rfl rfl rfl fun v1001x4 => ?_))
 try dsimp only [List.set]
 refine a_mvB (i := 2) 0 2 1002 (by decide) (by decide) rfl rfl rfl rfl fun v1002x5 => ?_
 try dsimp only [List.set]
 refine qqe (qjz qzj (by kernel_rfl) (by kernel_rfl) fun vf => ?_)
 refine qqq (qql (evo rfl)) (qqq (qql (evo rfl)) (qqq (qjk rfl rfl) (qqq (qqi fld158f0 rfl rfl) (qqq (qqc leaf30 rfl rfl rfl) (qqq (qqk (ys := [.sl _, .p _]) qzn rfl rfl rfl (nb rfl)) (d_n' (fun ver => qqw (parts := [(0, .tmp 31)]) (es := [[_, _]]) slt30 qz5 rfl rfl (by decide) (by decide) rfl rfl (by simp) rfl) ?_))))))
 refine d_n' (fun ver => qq6 slt30 qz5 rfl rfl rfl rfl rfl rfl (by rw [qq0]; first | omega | (simp only [nr, nl, negL_len]; omega)) zao0) ?_
 refine qqq (qjk rfl rfl) (qqq (qqi fld158f0 rfl rfl) (d_s' (qje leaf30 rfl rfl (nb rfl) (evo rfl) rfl) ?_))
 refine qze (by kernel_rfl) (by kernel_rfl) ?_
 refine qjz qzj (by kernel_rfl) (by kernel_rfl) fun vf8 => ?_
 refine qqq (qql (evo rfl)) (qqq (qql (evo rfl)) (qqq (qjk rfl rfl) (qqq (qqi fld158f2 rfl rfl) (qqq (qqc leaf34 rfl rfl rfl) (qqq (qqk (ys := [.sl _, .p _]) qzn rfl rfl rfl (nb rfl)) ?_)))))
 refine d_v0' (qqn (v := .agg [.sl _, .p _]) (hp1 := []) [] false [] ent189 (f_ownF (cle D) (by omega)) ⟨.inl ⟨rfl, rfl⟩, trivial⟩ trivial rfl rfl (fun h => by cases h) rfl (fun _ h => by cases h) (.inl rfl) rfl rfl) ?_
 refine qqq (qzu (parts := [(0, .const (.int .i64 7)), (3, .tmp 42)]) str89 elt89 rfl rfl) ?_
 refine d_n' (fun ver => qqw (parts := [(0, .tmp 43)]) (es := [[_, _, _, _, _]]) slt34 elt89 rfl rfl (by decide) (by decide) rfl rfl (by simp) rfl) ?_
 refine d_n' (fun ver => qq6 slt34 elt89 rfl rfl rfl rfl rfl rfl (by rw [qq0]; first | omega | (simp only [nr, nl, negL_len]; omega)) zao0) ?_
 refine qqq (qjk rfl rfl) (qqq (qqi fld158f2 rfl rfl) (d_s' (qje leaf34 rfl rfl (nb rfl) (evo rfl) rfl) ?_))
 refine qze (by kernel_rfl) (by kernel_rfl) ?_
 exact ⟨[], .tup [], [.box 158 [.own 3 0, .p _, .own 4 0, .p _], .gone, .gone], [.row 69 2 _, .row 89 5 _], [(1001, (vf 1001)), (1002, (vf8 1002))], trivial, rfl, rfl, ⟨⟨rfl, rfl⟩, ⟨rfl, rfl⟩, ⟨rfl, rfl⟩, ⟨rfl, rfl⟩, ⟨rfl, rfl⟩, trivial⟩, rfl, rfl, ⟨rfl, rfl, by rw [dSt_snoc, List.map_append]; rfl⟩⟩
theorem f_failO (A S : List Con) (fu : Int) (mu : Bool) (D : List Int) (h : asc D) (hA : A.length ≤ 2000) (hS : S.length ≤ 2000) : Fn Tryz.prog 184 [.ptr 0 0 0, .own 3 0] [.box 158 [.own 1 0, .p (.int .i64 (fu)), .own 2 0, .p (.bool (mu))], .row 69 2 ((A).map dC), .row 89 5 ((S).map dSt), .row 3 1 (D.map dI)] (fun rr ii nn => rr = .tup [] ∧ ii = [.box 158 [.own 4 0, .p (.int .i64 (fu)), .own 5 0, .p (.bool (mu))], .gone, .gone, .row 3 1 (D.map dI)] ∧ nn = [.row 69 2 ((A ++ [cle D]).map dC), .row 89 5 ((S ++ [cle D]).map dSt)]) := by
 refine qjm Tryz.func184 rfl (nb rfl) fun w X g => ?_
 show AWp _ _ _ ⟨[(0, .ptr 0 0 0), (1, .own 3 0)], [(0, some (0, .box 158 [.own 1 0, .p (.int .i64 (fu)), .own 2 0, .p (.bool (mu))])), (1, some (0, .row 69 2 ((A).map dC))), (2, some (0, .row 89 5 ((S).map dSt))), (3, some (0, .row 3 1 (D.map dI)))]⟩
 have hl12 := asc_len h
 have hcl := cle_len h
 refine rs (oa rfl (on (qjt 4 4 3 1 rfl fun v4 => ?_)))
 refine qqe (rs (om rfl (qqa (qq7 Tryz.underlying23 rfl rfl) (om rfl (on (qqf (qqr (ι := Nat × Nat) (fun x => x.1 ≤ D.length) (fun x r => (11, .p (.int .i64 ((x.1 : Nat)))) :: (4, .own 4 x.2) :: r) (fun x r => (4, some (x.2, .row 3 1 ((negL (D.take x.1)).map dI))) :: r) (fun x => D.length - x.1) (fun _ _ => rfl) (fun _ _ => rfl) (0, v4) (by first | exact (Nat.zero_le _) | (dsimp only; exact (Nat.zero_le _))) ⟨⟨rfl, rfl⟩, ⟨rfl, rfl, trivial⟩, ⟨rfl, trivial⟩, ⟨rfl, rfl⟩, ⟨rfl, rfl⟩⟩ ?_)))))))
 rintro ⟨k, v⟩ hk; dsimp only at hk ⊢
 refine rs (qqa (qzb rfl rfl) (on (qqe (ac rfl (fun h1 => ?_) fun h1 => ?_))))
 ·
  have h1r := h1
  try simp only [nq, nr, nl, negL_len] at h1
  refine qqj (qqe (qqf (rs (qqa (qqo qqz rfl rfl rfl rfl zao0) (qqa (qjd qq2 rfl rfl (qqh zao0) rfl) (oa rfl (on ?_)))))))
  have hli := litOk_iff.1 (asc_at h (k := k) zao0)
  refine ar (om rfl (om rfl (qqa (j_neg rfl zao0 zao0) (qq5 (fun ver => qqw (parts := [(0, .tmp 17)]) (es := [[_]]) qqz qz7 rfl rfl (by decide) (by decide) rfl rfl (by simp) rfl) fun v18x1 => ?_))))
  refine qq5 (fun ver => qq6 qqz qz7 rfl rfl rfl rfl rfl rfl (by rw [qq0]; first | omega | (simp only [nr, nl, negL_len]; omega)) zao0) fun v4x2 => ?_
  refine oa rfl (on (ar (qqa (qjh rfl rfl zao0 zao0) (om rfl (on ?_)))))
  exact ⟨(k + 1, v4x2), (by first | exact zao0 | (dsimp only; exact zao0)), ⟨⟨rfl, rfl⟩, ⟨rfl, rfl, trivial⟩, ⟨qza (by dsimp only; rw [negL_take zao0, List.map_append]; rfl), trivial⟩, ⟨rfl, rfl⟩, ⟨rfl, rfl⟩⟩, (by first | exact zao0 | (dsimp only; exact zao0))⟩
 have h1r := h1
 try simp only [nq, nr, nl, negL_len] at h1
 refine qja (qqe (a_row 4 (es' := (negL D).map dI) rfl (by rw [List.take_of_length_le zao0]) ?_))
 refine qj4 4 ⟨⟨_, _, rfl⟩, ⟨_, _, _, rfl⟩, ⟨_, _, _, rfl⟩, ⟨_, _, _, rfl⟩, trivial⟩ rfl rfl rfl ?_
 refine ar (om rfl ?_)
 refine qq3 (qqn (v := .tup [.agg [.sl _, .p _], .p _]) (hp1 := []) [] false [] ent42 (f_clauseImpl (negL D) (asc_negL h)) ⟨.inl ⟨rfl, rfl⟩, trivial⟩ trivial rfl rfl (fun h => by cases h) rfl (fun _ h => by cases h) (.inl rfl) rfl rfl) ?_
 refine om rfl (qqa (qjg rfl rfl) (qqa (qjg rfl rfl) (qq5 (fun ver => qjv qz5 rfl) fun v7x3 => ?_)))
 refine qjo (qqs qzn rfl rfl rfl rfl rfl rfl) ?_
 refine oa rfl (on (a_mvB (i := 1) 0 0 1001 (by decide) (by decide) rfl rfl rfl rfl fun v1001x4 => ?_))
 try dsimp only [List.set]
 refine a_mvB (i := 2) 0 2 1002 (by decide) (by decide) rfl rfl rfl rfl fun v1002x5 => ?_
 try dsimp only [List.set]
 refine qqe (qjz qzj (by kernel_rfl) (by kernel_rfl) fun vf => ?_)
 refine qqq (qql (evo rfl)) (qqq (qql (evo rfl)) (qqq (qjk rfl rfl) (qqq (qqi fld158f0 rfl rfl) (qqq (qqc leaf30 rfl rfl rfl) (qqq (qqk (ys := [.sl _, .p _]) qzn rfl rfl rfl (nb rfl)) (d_n' (fun ver => qqw (parts := [(0, .tmp 31)]) (es := [[_, _]]) slt30 qz5 rfl rfl (by decide) (by decide) rfl rfl (by simp) rfl) ?_))))))
 refine d_n' (fun ver => qq6 slt30 qz5 rfl rfl rfl rfl rfl rfl (by rw [qq0]; first | omega | (simp only [nr, nl, negL_len]; omega)) zao0) ?_
 refine qqq (qjk rfl rfl) (qqq (qqi fld158f0 rfl rfl) (d_s' (qje leaf30 rfl rfl (nb rfl) (evo rfl) rfl) ?_))
 refine qze (by kernel_rfl) (by kernel_rfl) ?_
 refine qjz qzj (by kernel_rfl) (by kernel_rfl) fun vf8 => ?_
 refine qqq (qql (evo rfl)) (qqq (qql (evo rfl)) (qqq (qjk rfl rfl) (qqq (qqi fld158f2 rfl rfl) (qqq (qqc leaf34 rfl rfl rfl) (qqq (qqk (ys := [.sl _, .p _]) qzn rfl rfl rfl (nb rfl)) ?_)))))
 refine d_v0' (qqn (v := .agg [.sl _, .p _]) (hp1 := []) [] false [] ent189 (f_ownF (cle D) (by omega)) ⟨.inl ⟨rfl, rfl⟩, trivial⟩ trivial rfl rfl (fun h => by cases h) rfl (fun _ h => by cases h) (.inl rfl) rfl rfl) ?_
 refine qqq (qzu (parts := [(0, .const (.int .i64 7)), (3, .tmp 42)]) str89 elt89 rfl rfl) ?_
 refine d_n' (fun ver => qqw (parts := [(0, .tmp 43)]) (es := [[_, _, _, _, _]]) slt34 elt89 rfl rfl (by decide) (by decide) rfl rfl (by simp) rfl) ?_
 refine d_n' (fun ver => qq6 slt34 elt89 rfl rfl rfl rfl rfl rfl (by rw [qq0]; first | omega | (simp only [nr, nl, negL_len]; omega)) zao0) ?_
 refine qqq (qjk rfl rfl) (qqq (qqi fld158f2 rfl rfl) (d_s' (qje leaf34 rfl rfl (nb rfl) (evo rfl) rfl) ?_))
 refine qze (by kernel_rfl) (by kernel_rfl) ?_
 exact ⟨[], .tup [], [.box 158 [.own 4 0, .p _, .own 5 0, .p _], .gone, .gone, .row 3 1 _], [.row 69 2 _, .row 89 5 _], [(1001, (vf 1001)), (1002, (vf8 1002))], trivial, rfl, rfl, ⟨⟨rfl, rfl⟩, ⟨rfl, rfl⟩, ⟨rfl, rfl⟩, ⟨rfl, rfl⟩, ⟨rfl, rfl⟩, ⟨rfl, rfl⟩, trivial⟩, rfl, rfl, ⟨rfl, rfl, by rw [dSt_snoc, List.map_append]; rfl⟩⟩
end Go.Ab

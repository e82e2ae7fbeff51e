/- Walks. -/
import Derived.Test.YtoodaakcfelaaaaBase
import Derived.Test.YtoodaakcfelaaaaSimp
import Derived.Test.YtoodaakcfelaaaaWscons
namespace Go.Ab
open Go.Proofs
set_option maxRecDepth 100000
set_option maxHeartbeats 8000000
set_option linter.unusedSimpArgs false
set_option linter.unusedVariables false
theorem zad0 {p : Prop} (h : p := by first | omega | (simp only [nr, qzr]; omega)) : p := h
theorem f_toTerm (t : Term) : Fn Try.prog 68 [.agg [.p (.int .i64 t.1), .p (.int .i64 t.2)]] [] (fun rr ii nn => rr = .agg [.p (.int .i64 t.1), .p (.int .i64 t.2)] ∧ ii = [] ∧ nn = []) := by
 refine qjj Try.func68 rfl (nb rfl) fun w X g => ?_
 show AWp _ _ _ ⟨[(0, .agg [.p (.int .i64 t.1), .p (.int .i64 t.2)])], []⟩
 refine rs (qqu (fun ver => j_boxa rfl) fun v1x1 => ?_)
 refine qqu (fun ver => qjw elt83 rfl) fun v2x2 => ?_
 refine on (rs (qqu (fun ver => qjw elt83 rfl) fun v3x3 => ?_))
 refine on (rs (qqa (qqm fld103f0 rfl rfl) (qqa (qqe qq7 rfl rfl rfl) (qqa (qqm fld83f0 rfl rfl) (qjk (qq8 qq7 rfl rfl (nb rfl) (evo rfl) rfl) ?_)))))
 refine on (rs (qqa (qqm fld103f1 rfl rfl) (qqa (qqe qq7 rfl rfl rfl) (qqa (qqm qzn rfl rfl) (qjk (qq8 qq7 rfl rfl (nb rfl) (evo rfl) rfl) ?_)))))
 refine on (rs (qqa (qqr (ys := [.p _, .p _]) agg83 rfl rfl rfl (nb rfl)) (qjk (qqk agg83 rfl rfl rfl rfl rfl rfl) ?_)))
 refine on (qql ?_)
 exact ⟨[.agg [.p _, .p _]], .agg [.p _, .p _], [], [], [], ⟨⟨_, _, _, _, rfl, rfl, agg83, rfl⟩, trivial⟩, rfl, rfl, trivial, rfl, rfl, ⟨rfl, rfl, rfl⟩⟩
theorem f_eqTerm (t u : Term) : Fn Try.prog 75 [.agg [.p (.int .i64 t.1), .p (.int .i64 t.2)], .agg [.p (.int .i64 u.1), .p (.int .i64 u.2)]] [] (fun rr ii nn => rr = .p (.bool (decide (t = u))) ∧ ii = [] ∧ nn = []) := by
 refine qjj Try.func75 rfl (nb rfl) fun w X g => ?_
 show AWp _ _ _ ⟨[(0, .agg [.p (.int .i64 t.1), .p (.int .i64 t.2)]), (1, .agg [.p (.int .i64 u.1), .p (.int .i64 u.2)])], []⟩
 refine rs (qqu (fun ver => j_boxa rfl) fun v2x1 => ?_)
 refine qqu (fun ver => j_boxa rfl) fun v3x2 => ?_
 refine oa rfl (on (qqd (rs (qqa (qqm fld83f0 rfl rfl) (qqa (qqe qq7 rfl rfl rfl) (qqa (qqm fld83f0 rfl rfl) (qqa (qqe qq7 rfl rfl rfl) (qqa (j_ne rfl rfl) (on (ac rfl (fun h1 => ?_) fun h1 => ?_))))))))))
 ·
  have h1r := h1
  try simp only [nq, nr] at h1
  refine rs (oa rfl (on (qql ?_)))
  exact qjh rfl ⟨qja (biff (by simp only [decide_eq_true_eq, Prod.ext_iff, Bool.false_eq_true, false_iff]; omega)), rfl, rfl⟩
 have h1r := h1
 try simp only [nq, nr] at h1
 refine qqg (qqd (rs (qqa (qqm qzn rfl rfl) (qqa (qqe qq7 rfl rfl rfl) (qqa (qqm qzn rfl rfl) (qqa (qqe qq7 rfl rfl rfl) (qqa (j_ne rfl rfl) (on (ac rfl (fun h2 => ?_) fun h2 => ?_)))))))))
 ·
  have h2r := h2
  try simp only [nq, nr] at h2
  refine rs (oa rfl (on (qql ?_)))
  exact qjh rfl ⟨qja (biff (by simp only [decide_eq_true_eq, Prod.ext_iff, Bool.false_eq_true, false_iff]; omega)), rfl, rfl⟩
 have h2r := h2
 try simp only [nq, nr] at h2
 refine qqg (rs (oa rfl (on (qql ?_))))
 exact qjh rfl ⟨qja (by symm; rw [decide_eq_true_eq]; exact Prod.ext h1 h2), rfl, rfl⟩
theorem f_toTermS (ts : List Term) (hts : ts.length ≤ 1048576) : Fn Try.prog 50 [.sl (ts.map dT)] [] (fun rr ii nn => rr = .own 0 0 ∧ ii = [] ∧ nn = [.row 83 2 (ts.map dT)]) := by
 refine qjj Try.func50 rfl (nb rfl) fun w X g => ?_
 show AWp _ _ _ ⟨[(0, .sl (ts.map dT))], []⟩
 refine rs (oa rfl (on (rs (om rfl (qqa (qqs Try.underlying46 rfl) (qqu (fun ver => j_make qz0 elt83 rfl rfl (by decide) rfl rfl rfl rfl zad0 (by rw [qqw]; first | omega | (simp only [nr, qzr]; omega))) fun v7x1 => ?_))))))
 refine oa rfl (on (qqd (rs (oa rfl (on (qqh (qqt (ι := Nat) (fun k => k ≤ ts.length) (fun k r => (4, .p (.int .i64 ((k : Nat)))) :: r) (fun k r => (7, some (v7x1, .row 83 2 (wr dT ts k (dT (0, 0))))) :: r) (fun k => ts.length - k) (fun _ _ => rfl) (fun _ _ => rfl) 0 zad0 ⟨⟨rfl, rfl⟩, ⟨rfl, trivial⟩, ⟨qzd (by rw [wr_zero]; rfl), trivial⟩, ⟨rfl, rfl⟩, ⟨rfl, rfl⟩⟩ ?_)))))))
 intro k hpre0
 refine qqd (rs (om rfl (om rfl (qqa (qqs Try.underlying46 rfl) (qqa (qzk rfl rfl) (on (ac rfl (fun h1 => ?_) fun h1 => ?_)))))))
 ·
  have h1r := h1
  try simp only [nq, nr, qzr] at h1
  refine qqg (qqd (qqh (ar (om rfl (om rfl (om rfl (om rfl (qqa (qq5 slt46 rfl rfl rfl (qqj zad0) rfl) (qqa (qjq (ys := [.p _, .p _]) agg103 rfl (qqj zad0) rfl (Nat.le_refl _)) ?_)))))))))
  refine qq4 (qqp (v := .agg [.p _, .p _]) (hp1 := []) [] false [] ent68 (f_toTerm _) ⟨.inl ⟨rfl, rfl⟩, trivial⟩ trivial rfl rfl (fun h => by cases h) rfl (fun _ h => by cases h) (.inl rfl) rfl rfl) ?_
  refine qqa (qqx qz0 rfl rfl rfl rfl zad0) (qjk (j_storea_row agg83 rfl rfl zad0 rfl rfl rfl rfl) ?_)
  refine on (ar (om rfl (qqa (qje rfl rfl zad0 zad0) (oa rfl (on ?_)))))
  exact ⟨k + 1, zad0, ⟨⟨rfl, rfl⟩, ⟨rfl, trivial⟩, ⟨qzd (wr_set (d := default) zad0), trivial⟩, ⟨rfl, rfl⟩, ⟨rfl, rfl⟩⟩, zad0⟩
 have h1r := h1
 try simp only [nq, nr, qzr] at h1
 refine qjf (rs (om rfl (oa rfl (on (qql ?_)))))
 exact ⟨[.own 7 v7x1], .own 0 0, [], [.row 83 2 _], [(7, v7x1)], ⟨rfl, trivial⟩, rfl, rfl, ⟨⟨rfl, rfl⟩, trivial⟩, rfl, rfl, ⟨rfl, rfl, congrArg (fun x => [Obj.row _ _ x]) (wr_all zad0)⟩⟩
theorem f_toCon (c : Con) (hc : c.1.length ≤ 1048576) : Fn Try.prog 27 [.agg [.sl (c.1.map dT), .p (.int .i64 c.2)]] [] (fun rr ii nn => rr = .agg [.own 0 0, .p (.int .i64 c.2)] ∧ ii = [] ∧ nn = [.row 83 2 (c.1.map dT)]) := by
 refine qjj Try.func27 rfl (nb rfl) fun w X g => ?_
 show AWp _ _ _ ⟨[(0, .agg [.sl (c.1.map dT), .p (.int .i64 c.2)])], []⟩
 refine rs (qqu (fun ver => j_boxa rfl) fun v1x1 => ?_)
 refine qqu (fun ver => qjw qzh rfl) fun v2x2 => ?_
 refine on (rs (qqu (fun ver => qjw qzh rfl) fun v3x3 => ?_))
 refine on (rs (qqa (qqm fld48f0 rfl rfl) (qqa (qqe leaf46 rfl rfl rfl) ?_)))
 refine qzi (fun ver => qj8 (v := .own 6 ver) (hp1 := [(6, some (ver, .row 83 2 _))]) [] false [] ent50 (f_toTermS _ (by omega)) ⟨.inl ⟨rfl, rfl⟩, trivial⟩ trivial rfl rfl rfl (fun h => by cases h) rfl (List.all_eq_true.1 rfl) (.inl rfl) rfl rfl) fun v6x4 => ?_
 refine qqa (qqm qjp rfl rfl) (qjk (qq8 qj7 rfl rfl (nb rfl) (evo rfl) rfl) ?_)
 refine on (rs (qqa (qqm fld48f1 rfl rfl) (qqa (qqe qq7 rfl rfl rfl) (qqa (qqm fld56f1 rfl rfl) (qjk (qq8 qq7 rfl rfl (nb rfl) (evo rfl) rfl) ?_)))))
 refine on (rs (qqa (qqr (ys := [.own 6 v6x4, .p _]) qj5 rfl rfl rfl (nb rfl)) (qjk (qqk qj5 rfl rfl rfl rfl rfl rfl) ?_)))
 refine on (qql ?_)
 exact ⟨[.agg [.own 6 v6x4, .p _]], .agg [.own 0 0, .p _], [], [.row 83 2 _], [(6, v6x4)], ⟨⟨_, _, _, _, rfl, rfl, qj5, rfl⟩, trivial⟩, rfl, rfl, ⟨⟨rfl, rfl⟩, trivial⟩, rfl, rfl, ⟨rfl, rfl, rfl⟩⟩
theorem f_eqTermS (a b : List Term) : Fn Try.prog 55 [.sl (a.map dT), .sl (b.map dT)] [] (fun rr ii nn => rr = .p (.bool (decide (a = b))) ∧ ii = [] ∧ nn = []) := by
 refine qjj Try.func55 rfl (nb rfl) fun w X g => ?_
 show AWp _ _ _ ⟨[(0, .sl (a.map dT)), (1, .sl (b.map dT))], []⟩
 refine qzb 0 rfl fun hla => ?_
 refine rs (oa rfl (on (qqd (rs (om rfl (qqa (qqs Try.underlying54 rfl) (om rfl (qqa (qqs Try.underlying54 rfl) (qqa (j_ne rfl rfl) (on (ac rfl (fun h1 => ?_) fun h1 => ?_)))))))))))
 ·
  have h1r := h1
  try simp only [nq, nr] at h1
  refine rs (oa rfl (on (qql ?_)))
  exact qjh rfl ⟨qja (by symm; rw [decide_eq_false_iff_not]; rintro rfl; exact h1 rfl), rfl, rfl⟩
 have h1r := h1
 try simp only [nq, nr] at h1
 refine qqg (qqd (rs (oa rfl (on (qqh (qqt (ι := Nat) (fun k => k ≤ a.length ∧ a.take k = b.take k) (fun k r => (5, .p (.int .i64 ((k : Nat)))) :: r) (fun k r => r) (fun k => a.length - k) (fun _ _ => rfl) (fun _ _ => rfl) 0 ⟨Nat.zero_le _, rfl⟩ ⟨⟨rfl, rfl⟩, ⟨rfl, trivial⟩, trivial, ⟨rfl, rfl⟩, ⟨rfl, rfl⟩⟩ ?_))))))
 intro k hpre0
 refine qqd (rs (om rfl (om rfl (qqa (qqs Try.underlying54 rfl) (qqa (qzk rfl rfl) (on (ac rfl (fun h2 => ?_) fun h2 => ?_)))))))
 ·
  have h2r := h2
  try simp only [nq, nr] at h2
  refine qqg (qqd (qqh (qqd (a_draw mixed (by kernel_rfl) (by kernel_rfl) fun vf => ?_))))
  refine qqq (qqn (evo rfl)) (qqq (qqn (evo rfl)) (qqq (qq5 qz0 rfl rfl rfl (qqj (by omega)) rfl) (qqq (qjq (ys := [.p _, .p _]) agg83 rfl (qqj (by omega)) rfl (Nat.le_refl _)) (qqq (qqn (evo rfl)) (qqq (qqn (evo rfl)) (qqq (qq5 qz0 rfl rfl rfl (qqj (by omega)) rfl) (qqq (qjq (ys := [.p _, .p _]) agg83 rfl (qqj (by omega)) rfl (Nat.le_refl _)) ?_)))))))
  refine d_v0' (qqp (v := .p _) (hp1 := []) [] false [] ent75 (f_eqTerm (a.getD k default) (b.getD k default)) ⟨.inl ⟨rfl, rfl⟩, .inl ⟨rfl, rfl⟩, trivial⟩ trivial rfl rfl (fun h => by cases h) rfl (fun _ h => by cases h) (.inl rfl) rfl rfl) ?_
  refine qqq (j_not rfl) (d_nil (by kernel_rfl) (by kernel_rfl) ?_)
  refine ac rfl (fun h3 => ?_) fun h3 => ?_
  ·
   have h3r := h3
   try simp only [nq, nr] at h3
   refine rs (oa rfl (on (qql ?_)))
   exact qjh rfl ⟨qja (by symm; rw [decide_eq_false_iff_not]; rintro rfl; exact h3 rfl), rfl, rfl⟩
  have h3r := h3
  try simp only [nq, nr] at h3
  refine qqg (ar (om rfl (qqa (qje rfl rfl (by omega) (by omega)) (oa rfl (on ?_)))))
  exact ⟨k + 1, ⟨(by omega), take_next hpre0.2 (by omega) (by omega) h3⟩, ⟨⟨rfl, rfl⟩, ⟨rfl, trivial⟩, trivial, ⟨rfl, rfl⟩, ⟨rfl, rfl⟩⟩, (by omega)⟩
 have h2r := h2
 try simp only [nq, nr] at h2
 refine qjf (rs (oa rfl (on (qql ?_))))
 exact qjh rfl ⟨qja (by symm; rw [decide_eq_true_eq]; exact take_eq hpre0.2 (by omega) (by omega)), rfl, rfl⟩
theorem f_eqCon (c d : Con) : Fn Try.prog 35 [.agg [.sl (c.1.map dT), .p (.int .i64 c.2)], .agg [.sl (d.1.map dT), .p (.int .i64 d.2)]] [] (fun rr ii nn => rr = .p (.bool (decide (c = d))) ∧ ii = [] ∧ nn = []) := by
 refine qjj Try.func35 rfl (nb rfl) fun w X g => ?_
 show AWp _ _ _ ⟨[(0, .agg [.sl (c.1.map dT), .p (.int .i64 c.2)]), (1, .agg [.sl (d.1.map dT), .p (.int .i64 d.2)])], []⟩
 refine rs (qqu (fun ver => j_boxa rfl) fun v2x1 => ?_)
 refine qqu (fun ver => j_boxa rfl) fun v3x2 => ?_
 refine oa rfl (on (qqd (rs (qqa (qqm qjp rfl rfl) (qqa (qqe qj7 rfl rfl rfl) (qqa (qqm qjp rfl rfl) (qqa (qqe qj7 rfl rfl rfl) ?_)))))))
 refine qq4 (qqp (v := .p _) (hp1 := []) [] false [] ent55 (f_eqTermS _ _) ⟨.inl ⟨rfl, rfl⟩, .inl ⟨rfl, rfl⟩, trivial⟩ trivial rfl rfl (fun h => by cases h) rfl (fun _ h => by cases h) (.inl rfl) rfl rfl) ?_
 refine qqa (j_not rfl) (on (ac rfl (fun h1 => ?_) fun h1 => ?_))
 ·
  have h1r := h1
  try simp only [nq, nr] at h1
  refine rs (oa rfl (on (qql ?_)))
  exact qjh rfl ⟨qja (by symm; rw [decide_eq_false_iff_not]; rintro rfl; exact h1 rfl), rfl, rfl⟩
 have h1r := h1
 try simp only [nq, nr] at h1
 refine qqg (qqd (rs (qqa (qqm fld56f1 rfl rfl) (qqa (qqe qq7 rfl rfl rfl) (qqa (qqm fld56f1 rfl rfl) (qqa (qqe qq7 rfl rfl rfl) (qqa (j_ne rfl rfl) (on (ac rfl (fun h2 => ?_) fun h2 => ?_)))))))))
 ·
  have h2r := h2
  try simp only [nq, nr] at h2
  refine rs (oa rfl (on (qql ?_)))
  exact qjh rfl ⟨qja (by symm; rw [decide_eq_false_iff_not]; rintro rfl; exact h2 rfl), rfl, rfl⟩
 have h2r := h2
 try simp only [nq, nr] at h2
 refine qqg (rs (oa rfl (on (qql ?_))))
 exact qjh rfl ⟨qja (by symm; rw [decide_eq_true_eq]; exact Prod.ext h1 h2), rfl, rfl⟩
theorem f_szTermS (ts : List Term) (n : Int) (hn : 0 ≤ n ∧ n ≤ 4611686018427387904) : Fn Try.prog 46 [.sl (ts.map dT), .p (.int .i64 (n))] [] (fun rr ii nn => rr = .p (.int .i64 (szv ts.length n)) ∧ ii = [] ∧ nn = []) := by
 refine qjj Try.func46 rfl (nb rfl) fun w X g => ?_
 show AWp _ _ _ ⟨[(0, .sl (ts.map dT)), (1, .p (.int .i64 (n)))], []⟩
 refine qzb 0 rfl fun hla => ?_
 refine rs (oa rfl (on (rs (om rfl (om rfl (qqa (qqs Try.underlying46 rfl) (qqa (j_sub rfl rfl (by omega) (by omega)) (oa rfl (on (qqd (rs (om rfl (qqa (qzk rfl rfl) ?_)))))))))))))
 refine on (ac rfl (fun h1 => ?_) fun h1 => ?_)
 ·
  have h1r := h1
  try simp only [nq, nr] at h1
  refine rs (oa rfl (on (qql ?_)))
  exact qjh rfl ⟨qz7 (by unfold szv; split <;> omega), rfl, rfl⟩
 have h1r := h1
 try simp only [nq, nr] at h1
 refine qqg (rs (om rfl (oa rfl (on (qql ?_)))))
 exact qjh rfl ⟨qz7 (by unfold szv; split <;> omega), rfl, rfl⟩
theorem f_szCon (c : Con) (n : Int) (hn : 0 ≤ n ∧ n ≤ 4611686018427387904) : Fn Try.prog 22 [.agg [.sl (c.1.map dT), .p (.int .i64 c.2)], .p (.int .i64 (n))] [] (fun rr ii nn => rr = .p (.int .i64 (szv c.1.length n)) ∧ ii = [] ∧ nn = []) := by
 refine qjj Try.func22 rfl (nb rfl) fun w X g => ?_
 show AWp _ _ _ ⟨[(0, .agg [.sl (c.1.map dT), .p (.int .i64 c.2)]), (1, .p (.int .i64 (n)))], []⟩
 refine rs (qqu (fun ver => j_boxa rfl) fun v2x1 => ?_)
 refine oa rfl (on (rs (qqa (qqm fld48f0 rfl rfl) (qqa (qqe leaf46 rfl rfl rfl) (om rfl ?_)))))
 refine qq4 (qqp (v := .p _) (hp1 := []) [] false [] ent46 (f_szTermS _ _ (by omega)) ⟨.inl ⟨rfl, rfl⟩, .inl ⟨rfl, rfl⟩, trivial⟩ trivial rfl rfl (fun h => by cases h) rfl (fun _ h => by cases h) (.inl rfl) rfl rfl) ?_
 refine oa rfl (on (qqd (rs (om rfl (qqa (qzk rfl rfl) (on (ac rfl (fun h1 => ?_) fun h1 => ?_)))))))
 ·
  have h1r := h1
  try simp only [nq, nr] at h1
  refine rs (oa rfl (on (qql ?_)))
  exact qjh rfl ⟨qz7 (by unfold szv at *; split <;> (try split at h1) <;> omega), rfl, rfl⟩
 have h1r := h1
 try simp only [nq, nr] at h1
 refine qqg (rs (om rfl (oa rfl (on (qql ?_)))))
 exact qjh rfl ⟨qz7 (by unfold szv at *; split <;> (try split at h1) <;> omega), rfl, rfl⟩
end Go.Ab

/- Walks. -/
import Derived.Test.YtoodaakcfelaaaaBase
import Derived.Test.YtoodaakcfelaaaaFd
import Derived.Test.YtoodaakcfelaaaaWsexcl
namespace Go.Ab
open Go.Proofs
set_option maxRecDepth 100000
set_option maxHeartbeats 8000000
set_option linter.unusedSimpArgs false
set_option linter.unusedVariables false
theorem zak0 {p : Prop} (h : p := by first | omega | (simp only [nr, nl, qjn, marksC_length]; omega)) : p := h
theorem zak1 {p : Prop} (h : p := by first | omega | (simp only [nr, qzr]; omega)) : p := h
theorem f_toConS (l : List Con) (hl : fitC l) : Fn Try.prog 7 [.sl (l.map dC)] [] (fun rr ii nn => rr = .own 0 0 ∧ ii = [] ∧ nn = [.deep (.mk 56 2 [(0, .mk 83 2 [])]) (l.map dC) none]) := by
 refine qjj Try.func7 rfl (nb rfl) fun w X g => ?_
 show AWp _ _ _ ⟨[(0, .sl (l.map dC))], []⟩
 have hll := fitC_len hl
 refine rs (oa rfl (on (rs (om rfl (qqa (qqs Try.underlying22 rfl) (qqu (fun ver => j_make qz9 qzh rfl rfl (by decide) rfl rfl rfl rfl zak1 (by rw [qqw]; first | omega | (simp only [nr, qzr]; omega))) fun v7x1 => ?_))))))
 refine op_todeep 7 (l.length) (.mk 56 2 [(0, (.mk 83 2 []))]) rfl rfl rfl rfl (eat_nils rfl (eat_leaf rfl rfl rfl qzv)) rfl ?_
 refine oa rfl (on (qqd (rs (oa rfl (on (qqh (qqt (ι := Nat) (fun k => k ≤ l.length) (fun k r => (4, .p (.int .i64 ((k : Nat)))) :: r) (fun k r => (7, some (v7x1, .deep (.mk 56 2 [(0, .mk 83 2 [])]) (wr dC l k (dC ([], 0))) none)) :: r) (fun k => l.length - k) (fun _ _ => rfl) (fun _ _ => rfl) 0 zak1 ⟨⟨rfl, rfl⟩, ⟨rfl, trivial⟩, ⟨deepEq (by rw [wr_zero]; rfl), trivial⟩, ⟨rfl, rfl⟩, ⟨rfl, rfl⟩⟩ ?_)))))))
 intro k hpre0
 refine qqd (rs (om rfl (om rfl (qqa (qqs Try.underlying22 rfl) (qqa (qzk rfl rfl) (on (ac rfl (fun h1 => ?_) fun h1 => ?_)))))))
 ·
  have h1r := h1
  try simp only [nq, nr, qzr] at h1
  refine qqg (qqd (qqh (ar (om rfl (om rfl (om rfl (om rfl (qqa (qq5 slt22 rfl rfl rfl (qqj zak1) rfl) (qqa (qjq (ys := [.sl _, .p _]) agg48 rfl (qqj zak1) rfl (Nat.le_refl _)) ?_)))))))))
  refine qzi (fun ver => qj8 (v := .agg [.own 20 ver, .p _]) (hp1 := [(20, some (ver, .row 83 2 _))]) [] false [] ent27 (f_toCon (l.getD k default) (fitC_at hl (qzw zak1))) ⟨.inl ⟨rfl, rfl⟩, trivial⟩ trivial rfl rfl rfl (fun h => by cases h) rfl (List.all_eq_true.1 rfl) (.inl rfl) rfl rfl) fun v20x2 => ?_
  refine qqa (qzg qz9 rfl rfl rfl rfl rfl zak1) (op_s1' (j_storea_deep qj5 rfl rfl rfl zak1 rfl rfl (eat_own rfl rfl rfl (eat_leaf rfl rfl rfl qzv)) rfl rfl) ?_)
  dsimp only [List.map_cons, List.map_nil, List.cons_append, List.nil_append]
  refine on (ar (om rfl (qqa (qje rfl rfl zak1 zak1) (oa rfl (on ?_)))))
  exact ⟨k + 1, zak1, ⟨⟨rfl, rfl⟩, ⟨rfl, trivial⟩, ⟨deepEq (wr_set (d := default) zak1), trivial⟩, ⟨rfl, rfl⟩, ⟨rfl, rfl⟩⟩, zak1⟩
 have h1r := h1
 try simp only [nq, nr, qzr] at h1
 refine qjf (rs (om rfl (oa rfl (on (qql ?_)))))
 exact ⟨[.own 7 v7x1], .own 0 0, [], [.deep (.mk 56 2 [(0, (.mk 83 2 []))]) _ none], [(7, v7x1)], ⟨rfl, trivial⟩, rfl, rfl, ⟨⟨rfl, rfl⟩, trivial⟩, rfl, rfl, ⟨rfl, rfl, congrArg (fun x => [Obj.deep _ x none]) (wr_all zak1)⟩⟩
theorem f_eqConS (a b : List Con) : Fn Try.prog 12 [.sl (a.map dC), .sl (b.map dC)] [] (fun rr ii nn => rr = .p (.bool (decide (a = b))) ∧ ii = [] ∧ nn = []) := by
 refine qjj Try.func12 rfl (nb rfl) fun w X g => ?_
 show AWp _ _ _ ⟨[(0, .sl (a.map dC)), (1, .sl (b.map dC))], []⟩
 refine qzb 0 rfl fun hla => ?_
 refine rs (oa rfl (on (qqd (rs (om rfl (qqa (qqs Try.underlying29 rfl) (om rfl (qqa (qqs Try.underlying29 rfl) (qqa (j_ne rfl rfl) (on (ac rfl (fun h1 => ?_) fun h1 => ?_)))))))))))
 ·
  have h1r := h1
  try simp only [nq, nr] at h1
  refine rs (oa rfl (on (qql ?_)))
  exact qjh rfl ⟨qja (by symm; rw [decide_eq_false_iff_not]; rintro rfl; exact h1 rfl), rfl, rfl⟩
 have h1r := h1
 try simp only [nq, nr] at h1
 refine qqg (qqd (rs (oa rfl (on (qqh (qqt (ι := Nat) (fun k => k ≤ a.length ∧ a.take k = b.take k) (fun k r => (5, .p (.int .i64 ((k : Nat)))) :: r) (fun k r => r) (fun k => a.length - k) (fun _ _ => rfl) (fun _ _ => rfl) 0 ⟨Nat.zero_le _, rfl⟩ ⟨⟨rfl, rfl⟩, ⟨rfl, trivial⟩, trivial, ⟨rfl, rfl⟩, ⟨rfl, rfl⟩⟩ ?_))))))
 intro k hpre0
 refine qqd (rs (om rfl (om rfl (qqa (qqs Try.underlying29 rfl) (qqa (qzk rfl rfl) (on (ac rfl (fun h2 => ?_) fun h2 => ?_)))))))
 ·
  have h2r := h2
  try simp only [nq, nr] at h2
  refine qqg (qqd (qqh (qqd (a_draw mixed (by kernel_rfl) (by kernel_rfl) fun vf => ?_))))
  refine qqq (qqn (evo rfl)) (qqq (qqn (evo rfl)) (qqq (qq5 qz9 rfl rfl rfl (qqj (by omega)) rfl) (qqq (qjq (ys := [.sl _, .p _]) qj5 rfl (qqj (by omega)) rfl (Nat.le_refl _)) (qqq (qqn (evo rfl)) (qqq (qqn (evo rfl)) (qqq (qq5 qz9 rfl rfl rfl (qqj (by omega)) rfl) (qqq (qjq (ys := [.sl _, .p _]) qj5 rfl (qqj (by omega)) rfl (Nat.le_refl _)) ?_)))))))
  refine d_v0' (qqp (v := .p _) (hp1 := []) [] false [] ent35 (f_eqCon (a.getD k default) (b.getD k default)) ⟨.inl ⟨rfl, rfl⟩, .inl ⟨rfl, rfl⟩, trivial⟩ trivial rfl rfl (fun h => by cases h) rfl (fun _ h => by cases h) (.inl rfl) rfl rfl) ?_
  refine qqq (j_not rfl) (d_nil (by kernel_rfl) (by kernel_rfl) ?_)
  refine ac rfl (fun h3 => ?_) fun h3 => ?_
  ·
   have h3r := h3
   try simp only [nq, nr] at h3
   refine rs (oa rfl (on (qql ?_)))
   exact qjh rfl ⟨qja (by symm; rw [decide_eq_false_iff_not]; rintro rfl; exact h3 rfl), rfl, rfl⟩
  have h3r := h3
  try simp only [nq, nr] at h3
  refine qqg (ar (om rfl (qqa (qje rfl rfl (by omega) (by omega)) (oa rfl (on ?_)))))
  exact ⟨k + 1, ⟨(by omega), take_next hpre0.2 (by omega) (by omega) h3⟩, ⟨⟨rfl, rfl⟩, ⟨rfl, trivial⟩, trivial, ⟨rfl, rfl⟩, ⟨rfl, rfl⟩⟩, (by omega)⟩
 have h2r := h2
 try simp only [nq, nr] at h2
 refine qjf (rs (oa rfl (on (qql ?_))))
 exact qjh rfl ⟨qja (by symm; rw [decide_eq_true_eq]; exact take_eq hpre0.2 (by omega) (by omega)), rfl, rfl⟩
theorem f_szConS (l : List Con) (n : Int) (hn : 0 ≤ n ∧ n ≤ 4611686018427387904) : Fn Try.prog 5 [.sl (l.map dC), .p (.int .i64 (n))] [] (fun rr ii nn => rr = .p (.int .i64 (szC l n)) ∧ ii = [] ∧ nn = []) := by
 refine qjj Try.func5 rfl (nb rfl) fun w X g => ?_
 show AWp _ _ _ ⟨[(0, .sl (l.map dC)), (1, .p (.int .i64 (n)))], []⟩
 refine qzb 0 rfl fun hla => ?_
 have hs0 := szv_cases (n := l.length) (k := n)
 refine rs (oa rfl (on (rs (om rfl (om rfl (qqa (qqs Try.underlying22 rfl) (qqa (j_sub rfl rfl (by omega) (by omega)) (oa rfl (on (qqd (rs (om rfl (qqa (qzk rfl rfl) ?_)))))))))))))
 refine on (ac rfl (fun h1 => ?_) fun h1 => ?_)
 ·
  have h1r := h1
  try simp only [nq, nr] at h1
  refine rs (oa rfl (on (qql ?_)))
  exact qjh rfl ⟨qz7 (by unfold szC; rw [if_pos (by omega)]), rfl, rfl⟩
 have h1r := h1
 try simp only [nq, nr] at h1
 refine qqg (qqd (rs (oa rfl (on (qqh ?_)))))
 refine qqt (ι := Nat × Int) (fun x => (x.1 ≤ l.length ∧ szC l n = szL (l.drop x.1) x.2) ∧ 0 ≤ x.2 ∧ x.2 ≤ n) (fun x r => (5, .p (.int .i64 ((x.1 : Nat)))) :: (1, .p (.int .i64 (x.2))) :: r) (fun x r => r) (fun x => l.length - x.1) (fun _ _ => rfl) (fun _ _ => rfl) (0, n - l.length) (by first | exact ⟨⟨Nat.zero_le _, by unfold szC; rw [if_neg (by omega), show szv l.length n = n - l.length by omega]; rfl⟩, by dsimp only; omega, by dsimp only; omega⟩ | (dsimp only; exact ⟨⟨Nat.zero_le _, by unfold szC; rw [if_neg (by omega), show szv l.length n = n - l.length by omega]; rfl⟩, by dsimp only; omega, by dsimp only; omega⟩)) ⟨⟨rfl, rfl⟩, ⟨rfl, rfl, trivial⟩, trivial, ⟨rfl, rfl⟩, ⟨rfl, rfl⟩⟩ ?_
 rintro ⟨k, z⟩ hpre; dsimp only at hpre ⊢
 refine qqd (rs (om rfl (om rfl (qqa (qqs Try.underlying22 rfl) (qqa (qzk rfl rfl) (on (ac rfl (fun h2 => ?_) fun h2 => ?_)))))))
 ·
  have h2r := h2
  try simp only [nq, nr] at h2
  refine qqg (qqd (qqh (rs (om rfl (om rfl (qqa (qq5 slt22 rfl rfl rfl (qqj (by omega)) rfl) (qqa (qjq (ys := [.sl _, .p _]) agg48 rfl (qqj (by omega)) rfl (Nat.le_refl _)) (om rfl ?_))))))))
  refine qq4 (qqp (v := .p _) (hp1 := []) [] false [] ent22 (f_szCon (l.getD k default) z (by omega)) ⟨.inl ⟨rfl, rfl⟩, .inl ⟨rfl, rfl⟩, trivial⟩ trivial rfl rfl (fun h => by cases h) rfl (fun _ h => by cases h) (.inl rfl) rfl rfl) ?_
  refine oa rfl (on (qqd ?_))
  have hs1 := szv_cases (n := (l.getD k default).1.length) (k := z)
  refine ar (om rfl (qqa (qzk rfl rfl) (on (ac rfl (fun h3 => ?_) fun h3 => ?_))))
  ·
   have h3r := h3
   try simp only [nq, nr] at h3
   refine rs (oa rfl (on (qql ?_)))
   exact qjh rfl ⟨qz7 (by rw [hpre.1.2, szL_bad (d := default) (by omega) (by omega)]), rfl, rfl⟩
  have h3r := h3
  try simp only [nq, nr] at h3
  refine qqg (ar (om rfl (qqa (qje rfl rfl (by omega) (by omega)) (oa rfl (on ?_)))))
  exact ⟨(k + 1, szv (l.getD k default).1.length z), (by first | exact ⟨⟨by omega, by rw [hpre.1.2, szL_next (d := default) (by omega) (by omega)]⟩, by omega, by omega⟩ | (dsimp only; exact ⟨⟨by omega, by rw [hpre.1.2, szL_next (d := default) (by omega) (by omega)]⟩, by omega, by omega⟩)), ⟨⟨rfl, rfl⟩, ⟨rfl, rfl, trivial⟩, trivial, ⟨rfl, rfl⟩, ⟨rfl, rfl⟩⟩, (by first | exact (by omega) | (dsimp only; exact (by omega)))⟩
 have h2r := h2
 try simp only [nq, nr] at h2
 refine qjf (rs (om rfl (oa rfl (on (qql ?_)))))
 exact qjh rfl ⟨qz7 (by rw [hpre.1.2, szL_end (by omega)]), rfl, rfl⟩
theorem f_markConS (k : Nat) (l : List Con) (hb : endC k l ≤ 4611686018427387904) : Fn Try.prog 14 [.own 0 0, .p (.int .i64 ((k : Nat)))] [.deep (.mk 56 2 [(0, .mk 83 2 [])]) (l.map dC) none] (fun rr ii nn => rr = .p (.int .i64 (((endC k l : Nat) : Int))) ∧ ii = [.deep (.mk 56 2 [(0, .mk 83 2 [])]) ((marksC k l).map dC) none] ∧ nn = []) := by
 refine qjj Try.func14 rfl (nb rfl) fun w X g => ?_
 show AWp _ _ _ ⟨[(0, .own 0 0), (1, .p (.int .i64 ((k : Nat))))], [(0, some (0, .deep (.mk 56 2 [(0, .mk 83 2 [])]) (l.map dC) none))]⟩
 have hke := endC_ge (k := k) (l := l)
 refine rs (oa rfl (on (qqd (rs (oa rfl (on (qqh (qqt (ι := Nat) (fun i => i ≤ l.length) (fun i r => (5, .p (.int .i64 ((i : Nat)))) :: (1, .p (.int .i64 (((endC k (l.take i) : Nat) : Int)))) :: r) (fun i r => (0, some (0, .deep (.mk 56 2 [(0, .mk 83 2 [])]) (wo dC (marksC k l) l i) none)) :: r) (fun i => l.length - i) (fun _ _ => rfl) (fun _ _ => rfl) 0 zak0 ⟨⟨rfl, rfl⟩, ⟨rfl, rfl, trivial⟩, ⟨deepEq wo_zero.symm, trivial⟩, ⟨rfl, rfl⟩, ⟨rfl, rfl⟩⟩ ?_))))))))
 intro i hpre0
 refine qqd (rs (om rfl (om rfl (qqa (j_len_deep Try.underlying29 rfl rfl) (qqa (qzk rfl rfl) (on (ac rfl (fun h1 => ?_) fun h1 => ?_)))))))
 ·
  have h1r := h1
  try simp only [nq, nr, nl, qjn, marksC_length] at h1
  refine qqg (qqd (qqh (qqd ?_)))
  have hke2 := endC_at (k := k) (l := l) (i := i) zak0
  refine ar (om rfl (om rfl (qqa (qzg qz9 rfl rfl rfl rfl rfl zak0) (qqa (j_fldpel qjp rfl rfl) (qzi (fun ver => j_out qj7 (by decide) rfl rfl rfl (wo_at zak0 zak0) rfl rfl) fun v16x1 => ?_)))))
  refine om rfl ?_
  refine qq4 (qqp (v := .p _) (hp1 := [(16, some (v16x1, .row 83 2 _))]) [(16, v16x1)] false [16] ent36 (f_markTermS (endC k (l.take i)) (l.getD i default).1 (by omega)) ⟨.inl ⟨rfl, rfl⟩, .inl ⟨rfl, rfl⟩, trivial⟩ ⟨⟨rfl, rfl⟩, trivial⟩ rfl rfl (fun h => by cases h) rfl (List.all_eq_true.1 rfl) (.inl rfl) rfl rfl) ?_
  refine oa rfl (on (a_back 0 16 (by decide) rfl rfl rfl rfl (wo_at zak0 zak0) rfl ?_))
  refine rs (om rfl (om rfl (om rfl (qqa (qzg qz9 rfl rfl rfl rfl rfl zak0) (qqa (j_fldpel fld56f1 rfl rfl) (qjk (j_store_deep qq7 rfl rfl rfl (List.getElem?_set_self zak0) (nb rfl) (evo rfl) rfl rfl) ?_))))))
  refine on (ar (om rfl (qqa (qje rfl rfl zak0 zak0) (oa rfl (on (ar (om rfl (qqa (qje rfl rfl zak0 zak0) (oa rfl (on ?_))))))))))
  exact ⟨i + 1, zak0, ⟨⟨rfl, rfl⟩, ⟨rfl, qz7 (by rw [endC_take zak0]; omega), trivial⟩, ⟨deepEq ((List.set_set ..).trans (wo_set (d := default) (x := markC (endC k (l.take i)) (l.getD i default)) zak0 zak0 (marksC_at zak0))), trivial⟩, ⟨rfl, rfl⟩, ⟨rfl, rfl⟩⟩, zak0⟩
 have h1r := h1
 try simp only [nq, nr, nl, qjn, marksC_length] at h1
 refine qjf (rs (om rfl (oa rfl (on (qql ?_)))))
 exact ⟨[.p _], .p _, [.deep (.mk 56 2 [(0, (.mk 83 2 []))]) _ none], [], [], ⟨rfl, trivial⟩, rfl, rfl, ⟨⟨rfl, rfl⟩, trivial⟩, rfl, rfl, ⟨by rw [show i = l.length by first | omega | (simp only [nr, nl, qjn, marksC_length]; omega), List.take_length], congrArg (fun x => [Obj.deep _ x none]) (wo_all zak0 zak0), rfl⟩⟩
end Go.Ab

/- Walks. -/
import Derived.Test.YtoodaakcfelaaaaBase
import Derived.Test.YtoodaakcfelaaaaSimp
import Derived.Test.YtoodaakcfelaaaaWscon2
import Derived.Test.YtoodaakcfelaaaaWsparse
namespace Go.Ab
open Go.Proofs
set_option maxRecDepth 100000
set_option maxHeartbeats 8000000
set_option linter.unusedSimpArgs false
set_option linter.unusedVariables false
theorem zaf0 {p : Prop} (h : p := by first | omega | (simp only [nr, nl, qjn, qjs]; omega)) : p := h
theorem zaf1 {p : Prop} (h : p := by first | omega | (simp only [nr, qjs]; omega)) : p := h
theorem zaf2 {p : Prop} (h : p := by first | omega | (simp only [nr, qjn, marksI_length]; omega)) : p := h
theorem zaf3 {p : Prop} (h : p := by first | omega | (simp only [nr, qzr]; omega)) : p := h
theorem f_toIntS (ns : List Int) (hts : ns.length ≤ 1048576) : Fn Try.prog 8 [.sl (ns.map dI)] [] (fun rr ii nn => rr = .own 0 0 ∧ ii = [] ∧ nn = [.row 3 1 (ns.map dI)]) := by
 refine qjj Try.func8 rfl (nb rfl) fun w X g => ?_
 show AWp _ _ _ ⟨[(0, .sl (ns.map dI))], []⟩
 refine rs (oa rfl (on (rs (om rfl (qqa (qqs Try.underlying23 rfl) (qqu (fun ver => j_make qjg elt3 rfl rfl (by decide) rfl rfl rfl rfl zaf3 (by rw [qqw]; first | omega | (simp only [nr, qzr]; omega))) fun v7x1 => ?_))))))
 refine oa rfl (on (qqd (rs (oa rfl (on (qqh (qqt (ι := Nat) (fun k => k ≤ ns.length) (fun k r => (4, .p (.int .i64 ((k : Nat)))) :: r) (fun k r => (7, some (v7x1, .row 3 1 (wr dI ns k (dI 0)))) :: r) (fun k => ns.length - k) (fun _ _ => rfl) (fun _ _ => rfl) 0 zaf3 ⟨⟨rfl, rfl⟩, ⟨rfl, trivial⟩, ⟨qzd (by rw [wr_zero]; rfl), trivial⟩, ⟨rfl, rfl⟩, ⟨rfl, rfl⟩⟩ ?_)))))))
 intro k hpre0
 refine qqd (rs (om rfl (om rfl (qqa (qqs Try.underlying23 rfl) (qqa (qzk rfl rfl) (on (ac rfl (fun h1 => ?_) fun h1 => ?_)))))))
 ·
  have h1r := h1
  try simp only [nq, nr, qzr] at h1
  refine qqg (qqd (qqh (ar (om rfl (om rfl (om rfl (om rfl (qqa (qq5 qjg rfl rfl rfl (qqj zaf3) rfl) (qqa (qqz qq7 rfl (qqj zaf3) rfl) (qqa (qqx qjg rfl rfl rfl rfl zaf3) (qjk (qj9 qq7 rfl rfl zaf3 (evo rfl) rfl rfl) ?_)))))))))))
  refine on (ar (om rfl (qqa (qje rfl rfl zaf3 zaf3) (oa rfl (on ?_)))))
  exact ⟨k + 1, zaf3, ⟨⟨rfl, rfl⟩, ⟨rfl, trivial⟩, ⟨qzd (wr_set (d := default) zaf3), trivial⟩, ⟨rfl, rfl⟩, ⟨rfl, rfl⟩⟩, zaf3⟩
 have h1r := h1
 try simp only [nq, nr, qzr] at h1
 refine qjf (rs (om rfl (oa rfl (on (qql ?_)))))
 exact ⟨[.own 7 v7x1], .own 0 0, [], [.row 3 1 _], [(7, v7x1)], ⟨rfl, trivial⟩, rfl, rfl, ⟨⟨rfl, rfl⟩, trivial⟩, rfl, rfl, ⟨rfl, rfl, congrArg (fun x => [Obj.row _ _ x]) (wr_all zaf3)⟩⟩
theorem f_eqIntS (a b : List Int) : Fn Try.prog 13 [.sl (a.map dI), .sl (b.map dI)] [] (fun rr ii nn => rr = .p (.bool (decide (a = b))) ∧ ii = [] ∧ nn = []) := by
 refine qjj Try.func13 rfl (nb rfl) fun w X g => ?_
 show AWp _ _ _ ⟨[(0, .sl (a.map dI)), (1, .sl (b.map dI))], []⟩
 refine qzb 0 rfl fun hla => ?_
 refine rs (oa rfl (on (qqd (rs (om rfl (qqa (qqs Try.underlying23 rfl) (om rfl (qqa (qqs Try.underlying23 rfl) (qqa (j_ne rfl rfl) (on (ac rfl (fun h1 => ?_) fun h1 => ?_)))))))))))
 ·
  have h1r := h1
  try simp only [nq, nr] at h1
  refine rs (oa rfl (on (qql ?_)))
  exact qjh rfl ⟨qja (by symm; rw [decide_eq_false_iff_not]; rintro rfl; exact h1 rfl), rfl, rfl⟩
 have h1r := h1
 try simp only [nq, nr] at h1
 refine qqg (qqd (rs (oa rfl (on (qqh (qqt (ι := Nat) (fun k => k ≤ a.length ∧ a.take k = b.take k) (fun k r => (5, .p (.int .i64 ((k : Nat)))) :: r) (fun k r => r) (fun k => a.length - k) (fun _ _ => rfl) (fun _ _ => rfl) 0 ⟨Nat.zero_le _, rfl⟩ ⟨⟨rfl, rfl⟩, ⟨rfl, trivial⟩, trivial, ⟨rfl, rfl⟩, ⟨rfl, rfl⟩⟩ ?_))))))
 intro k hpre0
 refine qqd (rs (om rfl (om rfl (qqa (qqs Try.underlying23 rfl) (qqa (qzk rfl rfl) (on (ac rfl (fun h2 => ?_) fun h2 => ?_)))))))
 ·
  have h2r := h2
  try simp only [nq, nr] at h2
  refine qqg (qqd (qqh (qqd (a_draw mixed (by kernel_rfl) (by kernel_rfl) fun vf => ?_))))
  refine qqq (qqn (evo rfl)) (qqq (qqn (evo rfl)) (qqq (qq5 qjg rfl rfl rfl (qqj (by omega)) rfl) (qqq (qqz qq7 rfl (qqj (by omega)) rfl) (qqq (qqn (evo rfl)) (qqq (qqn (evo rfl)) (qqq (qq5 qjg rfl rfl rfl (qqj (by omega)) rfl) (qqq (qqz qq7 rfl (qqj (by omega)) rfl) (qqq (j_ne rfl rfl) (d_nil (by kernel_rfl) (by kernel_rfl) ?_)))))))))
  refine ac rfl (fun h3 => ?_) fun h3 => ?_
  ·
   have h3r := h3
   try simp only [nq, nr] at h3
   refine rs (oa rfl (on (qql ?_)))
   exact qjh rfl ⟨qja (by symm; rw [decide_eq_false_iff_not]; rintro rfl; exact h3 rfl), rfl, rfl⟩
  have h3r := h3
  try simp only [nq, nr] at h3
  refine qqg (ar (om rfl (qqa (qje rfl rfl (by omega) (by omega)) (oa rfl (on ?_)))))
  exact ⟨k + 1, ⟨(by omega), take_next hpre0.2 (by omega) (by omega) h3⟩, ⟨⟨rfl, rfl⟩, ⟨rfl, trivial⟩, trivial, ⟨rfl, rfl⟩, ⟨rfl, rfl⟩⟩, (by omega)⟩
 have h2r := h2
 try simp only [nq, nr] at h2
 refine qjf (rs (oa rfl (on (qql ?_))))
 exact qjh rfl ⟨qja (by symm; rw [decide_eq_true_eq]; exact take_eq hpre0.2 (by omega) (by omega)), rfl, rfl⟩
theorem f_markIntS (k : Nat) (ns : List Int) (hb : k + ns.length ≤ 4611686018427387904) : Fn Try.prog 15 [.own 0 0, .p (.int .i64 ((k : Nat)))] [.row 3 1 (ns.map dI)] (fun rr ii nn => rr = .p (.int .i64 (((k + ns.length : Nat) : Int))) ∧ ii = [.row 3 1 ((marksI k ns.length).map dI)] ∧ nn = []) := by
 refine qjj Try.func15 rfl (nb rfl) fun w X g => ?_
 show AWp _ _ _ ⟨[(0, .own 0 0), (1, .p (.int .i64 ((k : Nat))))], [(0, some (0, .row 3 1 (ns.map dI)))]⟩
 refine rs (oa rfl (on (qqd (rs (oa rfl (on (qqh (qqt (ι := Nat) (fun i => i ≤ ns.length) (fun i r => (5, .p (.int .i64 ((i : Nat)))) :: (1, .p (.int .i64 (((k + i : Nat) : Int)))) :: r) (fun i r => (0, some (0, .row 3 1 (wo dI (marksI k ns.length) ns i))) :: r) (fun i => ns.length - i) (fun _ _ => rfl) (fun _ _ => rfl) 0 zaf2 ⟨⟨rfl, rfl⟩, ⟨rfl, rfl, trivial⟩, ⟨qzd wo_zero.symm, trivial⟩, ⟨rfl, rfl⟩, ⟨rfl, rfl⟩⟩ ?_))))))))
 intro i hpre0
 refine qqd (rs (om rfl (om rfl (qqa (j_len_own Try.underlying23 rfl rfl) (qqa (qzk rfl rfl) (on (ac rfl (fun h1 => ?_) fun h1 => ?_)))))))
 ·
  have h1r := h1
  try simp only [nq, nr, qjn, marksI_length] at h1
  refine qqg (qqd (qqh (rs (om rfl (om rfl (om rfl (qqa (qqx qjg rfl rfl rfl rfl zaf2) (qjk (qj9 qq7 rfl rfl zaf2 (evo rfl) rfl rfl) ?_))))))))
  refine on (ar (om rfl (qqa (qje rfl rfl zaf2 zaf2) (oa rfl (on (ar (om rfl (qqa (qje rfl rfl zaf2 zaf2) (oa rfl (on ?_))))))))))
  exact ⟨i + 1, zaf2, ⟨⟨rfl, rfl⟩, ⟨rfl, rfl, trivial⟩, ⟨qzd (wo_set (d := default) (x := ((k + i : Nat) : Int)) zaf2 zaf2 (marksI_at zaf2)), trivial⟩, ⟨rfl, rfl⟩, ⟨rfl, rfl⟩⟩, zaf2⟩
 have h1r := h1
 try simp only [nq, nr, qjn, marksI_length] at h1
 refine qjf (rs (om rfl (oa rfl (on (qql ?_)))))
 exact fin_p1 rfl rfl rfl rfl ⟨by rw [show i = ns.length by first | omega | (simp only [nr, qjn, marksI_length]; omega)], congrArg (fun x => [Obj.row _ _ x]) (wo_all zaf2 zaf2), rfl⟩
theorem f_markTermS (k : Nat) (ts : List Term) (hb : k + 2 * ts.length ≤ 4611686018427387904) : Fn Try.prog 36 [.own 0 0, .p (.int .i64 ((k : Nat)))] [.row 83 2 (ts.map dT)] (fun rr ii nn => rr = .p (.int .i64 (((k + 2 * ts.length : Nat) : Int))) ∧ ii = [.row 83 2 ((marksT k ts.length).map dT)] ∧ nn = []) := by
 refine qjj Try.func36 rfl (nb rfl) fun w X g => ?_
 show AWp _ _ _ ⟨[(0, .own 0 0), (1, .p (.int .i64 ((k : Nat))))], [(0, some (0, .row 83 2 (ts.map dT)))]⟩
 refine rs (oa rfl (on (qqd (rs (oa rfl (on (qqh (qqt (ι := Nat) (fun i => i ≤ ts.length) (fun i r => (5, .p (.int .i64 ((i : Nat)))) :: (1, .p (.int .i64 (((k + 2 * i : Nat) : Int)))) :: r) (fun i r => (0, some (0, .row 83 2 (wo dT (marksT k ts.length) ts i))) :: r) (fun i => ts.length - i) (fun _ _ => rfl) (fun _ _ => rfl) 0 zaf0 ⟨⟨rfl, rfl⟩, ⟨rfl, rfl, trivial⟩, ⟨qzd wo_zero.symm, trivial⟩, ⟨rfl, rfl⟩, ⟨rfl, rfl⟩⟩ ?_))))))))
 intro i hpre0
 refine qqd (rs (om rfl (om rfl (qqa (j_len_own Try.underlying54 rfl rfl) (qqa (qzk rfl rfl) (on (ac rfl (fun h1 => ?_) fun h1 => ?_)))))))
 ·
  have h1r := h1
  try simp only [nq, nr, nl, qjn, qjs] at h1
  refine qqg (qqd (qqh (rs (om rfl (om rfl (om rfl (qqa (qqx qz0 rfl rfl rfl rfl zaf0) (qqa (j_fldpel fld83f0 rfl rfl) (qjk (j_storef_row qq7 rfl rfl (wo_at zaf0 zaf0) (nb rfl) (evo rfl) rfl rfl) ?_)))))))))
  refine on (rs (om rfl (qqa (qje rfl rfl zaf0 zaf0) (oa rfl (on (rs (om rfl (om rfl (om rfl (qqa (qqx qz0 rfl rfl rfl rfl zaf0) (qqa (j_fldpel qzn rfl rfl) (qjk (j_storef_row qq7 rfl rfl (List.getElem?_set_self zaf0) (nb rfl) (evo rfl) rfl rfl) ?_))))))))))))
  refine on (ar (om rfl (qqa (qje rfl rfl zaf0 zaf0) (oa rfl (on (ar (om rfl (qqa (qje rfl rfl zaf0 zaf0) (oa rfl (on ?_))))))))))
  exact ⟨i + 1, zaf0, ⟨⟨rfl, rfl⟩, ⟨rfl, rfl, trivial⟩, ⟨qzd ((List.set_set ..).trans (wo_set (d := default) (x := markT k i) zaf0 zaf0 (marksT_at zaf0))), trivial⟩, ⟨rfl, rfl⟩, ⟨rfl, rfl⟩⟩, zaf0⟩
 have h1r := h1
 try simp only [nq, nr, nl, qjn, qjs] at h1
 refine qjf (rs (om rfl (oa rfl (on (qql ?_)))))
 exact fin_p1 rfl rfl rfl rfl ⟨by rw [show i = ts.length by first | omega | (simp only [nr, nl, qjn, qjs]; omega)], congrArg (fun x => [Obj.row _ _ x]) (wo_all zaf0 zaf0), rfl⟩
theorem f_heldTermS (k n : Nat) (hb : k + 2 * n ≤ 4611686018427387904) : Fn Try.prog 39 [.sl ((marksT k n).map dT), .p (.int .i64 ((k : Nat)))] [] (fun rr ii nn => rr = .p (.int .i64 (((k + 2 * n : Nat) : Int))) ∧ ii = [] ∧ nn = []) := by
 refine qjj Try.func39 rfl (nb rfl) fun w X g => ?_
 show AWp _ _ _ ⟨[(0, .sl ((marksT k n).map dT)), (1, .p (.int .i64 ((k : Nat))))], []⟩
 refine rs (oa rfl (on (qqd (rs (oa rfl (on (qqh (qqt (ι := Nat) (fun i => i ≤ n) (fun i r => (5, .p (.int .i64 ((i : Nat)))) :: (1, .p (.int .i64 (((k + 2 * i : Nat) : Int)))) :: r) (fun i r => r) (fun i => n - i) (fun _ _ => rfl) (fun _ _ => rfl) 0 zaf1 ⟨⟨rfl, rfl⟩, ⟨rfl, rfl, trivial⟩, trivial, ⟨rfl, rfl⟩, ⟨rfl, rfl⟩⟩ ?_))))))))
 intro i hpre0
 refine qqd (rs (om rfl (om rfl (qqa (qqs Try.underlying54 rfl) (qqa (qzk rfl rfl) (on (ac rfl (fun h1 => ?_) fun h1 => ?_)))))))
 ·
  have h1r := h1
  try simp only [nq, nr, qjs] at h1
  refine qqg (qqd (qqh (qqd (rs (om rfl (om rfl (qqa (qq5 qz0 rfl rfl rfl (qqj zaf1) rfl) (qqa (qxa fld83f0 rfl) (qqa (qqz qq7 rfl (qqj zaf1) rfl) (om rfl (qqa (j_ne rfl rfl) (on (ac rfl (fun h2 => ?_) fun h2 => ?_)))))))))))))
  ·
   have h2r := h2
   try simp only [nq, nr, qjs] at h2
   refine rs (oa rfl (on (qql ?_)))
   exact absurd h2 (by rw [marksT_at zaf1]; simp [markT])
  have h2r := h2
  try simp only [nq, nr, qjs] at h2
  refine qqg (rs (om rfl (qqa (qje rfl rfl zaf1 zaf1) (oa rfl (on (qqd (rs (om rfl (om rfl (qqa (qq5 qz0 rfl rfl rfl (qqj zaf1) rfl) (qqa (qxa qzn rfl) (qqa (qqz qq7 rfl (qqj zaf1) rfl) (om rfl ?_)))))))))))))
  refine qqa (j_ne rfl rfl) (on (ac rfl (fun h3 => ?_) fun h3 => ?_))
  ·
   have h3r := h3
   try simp only [nq, nr, qjs] at h3
   refine rs (oa rfl (on (qql ?_)))
   exact absurd h3 (by rw [marksT_at zaf1]; simp [markT])
  have h3r := h3
  try simp only [nq, nr, qjs] at h3
  refine qqg (ar (om rfl (qqa (qje rfl rfl zaf1 zaf1) (oa rfl (on (ar (om rfl (qqa (qje rfl rfl zaf1 zaf1) (oa rfl (on ?_))))))))))
  exact ⟨i + 1, zaf1, ⟨⟨rfl, rfl⟩, ⟨rfl, rfl, trivial⟩, trivial, ⟨rfl, rfl⟩, ⟨rfl, rfl⟩⟩, zaf1⟩
 have h1r := h1
 try simp only [nq, nr, qjs] at h1
 refine qjf (rs (om rfl (oa rfl (on (qql ?_)))))
 exact qjh rfl ⟨by rw [show i = n by first | omega | (simp only [nr, qjs]; omega)], rfl, rfl⟩
end Go.Ab

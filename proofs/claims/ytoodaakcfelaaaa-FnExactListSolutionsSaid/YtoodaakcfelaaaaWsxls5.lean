/- Walks. -/
import Derived.Test.YtoodaakcfelaaaaBase
import Derived.Test.YtoodaakcfelaaaaDeep3
import Derived.Test.YtoodaakcfelaaaaAb28
import Derived.Test.YtoodaakcfelaaaaWsexcl
import Derived.Test.YtoodaakcfelaaaaWsdeep
namespace Go.Ab
open Go.Proofs
set_option maxRecDepth 100000
set_option maxHeartbeats 8000000
set_option linter.unusedSimpArgs false
set_option linter.unusedVariables false
theorem zay0 {p : Prop} (h : p := by first | omega | (simp only [nr, nl, qjn, qjd]; omega)) : p := h
theorem zay1 {p : Prop} (h : p := by first | omega | (simp only [nr, qjd]; omega)) : p := h
theorem f_markStepS (k : Nat) (l : List Stp) (hb : endS k l ≤ 4611686018427387904) : Fn Try.prog 17 [.own 0 0, .p (.int .i64 ((k : Nat)))] [.deep (.mk 65 5 [(3, .mk 83 2 [])]) (l.map dStp) none] (fun rr ii nn => rr = .p (.int .i64 (((endS k l : Nat) : Int))) ∧ ii = [.deep (.mk 65 5 [(3, .mk 83 2 [])]) ((marksS k l).map dStp) none] ∧ nn = []) := by
 refine qjj Try.func17 rfl (nb rfl) fun w X g => ?_
 show AWp _ _ _ ⟨[(0, .own 0 0), (1, .p (.int .i64 ((k : Nat))))], [(0, some (0, .deep (.mk 65 5 [(3, .mk 83 2 [])]) (l.map dStp) none))]⟩
 have hke := endS_ge (k := k) (l := l)
 refine rs (oa rfl (on (qqd (rs (oa rfl (on (qqh (qqt (ι := Nat) (fun i => i ≤ l.length) (fun i r => (5, .p (.int .i64 ((i : Nat)))) :: (1, .p (.int .i64 (((endS k (l.take i) : Nat) : Int)))) :: r) (fun i r => (0, some (0, .deep (.mk 65 5 [(3, .mk 83 2 [])]) (wo dStp (marksS k l) l i) none)) :: r) (fun i => l.length - i) (fun _ _ => rfl) (fun _ _ => rfl) 0 zay0 ⟨⟨rfl, rfl⟩, ⟨rfl, rfl, trivial⟩, ⟨deepEq wo_zero.symm, trivial⟩, ⟨rfl, rfl⟩, ⟨rfl, rfl⟩⟩ ?_))))))))
 intro i hpre0
 refine qqd (rs (om rfl (om rfl (qqa (j_len_deep Try.underlying26 rfl rfl) (qqa (qzk rfl rfl) (on (ac rfl (fun h1 => ?_) fun h1 => ?_)))))))
 ·
  have h1r := h1
  try simp only [nq, nr, nl, qjn, qjd] at h1
  refine qqg (qqd (qqh (qqd ?_)))
  have hke2 := endS_at (k := k) (l := l) (i := i) zay0
  unfold sxT at hke2
  refine ar (om rfl (om rfl (om rfl (qqa (qzg qzy rfl rfl rfl rfl rfl zay0) (qqa (j_fldpel fld65f0 rfl rfl) (qjk (j_store_deep qq7 rfl rfl rfl (wo_at zay0 zay0) (nb rfl) (evo rfl) rfl rfl) ?_))))))
  refine on (rs (om rfl (qqa (qje rfl rfl zay0 zay0) (oa rfl (on (rs (om rfl (om rfl (om rfl (qqa (qzg qzy rfl rfl rfl rfl rfl zay0) (qqa (j_fldpel fld65f1 rfl rfl) (qjk (j_store_deep qq7 rfl rfl rfl (List.getElem?_set_self zay0) (nb rfl) (evo rfl) rfl rfl) ?_))))))))))))
  refine on (rs (om rfl (qqa (qje rfl rfl zay0 zay0) (oa rfl (on (rs (om rfl (om rfl (om rfl (qqa (qzg qzy rfl rfl rfl rfl rfl zay0) (qqa (j_fldpel fld65f2 rfl rfl) (qjk (j_store_deep qq7 rfl rfl rfl (List.getElem?_set_self zay0) (nb rfl) (evo rfl) rfl rfl) ?_))))))))))))
  refine on (rs (om rfl (qqa (qje rfl rfl zay0 zay0) (oa rfl (on (rs (om rfl (om rfl (qqa (qzg qzy rfl rfl rfl rfl rfl zay0) (qqa (j_fldpel fld65f3 rfl rfl) (qqa (j_fldpel qjp rfl rfl) (qzi (fun ver => j_out qj7 (by decide) rfl rfl rfl (List.getElem?_set_self zay0) rfl rfl) fun v38x1 => ?_))))))))))))
  refine om rfl ?_
  refine qq4 (qqp (v := .p _) (hp1 := [(38, some (v38x1, .row 83 2 _))]) [(38, v38x1)] false [38] ent36 (f_markTermS (endS k (l.take i) + 3) (l.getD i default).2.2.2.1 (by omega)) ⟨.inl ⟨rfl, rfl⟩, .inl ⟨rfl, rfl⟩, trivial⟩ ⟨⟨rfl, rfl⟩, trivial⟩ rfl rfl (fun h => by cases h) rfl (List.all_eq_true.1 rfl) (.inl rfl) rfl rfl) ?_
  refine oa rfl (on (a_back 0 38 (by decide) rfl rfl rfl rfl (List.getElem?_set_self zay0) rfl ?_))
  refine rs (om rfl (om rfl (om rfl (qqa (qzg qzy rfl rfl rfl rfl rfl zay0) (qqa (j_fldpel fld65f3 rfl rfl) (qqa (j_fldpel fld56f1 rfl rfl) (qjk (j_store_deep qq7 rfl rfl rfl (List.getElem?_set_self zay0) (nb rfl) (evo rfl) rfl rfl) ?_)))))))
  refine on (ar (om rfl (qqa (qje rfl rfl zay0 zay0) (oa rfl (on (ar (om rfl (qqa (qje rfl rfl zay0 zay0) (oa rfl (on ?_))))))))))
  exact ⟨i + 1, zay0, ⟨⟨rfl, rfl⟩, ⟨rfl, qz7 (by rw [endS_take zay0]; unfold sxT; omega), trivial⟩, ⟨deepEq (set5.trans (wo_set (d := default) (x := markS (endS k (l.take i)) (l.getD i default)) zay0 zay0 (marksS_at zay0))), trivial⟩, ⟨rfl, rfl⟩, ⟨rfl, rfl⟩⟩, zay0⟩
 have h1r := h1
 try simp only [nq, nr, nl, qjn, qjd] at h1
 refine qjf (rs (om rfl (oa rfl (on (qql ?_)))))
 exact ⟨[.p _], .p _, [.deep (.mk 65 5 [(3, (.mk 83 2 []))]) _ none], [], [], ⟨rfl, trivial⟩, rfl, rfl, ⟨⟨rfl, rfl⟩, trivial⟩, rfl, rfl, ⟨by rw [show i = l.length by first | omega | (simp only [nr, nl, qjn, qjd]; omega), List.take_length], congrArg (fun x => [Obj.deep _ x none]) (wo_all zay0 zay0), rfl⟩⟩
theorem f_heldStepS (k : Nat) (l : List Stp) (hb : endS k l ≤ 4611686018427387904) : Fn Try.prog 19 [.sl ((marksS k l).map dStp), .p (.int .i64 ((k : Nat)))] [] (fun rr ii nn => rr = .p (.int .i64 (((endS k l : Nat) : Int))) ∧ ii = [] ∧ nn = []) := by
 refine qjj Try.func19 rfl (nb rfl) fun w X g => ?_
 show AWp _ _ _ ⟨[(0, .sl ((marksS k l).map dStp)), (1, .p (.int .i64 ((k : Nat))))], []⟩
 have hke := endS_ge (k := k) (l := l)
 refine rs (oa rfl (on (qqd (rs (oa rfl (on (qqh (qqt (ι := Nat) (fun i => i ≤ l.length) (fun i r => (5, .p (.int .i64 ((i : Nat)))) :: (1, .p (.int .i64 (((endS k (l.take i) : Nat) : Int)))) :: r) (fun i r => r) (fun i => l.length - i) (fun _ _ => rfl) (fun _ _ => rfl) 0 zay1 ⟨⟨rfl, rfl⟩, ⟨rfl, rfl, trivial⟩, trivial, ⟨rfl, rfl⟩, ⟨rfl, rfl⟩⟩ ?_))))))))
 intro i hpre0
 refine qqd (rs (om rfl (om rfl (qqa (qqs Try.underlying26 rfl) (qqa (qzk rfl rfl) (on (ac rfl (fun h1 => ?_) fun h1 => ?_)))))))
 ·
  have h1r := h1
  try simp only [nq, nr, qjd] at h1
  refine qqg (qqd (qqh (qqd (qqd ?_))))
  have hke2 := endS_at (k := k) (l := l) (i := i) zay1
  unfold sxT at hke2
  refine ar (om rfl (om rfl (qqa (qq5 qzy rfl rfl rfl (qqj zay1) rfl) (qqa (qxa fld65f0 rfl) (qqa (qqz qq7 rfl (qqj zay1) rfl) (om rfl (qqa (j_ne rfl rfl) (on (ac rfl (fun h2 => ?_) fun h2 => ?_)))))))))
  ·
   have h2r := h2
   try simp only [nq, nr, qjd] at h2
   refine rs (oa rfl (on (qql ?_)))
   exact absurd h2 (by rw [marksS_at zay1]; simp [markS]; try omega)
  have h2r := h2
  try simp only [nq, nr, qjd] at h2
  refine qqg (rs (om rfl (qqa (qje rfl rfl zay1 zay1) (oa rfl (on (qqd (rs (om rfl (om rfl (qqa (qq5 qzy rfl rfl rfl (qqj zay1) rfl) (qqa (qxa fld65f1 rfl) (qqa (qqz qq7 rfl (qqj zay1) rfl) (om rfl ?_)))))))))))))
  refine qqa (j_ne rfl rfl) (on (ac rfl (fun h3 => ?_) fun h3 => ?_))
  ·
   have h3r := h3
   try simp only [nq, nr, qjd] at h3
   refine rs (oa rfl (on (qql ?_)))
   exact absurd h3 (by rw [marksS_at zay1]; simp [markS]; try omega)
  have h3r := h3
  try simp only [nq, nr, qjd] at h3
  refine qqg (rs (om rfl (qqa (qje rfl rfl zay1 zay1) (oa rfl (on (qqd (rs (om rfl (om rfl (qqa (qq5 qzy rfl rfl rfl (qqj zay1) rfl) (qqa (qxa fld65f2 rfl) (qqa (qqz qq7 rfl (qqj zay1) rfl) (om rfl ?_)))))))))))))
  refine qqa (j_ne rfl rfl) (on (ac rfl (fun h4 => ?_) fun h4 => ?_))
  ·
   have h4r := h4
   try simp only [nq, nr, qjd] at h4
   refine rs (oa rfl (on (qql ?_)))
   exact absurd h4 (by rw [marksS_at zay1]; simp [markS]; try omega)
  have h4r := h4
  try simp only [nq, nr, qjd] at h4
  refine qqg (rs (om rfl (qqa (qje rfl rfl zay1 zay1) (oa rfl (on (rs (om rfl (om rfl (qqa (qq5 qzy rfl rfl rfl (qqj zay1) rfl) (qqa (qxa fld65f3 rfl) (qqa (qxa qjp rfl) (qqa (qqz qj7 rfl (qqj zay1) rfl) (om rfl ?_)))))))))))))
  rw [marksS_at (k := k) (l := l) (i := i) zay1]
  refine qq4 (qqp (v := .p _) (hp1 := []) [] false [] ent39 (f_heldTermS (endS k (l.take i) + 3) (l.getD i default).2.2.2.1.length (by omega)) ⟨.inl ⟨rfl, rfl⟩, .inl ⟨rfl, rfl⟩, trivial⟩ trivial rfl rfl (fun h => by cases h) rfl (fun _ h => by cases h) (.inl rfl) rfl rfl) ?_
  refine oa rfl (on (qqd (rs (om rfl (qqa (qzk rfl rfl) (on (ac rfl (fun h5 => ?_) fun h5 => ?_)))))))
  ·
   have h5r := h5
   try simp only [nq, nr, qjd] at h5
   refine rs (oa rfl (on (qql ?_)))
   exact absurd h5 (by omega)
  have h5r := h5
  try simp only [nq, nr, qjd] at h5
  refine qqg (qqd (rs (om rfl (om rfl (qqa (qq5 qzy rfl rfl rfl (qqj zay1) rfl) (qqa (qxa fld65f3 rfl) (qqa (qxa fld56f1 rfl) (qqa (qqz qq7 rfl (qqj zay1) rfl) (om rfl (qqa (j_ne rfl rfl) (on (ac rfl (fun h6 => ?_) fun h6 => ?_))))))))))))
  ·
   have h6r := h6
   try simp only [nq, nr, qjd] at h6
   refine rs (oa rfl (on (qql ?_)))
   exact absurd h6 (by rw [marksS_at zay1]; simp [markS]; try omega)
  have h6r := h6
  try simp only [nq, nr, qjd] at h6
  refine qqg (ar (om rfl (qqa (qje rfl rfl zay1 zay1) (oa rfl (on (ar (om rfl (qqa (qje rfl rfl zay1 zay1) (oa rfl (on ?_))))))))))
  exact ⟨i + 1, zay1, ⟨⟨rfl, rfl⟩, ⟨rfl, qz7 (by rw [endS_take zay1]; unfold sxT; omega), trivial⟩, trivial, ⟨rfl, rfl⟩, ⟨rfl, rfl⟩⟩, zay1⟩
 have h1r := h1
 try simp only [nq, nr, qjd] at h1
 refine qjf (rs (om rfl (oa rfl (on (qql ?_)))))
 exact qjh rfl ⟨by rw [show i = l.length by first | omega | (simp only [nr, qjd]; omega), List.take_length], rfl, rfl⟩
theorem f_eqStep (s t : Stp) : Fn Try.prog 34 [.agg [.p (.int .i64 s.1), .p (.int .i64 s.2.1), .p (.int .i64 s.2.2.1), .sl (s.2.2.2.1.map dT), .p (.int .i64 s.2.2.2.2)], .agg [.p (.int .i64 t.1), .p (.int .i64 t.2.1), .p (.int .i64 t.2.2.1), .sl (t.2.2.2.1.map dT), .p (.int .i64 t.2.2.2.2)]] [] (fun rr ii nn => rr = .p (.bool (decide (s = t))) ∧ ii = [] ∧ nn = []) := by
 refine qjj Try.func34 rfl (nb rfl) fun w X g => ?_
 show AWp _ _ _ ⟨[(0, .agg [.p (.int .i64 s.1), .p (.int .i64 s.2.1), .p (.int .i64 s.2.2.1), .sl (s.2.2.2.1.map dT), .p (.int .i64 s.2.2.2.2)]), (1, .agg [.p (.int .i64 t.1), .p (.int .i64 t.2.1), .p (.int .i64 t.2.2.1), .sl (t.2.2.2.1.map dT), .p (.int .i64 t.2.2.2.2)])], []⟩
 refine rs (qqu (fun ver => j_boxa rfl) fun v2x1 => ?_)
 refine qqu (fun ver => j_boxa rfl) fun v3x2 => ?_
 refine oa rfl (on (qqd (rs (qqa (qqm fld65f0 rfl rfl) (qqa (qqe qq7 rfl rfl rfl) (qqa (qqm fld65f0 rfl rfl) (qqa (qqe qq7 rfl rfl rfl) (qqa (j_ne rfl rfl) (on (ac rfl (fun h1 => ?_) fun h1 => ?_))))))))))
 ·
  have h1r := h1
  try simp only [nq, nr] at h1
  refine rs (oa rfl (on (qql ?_)))
  exact qjh rfl ⟨qja (stp_dec (by first | (simp_all; done) | (simp_all [Prod.ext_iff]; done) | (simp_all [Prod.ext_iff]; omega))), rfl, rfl⟩
 have h1r := h1
 try simp only [nq, nr] at h1
 refine qqg (qqd (rs (qqa (qqm fld65f1 rfl rfl) (qqa (qqe qq7 rfl rfl rfl) (qqa (qqm fld65f1 rfl rfl) (qqa (qqe qq7 rfl rfl rfl) (qqa (j_ne rfl rfl) (on (ac rfl (fun h2 => ?_) fun h2 => ?_)))))))))
 ·
  have h2r := h2
  try simp only [nq, nr] at h2
  refine rs (oa rfl (on (qql ?_)))
  exact qjh rfl ⟨qja (stp_dec (by first | (simp_all; done) | (simp_all [Prod.ext_iff]; done) | (simp_all [Prod.ext_iff]; omega))), rfl, rfl⟩
 have h2r := h2
 try simp only [nq, nr] at h2
 refine qqg (qqd (rs (qqa (qqm fld65f2 rfl rfl) (qqa (qqe qq7 rfl rfl rfl) (qqa (qqm fld65f2 rfl rfl) (qqa (qqe qq7 rfl rfl rfl) (qqa (j_ne rfl rfl) (on (ac rfl (fun h3 => ?_) fun h3 => ?_)))))))))
 ·
  have h3r := h3
  try simp only [nq, nr] at h3
  refine rs (oa rfl (on (qql ?_)))
  exact qjh rfl ⟨qja (stp_dec (by first | (simp_all; done) | (simp_all [Prod.ext_iff]; done) | (simp_all [Prod.ext_iff]; omega))), rfl, rfl⟩
 have h3r := h3
 try simp only [nq, nr] at h3
 refine qqg (qqd (rs (qqa (qqm fld65f3 rfl rfl) (qqa (qqr (ys := [.sl _, .p _]) qj5 rfl rfl rfl (nb rfl)) (qqa (qqm fld65f3 rfl rfl) (qqa (qqr (ys := [.sl _, .p _]) qj5 rfl rfl rfl (nb rfl)) ?_))))))
 refine qq4 (qqp (v := .p _) (hp1 := []) [] false [] ent35 (f_eqCon s.2.2.2 t.2.2.2) ⟨.inl ⟨rfl, rfl⟩, .inl ⟨rfl, rfl⟩, trivial⟩ trivial rfl rfl (fun h => by cases h) rfl (fun _ h => by cases h) (.inl rfl) rfl rfl) ?_
 refine qqa (j_not rfl) (on (ac rfl (fun h4 => ?_) fun h4 => ?_))
 ·
  have h4r := h4
  try simp only [nq, nr] at h4
  refine rs (oa rfl (on (qql ?_)))
  exact qjh rfl ⟨qja (stp_dec (by first | (simp_all; done) | (simp_all [Prod.ext_iff]; done) | (simp_all [Prod.ext_iff]; omega))), rfl, rfl⟩
 have h4r := h4
 try simp only [nq, nr] at h4
 refine qqg (rs (oa rfl (on (qql ?_))))
 exact qjh rfl ⟨qja (stp_dec (by first | (simp_all; done) | (simp_all [Prod.ext_iff]; done) | (simp_all [Prod.ext_iff]; omega))), rfl, rfl⟩
theorem f_eqStepS (a b : List Stp) : Fn Try.prog 11 [.sl (a.map dStp), .sl (b.map dStp)] [] (fun rr ii nn => rr = .p (.bool (decide (a = b))) ∧ ii = [] ∧ nn = []) := by
 refine qjj Try.func11 rfl (nb rfl) fun w X g => ?_
 show AWp _ _ _ ⟨[(0, .sl (a.map dStp)), (1, .sl (b.map dStp))], []⟩
 refine qzb 0 rfl fun hla => ?_
 refine rs (oa rfl (on (qqd (rs (om rfl (qqa (qqs Try.underlying26 rfl) (om rfl (qqa (qqs Try.underlying26 rfl) (qqa (j_ne rfl rfl) (on (ac rfl (fun h1 => ?_) fun h1 => ?_)))))))))))
 ·
  have h1r := h1
  try simp only [nq, nr] at h1
  refine rs (oa rfl (on (qql ?_)))
  exact qjh rfl ⟨qja (by symm; rw [decide_eq_false_iff_not]; rintro rfl; exact h1 rfl), rfl, rfl⟩
 have h1r := h1
 try simp only [nq, nr] at h1
 refine qqg (qqd (rs (oa rfl (on (qqh (qqt (ι := Nat) (fun k => k ≤ a.length ∧ a.take k = b.take k) (fun k r => (5, .p (.int .i64 ((k : Nat)))) :: r) (fun k r => r) (fun k => a.length - k) (fun _ _ => rfl) (fun _ _ => rfl) 0 ⟨Nat.zero_le _, rfl⟩ ⟨⟨rfl, rfl⟩, ⟨rfl, trivial⟩, trivial, ⟨rfl, rfl⟩, ⟨rfl, rfl⟩⟩ ?_))))))
 intro k hpre0
 refine qqd (rs (om rfl (om rfl (qqa (qqs Try.underlying26 rfl) (qqa (qzk rfl rfl) (on (ac rfl (fun h2 => ?_) fun h2 => ?_)))))))
 ·
  have h2r := h2
  try simp only [nq, nr] at h2
  refine qqg (qqd (qqh (qqd (a_draw mixed (by kernel_rfl) (by kernel_rfl) fun vf => ?_))))
  refine qqq (qqn (evo rfl)) (qqq (qqn (evo rfl)) (qqq (qq5 qzy rfl rfl rfl (qqj (by omega)) rfl) (qqq (qjq (ys := [.p _, .p _, .p _, .sl _, .p _]) agg65 rfl (qqj (by omega)) rfl (Nat.le_refl _)) (qqq (qqn (evo rfl)) (qqq (qqn (evo rfl)) (qqq (qq5 qzy rfl rfl rfl (qqj (by omega)) rfl) (qqq (qjq (ys := [.p _, .p _, .p _, .sl _, .p _]) agg65 rfl (qqj (by omega)) rfl (Nat.le_refl _)) ?_)))))))
  refine d_v0' (qqp (v := .p _) (hp1 := []) [] false [] ent34 (f_eqStep (a.getD k default) (b.getD k default)) ⟨.inl ⟨rfl, rfl⟩, .inl ⟨rfl, rfl⟩, trivial⟩ trivial rfl rfl (fun h => by cases h) rfl (fun _ h => by cases h) (.inl rfl) rfl rfl) ?_
  refine qqq (j_not rfl) (d_nil (by kernel_rfl) (by kernel_rfl) ?_)
  refine ac rfl (fun h3 => ?_) fun h3 => ?_
  ·
   have h3r := h3
   try simp only [nq, nr] at h3
   refine rs (oa rfl (on (qql ?_)))
   exact qjh rfl ⟨qja (by symm; rw [decide_eq_false_iff_not]; rintro rfl; exact h3 rfl), rfl, rfl⟩
  have h3r := h3
  try simp only [nq, nr] at h3
  refine qqg (ar (om rfl (qqa (qje rfl rfl (by omega) (by omega)) (oa rfl (on ?_)))))
  exact ⟨k + 1, ⟨(by omega), take_next hpre0.2 (by omega) (by omega) h3⟩, ⟨⟨rfl, rfl⟩, ⟨rfl, trivial⟩, trivial, ⟨rfl, rfl⟩, ⟨rfl, rfl⟩⟩, (by omega)⟩
 have h2r := h2
 try simp only [nq, nr] at h2
 refine qjf (rs (oa rfl (on (qql ?_))))
 exact qjh rfl ⟨qja (by symm; rw [decide_eq_true_eq]; exact take_eq hpre0.2 (by omega) (by omega)), rfl, rfl⟩
end Go.Ab

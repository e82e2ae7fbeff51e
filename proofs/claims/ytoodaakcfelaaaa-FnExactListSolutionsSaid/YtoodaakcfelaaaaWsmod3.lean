/- Walks. -/
import Derived.Test.YtoodaakcfelaaaaBase
import Derived.Test.YtoodaakcfelaaaaFd
import Derived.Test.YtoodaakcfelaaaaWsmod
import Derived.Test.YtoodaakcfelaaaaWsvals
import Derived.Test.YtoodaakcfelaaaaWsexcl
import Derived.Test.YtoodaakcfelaaaaWsparse
namespace Go.Ab
open Go.Proofs
set_option maxRecDepth 100000
set_option maxHeartbeats 8000000
set_option linter.unusedSimpArgs false
set_option linter.unusedVariables false
theorem zaz0 {p : Prop} (h : p := by first | omega | (simp only [nr, nl, qjn, qjr]; omega)) : p := h
theorem zaz1 {p : Prop} (h : p := by first | omega | (simp only [nr, qjr]; omega)) : p := h
theorem f_eqBoolSS (a b : List (List Bool)) : Fn Try.prog 10 [.sl (a.map dD), .sl (b.map dD)] [] (fun rr ii nn => rr = .p (.bool (decide (a = b))) ∧ ii = [] ∧ nn = []) := by
 refine qjj Try.func10 rfl (nb rfl) fun w X g => ?_
 show AWp _ _ _ ⟨[(0, .sl (a.map dD)), (1, .sl (b.map dD))], []⟩
 refine qzb 0 rfl fun hla => ?_
 refine rs (oa rfl (on (qqd (rs (om rfl (qqa (qqs Try.underlying25 rfl) (om rfl (qqa (qqs Try.underlying25 rfl) (qqa (j_ne rfl rfl) (on (ac rfl (fun h1 => ?_) fun h1 => ?_)))))))))))
 ·
  have h1r := h1
  try simp only [nq, nr] at h1
  refine rs (oa rfl (on (qql ?_)))
  exact qjh rfl ⟨qja (by symm; rw [decide_eq_false_iff_not]; rintro rfl; exact h1 rfl), rfl, rfl⟩
 have h1r := h1
 try simp only [nq, nr] at h1
 refine qqg (qqd (rs (oa rfl (on (qqh (qqt (ι := Nat) (fun k => k ≤ a.length ∧ a.take k = b.take k) (fun k r => (5, .p (.int .i64 ((k : Nat)))) :: r) (fun k r => r) (fun k => a.length - k) (fun _ _ => rfl) (fun _ _ => rfl) 0 ⟨Nat.zero_le _, rfl⟩ ⟨⟨rfl, rfl⟩, ⟨rfl, trivial⟩, trivial, ⟨rfl, rfl⟩, ⟨rfl, rfl⟩⟩ ?_))))))
 intro k hpre0
 refine qqd (rs (om rfl (om rfl (qqa (qqs Try.underlying25 rfl) (qqa (qzk rfl rfl) (on (ac rfl (fun h2 => ?_) fun h2 => ?_)))))))
 ·
  have h2r := h2
  try simp only [nq, nr] at h2
  refine qqg (qqd (qqh (qqd (a_draw mixed (by kernel_rfl) (by kernel_rfl) fun vf => ?_))))
  refine qqq (qqn (evo rfl)) (qqq (qqn (evo rfl)) (qqq (qq5 slt25 rfl rfl rfl (qqj (by omega)) rfl) (qqq (qqz leaf51 rfl (qqj (by omega)) rfl) (qqq (qqn (evo rfl)) (qqq (qqn (evo rfl)) (qqq (qq5 slt25 rfl rfl rfl (qqj (by omega)) rfl) (qqq (qqz leaf51 rfl (qqj (by omega)) rfl) ?_)))))))
  refine d_v0' (qqp (v := .p _) (hp1 := []) [] false [] ent33 (f_eqBoolS (a.getD k default) (b.getD k default)) ⟨.inl ⟨rfl, rfl⟩, .inl ⟨rfl, rfl⟩, trivial⟩ trivial rfl rfl (fun h => by cases h) rfl (fun _ h => by cases h) (.inl rfl) rfl rfl) ?_
  refine qqq (j_not rfl) (d_nil (by kernel_rfl) (by kernel_rfl) ?_)
  refine ac rfl (fun h3 => ?_) fun h3 => ?_
  ·
   have h3r := h3
   try simp only [nq, nr] at h3
   refine rs (oa rfl (on (qql ?_)))
   exact qjh rfl ⟨qja (by symm; rw [decide_eq_false_iff_not]; rintro rfl; exact h3 rfl), rfl, rfl⟩
  have h3r := h3
  try simp only [nq, nr] at h3
  refine qqg (ar (om rfl (qqa (qje rfl rfl (by omega) (by omega)) (oa rfl (on ?_)))))
  exact ⟨k + 1, ⟨(by omega), take_next hpre0.2 (by omega) (by omega) h3⟩, ⟨⟨rfl, rfl⟩, ⟨rfl, trivial⟩, trivial, ⟨rfl, rfl⟩, ⟨rfl, rfl⟩⟩, (by omega)⟩
 have h2r := h2
 try simp only [nq, nr] at h2
 refine qjf (rs (oa rfl (on (qql ?_))))
 exact qjh rfl ⟨qja (by symm; rw [decide_eq_true_eq]; exact take_eq hpre0.2 (by omega) (by omega)), rfl, rfl⟩
theorem f_markBoolSS (k : Nat) (l : List (List Bool)) (hb : k + sumW List.length l ≤ 4611686018427387904) (hl : l.length ≤ 1048576) : Fn Try.prog 16 [.own 0 0, .p (.int .i64 ((k : Nat)))] [.deep (.mk 51 1 [(0, .mk 4 1 [])]) ((l).map dD) none] (fun rr ii nn => rr = .p (.int .i64 (((k + sumW List.length l : Nat) : Int))) ∧ ii = [.deep (.mk 51 1 [(0, .mk 4 1 [])]) ((marksLB k l).map dD) none] ∧ nn = []) := by
 refine qjj Try.func16 rfl (nb rfl) fun w X g => ?_
 show AWp _ _ _ ⟨[(0, .own 0 0), (1, .p (.int .i64 ((k : Nat))))], [(0, some (0, .deep (.mk 51 1 [(0, .mk 4 1 [])]) ((l).map dD) none))]⟩
 have hlb := lenW_le (l := l)
 refine rs (oa rfl (on (qqd (rs (oa rfl (on (qqh (qqt (ι := Nat) (fun i => i ≤ l.length) (fun i r => (5, .p (.int .i64 ((i : Nat)))) :: (1, .p (.int .i64 (((k + sumW List.length (l.take i) : Nat) : Int)))) :: r) (fun i r => (0, some (0, .deep (.mk 51 1 [(0, .mk 4 1 [])]) (wo dD (marksLB k l) l i) none)) :: r) (fun i => l.length - i) (fun _ _ => rfl) (fun _ _ => rfl) 0 zaz0 ⟨⟨rfl, rfl⟩, ⟨rfl, qz7 (by simp [sumW]), trivial⟩, ⟨deepEq wo_zero.symm, trivial⟩, ⟨rfl, rfl⟩, ⟨rfl, rfl⟩⟩ ?_))))))))
 intro i hpre0
 refine qqd (rs (om rfl (om rfl (qqa (j_len_deep Try.underlying25 rfl rfl) (qqa (qzk rfl rfl) (on (ac rfl (fun h1 => ?_) fun h1 => ?_)))))))
 ·
  have h1r := h1
  try simp only [nq, nr, nl, qjn, qjr] at h1
  refine qqg (qqd (qqh ?_))
  have hs2 := sumW_take (w := List.length) (d := default) (l := l) (k := i) zaz0
  have hs3 := sumW_le (w := List.length) (l := l) (k := i + 1)
  refine ar (om rfl (om rfl (qqa (qzg slt25 rfl rfl rfl rfl rfl zaz0) (qzi (fun ver => j_out leaf51 (by decide) rfl rfl rfl (wo_at zaz0 zaz0) rfl rfl) fun v15x1 => ?_))))
  refine om rfl ?_
  refine qq4 (qqp (v := .p _) (hp1 := [(15, some (v15x1, .row 4 1 _))]) [(15, v15x1)] false [15] ent37 (f_markBoolS (k + sumW List.length (l.take i)) (l.getD i default) (by omega)) ⟨.inl ⟨rfl, rfl⟩, .inl ⟨rfl, rfl⟩, trivial⟩ ⟨⟨rfl, rfl⟩, trivial⟩ rfl rfl (fun h => by cases h) rfl (List.all_eq_true.1 rfl) (.inl rfl) rfl rfl) ?_
  refine oa rfl (on (a_back 0 15 (by decide) rfl rfl rfl rfl (wo_at zaz0 zaz0) rfl ?_))
  refine ar (om rfl (qqa (qje rfl rfl zaz0 zaz0) (oa rfl (on ?_))))
  exact ⟨i + 1, zaz0, ⟨⟨rfl, rfl⟩, ⟨rfl, qz7 (by omega), trivial⟩, ⟨deepEq (wo_set (d := default) (x := marksB (k + sumW List.length (l.take i)) (l.getD i default).length) zaz0 zaz0 (marksLB_at zaz0)), trivial⟩, ⟨rfl, rfl⟩, ⟨rfl, rfl⟩⟩, zaz0⟩
 have h1r := h1
 try simp only [nq, nr, nl, qjn, qjr] at h1
 refine qjf (rs (om rfl (oa rfl (on (qql ?_)))))
 exact ⟨[.p _], .p _, [.deep (.mk 51 1 [(0, (.mk 4 1 []))]) _ none], [], [], ⟨rfl, trivial⟩, rfl, rfl, ⟨⟨rfl, rfl⟩, trivial⟩, rfl, rfl, ⟨by rw [show i = l.length by first | omega | (simp only [nr, nl, qjn, qjr]; omega), List.take_length], congrArg (fun x => [Obj.deep _ x none]) (wo_all zaz0 zaz0), rfl⟩⟩
theorem f_heldBoolSS (k : Nat) (l : List (List Bool)) (hb : k + sumW List.length l ≤ 4611686018427387904) (hl : l.length ≤ 1048576) : Fn Try.prog 18 [.sl ((marksLB k l).map dD), .p (.int .i64 ((k : Nat)))] [] (fun rr ii nn => rr = .p (.int .i64 (((k + sumW List.length l : Nat) : Int))) ∧ ii = [] ∧ nn = []) := by
 refine qjj Try.func18 rfl (nb rfl) fun w X g => ?_
 show AWp _ _ _ ⟨[(0, .sl ((marksLB k l).map dD)), (1, .p (.int .i64 ((k : Nat))))], []⟩
 refine qzb 0 rfl fun hla => ?_
 refine rs (oa rfl (on (qqd (rs (oa rfl (on (qqh (qqt (ι := Nat) (fun i => i ≤ l.length) (fun i r => (5, .p (.int .i64 ((i : Nat)))) :: (1, .p (.int .i64 (((k + sumW List.length (l.take i) : Nat) : Int)))) :: r) (fun i r => r) (fun i => l.length - i) (fun _ _ => rfl) (fun _ _ => rfl) 0 zaz1 ⟨⟨rfl, rfl⟩, ⟨rfl, qz7 (by simp [sumW]), trivial⟩, trivial, ⟨rfl, rfl⟩, ⟨rfl, rfl⟩⟩ ?_))))))))
 intro i hpre0
 refine qqd (rs (om rfl (om rfl (qqa (qqs Try.underlying25 rfl) (qqa (qzk rfl rfl) (on (ac rfl (fun h1 => ?_) fun h1 => ?_)))))))
 ·
  have h1r := h1
  try simp only [nq, nr, qjr] at h1
  refine qqg (qqd (qqh (qqd ?_)))
  have hs2 := sumW_take (w := List.length) (d := default) (l := l) (k := i) zaz1
  have hs3 := sumW_le (w := List.length) (l := l) (k := i + 1)
  refine ar (om rfl (om rfl (qqa (qq5 slt25 rfl rfl rfl (qqj zaz1) rfl) (qqa (qqz leaf51 rfl (qqj zaz1) rfl) (om rfl ?_)))))
  rw [marksLB_at (k := k) (l := l) (i := i) zaz1]
  refine qq4 (qqp (v := .p _) (hp1 := []) [] false [] ent38 (f_heldBoolS (k + sumW List.length (l.take i)) (l.getD i default).length (by omega)) ⟨.inl ⟨rfl, rfl⟩, .inl ⟨rfl, rfl⟩, trivial⟩ trivial rfl rfl (fun h => by cases h) rfl (fun _ h => by cases h) (.inl rfl) rfl rfl) ?_
  refine oa rfl (on (rs (om rfl (qqa (qzk rfl rfl) (on (ac rfl (fun h2 => ?_) fun h2 => ?_))))))
  ·
   have h2r := h2
   try simp only [nq, nr, qjr] at h2
   refine rs (oa rfl (on (qql ?_)))
   exact absurd h2 (by omega)
  have h2r := h2
  try simp only [nq, nr, qjr] at h2
  refine qqg (ar (om rfl (qqa (qje rfl rfl zaz1 zaz1) (oa rfl (on ?_)))))
  exact ⟨i + 1, zaz1, ⟨⟨rfl, rfl⟩, ⟨rfl, qz7 (by omega), trivial⟩, trivial, ⟨rfl, rfl⟩, ⟨rfl, rfl⟩⟩, zaz1⟩
 have h1r := h1
 try simp only [nq, nr, qjr] at h1
 refine qjf (rs (om rfl (oa rfl (on (qql ?_)))))
 exact qjh rfl ⟨by rw [show i = l.length by first | omega | (simp only [nr, qjr]; omega), List.take_length], rfl, rfl⟩
end Go.Ab

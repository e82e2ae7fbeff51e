/- Walks. -/
import Derived.Test.YtoodaakcfelaaaaBase
import Derived.Test.YtoodaakcfelaaaaVals
import Derived.Test.YtoodaakcfelaaaaWsvals
namespace Go.Ab
open Go.Proofs
set_option maxRecDepth 100000
set_option maxHeartbeats 8000000
set_option linter.unusedSimpArgs false
set_option linter.unusedVariables false
theorem zae0 {p : Prop} (h : p := by first | omega | (simp only [nr, qjn, qj4]; omega)) : p := h
theorem zae1 {p : Prop} (h : p := by first | omega | (simp only [nr, qj4]; omega)) : p := h
theorem f_markBoolS (k : Nat) (bs : List Bool) (hb : k + bs.length ≤ 4611686018427387904) : Fn Try.prog 37 [.own 0 0, .p (.int .i64 (k : Nat))] [.row 4 1 (bs.map dB)] (fun rr ii nn => rr = .p (.int .i64 ((k + bs.length : Nat) : Int)) ∧ ii = [.row 4 1 ((marksB k bs.length).map dB)] ∧ nn = []) := by
 refine qjj Try.func37 rfl (nb rfl) fun w X g => ?_
 show AWp _ _ _ ⟨[(0, .own 0 0), (1, .p (.int .i64 (k : Nat)))], [(0, some (0, .row 4 1 (bs.map dB)))]⟩
 refine rs (oa rfl (on (qqd (rs (oa rfl (on (qqh (qqt (ι := Nat) (fun i => i ≤ bs.length) (fun i r => (5, .p (.int .i64 (i : Nat))) :: (1, .p (.int .i64 ((k + i : Nat) : Int))) :: r) (fun i r => (0, some (0, .row 4 1 (wo dB (marksB k bs.length) bs i))) :: r) (fun i => bs.length - i) (fun _ _ => rfl) (fun _ _ => rfl) 0 zae0 ⟨⟨rfl, rfl⟩, ⟨rfl, rfl, trivial⟩, ⟨qzd wo_zero.symm, trivial⟩, ⟨rfl, rfl⟩, ⟨rfl, rfl⟩⟩ ?_))))))))
 intro i hpre0
 refine qqd (rs (om rfl (om rfl (qqa (j_len_own Try.underlying51 rfl rfl) (qqa (qzk rfl rfl) (on (ac rfl (fun h1 => ?_) fun h1 => ?_)))))))
 ·
  have h1r := h1
  try simp only [nq, nr, qjn, qj4] at h1
  refine qqg (qqd (qqh (rs (om rfl (om rfl (om rfl (qqa (j_rem rfl rfl zae0 zae0) (qqa (j_eq rfl rfl) (qqa (qqx slt51 rfl rfl rfl rfl zae0) (qjk (qj9 leaf4 rfl rfl zae0 (evo rfl) rfl rfl) ?_))))))))))
  refine on (ar (om rfl (qqa (qje rfl rfl zae0 zae0) (oa rfl (on (ar (om rfl (qqa (qje rfl rfl zae0 zae0) (oa rfl (on ?_))))))))))
  exact ⟨i + 1, zae0, ⟨⟨rfl, rfl⟩, ⟨rfl, rfl, trivial⟩, ⟨qzd (wo_set (d := default) (x := markB k i) zae0 zae0 (marksB_at zae0)), trivial⟩, ⟨rfl, rfl⟩, ⟨rfl, rfl⟩⟩, zae0⟩
 have h1r := h1
 try simp only [nq, nr, qjn, qj4] at h1
 refine qjf (rs (om rfl (oa rfl (on (qql ?_)))))
 exact fin_p1 rfl rfl rfl rfl ⟨by rw [show i = bs.length by first | omega | (simp only [nr, qjn, qj4]; omega)], congrArg (fun x => [Obj.row _ _ x]) (wo_all zae0 zae0), rfl⟩
theorem f_heldBoolS (k n : Nat) (hb : k + n ≤ 4611686018427387904) : Fn Try.prog 38 [.sl ((marksB k n).map dB), .p (.int .i64 (k : Nat))] [] (fun rr ii nn => rr = .p (.int .i64 ((k + n : Nat) : Int)) ∧ ii = [] ∧ nn = []) := by
 refine qjj Try.func38 rfl (nb rfl) fun w X g => ?_
 show AWp _ _ _ ⟨[(0, .sl ((marksB k n).map dB)), (1, .p (.int .i64 (k : Nat)))], []⟩
 refine rs (oa rfl (on (qqd (rs (oa rfl (on (qqh (qqt (ι := Nat) (fun i => i ≤ n) (fun i r => (5, .p (.int .i64 (i : Nat))) :: (1, .p (.int .i64 ((k + i : Nat) : Int))) :: r) (fun i r => r) (fun i => n - i) (fun _ _ => rfl) (fun _ _ => rfl) 0 zae1 ⟨⟨rfl, rfl⟩, ⟨rfl, rfl, trivial⟩, trivial, ⟨rfl, rfl⟩, ⟨rfl, rfl⟩⟩ ?_))))))))
 intro i hpre0
 refine qqd (rs (om rfl (om rfl (qqa (qqs Try.underlying51 rfl) (qqa (qzk rfl rfl) (on (ac rfl (fun h1 => ?_) fun h1 => ?_)))))))
 ·
  have h1r := h1
  try simp only [nq, nr, qj4] at h1
  refine qqg (qqd (qqh (qqd (rs (om rfl (om rfl (qqa (qq5 slt51 rfl rfl rfl (qqj zae1) rfl) (qqa (qqz leaf4 rfl (qqj zae1) rfl) (om rfl (qqa (j_rem rfl rfl zae1 zae1) (qqa (j_eq rfl rfl) (qqa (j_neb Try.underlying4 rfl rfl) (on (ac rfl (fun h2 => ?_) fun h2 => ?_))))))))))))))
  ·
   have h2r := h2
   try simp only [nq, nr, qj4] at h2
   refine rs (oa rfl (on (qql ?_)))
   exact absurd h2 (by rw [marksB_at zae1]; unfold markB; simp)
  have h2r := h2
  try simp only [nq, nr, qj4] at h2
  refine qqg (ar (om rfl (qqa (qje rfl rfl zae1 zae1) (oa rfl (on (ar (om rfl (qqa (qje rfl rfl zae1 zae1) (oa rfl (on ?_))))))))))
  exact ⟨i + 1, zae1, ⟨⟨rfl, rfl⟩, ⟨rfl, rfl, trivial⟩, trivial, ⟨rfl, rfl⟩, ⟨rfl, rfl⟩⟩, zae1⟩
 have h1r := h1
 try simp only [nq, nr, qj4] at h1
 refine qjf (rs (om rfl (oa rfl (on (qql ?_)))))
 exact qjh rfl ⟨by rw [show i = n by first | omega | (simp only [nr, qj4]; omega)], rfl, rfl⟩
end Go.Ab

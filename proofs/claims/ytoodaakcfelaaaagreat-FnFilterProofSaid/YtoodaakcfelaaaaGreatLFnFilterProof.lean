/- laws.FnFilterProof answers true for every input, and its arguments read behind the call as they did. No condition. -/
import Derived.Test.YtoodaakcfelaaaaGreatOpn
import Derived.Test.YtoodaakcfelaaaaGreatWsfp
import Derived.Test.YtoodaakcfelaaaaGreatRows
namespace Go.Proofs.YtoodaakcfelaaaaGreat
open Go.ChangeShapes Go.WideShapes Go.ChangeAt Go.RowKit Go.Ab
set_option linter.unusedSimpArgs false
set_option linter.unusedVariables false

set_option maxRecDepth 100000 in
theorem lifted (os : Os) (started : os.Started) (H : Type) (enc : TypeId × Value → H) :
    ReturnsInHanded {} Tryz.checked os 7 .any (Rows.fnFilterProofSpec.pre6 enc Tryz.prog Tryz.f7 Rows.fnFilterProofRow.domain false) (Rows.fnFilterProofSpec.post enc Tryz.prog Tryz.f7 false true false false) := by
  refine returnsInHanded_of_change (C := Tryz.checked) own started (by kernel_rfl) Tryz.func7
    (ChangeSpec.witness6 (enc := enc) (C := Tryz.checked) false ⟨#[], #[.slice none 0 0, .slice none 0 0], []⟩ 8 (by kernel_rfl) (by kernel_rfl) (by kernel_rfl) (by kernel_rfl)) ?_
  intro W base args ds gs before hval0 hW hcnd _
  have hval : ∀ (j : Nat) t v, Tryz.f7.params[j]? = some t → args[j]? = some v → Value.okWide Tryz.prog W .any base t v := hval0
  refine law_calls (P := Tryz.prog) laidOut rfl (fun ds hd => ?_) (tb := 4) rfl Tryz.underlying4 ?_ hW ?_
  · rw [Tryz.params7] at hd
    match ds, hd with
    | [d0, d1], _ => rfl
  · rw [Tryz.params7]
    intro t ht
    simp only [List.mem_cons, List.not_mem_nil, or_false] at ht
    rcases ht with rfl | rfl <;> exact ⟨by kernel_rfl, of_decide_eq_true (by kernel_rfl)⟩
  · obtain ⟨p, q, hA0, _⟩ := hW
    have hA : DataW.TrodAll enc Tryz.prog W 0 (fun _ => true) true Tryz.f7.params.toList args.toList ds p := hA0
    rw [Tryz.params7] at hA hval
    obtain ⟨u0, vs0, d0, ds0, p0, q0, hargs, rfl, rfl, t0, r0⟩ := trodAll_cons hA
    obtain ⟨u1, vs1, d1, ds1, p1, q1, rfl, rfl, rfl, t1, r1⟩ := trodAll_cons r0
    obtain ⟨rfl, rfl, rfl⟩ := trodAll_nil r1
    obtain rfl : args = #[u0, u1] := by cases args; simp_all
    obtain ⟨a0, k0, s0⟩ := arg_leaf Tryz.underlying41 rfl o41 (hval 0 _ u0 rfl rfl) t0
    obtain ⟨a1, k1, s1⟩ := arg_leaf Tryz.underlying41 rfl o41 (hval 1 _ u1 rfl rfl) t1
    exact ⟨[_, _], ⟨s0, s1, trivial⟩, f_lawFP a0 a1 k0 k1⟩

theorem both {a b : Bool} (h : a = true) (k : b = true) : (a && b) = true := by rw [h, k]; rfl

set_option maxHeartbeats 8000000 in
theorem closed : joinedFacts Tryz.prog 7 Tryz.f7 Rows.fnFilterProofSpec Rows.fnFilterProofRow = true := by
  unfold joinedFacts Program.mayEnter Program.liftsFinal Program.make Program.headLifts
  rw [signs]
  repeat' (with_reducible refine both ?_ ?_)
  all_goals as_aux_lemma => kernel_rfl

theorem fnFilterProof_holds : Rows.FnFilterProofSaid :=
  OpenClaim.holds_of_wide 7 Tryz.f7 rfl rfl rfl rfl rfl rfl rfl ⟨rfl, rfl, rfl, rfl, rfl⟩ rfl rfl rfl rfl rfl (by kernel_rfl) Tryz.func7 closed
    (of_decide_eq_true (by kernel_rfl)) (by unfold Func.isWrapper; first | (rw [if_pos (by decide +kernel)]; kernel_rfl) | (rw [if_neg (by decide +kernel)]; exact ⟨rfl, rfl⟩))
    (fun os started H enc _ => lifted os started H enc)
end Go.Proofs.YtoodaakcfelaaaaGreat

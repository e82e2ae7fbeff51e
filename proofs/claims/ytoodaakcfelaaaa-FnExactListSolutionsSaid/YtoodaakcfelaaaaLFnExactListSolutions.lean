/- laws.FnExactListSolutions answers true for every input, and its arguments read behind the call as they did. No condition. -/
import Derived.Test.YtoodaakcfelaaaaOpn
import Derived.Test.YtoodaakcfelaaaaWsxls6
import Derived.Test.YtoodaakcfelaaaaRows
namespace Go.Proofs.Ytoodaakcfelaaaa
open Go.ChangeShapes Go.WideShapes Go.ChangeAt Go.RowKit Go.Ab
set_option linter.unusedSimpArgs false
set_option linter.unusedVariables false

set_option maxRecDepth 100000 in
theorem lifted (os : Os) (started : os.Started) (H : Type) (enc : TypeId × Value → H) :
    ReturnsInHanded {} Try.checked os 3 .any (Rows.fnExactListSolutionsSpec.pre6 enc Try.prog Try.f3 Rows.fnExactListSolutionsRow.domain false) (Rows.fnExactListSolutionsSpec.post enc Try.prog Try.f3 false true false false) := by
  refine returnsInHanded_of_change (C := Try.checked) own started (by kernel_rfl) Try.func3
    (ChangeSpec.witness6 (enc := enc) (C := Try.checked) false ⟨#[], #[.slice none 0 0, .slice none 0 0, .int .i64 0], []⟩ 8 (by kernel_rfl) (by kernel_rfl) (by kernel_rfl) (by kernel_rfl)) ?_
  intro W base args ds gs before hval0 hW hcnd _
  have hval : ∀ (j : Nat) t v, Try.f3.params[j]? = some t → args[j]? = some v → Value.okWide Try.prog W .any base t v := hval0
  refine law_calls (P := Try.prog) laidOut rfl (fun ds hd => ?_) (tb := 4) rfl Try.underlying4 ?_ hW ?_
  · rw [Try.params3] at hd
    match ds, hd with
    | [d0, d1, d2], _ => rfl
  · rw [Try.params3]
    intro t ht
    simp only [List.mem_cons, List.not_mem_nil, or_false] at ht
    rcases ht with rfl | rfl | rfl <;> exact ⟨by kernel_rfl, of_decide_eq_true (by kernel_rfl)⟩
  · obtain ⟨p, q, hA0, _⟩ := hW
    have hA : DataW.TrodAll enc Try.prog W 0 (fun _ => true) true Try.f3.params.toList args.toList ds p := hA0
    rw [Try.params3] at hA hval
    obtain ⟨u0, vs0, d0, ds0, p0, q0, hargs, rfl, rfl, t0, r0⟩ := trodAll_cons hA
    obtain ⟨u1, vs1, d1, ds1, p1, q1, rfl, rfl, rfl, t1, r1⟩ := trodAll_cons r0
    obtain ⟨u2, vs2, d2, ds2, p2, q2, rfl, rfl, rfl, t2, r2⟩ := trodAll_cons r1
    obtain ⟨rfl, rfl, rfl⟩ := trodAll_nil r2
    obtain rfl : args = #[u0, u1, u2] := by cases args; simp_all
    obtain ⟨a0, k0, s0⟩ := arg_leaf Try.underlying22 rfl o22 (hval 0 _ u0 rfl rfl) t0
    obtain ⟨a1, k1, s1⟩ := arg_leaf Try.underlying23 rfl o23 (hval 1 _ u1 rfl rfl) t1
    obtain ⟨a2, k2, s2⟩ := arg_leaf Try.underlying3 rfl o3 (hval 2 _ u2 rfl rfl) t2
    exact ⟨[_, _, _], ⟨s0, s1, s2, trivial⟩, f_lawEXL a0 a1 a2⟩

theorem both {a b : Bool} (h : a = true) (k : b = true) : (a && b) = true := by rw [h, k]; rfl

set_option maxHeartbeats 8000000 in
theorem closed : joinedFacts Try.prog 3 Try.f3 Rows.fnExactListSolutionsSpec Rows.fnExactListSolutionsRow = true := by
  unfold joinedFacts Program.mayEnter Program.liftsFinal Program.make Program.headLifts
  rw [signs]
  repeat' (with_reducible refine both ?_ ?_)
  all_goals as_aux_lemma => kernel_rfl

theorem fnExactListSolutions_holds : Rows.FnExactListSolutionsSaid :=
  OpenClaim.holds_of_wide 3 Try.f3 rfl rfl rfl rfl rfl rfl rfl ⟨rfl, rfl, rfl, rfl, rfl⟩ rfl rfl rfl rfl rfl (by kernel_rfl) Try.func3 closed
    (of_decide_eq_true (by kernel_rfl)) (by unfold Func.isWrapper; first | (rw [if_pos (by decide +kernel)]; kernel_rfl) | (rw [if_neg (by decide +kernel)]; exact ⟨rfl, rfl⟩))
    (fun os started H enc _ => lifted os started H enc)
end Go.Proofs.Ytoodaakcfelaaaa

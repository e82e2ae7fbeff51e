/- Steps of proofs, opened. -/
import Derived.Test.YtoodaakcfelaaaaGreatAb12
import Derived.Test.YtoodaakcfelaaaaGreatCub
set_option linter.unusedSimpArgs false
set_option linter.unusedVariables false
namespace Go.Ab
theorem opens_step {P : Program} {t e0 e1 e2 e3 : Nat} {fd0 fd1 fd2 fd3 : Field} {k0 k1 k2 : Int → Prop} {k3 : Con → Prop}
    (ht : P.underlying t = some (.struct #[fd0, fd1, fd2, fd3])) (t0 : fd0.type = e0) (t1 : fd1.type = e1) (t2 : fd2.type = e2) (t3 : fd3.type = e3) (o0 : fd0.offset = 0) (o1 : fd1.offset = 1) (o2 : fd2.offset = 2) (o3 : fd3.offset = 3)
    (c0 : P.cellsOf e0 = 1) (c1 : P.cellsOf e1 = 1) (c2 : P.cellsOf e2 = 1) (c3 : P.cellsOf e3 = 2) (ct : P.cellsOf t = 5)
    (h0 : Opens P e0 1 dI k0) (h1 : Opens P e1 1 dI k1) (h2 : Opens P e2 1 dI k2) (h3 : Opens P e3 2 dC k3) :
    Opens P t 5 dStp (fun y => k0 y.1 ∧ k1 y.2.1 ∧ k2 y.2.2.1 ∧ k3 y.2.2.2) := by
  intro H enc w fuel cs x hx
  obtain ⟨xs, k, _, _, hlen, hxl, hf⟩ := DataW.trod_struct ht hx
  have q0 := hf 0 fd0 rfl
  have q1 := hf 1 fd1 rfl
  have q2 := hf 2 fd2 rfl
  have q3 := hf 3 fd3 rfl
  rw [ct] at hlen
  match xs, hxl with
  | [y0, y1, y2, y3], _ =>
    simp only [t0, t1, t2, t3, o0, o1, o2, o3, c0, c1, c2, c3, List.drop_zero, List.getElem?_cons_zero, List.getElem?_cons_succ, Option.some.injEq] at q0 q1 q2 q3
    obtain ⟨a0, r0, _, _, s0⟩ := h0 H enc w k _ _ q0
    obtain ⟨a1, r1, _, _, s1⟩ := h1 H enc w k _ _ q1
    obtain ⟨a2, r2, _, _, s2⟩ := h2 H enc w k _ _ q2
    obtain ⟨a3, r3, _, _, s3⟩ := h3 H enc w k _ _ q3
    refine ⟨(a0, a1, a2, a3), ⟨r0, r1, r2, r3⟩, hlen, rfl, fun i v u hv hu => ?_⟩
    match i, hv, hu with
    | 0, hv, hu => exact s0 0 v u hv (by rw [List.getElem?_take, if_pos (by decide)]; exact hu)
    | 1, hv, hu => exact s1 0 v u hv (by rw [List.getElem?_take, if_pos (by decide), List.getElem?_drop]; exact hu)
    | 2, hv, hu => exact s2 0 v u hv (by rw [List.getElem?_take, if_pos (by decide), List.getElem?_drop]; exact hu)
    | 3, hv, hu => exact s3 0 v u hv (by rw [List.getElem?_take, if_pos (by decide), List.getElem?_drop]; exact hu)
    | 4, hv, hu => exact s3 1 v u hv (by rw [List.getElem?_take, if_pos (by decide), List.getElem?_drop]; exact hu)
    | i + 5, hv, hu => simp [dStp] at hv
end Go.Ab

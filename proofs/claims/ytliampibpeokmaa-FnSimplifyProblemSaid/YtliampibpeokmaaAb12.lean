/- A law's frame: its arguments opened as values, its call by a contract, its statement shut again. -/
import Derived.Test.YtliampibpeokmaaAb11
import Derived.ProofKit
import Derived.Deep.Slices
import Derived.JoinedCond
namespace Go.Ab
open Go.ChangeShapes Go.WideShapes Go.ChangeAt Go.RowKit
set_option linter.unusedSimpArgs false
set_option linter.unusedVariables false

/-- The blocks of a world. -/
abbrev Old (w : World) (b : Nat) : Prop := b < w.heap.size

/-- Values of a type, as they are read: the cells of 'a' are told by 'f a'. -/
def Opens (P : Program) (t n : Nat) {α : Type} (f : α → List V) (ok : α → Prop) : Prop :=
  ∀ (H : Type) (enc : TypeId × Value → H) (w : World) (fuel : Nat) (cs : List Value) (x : DataW H × List MemPlace),
    DataW.trod enc P w 0 (fun _ => true) true fuel t cs = some x →
    ∃ a : α, ok a ∧ cs.length = n ∧ (f a).length = n ∧ ∀ (i : Nat) (v : V) (u : Value), (f a)[i]? = some v → cs[i]? = some u → SR (Old w) w v u

def inI64 (n : Int) : Prop := -9223372036854775808 ≤ n ∧ n ≤ 9223372036854775807
theorem opens_int {P : Program} {t : Nat} (ht : P.underlying t = some (.int .i64)) : Opens P t 1 (fun n : Int => [.p (.int .i64 n)]) inI64 := by
  intro H enc w fuel cs x hx
  obtain ⟨n, rfl, _, hw⟩ := DataW.trod_int ht hx
  refine ⟨n, by simpa [Lit.wf, IntKind.min, IntKind.max, IntKind.signed, IntKind.bits, inI64] using hw, rfl, rfl, fun i v u hv hu => ?_⟩
  match i, hv, hu with
  | 0, hv, hu => simp at hv hu; subst hv; subst hu; exact .p _
def inU8 (n : Int) : Prop := 0 ≤ n ∧ n ≤ 255
/-- Each argument stands for a value that is only read. -/
def Stand (W : World) : List V → List Value → Prop
  | [], [] => True
  | v :: vs, u :: us => SR (Old W) W v u ∧ Stand W vs us
  | _, _ => False
theorem Stand.len {W : World} : ∀ {vs : List V} {us : List Value}, Stand W vs us → vs.length = us.length
  | [], [], _ => rfl
  | v :: vs, u :: us, h => by simp [Stand.len h.2]
  | [], u :: us, h => h.elim
  | v :: vs, [], h => h.elim
theorem Stand.at {W : World} : ∀ {vs : List V} {us : List Value}, Stand W vs us → ∀ {i : Nat} {v : V} {u : Value}, vs[i]? = some v → us[i]? = some u → SR (Old W) W v u
  | [], _, _, i, v, u, h, _ => by simp at h
  | v :: vs, u :: us, h, 0, v', u', hv, hu => by simp at hv hu; subst hv; subst hu; exact h.1
  | v :: vs, u :: us, h, i + 1, v', u', hv, hu => Stand.at h.2 (i := i) (by simpa using hv) (by simpa using hu)
  | v :: vs, [], h, _, _, _, _, _ => h.elim

end Go.Ab

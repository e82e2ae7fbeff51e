/- A listing that is checked. -/
import Derived.Test.YtoodaakcfelaaaaGreatPf3
set_option autoImplicit false
set_option linter.unusedSimpArgs false
namespace Go.Ab
def lcI (l : List Con) (vs : List Int) (f : List (List Bool)) (k : Nat) (L : List Con) : Prop := (k ≤ f.length ∧ varsFrom 0 vs = true) ∧ lcN vs l f = lcN vs L (f.drop k) ∧ L.all cOk = true ∧ L.length ≤ 336 + k
section
variable {l L : List Con} {vs : List Int} {f : List (List Bool)} {ss : List Stp} {k : Nat}
end
instance stpDec : DecidableEq Stp := fun a b => inferInstanceAs (Decidable ((a : Int × Int × Int × Con) = b))
theorem stp_dec {s t : Stp} {b : Bool} (h : b = true ↔ s = t) : b = decide (s = t) := by
  cases b
  · exact (decide_eq_false (fun q => by have := h.2 q; cases this)).symm
  · exact (decide_eq_true (h.1 rfl)).symm
end Go.Ab
namespace Go.Ab
def sameN (vs : List Int) (f : List (List Bool)) (bs : List Bool) (i : Nat) : Nat := (f.take i).countP (fun b => !diffV vs b bs)
end Go.Ab
namespace Go.Ab
end Go.Ab
namespace Go.Ab
end Go.Ab

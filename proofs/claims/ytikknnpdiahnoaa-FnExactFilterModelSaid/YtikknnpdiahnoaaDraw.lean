/- The drawing of numbers, told plainly. -/
import Derived.Test.YtikknnpdiahnoaaTabs2
set_option linter.unusedSimpArgs false
set_option linter.unusedVariables false
namespace Go.Ab
def okB (b : List Int) : Prop := b.length ≤ 2000 ∧ ∀ a ∈ b, 0 ≤ a ∧ a ≤ 255
def mixI (b : List Int) (k : Nat) : Int := b.getD (k % b.length) default * 131 + b.getD ((k * 7 + 3) % b.length) default * 1117 + (k : Int) * 29 + (k : Int) / (b.length : Int) * 53
def pickV (b : List Int) (p : Nat) (n : Int) : Int :=
  if n < 1 ∨ b.length = 0 then 0 else if p < b.length then b.getD p default % n else (((mixI b p).toNat ^^^ (mixI b p / 64).toNat : Nat) : Int) % n
def ofV {α : Type} [Inhabited α] (b : List Int) (p : Nat) (l : List α) : α := l.getD (pickV b p (l.length : Nat)).toNat default
end Go.Ab
namespace Go.Ab
end Go.Ab

/- Counting the values that satisfy a constraint; the next bound that is a sum. -/
import Derived.Test.YtikknnpdiahnoaaTabs
set_option linter.unusedSimpArgs false
set_option linter.unusedVariables false
set_option linter.unnecessarySimpa false
namespace Go.Ab
/-- How many of the first k values satisfy c. -/
def cntH (c : Con) (k : Nat) : Nat := (List.range k).countP (fun n => holdsV c (assn n))
/-- The sum of a table's entries from 'b' below 'm'. -/
def upto (f : Nat → Nat) (b : Nat) : Nat → Nat
  | 0 => 0
  | m + 1 => upto f b m + (if b ≤ m then f m else 0)
def ccV (c : Con) : Int := if cOk c then ((cntH c 4096 : Nat) : Int) else 0
end Go.Ab
namespace Go.Ab
end Go.Ab
namespace Go.Ab
/-- The bound raised while its entry is zero. -/
def raise (f : Nat → Nat) (N : Nat) : Nat → Nat → Nat
  | 0, b => b
  | k + 1, b => if b < N ∧ f b = 0 then raise f N k (b + 1) else b
def tbB (c : Con) : Nat := raise (fun s => cnt c.1 4096 s) (totN c.1 + 1) (totN c.1 + 1) c.2.toNat
def tbC (c : Con) : Con := if cOk c then (c.1, ((tbB c : Nat) : Int)) else ([], 0)
end Go.Ab
namespace Go.Ab
end Go.Ab
namespace Go.Ab
end Go.Ab

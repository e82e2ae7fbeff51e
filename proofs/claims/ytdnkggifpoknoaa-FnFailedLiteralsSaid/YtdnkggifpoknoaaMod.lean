/- Models, told in plain lists. -/
import Derived.Test.YtdnkggifpoknoaaAb19
import Derived.Test.YtdnkggifpoknoaaProb
set_option linter.unusedSimpArgs false
set_option linter.unusedVariables false
namespace Go.Ab
/-- Kind, cells, coefficients, bound, rows. -/
abbrev Rl := Int × List Int × List Int × Int × List (List Int)
abbrev Md := List Int × List Rl
def dL (x : List Int) : List V := [.sl (x.map dI)]
def dR (r : Rl) : List V := [.p (.int .i64 r.1), .sl (r.2.1.map dI), .sl (r.2.2.1.map dI), .p (.int .i64 r.2.2.2.1), .sl (r.2.2.2.2.map dL)]
def dD (x : List Bool) : List V := [.sl (x.map dB)]
/-! ### Validity -/
def vsN (n : Int) (vs : List Int) (k : Nat) : Bool := (List.range k).all (fun i => decide (0 ≤ vs.getD i default ∧ vs.getD i default < n) && !decide (vs.getD i default ∈ vs.take i))
def linOk (r : Rl) : Bool := decide (r.2.2.1.length = r.2.1.length) && (decide (-1000 ≤ r.2.2.2.1 ∧ r.2.2.2.1 ≤ 1000) && r.2.2.1.all (fun a => decide (a ≠ 0 ∧ -9 ≤ a ∧ a ≤ 9)))
def rowOk (r : Rl) (x : List Int) : Bool := decide (x.length = r.2.1.length) && x.all (fun a => decide (0 ≤ a ∧ a ≤ 3))
def tabOk (r : Rl) : Bool := decide (r.2.2.2.2.length ≤ 8) && r.2.2.2.2.all (rowOk r)
def rHead (r : Rl) : Prop := r.2.1.length ≠ 0 ∧ (r.1 ≠ 1 → r.2.2.1.length = 0 ∧ r.2.2.2.1 = 0) ∧ (r.1 ≠ 3 → r.2.2.2.2.length = 0)
instance (r : Rl) : Decidable (rHead r) := by unfold rHead; exact inferInstance
def rTail (r : Rl) : Bool := if r.1 = 1 then linOk r else if r.1 = 3 then tabOk r else if r.1 = 4 then decide (r.2.1.length = 2) else decide (r.1 = 2)
def rOk (n : Int) (r : Rl) : Bool := vsN n r.2.1 r.2.1.length && (decide (rHead r) && rTail r)
def szSum (xs : List Int) : Int := xs.foldl (fun a s => a + (s + 1)) 0
def szsOk (xs : List Int) : Bool := decide (1 ≤ xs.length ∧ xs.length ≤ 5) && (xs.all (fun s => decide (0 ≤ s ∧ s ≤ 3)) && decide (szSum xs ≤ 12))
def mOk (m : Md) : Bool := szsOk m.1 && (decide (m.2.length ≤ 8) && m.2.all (rOk m.1.length))
def fdL (b : Bool) (xs : List Int) : List (List Bool) := xs.map (fun s => List.replicate (s + 1).toNat b)
def fullD (m : Md) : List (List Bool) := if mOk m then fdL true m.1 else []
end Go.Ab

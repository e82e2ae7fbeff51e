/- All values of twelve variables, told in plain lists. -/
import Derived.Test.YtikknnpdiahnoaaCons
set_option linter.unusedSimpArgs false
set_option linter.unusedVariables false
set_option linter.unnecessarySimpa false
namespace Go.Ab
def assn (n : Nat) : List Bool := (List.range 12).map (fun i => n.testBit (11 - i))
def enc : List Bool → Nat
  | [] => 0
  | b :: r => 2 ^ r.length * (if b then 1 else 0) + enc r
def litV (bs : List Bool) (l : Int) : Bool := bs.getD (varOf l - 1).toNat default == decide (0 < l)
def term (bs : List Bool) (t : Term) : Int := if litV bs t.2 then t.1 else 0
def sumV (ts : List Term) (bs : List Bool) : Int := ts.foldl (fun s t => s + term bs t) 0
def holdsV (c : Con) (bs : List Bool) : Bool := decide (c.2 ≤ sumV c.1 bs)
def totV (ts : List Term) : Int := ts.foldl (fun s t => s + t.1) 0
def sbf (a b : Con) : Nat → Int × Bool
  | 0 => (0, false)
  | k + 1 => if holdsV a (assn k) then (if (sbf a b k).2 = false ∨ sumV b.1 (assn k) < (sbf a b k).1 then (sumV b.1 (assn k), true) else sbf a b k) else sbf a b k
def leastV (a b : Con) (k : Nat) : Int := if (sbf a b k).2 then (sbf a b k).1 else -1

/-! ### All literals at once -/
def allTrue (ts : List Term) : List Bool := (List.range 12).map (fun (i : Nat) => ts.any (fun t => decide (t.2 = (i : Int) + 1)))
end Go.Ab
namespace Go.Ab
/-! ### The rows of bits while they are made -/
def pa (n k : Nat) : List Bool := (List.range 12).map (fun j => if j < k then n.testBit (11 - j) else false)
def pb (n k : Nat) : List Bool := (List.range 12).map (fun j => if 12 - k ≤ j then n.testBit (11 - j) else false)
end Go.Ab
namespace Go.Ab
end Go.Ab
namespace Go.Ab
def sbR (a b : Con) : Int × Bool := if cOk a && cOk b then sbf a b 4096 else (0, false)
def icR (a b : Con) : Bool := if cOk a && cOk b then (!(sbR a b).2 || decide (b.2 ≤ (sbR a b).1)) else false
end Go.Ab

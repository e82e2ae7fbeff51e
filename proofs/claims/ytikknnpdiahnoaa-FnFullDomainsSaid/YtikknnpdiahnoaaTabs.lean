/- How many values have each sum: by enumeration, by a table. -/
import Derived.Test.YtikknnpdiahnoaaEnum
set_option linter.unusedSimpArgs false
set_option linter.unusedVariables false
set_option linter.unnecessarySimpa false
namespace Go.Ab
/-- How many of the first 'k' values have this sum. -/
def cnt (ts : List Term) (k : Nat) (s : Int) : Nat := (List.range k).countP (fun n => decide (sumV ts (assn n) = s))
end Go.Ab
namespace Go.Ab
def tabF (ts : List Term) : Int → Nat := ts.foldl (fun f t => fun s => f s + f (s - t.1)) (fun s => if s = 0 then 1 else 0)
end Go.Ab
namespace Go.Ab
/-! ### The rows of the tables -/
def rowI (N : Nat) (f : Nat → Nat) : List Int := (List.range N).map (fun s => ((f s : Nat) : Int))
def totN (ts : List Term) : Nat := (totV ts).toNat
def cntRow (ts : List Term) (k : Nat) : List Int := rowI (totN ts + 1) (fun s => cnt ts k s)
end Go.Ab
namespace Go.Ab
def nx (F : Nat → Nat) (a i j s : Nat) : Nat := (if s < i then F s else 0) + (if a ≤ s ∧ s - a < j then F (s - a) else 0)
def tabS (ts : List Term) (k : Nat) (s : Nat) : Nat := tabF (ts.take k) s
def rowT (ts : List Term) (k : Nat) : List Int := rowI (totN (ts.take k) + 1) (tabS ts k)
end Go.Ab
namespace Go.Ab
end Go.Ab
namespace Go.Ab
end Go.Ab
namespace Go.Ab
def sumTab (c : Con) : List Int := if cOk c then cntRow c.1 4096 else []
end Go.Ab

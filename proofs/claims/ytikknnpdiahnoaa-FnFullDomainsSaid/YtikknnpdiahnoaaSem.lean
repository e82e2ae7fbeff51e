/- Fixing told by values; pure literals; implications. -/
import Derived.Test.YtikknnpdiahnoaaFix
import Derived.Test.YtikknnpdiahnoaaLaws3
set_option linter.unusedSimpArgs false
set_option linter.unusedVariables false
namespace Go.Ab
/-! ### Values overwritten by a partial assignment -/
def ovV (p : List Int) (bs : List Bool) : List Bool := (List.range 12).map (fun i => if p.getD i default = 1 then true else if p.getD i default = -1 then false else bs.getD i default)
def coefF (m : Int) : List Term → Int
  | [] => 0
  | t :: r => if t.2 = m then t.1 else coefF m r
def hasV (l : List Con) (m : Int) : Bool := l.any (fun c => decide (0 < coefF m c.1))
def pureN (l : List Con) : Nat → List Int
  | 0 => []
  | k + 1 => pureN l k ++ (if hasV l ((k : Int) + 1) && !hasV l (-((k : Int) + 1)) then [(k : Int) + 1] else if hasV l (-((k : Int) + 1)) && !hasV l ((k : Int) + 1) then [-((k : Int) + 1)] else [])
def pureL (l : List Con) : List Int := if pOk l then pureN l 12 else []
def lossV (a b : Con) (k : Nat) : Int := (a.1.take k).foldl (fun s t => s + max 0 (t.1 - coefF t.2 b.1)) 0
def covB (a b : Con) : Bool := decide (b.2 ≤ a.2 - lossV a b a.1.length)
def covV (a b : Con) : Bool := cOk a && cOk b && covB a b
/-- The common part of a's true literals in b. -/
def comS (bs : List Bool) (ts us : List Term) : Int := ts.foldl (fun s t => s + (if litV bs t.2 then coefF t.2 us else 0)) 0
end Go.Ab
namespace Go.Ab
def bitOf (m : Int) : Nat := 12 - (varOf m).toNat
def unitC (m : Int) : Con := ([(1, m)], 1)
def ovN (p : List Int) (bs : List Bool) (k : Nat) : List Bool := (List.range 12).map (fun i => if i < k then (ovV p bs).getD i default else bs.getD i default)
end Go.Ab
namespace Go.Ab
end Go.Ab
namespace Go.Ab
end Go.Ab

/- Covered constraints removed. -/
import Derived.Test.YtikknnpdiahnoaaSem
set_option linter.unusedSimpArgs false
set_option linter.unusedVariables false
namespace Go.Ab
def cvT (l : List Con) (g : List Bool) (i j : Nat) : Bool := decide (j ≠ i) && (!g.getD j default && covV (l.getD j default) (l.getD i default))
def cvrN (l : List Con) (g : List Bool) (i k : Nat) : Bool := (List.range k).any (fun j => cvT l g i j)
def goneN (l : List Con) : Nat → List Bool
  | 0 => List.replicate l.length false
  | i + 1 => (goneN l i).set i (cvrN l (goneN l i) i l.length)
def keepN (l : List Con) (k : Nat) : List Nat := (List.range k).filter (fun i => !(goneN l l.length).getD i default)
def uncN (l : List Con) (k : Nat) : List Con := (keepN l k).map (fun i => l.getD i default)
def uncL (l : List Con) : List Con := uncN l l.length
def rcL (l : List Con) : List Con := if pOk l then uncL l else []
end Go.Ab
namespace Go.Ab
end Go.Ab

/- Problems made simpler. -/
import Derived.Test.YtikknnpdiahnoaaClau2
set_option linter.unusedSimpArgs false
set_option linter.unusedVariables false
namespace Go.Ab
/-- A constraint saturated. -/
def stT (b : Int) (t : Term) : Term := (min t.1 b, t.2)
def stC (c : Con) : Con := if 0 < c.2 then (c.1.map (stT c.2), c.2) else ([], c.2)
def flt (l : List Con) : List Con := l.filter (fun c => decide (0 < c.2))
def stL (l : List Con) : List Con := (flt l).map stC
def stepL (l : List Con) : List Con := uncL (stL l)
def wt (c : Con) : Nat := 1 + (sumF (fun t => t.1) c.1).toNat
def mu (l : List Con) : Nat := (l.map wt).sum
def simpL (l : List Con) : List Con := if stepL l = l then l else if h : mu (stepL l) < mu l then simpL (stepL l) else l
termination_by mu l
def quiet (c : Con) : Prop := 0 ≤ slV c zeroP ∧ impC c zeroP = []
def quietL (l : List Con) : Prop := ∀ c ∈ l, 0 < c.2 → quiet c
def sOk (l : List Con) : Bool := pOk l && decide ((prop l zeroP).2 < 0)
def sP (l : List Con) : List Int := if sOk l then (prop l zeroP).1 else []
def sL (l : List Con) : List Con := if sOk l then simpL (l.map (fixC (prop l zeroP).1)) else []
def exB (p : List Int) (bs : List Bool) : Bool := paOk p && (decide (bs.length = 12) && (List.range 12).all (fun i => decide (p.getD i default = 0) || decide (bs.getD i default = decide (0 < p.getD i default))))
end Go.Ab
namespace Go.Ab
end Go.Ab
namespace Go.Ab
def exN (p : List Int) (bs : List Bool) (k : Nat) : Bool := (List.range k).all (fun i => decide (p.getD i default = 0) || decide (bs.getD i default = decide (0 < p.getD i default)))
end Go.Ab
namespace Go.Ab
end Go.Ab
namespace Go.Ab
end Go.Ab

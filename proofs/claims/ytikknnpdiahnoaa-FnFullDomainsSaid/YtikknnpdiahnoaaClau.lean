/- The clauses of a constraint. -/
import Derived.Test.YtikknnpdiahnoaaCov
set_option linter.unusedSimpArgs false
set_option linter.unusedVariables false
namespace Go.Ab
/-- The terms whose bits are set. -/
def selF : List Term → Nat → List Term
  | [], _ => []
  | t :: r, s => if s % 2 = 1 then t :: selF r (s / 2) else selF r (s / 2)
def oneT (t : Term) : Term := (1, t.2)
/-- The least coefficient, from a start. -/
def mnV (b : Int) (ts : List Term) : Int := ts.foldl (fun m t => min m t.1) b
def leftV (c : Con) (s : Nat) : Int := totV c.1 - totV (selF c.1 s)
def incV (c : Con) (s : Nat) : Bool := decide (leftV c s < c.2) && (decide (s = 0) || decide (c.2 ≤ leftV c s + mnV 20000 (selF c.1 s)))
def clC (c : Con) (s : Nat) : Con := ((selF c.1 s).map oneT, 1)
def clN (c : Con) : Nat → List Con
  | 0 => []
  | s + 1 => clN c s ++ (if incV c s then [clC c s] else [])
def clA (c : Con) : List Con := clN c (2 ^ c.1.length)
def clB (c : Con) : Bool := cOk c && decide ((clA c).length ≤ 400)
def clL (c : Con) : List Con := if clB c then clA c else []
end Go.Ab
namespace Go.Ab
/-! ### A clause out of its literals -/
def oneL (l : Int) : Term := (1, l)
def seenG : List Int → Int → Int
  | [], _ => 0
  | l :: r, v => if varOf l = v then l else seenG r v
def rowS (ls : List Int) : List Int := (List.range 13).map (fun (v : Nat) => seenG ls (v : Int))
def filtN (ls : List Int) (v : Int) : List Int := ls.filter (fun l => decide (varOf l ≤ v))
end Go.Ab

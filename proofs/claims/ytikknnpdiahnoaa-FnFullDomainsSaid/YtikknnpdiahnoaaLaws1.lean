/- What the laws on counts and on exclusion say, told plainly. -/
import Derived.Test.YtikknnpdiahnoaaDraw
set_option linter.unusedSimpArgs false
set_option linter.unusedVariables false
namespace Go.Ab
def evV (c : Con) (bs : List Bool) : Bool := cOk c && decide (bs.length = 12) && holdsV c bs
/-! ### Exclusion -/
def diffV (vs : List Int) (bs os : List Bool) : Bool := vs.any (fun v => bs.getD (v - 1).toNat default != os.getD (v - 1).toNat default)
def negT (t : Term) : Term := (t.1, -t.2)
def negC (c : Con) : Con := (c.1.map negT, max 0 (totV c.1 - c.2 + 1))
def negR (c : Con) : Con := if cOk c then negC c else ([], 0)
/-! ### Terms changed in place -/
end Go.Ab
namespace Go.Ab
def sclT (k : Int) (t : Term) : Term := (t.1 * k, t.2)
theorem ofV_in {b : List Int} {p : Nat} {l : List Int} {lo hi : Int} (h : 0 < l.length) (h2 : ∀ t ∈ l, lo ≤ t ∧ t ≤ hi) : lo ≤ ofV b p l ∧ ofV b p l ≤ hi := h2 _ (ofV_mem h)
end Go.Ab
namespace Go.Ab
end Go.Ab
namespace Go.Ab
/-! ### Drawn constraints -/
def l1D (b : List Int) (p : Nat) : Nat → List Term × Nat
  | 0 => ([], p)
  | k + 1 => if pickV b (l1D b p k).2 2 = 0 then ((l1D b p k).1 ++ [(ofV b ((l1D b p k).2 + 1) ([1, 1, 2, 3, 1, 5, 4] : List Int), if pickV b ((l1D b p k).2 + 2) 2 = 0 then -((k : Int) + 1) else (k : Int) + 1)], (l1D b p k).2 + 3) else ((l1D b p k).1, (l1D b p k).2 + 1)
def l1C (b : List Int) (p : Nat) (most : Int) : Con × Nat :=
  let d := l1D b p most.toNat
  if pickV b (d.2 + 1) 4 = 0 then ((d.1, pickV b (d.2 + 2) (totV d.1 + 2)), d.2 + 3) else ((d.1, ofV b d.2 ([1, 2, 1, 3, 0] : List Int)), d.2 + 2)
/-- A constraint, sometimes made invalid. -/
def mutC (b : List Int) (p : Nat) (c : Con) : Con × Nat :=
  if pickV b p 40 = 0 then ((c.1, ofV b (p + 1) ([-1, 20001, 9223372036854775807] : List Int)), p + 2)
  else if pickV b p 40 = 1 then (if 0 < c.1.length then ((c.1.set 0 (ofV b (p + 1) ([0, -1, 1001] : List Int), (c.1.getD 0 default).2), c.2), p + 2) else (c, p + 1))
  else if pickV b p 40 = 2 then (if 0 < c.1.length then ((c.1.set (c.1.length - 1) ((c.1.getD (c.1.length - 1) default).1, ofV b (p + 1) ([0, 13, -13, 1, -9223372036854775808] : List Int)), c.2), p + 2) else (c, p + 1))
  else if pickV b p 40 = 3 then ((c.1 ++ [(1, 1)], c.2), p + 1) else (c, p + 1)
def l15C (b : List Int) (p : Nat) : Con × Nat :=
  let d := l1C b (p + 1) (ofV b p ([4, 5, 3, 8] : List Int))
  let ts := d.1.1.map (sclT (ofV b d.2 ([1, 2, 3, 1] : List Int)))
  ((ts, pickV b (d.2 + 1) (totV ts + 2)), d.2 + 2)
/-- Drawn values. -/
def valB (b : List Int) (p : Nat) (n : Nat) : List Bool := (List.range n).map (fun i => decide (pickV b (p + i) 2 = 0))
def valV (b : List Int) (p : Nat) : List Bool := if pickV b (p + 12) 40 = 0 then (valB b p 12).take 11 else valB b p 12
end Go.Ab

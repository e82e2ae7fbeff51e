/- Drawn rules and models, told plainly. -/
import Derived.Test.YtikknnpdiahnoaaMod3
import Derived.Test.YtikknnpdiahnoaaLaws1
set_option linter.unusedSimpArgs false
set_option linter.unusedVariables false
namespace Go.Ab
def someA (b : List Int) (p : Nat) : Nat → List Int
  | 0 => []
  | v + 1 => if 0 < pickV b (p + v) 3 then someA b p v ++ [(v : Int)] else someA b p v
def lastL (l : List Int) (v : Nat) : Prop := l.length = 0 ∨ l.getD (l.length - 1) default < v
instance (l : List Int) (v : Nat) : Decidable (lastL l v) := by unfold lastL; exact inferInstance
def fillF (least : Nat) : Nat → Nat → List Int → List Int
  | 0, _, l => l
  | f + 1, v, l => if l.length < least then fillF least f (v + 1) (if lastL l v then l ++ [(v : Int)] else l) else l
def rangeI (n : Nat) : List Int := (List.range n).map (fun i : Nat => (i : Int))
def some3 (b : List Int) (p n least : Nat) : List Int :=
  if (fillF least n 0 (someA b p n)).length < least ∨ (fillF least n 0 (someA b p n)).length = 0 then rangeI least else fillF least n 0 (someA b p n)
def swp (l : List Int) : List Int := (l.set 0 (l.getD 1 default)).set 1 (l.getD 0 default)
def finV (b : List Int) (q : Nat) (l : List Int) : List Int × Nat := if 1 < l.length then (if pickV b q 3 = 0 then (swp l, q + 1) else (l, q + 1)) else (l, q)
def someV (b : List Int) (p n least : Nat) : List Int × Nat := finV b (p + n) (some3 b p n least)
def cfV (b : List Int) (q k : Nat) : List Int := (List.range k).map (fun i => ofV b (q + i) ([1, -1, 2, 1, -2, 3] : List Int))
def rowV (b : List Int) (q k : Nat) : List Int := (List.range k).map (fun i => pickV b (q + i) 4)
def tabV (b : List Int) (q n k : Nat) : List (List Int) := (List.range k).map (fun i => rowV b (q + i * n) n)
def kdV (b : List Int) (p : Nat) : Int := ofV b p ([1, 2, 3, 4, 1] : List Int)
def drawR (b : List Int) (p n : Nat) : Rl × Nat :=
  let v := someV b (p + 1) n 1
  if kdV b p = 1 then ((kdV b p, v.1, cfV b v.2 v.1.length, ofV b (v.2 + v.1.length) ([1, 2, 0, -1, 3, -3, 4] : List Int), []), v.2 + v.1.length + 1)
  else if kdV b p = 3 then ((kdV b p, v.1, [], 0, tabV b (v.2 + 1) v.1.length (ofV b v.2 ([3, 4, 2, 6, 0, 8] : List Int)).toNat), v.2 + 1 + (ofV b v.2 ([3, 4, 2, 6, 0, 8] : List Int)).toNat * v.1.length)
  else if kdV b p = 4 then ((kdV b p, (someV b v.2 n 2).1.take 2, [], 0, []), (someV b v.2 n 2).2)
  else ((kdV b p, v.1, [], 0, []), v.2)
end Go.Ab

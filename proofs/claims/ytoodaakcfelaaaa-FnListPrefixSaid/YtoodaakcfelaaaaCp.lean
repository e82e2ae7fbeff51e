/- Solutions counted by some variables. -/
import Derived.Test.YtoodaakcfelaaaaAb22
import Derived.Test.YtoodaakcfelaaaaSimp
set_option linter.unusedSimpArgs false
set_option linter.unusedVariables false
namespace Go.Ab
def b2i (b : Bool) : Int := if b then 1 else 0
def keyI (bs : List Bool) (vs : List Int) : Int := vs.foldl (fun k v => k * 2 + b2i (bs.getD (v - 1).toNat default)) 0
def keysN (l : List Con) (vs : List Int) : Nat → List Int
  | 0 => []
  | n + 1 => if satV l (assn n) then insK (keysN l vs n) (keyI (assn n) vs) else keysN l vs n
theorem keys_y {l : List Con} {vs : List Int} {n : Nat} (h : satV l (assn n) = true) : keysN l vs (n + 1) = insK (keysN l vs n) (keyI (assn n) vs) := by rw [keysN, if_pos h]
theorem keys_n {l : List Con} {vs : List Int} {n : Nat} (h : satV l (assn n) = false) : keysN l vs (n + 1) = keysN l vs n := by rw [keysN, if_neg (by rw [h]; decide)]
def cpOk (l : List Con) (vs : List Int) : Bool := pOk l && varsFrom 0 vs
def cpV (l : List Con) (vs : List Int) : Int := if cpOk l vs then (((keysN l vs 4096).length : Nat) : Int) else 0
def seenR (ks : List Int) : List Bool := (List.range 4096).map (fun (k : Nat) => decide ((k : Int) ∈ ks))
def allV : List Int := (List.range 12).map (fun (i : Nat) => (i : Int) + 1)
end Go.Ab

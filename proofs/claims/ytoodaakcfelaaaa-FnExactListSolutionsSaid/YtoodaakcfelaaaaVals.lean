/- Values and their text, told in plain lists. -/
import Derived.Test.YtoodaakcfelaaaaAb11
set_option linter.unusedSimpArgs false
set_option linter.unusedVariables false
set_option linter.unnecessarySimpa false
namespace Go.Ab
theorem take_eq {α : Type} {a b : List α} {k : Nat} (h : a.take k = b.take k) (h1 : a.length ≤ k) (h2 : b.length ≤ k) : a = b := by
  rwa [List.take_of_length_le h1, List.take_of_length_le h2] at h
theorem take_next {α : Type} {d : α} {a b : List α} {k : Nat} (h : a.take k = b.take k) (h1 : k < a.length) (h2 : k < b.length) (h3 : a.getD k d = b.getD k d) : a.take (k + 1) = b.take (k + 1) := by
  rw [qjt (d := d) h1, qjt (d := d) h2, h, h3]
def dB (b : Bool) : List V := [.p (.bool b)]
def dI (n : Int) : List V := [.p (.int .i64 n)]
def dU (n : Int) : List V := [.p (.int .u8 n)]
def dS (s : ByteArray) : List V := [.p (.string s)]
abbrev Term := Int × Int
def dT (t : Term) : List V := [.p (.int .i64 t.1), .p (.int .i64 t.2)]
abbrev Con := List Term × Int
def dC (c : Con) : List V := [.sl (c.1.map dT), .p (.int .i64 c.2)]
def bit (b : Bool) : UInt8 := if b then 49 else 48
def fmt0 (bs : List Bool) : ByteArray := ⟨(bs.map bit).toArray⟩
def fmt (bs : List Bool) : ByteArray := if bs.length = 12 then fmt0 bs else ⟨#[]⟩
end Go.Ab
namespace Go.Ab
def pch (c : UInt8) : Bool := decide ((c.toNat : Int) = 49)
def good (c : UInt8) : Bool := decide ((c.toNat : Int) = 48) || decide ((c.toNat : Int) = 49)
def pok (l : List UInt8) : Bool := decide (l.length = 12) && l.all good
def pv (l : List UInt8) : List Bool := if pok l then l.map pch else []
def markB (k : Nat) (i : Nat) : Bool := decide (((k + i : Nat) : Int) % 3 = 0)
def marksB (k n : Nat) : List Bool := (List.range n).map (markB k)
theorem qj4 {k n : Nat} : (marksB k n).length = n := by simp [marksB]
theorem marksB_at {k n i : Nat} (h : i < n) : (marksB k n).getD i default = markB k i := by
  simp [marksB, h]
end Go.Ab
namespace Go.Ab
end Go.Ab

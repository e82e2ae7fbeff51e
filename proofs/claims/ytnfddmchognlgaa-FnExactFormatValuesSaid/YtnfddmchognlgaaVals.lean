/- Values and their text, told in plain lists. -/
import Derived.Test.YtnfddmchognlgaaAb11
namespace Go.Ab
theorem take_eq {α : Type} {a b : List α} {k : Nat} (h : a.take k = b.take k) (h1 : a.length ≤ k) (h2 : b.length ≤ k) : a = b := by
  rwa [List.take_of_length_le h1, List.take_of_length_le h2] at h
theorem take_next {α : Type} {d : α} {a b : List α} {k : Nat} (h : a.take k = b.take k) (h1 : k < a.length) (h2 : k < b.length) (h3 : a.getD k d = b.getD k d) : a.take (k + 1) = b.take (k + 1) := by
  rw [take_succD (d := d) h1, take_succD (d := d) h2, h, h3]
def dB (b : Bool) : List V := [.p (.bool b)]
def bit (b : Bool) : UInt8 := if b then 49 else 48
def fmt0 (bs : List Bool) : ByteArray := ⟨(bs.map bit).toArray⟩
def fmt (bs : List Bool) : ByteArray := if bs.length = 12 then fmt0 bs else ⟨#[]⟩
theorem fmt0_size {bs : List Bool} : (fmt0 bs).size = bs.length := by simp [fmt0, ByteArray.size]
theorem size49 : (⟨#[49]⟩ : ByteArray).size = 1 := rfl
theorem size48 : (⟨#[48]⟩ : ByteArray).size = 1 := rfl
theorem fmt0_app {l : List Bool} {b : Bool} : fmt0 (l ++ [b]) = fmt0 l ++ ⟨#[bit b]⟩ := by
  apply ByteArray.ext
  simp [fmt0]
theorem fmt0_next {l : List Bool} {k : Nat} {b : Bool} {c : UInt8} (h : k < l.length) (hb : l.getD k false = b) (hc : bit b = c) : fmt0 (l.take k) ++ ⟨#[c]⟩ = fmt0 (l.take (k + 1)) := by
  rw [take_succD (d := false) h, fmt0_app, hb, hc]
end Go.Ab

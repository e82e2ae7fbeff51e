/- Values and their text, told in plain lists. -/
import Derived.Test.YtliampibpeokmaaAb11
set_option linter.unusedSimpArgs false
set_option linter.unusedVariables false
set_option linter.unnecessarySimpa false
namespace Go.Ab
theorem take_eq {α : Type} {a b : List α} {k : Nat} (h : a.take k = b.take k) (h1 : a.length ≤ k) (h2 : b.length ≤ k) : a = b := by
  rwa [List.take_of_length_le h1, List.take_of_length_le h2] at h
theorem take_next {α : Type} {d : α} {a b : List α} {k : Nat} (h : a.take k = b.take k) (h1 : k < a.length) (h2 : k < b.length) (h3 : a.getD k d = b.getD k d) : a.take (k + 1) = b.take (k + 1) := by
  rw [take_succD (d := d) h1, take_succD (d := d) h2, h, h3]
def dB (b : Bool) : List V := [.p (.bool b)]
def dI (n : Int) : List V := [.p (.int .i64 n)]
def dU (n : Int) : List V := [.p (.int .u8 n)]
def dS (s : ByteArray) : List V := [.p (.string s)]
abbrev Term := Int × Int
def dT (t : Term) : List V := [.p (.int .i64 t.1), .p (.int .i64 t.2)]
abbrev Con := List Term × Int
def dC (c : Con) : List V := [.sl (c.1.map dT), .p (.int .i64 c.2)]
def bit (b : Bool) : UInt8 := if b then 49 else 48
def fmt0 (bs : List Bool) : ByteArray := ⟨(bs.map bit).toArray⟩
def fmt (bs : List Bool) : ByteArray := if bs.length = 12 then fmt0 bs else ⟨#[]⟩
theorem fmt0_size {bs : List Bool} : (fmt0 bs).size = bs.length := by simp [fmt0, ByteArray.size]
theorem size49 : (⟨#[49]⟩ : ByteArray).size = 1 := rfl
theorem size48 : (⟨#[48]⟩ : ByteArray).size = 1 := rfl
theorem fmt0_app {l : List Bool} {b : Bool} : fmt0 (l ++ [b]) = fmt0 l ++ ⟨#[bit b]⟩ := by
  apply ByteArray.ext
  simp [fmt0]
theorem fmt0_next {l : List Bool} {k : Nat} {b : Bool} {c : UInt8} (h : k < l.length) (hb : l.getD k false = b) (hc : bit b = c) : fmt0 (l.take k) ++ ⟨#[c]⟩ = fmt0 (l.take (k + 1)) := by
  rw [take_succD (d := false) h, fmt0_app, hb, hc]
end Go.Ab
namespace Go.Ab
/-! ### Parsing -/
def pch (c : UInt8) : Bool := decide ((c.toNat : Int) = 49)
def good (c : UInt8) : Bool := decide ((c.toNat : Int) = 48) || decide ((c.toNat : Int) = 49)
def pok (l : List UInt8) : Bool := decide (l.length = 12) && l.all good
def pv (l : List UInt8) : List Bool := if pok l then l.map pch else []
theorem u8_eq {c d : UInt8} (h : c.toNat = d.toNat) : c = d := UInt8.toNat_inj.1 h
theorem bit_pch {c : UInt8} : bit (pch c) = c ↔ good c = true := by
  unfold bit pch good
  by_cases h : (c.toNat : Int) = 49
  · have : c = 49 := u8_eq (by simpa using (by omega : c.toNat = 49))
    subst this; simp
  · simp only [h, decide_false, Bool.or_false, decide_eq_true_eq, Bool.false_eq_true, if_false]
    constructor
    · intro e; subst e; rfl
    · intro e; exact (u8_eq (by simpa using (by omega : c.toNat = 48))).symm
theorem map_bit_pch {l : List UInt8} : l.map (fun c => bit (pch c)) = l ↔ l.all good = true := by
  induction l with
  | nil => simp
  | cons c l ih => simp only [List.map_cons, List.cons.injEq, List.all_cons, Bool.and_eq_true, ih, bit_pch]
theorem fmt_pch {s : ByteArray} (h : s.size = 12) : fmt (s.data.toList.map pch) = s ↔ s.data.toList.all good = true := by
  have hl : (s.data.toList.map pch).length = 12 := by rw [List.length_map, Array.length_toList]; exact h
  unfold fmt fmt0
  rw [if_pos hl, List.map_map, ← map_bit_pch]
  constructor
  · intro e
    have := congrArg (fun b : ByteArray => b.data.toList) e
    exact (show s.data.toList.map (bit ∘ pch) = s.data.toList by simpa using this)
  · intro e
    apply ByteArray.ext
    have e2 : s.data.toList.map (bit ∘ pch) = s.data.toList := e
    rw [e2]
theorem pok_false_len {s : ByteArray} (h : s.size ≠ 12) : pok s.data.toList = false := by
  unfold pok
  rw [show s.data.toList.length = s.size from Array.length_toList]
  simp [h]
theorem pok_len {s : ByteArray} (h : s.size = 12) : pok s.data.toList = s.data.toList.all good := by
  unfold pok
  rw [show s.data.toList.length = s.size from Array.length_toList]
  simp [h]
theorem all_take_next {l : List UInt8} {k : Nat} (h : (l.take k).all good = true) (hk : k < l.length) (hg : good (l.getD k 0) = true) : (l.take (k + 1)).all good = true := by
  rw [take_succD (d := 0) hk, List.all_append, h, List.all_cons, hg]; rfl
theorem all_bad {l : List UInt8} {k : Nat} (hk : k < l.length) (hg : good (l.getD k 0) = false) : l.all good = false := by
  rw [Bool.eq_false_iff]
  intro h
  have := List.all_eq_true.1 h (l.getD k 0) (by
    rw [List.getD_eq_getElem?_getD, List.getElem?_eq_getElem hk, Option.getD_some]; exact List.getElem_mem hk)
  rw [hg] at this; cases this
theorem map_take_next {α : Type} {f : UInt8 → α} {g : α → List V} {l : List UInt8} {k : Nat} (hk : k < l.length) : ((l.take k).map f).map g ++ [g (f (l.getD k 0))] = ((l.take (k + 1)).map f).map g := by
  rw [take_succD (d := 0) hk]; simp
theorem good_intro {c : UInt8} (h : (c.toNat : Int) = 48 ∨ (c.toNat : Int) = 49) : good c = true := by unfold good; simp [h]
theorem good_not {c : UInt8} (h1 : (c.toNat : Int) ≠ 48) (h2 : (c.toNat : Int) ≠ 49) : good c = false := by unfold good; simp [h1, h2]
theorem tl_len {s : ByteArray} : s.data.toList.length = s.size := Array.length_toList
theorem tl_empty : (⟨#[]⟩ : ByteArray).size = 0 := rfl
theorem ba_empty {s : ByteArray} (h : s = ⟨#[]⟩) : s.size = 0 := by subst h; rfl

theorem fmt_size_12 {l : List Bool} (h : (fmt l).size ≠ 0) : l.length = 12 := by
  unfold fmt at h
  split at h
  · assumption
  · exact absurd rfl h
theorem parse_bad {s : ByteArray} {k : Nat} (hk : s.size ≤ k) (h : fmt ((s.data.toList.take k).map pch) ≠ s) : pok s.data.toList = false := by
  rw [List.take_of_length_le (by rw [tl_len]; exact hk)] at h
  by_cases h12 : s.size = 12
  · rw [pok_len h12, Bool.eq_false_iff]
    intro e; exact h ((fmt_pch h12).2 e)
  · exact pok_false_len h12
theorem parse_bad2 {s : ByteArray} (h : s = ⟨#[]⟩) : pok s.data.toList = false := pok_false_len (by rw [ba_empty h]; decide)
theorem parse_ok {s : ByteArray} {k : Nat} (hk : s.size ≤ k) (h : fmt ((s.data.toList.take k).map pch) = s) (h2 : s ≠ ⟨#[]⟩) : pok s.data.toList = true := by
  rw [List.take_of_length_le (by rw [tl_len]; exact hk)] at h
  have h12 : s.size = 12 := by
    have h0 : (fmt (s.data.toList.map pch)).size ≠ 0 := by
      rw [h]
      intro e
      exact h2 (ByteArray.ext (Array.eq_empty_of_size_eq_zero e))
    have := fmt_size_12 h0
    rwa [List.length_map, tl_len] at this
  rw [pok_len h12]; exact (fmt_pch h12).1 h

/-! ### Marks -/
def markB (k : Nat) (i : Nat) : Bool := decide (((k + i : Nat) : Int) % 3 = 0)
def marksB (k n : Nat) : List Bool := (List.range n).map (markB k)
theorem marksB_length {k n : Nat} : (marksB k n).length = n := by simp [marksB]
theorem marksB_at {k n i : Nat} (h : i < n) : (marksB k n).getD i default = markB k i := by
  simp [marksB, h]
end Go.Ab
namespace Go.Ab
theorem pv_len {l : List UInt8} : (pv l).length ≤ 12 := by
  unfold pv
  split
  · rename_i h
    simp only [pok, Bool.and_eq_true, decide_eq_true_eq] at h
    rw [List.length_map]; omega
  · simp
end Go.Ab

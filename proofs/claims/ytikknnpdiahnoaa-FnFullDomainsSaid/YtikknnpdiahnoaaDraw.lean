/- The drawing of numbers, told plainly. -/
import Derived.Test.YtikknnpdiahnoaaTabs2
set_option linter.unusedSimpArgs false
set_option linter.unusedVariables false
namespace Go.Ab
def okB (b : List Int) : Prop := b.length ≤ 2000 ∧ ∀ a ∈ b, 0 ≤ a ∧ a ≤ 255
theorem okB_at {b : List Int} (h : okB b) (k : Nat) : 0 ≤ b.getD k default ∧ b.getD k default ≤ 255 := by
  by_cases hk : k < b.length
  · have e : b.getD k default = b[k] := by simp [hk]
    rw [e]; exact h.2 _ (List.getElem_mem hk)
  · have e : b.getD k default = 0 := by simp [List.getElem?_eq_none (show b.length ≤ k by omega)]
    rw [e]; omega
theorem okB_take {b : List Int} {n : Nat} (hn : n ≤ 2000) (h : ∀ a ∈ b, 0 ≤ a ∧ a ≤ 255) : okB (b.take n) := ⟨by rw [List.length_take]; omega, fun a ha => h a (List.mem_of_mem_take ha)⟩
def mixI (b : List Int) (k : Nat) : Int := b.getD (k % b.length) default * 131 + b.getD ((k * 7 + 3) % b.length) default * 1117 + (k : Int) * 29 + (k : Int) / (b.length : Int) * 53
theorem mix_bounds {b : List Int} {k : Nat} (h : okB b) (hk : k ≤ 1099511627776) (hl : b.length ≠ 0) : 0 ≤ mixI b k ∧ mixI b k ≤ 281474976710656 := by
  have h1 := okB_at h (k % b.length)
  have h2 := okB_at h ((k * 7 + 3) % b.length)
  have h3 : 0 ≤ (k : Int) / (b.length : Int) := Int.ediv_nonneg (by omega) (by omega)
  have h4 : (k : Int) / (b.length : Int) ≤ k := Int.ediv_le_self _ (by omega)
  unfold mixI
  omega
def pickV (b : List Int) (p : Nat) (n : Int) : Int :=
  if n < 1 ∨ b.length = 0 then 0 else if p < b.length then b.getD p default % n else (((mixI b p).toNat ^^^ (mixI b p / 64).toNat : Nat) : Int) % n
theorem pickV_lt {b : List Int} {p : Nat} {n : Int} (h : 1 ≤ n) : 0 ≤ pickV b p n ∧ pickV b p n < n := by
  unfold pickV
  split
  · omega
  · split
    · exact ⟨Int.emod_nonneg _ (by omega), Int.emod_lt_of_pos _ (by omega)⟩
    · exact ⟨Int.emod_nonneg _ (by omega), Int.emod_lt_of_pos _ (by omega)⟩
def ofV {α : Type} [Inhabited α] (b : List Int) (p : Nat) (l : List α) : α := l.getD (pickV b p (l.length : Nat)).toNat default
theorem ofV_mem {α : Type} [Inhabited α] {b : List Int} {p : Nat} {l : List α} (h : 0 < l.length) : ofV b p l ∈ l := by
  have h1 := pickV_lt (b := b) (p := p) (n := (l.length : Nat)) (by omega)
  unfold ofV
  have h2 : (pickV b p (l.length : Nat)).toNat < l.length := by omega
  rw [List.getD_eq_getElem?_getD, List.getElem?_eq_getElem h2, Option.getD_some]
  exact List.getElem_mem h2
theorem ofV_lt {α : Type} {b : List Int} {p : Nat} {l : List α} (h : 0 < l.length) : 0 ≤ pickV b p (l.length : Nat) ∧ (pickV b p (l.length : Nat)).toNat < l.length := by
  have h1 := pickV_lt (b := b) (p := p) (n := (l.length : Nat)) (by omega)
  omega
end Go.Ab
namespace Go.Ab
end Go.Ab

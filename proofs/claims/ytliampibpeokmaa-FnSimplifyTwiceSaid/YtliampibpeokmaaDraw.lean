/- The drawing of numbers, told plainly. -/
import Derived.Test.YtliampibpeokmaaTabs2
set_option linter.unusedSimpArgs false
set_option linter.unusedVariables false
namespace Go.Ab
def okB (b : List Int) : Prop := b.length ≤ 2000 ∧ ∀ a ∈ b, 0 ≤ a ∧ a ≤ 255
theorem okB_at {b : List Int} (h : okB b) (k : Nat) : 0 ≤ b.getD k default ∧ b.getD k default ≤ 255 := by
  by_cases hk : k < b.length
  · have e : b.getD k default = b[k] := by simp [hk]
    rw [e]; exact h.2 _ (List.getElem_mem hk)
  · have e : b.getD k default = 0 := by simp [List.getElem?_eq_none (show b.length ≤ k by omega)]
    rw [e]; omega
theorem okB_take {b : List Int} {n : Nat} (hn : n ≤ 2000) (h : ∀ a ∈ b, 0 ≤ a ∧ a ≤ 255) : okB (b.take n) := ⟨by rw [List.length_take]; omega, fun a ha => h a (List.mem_of_mem_take ha)⟩
def mixI (b : List Int) (k : Nat) : Int := b.getD (k % b.length) default * 131 + b.getD ((k * 7 + 3) % b.length) default * 1117 + (k : Int) * 29 + (k : Int) / (b.length : Int) * 53
theorem mix_bounds {b : List Int} {k : Nat} (h : okB b) (hk : k ≤ 1099511627776) (hl : b.length ≠ 0) : 0 ≤ mixI b k ∧ mixI b k ≤ 281474976710656 := by
  have h1 := okB_at h (k % b.length)
  have h2 := okB_at h ((k * 7 + 3) % b.length)
  have h3 : 0 ≤ (k : Int) / (b.length : Int) := Int.ediv_nonneg (by omega) (by omega)
  have h4 : (k : Int) / (b.length : Int) ≤ k := Int.ediv_le_self _ (by omega)
  unfold mixI
  omega
def pickV (b : List Int) (p : Nat) (n : Int) : Int :=
  if n < 1 ∨ b.length = 0 then 0 else if p < b.length then b.getD p default % n else (((mixI b p).toNat ^^^ (mixI b p / 64).toNat : Nat) : Int) % n
theorem pickV_lt {b : List Int} {p : Nat} {n : Int} (h : 1 ≤ n) : 0 ≤ pickV b p n ∧ pickV b p n < n := by
  unfold pickV
  split
  · omega
  · split
    · exact ⟨Int.emod_nonneg _ (by omega), Int.emod_lt_of_pos _ (by omega)⟩
    · exact ⟨Int.emod_nonneg _ (by omega), Int.emod_lt_of_pos _ (by omega)⟩
def ofV {α : Type} [Inhabited α] (b : List Int) (p : Nat) (l : List α) : α := l.getD (pickV b p (l.length : Nat)).toNat default
theorem ofV_mem {α : Type} [Inhabited α] {b : List Int} {p : Nat} {l : List α} (h : 0 < l.length) : ofV b p l ∈ l := by
  have h1 := pickV_lt (b := b) (p := p) (n := (l.length : Nat)) (by omega)
  unfold ofV
  have h2 : (pickV b p (l.length : Nat)).toNat < l.length := by omega
  rw [List.getD_eq_getElem?_getD, List.getElem?_eq_getElem h2, Option.getD_some]
  exact List.getElem_mem h2
theorem ofV_lt {α : Type} {b : List Int} {p : Nat} {l : List α} (h : 0 < l.length) : 0 ≤ pickV b p (l.length : Nat) ∧ (pickV b p (l.length : Nat)).toNat < l.length := by
  have h1 := pickV_lt (b := b) (p := p) (n := (l.length : Nat)) (by omega)
  omega
end Go.Ab
namespace Go.Ab
theorem pok_fmt {bs : List Bool} : pok (fmt bs).data.toList = decide (bs.length = 12) := by
  unfold fmt
  split
  · rename_i h
    have h1 : (fmt0 bs).data.toList = bs.map bit := by simp [fmt0]
    rw [h1]
    unfold pok
    have h2 : (bs.map bit).all good = true := by
      rw [List.all_eq_true]
      intro c hc
      obtain ⟨b, _, rfl⟩ := List.mem_map.1 hc
      cases b <;> decide
    rw [h2, List.length_map, Bool.and_true]
  · rename_i h
    have : decide (bs.length = 12) = false := by simp [h]
    rw [this]; rfl
theorem pv_fmt {bs : List Bool} (h : bs.length = 12) : pv (fmt bs).data.toList = bs := by
  unfold pv
  rw [pok_fmt, if_pos (by simp [h])]
  unfold fmt
  rw [if_pos h]
  have h1 : (fmt0 bs).data.toList = bs.map bit := by simp [fmt0]
  rw [h1, List.map_map]
  have : (pch ∘ bit) = id := by funext b; cases b <;> decide
  rw [this, List.map_id]
theorem fmt_le {bs : List Bool} : (fmt bs).size ≤ 12 := by
  unfold fmt
  split
  · rename_i h; rw [fmt0_size]; omega
  · exact Nat.zero_le _
theorem fmt_pv {s : ByteArray} (h : pok s.data.toList = true) : fmt (pv s.data.toList) = s := by
  have hl : s.size = 12 := by
    cases hq : decide (s.size = 12)
    · rw [pok_false_len (of_decide_eq_false hq)] at h; cases h
    · exact of_decide_eq_true hq
  unfold pv
  rw [if_pos h]
  rw [pok_len hl] at h
  exact (fmt_pch hl).2 h
end Go.Ab

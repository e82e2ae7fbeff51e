/- Drawn domains, told plainly. -/
import Derived.Test.YtikknnpdiahnoaaDmod
import Derived.Test.YtikknnpdiahnoaaFd
set_option linter.unusedSimpArgs false
set_option linter.unusedVariables false
namespace Go.Ab
def rowD (b : List Int) (q n : Nat) : List Bool := (List.range n).map (fun k => decide (0 < pickV b (q + k) 5))
theorem rowD_len {b : List Int} {q n : Nat} : (rowD b q n).length = n := by simp [rowD]
theorem rowD_next {b : List Int} {q n : Nat} : rowD b q (n + 1) = rowD b q n ++ [decide (0 < pickV b (q + n) 5)] := by unfold rowD; rw [List.range_succ, List.map_append]; rfl
def rowP (b : List Int) (q : Nat) (x : List Bool) (k : Nat) : List Bool := rowD b q k ++ x.drop k
theorem rowP_len {b : List Int} {q k : Nat} {x : List Bool} (h : k ≤ x.length) : (rowP b q x k).length = x.length := by
  unfold rowP; rw [List.length_append, rowD_len, List.length_drop]; omega
theorem rowP_set {b : List Int} {q k : Nat} {x : List Bool} (h : k < x.length) : ((rowP b q x k).map dB).set k [.p (.bool (decide (0 < pickV b (q + k) 5)))] = (rowP b q x (k + 1)).map dB := by
  have := ps_set (f := dB) (p := rowD b q k) (l := x) (y := decide (0 < pickV b (q + k) 5)) (by rw [rowD_len]; exact h)
  rw [← rowD_next, rowD_len, rowD_len] at this
  exact this
theorem rowP_end {b : List Int} {q k : Nat} {x : List Bool} (h : x.length ≤ k) (h2 : k ≤ x.length) : rowP b q x k = rowD b q x.length := by
  obtain rfl : k = x.length := by omega
  unfold rowP; rw [List.drop_length, List.append_nil]
def rowsD (b : List Int) : Nat → List (List Bool) → List (List Bool)
  | _, [] => []
  | q, x :: r => rowD b q x.length :: rowsD b (q + x.length) r
theorem rowsD_len {b : List Int} : ∀ {q : Nat} {l : List (List Bool)}, (rowsD b q l).length = l.length
  | _, [] => rfl
  | q, x :: r => by rw [rowsD, List.length_cons, rowsD_len, List.length_cons]
theorem rowsD_next {b : List Int} {q : Nat} {P l : List (List Bool)} (h : P.length < l.length) : P ++ rowsD b q (l.drop P.length) = (P ++ [rowD b q (l.getD P.length default).length]) ++ rowsD b (q + (l.getD P.length default).length) (l.drop (P ++ [rowD b q (l.getD P.length default).length]).length) := by
  rw [drop_getD (d := default) h, rowsD, List.append_assoc]; simp
theorem sumW_drop {l : List (List Bool)} {k : Nat} (h : k < l.length) : sumW List.length (l.drop k) = (l.getD k default).length + sumW List.length (l.drop (k + 1)) := by
  rw [drop_getD (d := default) h]; simp [sumW]
theorem rowsD_row {b : List Int} : ∀ {q i : Nat} {l : List (List Bool)}, ((rowsD b q l).getD i default).length ≤ sumW List.length l
  | _, _, [] => Nat.zero_le _
  | q, 0, x :: r => by simp [rowsD, rowD_len, sumW]
  | q, i + 1, x :: r => by
    have := rowsD_row (b := b) (q := q + x.length) (i := i) (l := r)
    simp only [rowsD, List.getD_cons_succ, sumW, List.map_cons, List.sum_cons] at this ⊢
    omega
theorem boxO {e : Nat} {x : V} {a c : Nat} (h : a = c) : Obj.box e [x, .p (.int .i64 (a : Int))] = .box e [x, .p (.int .i64 (c : Int))] := by rw [h]
theorem drw_end {b : List Int} {q s : Nat} {P l R : List (List Bool)} (h : P.length ≤ l.length ∧ P ++ rowsD b q (l.drop P.length) = R ∧ q + sumW List.length (l.drop P.length) = s) (h2 : l.length ≤ P.length) : P ++ l.drop P.length = R ∧ q = s := by
  rw [List.drop_of_length_le h2] at h ⊢
  exact ⟨h.2.1, by have := h.2.2; simp [sumW] at this; exact this⟩
def bendD (b : List Int) (q : Nat) (R : List (List Bool)) : List (List Bool) := if pickV b q 30 = 0 then R.set 0 (R.getD 0 default ++ [true]) else R
theorem bend_y {b : List Int} {q : Nat} {R : List (List Bool)} (h : pickV b q 30 = 0) : bendD b q R = R.set 0 (R.getD 0 default ++ [true]) := if_pos h
theorem bend_n {b : List Int} {q : Nat} {R : List (List Bool)} (h : ¬ pickV b q 30 = 0) : bendD b q R = R := if_neg h
theorem bend_len {b : List Int} {q : Nat} {R : List (List Bool)} : (bendD b q R).length = R.length := by unfold bendD; split <;> simp
def drawD (b : List Int) (p : Nat) (m : Md) : List (List Bool) × Nat :=
  if (fullD m).length = 0 then ([], p)
  else if pickV b (p + sumW List.length (fullD m) + 1) 30 = 0 then ((bendD b (p + sumW List.length (fullD m)) (rowsD b p (fullD m))).take ((fullD m).length - 1), p + sumW List.length (fullD m) + 2)
  else (bendD b (p + sumW List.length (fullD m)) (rowsD b p (fullD m)), p + sumW List.length (fullD m) + 2)
theorem drawD_0 {b : List Int} {p : Nat} {m : Md} (h : (fullD m).length = 0) : drawD b p m = ([], p) := if_pos h
theorem drawD_y {b : List Int} {p : Nat} {m : Md} (h : (fullD m).length ≠ 0) (h2 : pickV b (p + sumW List.length (fullD m) + 1) 30 = 0) : drawD b p m = ((bendD b (p + sumW List.length (fullD m)) (rowsD b p (fullD m))).take ((fullD m).length - 1), p + sumW List.length (fullD m) + 2) := by unfold drawD; rw [if_neg h, if_pos h2]
theorem drawD_n {b : List Int} {p : Nat} {m : Md} (h : (fullD m).length ≠ 0) (h2 : ¬ pickV b (p + sumW List.length (fullD m) + 1) 30 = 0) : drawD b p m = (bendD b (p + sumW List.length (fullD m)) (rowsD b p (fullD m)), p + sumW List.length (fullD m) + 2) := by unfold drawD; rw [if_neg h, if_neg h2]
theorem drawD_ok {b : List Int} {p : Nat} {m : Md} : (drawD b p m).1.length ≤ 5 ∧ p ≤ (drawD b p m).2 ∧ (drawD b p m).2 ≤ p + 22 := by
  have h1 := fullD_sum (m := m)
  by_cases h : (fullD m).length = 0
  · rw [drawD_0 h]; simp
  · by_cases h2 : pickV b (p + sumW List.length (fullD m) + 1) 30 = 0
    · rw [drawD_y h h2]; dsimp only; rw [List.length_take, bend_len, rowsD_len]; omega
    · rw [drawD_n h h2]; dsimp only; rw [bend_len, rowsD_len]; omega
end Go.Ab

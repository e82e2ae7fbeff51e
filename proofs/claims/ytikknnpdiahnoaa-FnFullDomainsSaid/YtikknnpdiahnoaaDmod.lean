/- Drawn rules and models, told plainly. -/
import Derived.Test.YtikknnpdiahnoaaMod3
import Derived.Test.YtikknnpdiahnoaaLaws1
set_option linter.unusedSimpArgs false
set_option linter.unusedVariables false
namespace Go.Ab
def someA (b : List Int) (p : Nat) : Nat → List Int
  | 0 => []
  | v + 1 => if 0 < pickV b (p + v) 3 then someA b p v ++ [(v : Int)] else someA b p v
theorem someA_y {b : List Int} {p v : Nat} (h : 0 < pickV b (p + v) 3) : someA b p (v + 1) = someA b p v ++ [(v : Int)] := by rw [someA, if_pos h]
theorem someA_n {b : List Int} {p v : Nat} (h : ¬ 0 < pickV b (p + v) 3) : someA b p (v + 1) = someA b p v := by rw [someA, if_neg h]
theorem someA_len {b : List Int} {p : Nat} : ∀ {v : Nat}, (someA b p v).length ≤ v
  | 0 => Nat.le_refl _
  | v + 1 => by
    have := someA_len (b := b) (p := p) (v := v)
    rw [someA]; split
    · rw [List.length_append]; simp only [List.length_cons, List.length_nil]; omega
    · omega
def lastL (l : List Int) (v : Nat) : Prop := l.length = 0 ∨ l.getD (l.length - 1) default < v
instance (l : List Int) (v : Nat) : Decidable (lastL l v) := by unfold lastL; exact inferInstance
def fillF (least : Nat) : Nat → Nat → List Int → List Int
  | 0, _, l => l
  | f + 1, v, l => if l.length < least then fillF least f (v + 1) (if lastL l v then l ++ [(v : Int)] else l) else l
theorem fill_stop {least f v : Nat} {l : List Int} (h : ¬ l.length < least ∨ f = 0) : fillF least f v l = l := by
  cases f with
  | zero => rfl
  | succ f => rw [fillF, if_neg (by rcases h with h | h; exact h; cases h)]
theorem fill_y {least f v : Nat} {l : List Int} (hf : 0 < f) (h : l.length < least) (h2 : lastL l v) : fillF least (f - 1) (v + 1) (l ++ [(v : Int)]) = fillF least f v l := by
  obtain ⟨g, rfl⟩ : ∃ g, f = g + 1 := ⟨f - 1, by omega⟩
  rw [fillF, if_pos h, if_pos h2, Nat.add_sub_cancel]
theorem fill_n {least f v : Nat} {l : List Int} (hf : 0 < f) (h : l.length < least) (h2 : ¬ lastL l v) : fillF least (f - 1) (v + 1) l = fillF least f v l := by
  obtain ⟨g, rfl⟩ : ∃ g, f = g + 1 := ⟨f - 1, by omega⟩
  rw [fillF, if_pos h, if_neg h2, Nat.add_sub_cancel]
theorem fill_len {least : Nat} : ∀ {f v : Nat} {l : List Int}, (fillF least f v l).length ≤ l.length + f
  | 0, _, _ => Nat.le_refl _
  | f + 1, v, l => by
    rw [fillF]; split
    · have := fill_len (least := least) (f := f) (v := v + 1) (l := if lastL l v then l ++ [(v : Int)] else l)
      have h2 : (if lastL l v then l ++ [(v : Int)] else l).length ≤ l.length + 1 := by split <;> simp
      omega
    · omega
def rangeI (n : Nat) : List Int := (List.range n).map (fun i : Nat => (i : Int))
theorem rangeI_len {n : Nat} : (rangeI n).length = n := by simp [rangeI]
theorem rangeI_next {n : Nat} : rangeI (n + 1) = rangeI n ++ [(n : Int)] := by unfold rangeI; rw [List.range_succ, List.map_append]; rfl
def some3 (b : List Int) (p n least : Nat) : List Int :=
  if (fillF least n 0 (someA b p n)).length < least ∨ (fillF least n 0 (someA b p n)).length = 0 then rangeI least else fillF least n 0 (someA b p n)
theorem some3_y {b : List Int} {p n least : Nat} {l : List Int} (e : fillF least n 0 (someA b p n) = l) (h : l.length < least ∨ l.length = 0) : some3 b p n least = rangeI least := by unfold some3; rw [e, if_pos h]
theorem some3_n {b : List Int} {p n least : Nat} {l : List Int} (e : fillF least n 0 (someA b p n) = l) (h : ¬ (l.length < least ∨ l.length = 0)) : some3 b p n least = l := by unfold some3; rw [e, if_neg h]
theorem some3_len {b : List Int} {p n least : Nat} : (some3 b p n least).length ≤ 2 * n + least ∧ least ≤ (some3 b p n least).length := by
  have h1 := fill_len (least := least) (f := n) (v := 0) (l := someA b p n)
  have h2 := someA_len (b := b) (p := p) (v := n)
  unfold some3; split
  · rw [rangeI_len]; omega
  · omega
def swp (l : List Int) : List Int := (l.set 0 (l.getD 1 default)).set 1 (l.getD 0 default)
theorem swp_len {l : List Int} : (swp l).length = l.length := by simp [swp]
def finV (b : List Int) (q : Nat) (l : List Int) : List Int × Nat := if 1 < l.length then (if pickV b q 3 = 0 then (swp l, q + 1) else (l, q + 1)) else (l, q)
theorem fin_s {b : List Int} {q : Nat} {l : List Int} (h : ¬ 1 < l.length) : finV b q l = (l, q) := if_neg h
theorem fin_y {b : List Int} {q : Nat} {l : List Int} (h : 1 < l.length) (h2 : pickV b q 3 = 0) : finV b q l = (swp l, q + 1) := by unfold finV; rw [if_pos h, if_pos h2]
theorem fin_n {b : List Int} {q : Nat} {l : List Int} (h : 1 < l.length) (h2 : ¬ pickV b q 3 = 0) : finV b q l = (l, q + 1) := by unfold finV; rw [if_pos h, if_neg h2]
theorem fin_ok {b : List Int} {q : Nat} {l : List Int} : (finV b q l).1.length = l.length ∧ q ≤ (finV b q l).2 ∧ (finV b q l).2 ≤ q + 1 := by
  by_cases h : 1 < l.length
  · by_cases h2 : pickV b q 3 = 0
    · rw [fin_y h h2]; exact ⟨swp_len, by dsimp only; omega, by dsimp only; omega⟩
    · rw [fin_n h h2]; exact ⟨rfl, by dsimp only; omega, by dsimp only; omega⟩
  · rw [fin_s h]; exact ⟨rfl, by dsimp only; omega, by dsimp only; omega⟩
def someV (b : List Int) (p n least : Nat) : List Int × Nat := finV b (p + n) (some3 b p n least)
theorem someV_ok {b : List Int} {p n least : Nat} : least ≤ (someV b p n least).1.length ∧ (someV b p n least).1.length ≤ 2 * n + least ∧ p ≤ (someV b p n least).2 ∧ (someV b p n least).2 ≤ p + n + 1 := by
  have h1 := fin_ok (b := b) (q := p + n) (l := some3 b p n least)
  have h2 := some3_len (b := b) (p := p) (n := n) (least := least)
  unfold someV; omega
/-! ### Rules -/
def cfV (b : List Int) (q k : Nat) : List Int := (List.range k).map (fun i => ofV b (q + i) ([1, -1, 2, 1, -2, 3] : List Int))
theorem cfV_next {b : List Int} {q k : Nat} : cfV b q (k + 1) = cfV b q k ++ [ofV b (q + k) ([1, -1, 2, 1, -2, 3] : List Int)] := by unfold cfV; rw [List.range_succ, List.map_append]; rfl
theorem cfV_len {b : List Int} {q k : Nat} : (cfV b q k).length = k := by simp [cfV]
def rowV (b : List Int) (q k : Nat) : List Int := (List.range k).map (fun i => pickV b (q + i) 4)
theorem rowV_next {b : List Int} {q k : Nat} : rowV b q (k + 1) = rowV b q k ++ [pickV b (q + k) 4] := by unfold rowV; rw [List.range_succ, List.map_append]; rfl
theorem rowV_len {b : List Int} {q k : Nat} : (rowV b q k).length = k := by simp [rowV]
def tabV (b : List Int) (q n k : Nat) : List (List Int) := (List.range k).map (fun i => rowV b (q + i * n) n)
theorem tabV_next {b : List Int} {q n k : Nat} : tabV b q n (k + 1) = tabV b q n k ++ [rowV b (q + k * n) n] := by unfold tabV; rw [List.range_succ, List.map_append]; rfl
theorem tabV_len {b : List Int} {q n k : Nat} : (tabV b q n k).length = k := by simp [tabV]
theorem tabV_sum {b : List Int} {q n : Nat} : ∀ {k : Nat}, sumW List.length (tabV b q n k) = k * n
  | 0 => by simp [tabV, sumW]
  | k + 1 => by rw [tabV_next, sumW_app, tabV_sum, Nat.add_mul]; simp [sumW, rowV_len]
def kdV (b : List Int) (p : Nat) : Int := ofV b p ([1, 2, 3, 4, 1] : List Int)
def drawR (b : List Int) (p n : Nat) : Rl × Nat :=
  let v := someV b (p + 1) n 1
  if kdV b p = 1 then ((kdV b p, v.1, cfV b v.2 v.1.length, ofV b (v.2 + v.1.length) ([1, 2, 0, -1, 3, -3, 4] : List Int), []), v.2 + v.1.length + 1)
  else if kdV b p = 3 then ((kdV b p, v.1, [], 0, tabV b (v.2 + 1) v.1.length (ofV b v.2 ([3, 4, 2, 6, 0, 8] : List Int)).toNat), v.2 + 1 + (ofV b v.2 ([3, 4, 2, 6, 0, 8] : List Int)).toNat * v.1.length)
  else if kdV b p = 4 then ((kdV b p, (someV b v.2 n 2).1.take 2, [], 0, []), (someV b v.2 n 2).2)
  else ((kdV b p, v.1, [], 0, []), v.2)
theorem drawR_1 {b : List Int} {p n : Nat} (h : kdV b p = 1) : drawR b p n = ((kdV b p, (someV b (p + 1) n 1).1, cfV b (someV b (p + 1) n 1).2 (someV b (p + 1) n 1).1.length, ofV b ((someV b (p + 1) n 1).2 + (someV b (p + 1) n 1).1.length) ([1, 2, 0, -1, 3, -3, 4] : List Int), []), (someV b (p + 1) n 1).2 + (someV b (p + 1) n 1).1.length + 1) := by
  unfold drawR; dsimp only; rw [if_pos h]
theorem drawR_3 {b : List Int} {p n : Nat} (h : kdV b p = 3) : drawR b p n = ((kdV b p, (someV b (p + 1) n 1).1, [], 0, tabV b ((someV b (p + 1) n 1).2 + 1) (someV b (p + 1) n 1).1.length (ofV b (someV b (p + 1) n 1).2 ([3, 4, 2, 6, 0, 8] : List Int)).toNat), (someV b (p + 1) n 1).2 + 1 + (ofV b (someV b (p + 1) n 1).2 ([3, 4, 2, 6, 0, 8] : List Int)).toNat * (someV b (p + 1) n 1).1.length) := by
  unfold drawR; dsimp only; rw [if_neg (by omega), if_pos h]
theorem drawR_4 {b : List Int} {p n : Nat} (h : kdV b p = 4) : drawR b p n = ((kdV b p, (someV b (someV b (p + 1) n 1).2 n 2).1.take 2, [], 0, []), (someV b (someV b (p + 1) n 1).2 n 2).2) := by
  unfold drawR; dsimp only; rw [if_neg (by omega), if_neg (by omega), if_pos h]
theorem drawR_0 {b : List Int} {p n : Nat} (h1 : kdV b p ≠ 1) (h3 : kdV b p ≠ 3) (h4 : kdV b p ≠ 4) : drawR b p n = ((kdV b p, (someV b (p + 1) n 1).1, [], 0, []), (someV b (p + 1) n 1).2) := by
  unfold drawR; dsimp only; rw [if_neg h1, if_neg h3, if_neg h4]
theorem drawR_ok {b : List Int} {p n : Nat} (hn : n ≤ 5) : wR (drawR b p n).1 ≤ 200 ∧ p ≤ (drawR b p n).2 ∧ (drawR b p n).2 ≤ p + 200 := by
  have h1 := someV_ok (b := b) (p := p + 1) (n := n) (least := 1)
  by_cases k1 : kdV b p = 1
  · rw [drawR_1 k1]
    simp only [wR, wLL, cfV_len, sumW, List.map_nil, List.sum_nil, List.length_nil]
    omega
  · by_cases k3 : kdV b p = 3
    · rw [drawR_3 k3]
      have hk : (0 : Int) ≤ ofV b (someV b (p + 1) n 1).2 ([3, 4, 2, 6, 0, 8] : List Int) ∧ ofV b (someV b (p + 1) n 1).2 ([3, 4, 2, 6, 0, 8] : List Int) ≤ 8 := ofV_in (l := [3, 4, 2, 6, 0, 8]) (lo := 0) (hi := 8) (by decide) (by decide)
      simp only [wR, wLL, tabV_len, tabV_sum, List.length_nil]
      generalize (someV b (p + 1) n 1) = v at *
      generalize ofV b v.2 ([3, 4, 2, 6, 0, 8] : List Int) = z at *
      have hz : z.toNat * v.1.length ≤ 8 * 11 := Nat.mul_le_mul (by omega) (by omega)
      omega
    · by_cases k4 : kdV b p = 4
      · have h2 := someV_ok (b := b) (p := (someV b (p + 1) n 1).2) (n := n) (least := 2)
        rw [drawR_4 k4]
        simp only [wR, wLL, List.length_take, sumW, List.map_nil, List.sum_nil, List.length_nil]
        omega
      · rw [drawR_0 k1 k3 k4]
        simp only [wR, wLL, sumW, List.map_nil, List.sum_nil, List.length_nil]
        omega
theorem boxP {v e : Nat} {x : V} {a c : Nat} (h : a = c) : (some (v, Obj.box e [x, .p (.int .i64 (a : Int))]) : Option (Nat × Obj)) = some (v, .box e [x, .p (.int .i64 (c : Int))]) := by rw [h]
theorem boxS {v e : Nat} {y : V} {a c : List (List V)} (h : a = c) : (some (v, Obj.box e [.sl a, y]) : Option (Nat × Obj)) = some (v, .box e [.sl c, y]) := by rw [h]
theorem set_same {α β : Type} [Inhabited α] (f : α → β) (l : List α) (k : Nat) : (l.map f).set k (f (l.getD k default)) = l.map f := by
  by_cases h : k < l.length
  · refine List.ext_getElem (by simp) fun i h1 h2 => ?_
    rw [List.getElem_set]
    split
    · rename_i e; subst e; rw [List.getElem_map, List.getD_eq_getElem?_getD, List.getElem?_eq_getElem h]; rfl
    · rfl
  · rw [List.set_eq_of_length_le (by simp; omega)]
theorem aggS1 {x : V} {a c : List (List V)} (h : a = c) : V.agg [.sl a, x] = .agg [.sl c, x] := by rw [h]
theorem aggS2 {x : V} {a c : List (List V)} (h : a = c) : V.agg [x, .sl a] = .agg [x, .sl c] := by rw [h]
theorem all_take {α : Type} {p : α → Bool} {l : List α} {k : Nat} (h : l.all p = true) : (l.take k).all p = true :=
  List.all_eq_true.2 fun a ha => List.all_eq_true.1 h a (List.mem_of_mem_take ha)
theorem all_snoc {α : Type} {p : α → Bool} {l : List α} {a : α} (h : l.all p = true) (h2 : p a = true) : (l ++ [a]).all p = true := by rw [List.all_append, h, List.all_cons, h2]; rfl
theorem wRS_snoc {l : List Rl} {r : Rl} : wRS (l ++ [r]) = wRS l + 1 + wR r := by
  unfold wRS; rw [sumW_app, List.length_append]; simp [sumW]; omega
theorem sumW_set {α : Type} [Inhabited α] {w : α → Nat} {a : α} : ∀ {l : List α} {k : Nat}, k < l.length → w a = w (l.getD k default) → sumW w (l.set k a) = sumW w l
  | [], k, h, _ => by simp at h
  | x :: r, 0, _, h => by
    simp only [List.getD_cons_zero] at h
    simp [sumW, h]
  | x :: r, k + 1, h, h2 => by
    simp only [List.getD_cons_succ] at h2
    have := sumW_set (w := w) (a := a) (l := r) (k := k) (by simpa using h) h2
    simp only [sumW, List.set_cons_succ, List.map_cons, List.sum_cons] at this ⊢
    rw [this]
theorem wRS_set {l : List Rl} {r : Rl} {k : Nat} (h : k < l.length) (h2 : wR r = wR (l.getD k default)) : wRS (l.set k r) = wRS l := by
  unfold wRS; rw [sumW_set h h2, List.length_set]
end Go.Ab

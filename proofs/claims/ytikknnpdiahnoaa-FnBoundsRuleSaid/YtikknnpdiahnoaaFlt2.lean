/- What a valid rule's parts are. -/
import Derived.Test.YtikknnpdiahnoaaFlt
set_option linter.unusedSimpArgs false
set_option linter.unusedVariables false
namespace Go.Ab
theorem rOk_parts {n : Int} {r : Rl} (h : rOk n r = true) : vsN n r.2.1 r.2.1.length = true ∧ rHead r ∧ rTail r = true := by
  unfold rOk at h
  simp only [Bool.and_eq_true, decide_eq_true_eq] at h
  exact ⟨h.1, h.2.1, h.2.2⟩
theorem rOk_vs {n : Int} {r : Rl} (h : rOk n r = true) : ∀ k, k < r.2.1.length → 0 ≤ r.2.1.getD k default ∧ r.2.1.getD k default < n := by
  intro k hk
  have := rng_at (rOk_parts h).1 hk
  rw [Bool.and_eq_true, decide_eq_true_eq] at this
  exact this.1
theorem rOk_lin {n : Int} {r : Rl} (h : rOk n r = true) (h1 : r.1 = 1) : r.2.2.1.length = r.2.1.length ∧ (-1000 ≤ r.2.2.2.1 ∧ r.2.2.2.1 ≤ 1000) ∧ ∀ k, k < r.2.2.1.length → -9 ≤ r.2.2.1.getD k default ∧ r.2.2.1.getD k default ≤ 9 := by
  have h2 := (rOk_parts h).2.2
  rw [rTail_1 h1] at h2
  unfold linOk at h2
  simp only [Bool.and_eq_true, decide_eq_true_eq] at h2
  refine ⟨h2.1, h2.2.1, fun k hk => ?_⟩
  have := all_at (d := default) h2.2.2 hk
  rw [decide_eq_true_eq] at this
  exact this.2
theorem rOk_kind {n : Int} {r : Rl} (h : rOk n r = true) : r.1 = 1 ∨ r.1 = 2 ∨ r.1 = 3 ∨ r.1 = 4 := by
  have h2 := (rOk_parts h).2.2
  unfold rTail at h2
  by_cases a : r.1 = 1
  · exact .inl a
  · by_cases b : r.1 = 3
    · exact .inr (.inr (.inl b))
    · by_cases c : r.1 = 4
      · exact .inr (.inr (.inr c))
      · rw [if_neg a, if_neg b, if_neg c, decide_eq_true_eq] at h2
        exact .inr (.inl h2)
theorem rOk_4 {n : Int} {r : Rl} (h : rOk n r = true) (h1 : r.1 = 4) : r.2.1.length = 2 := by
  have h2 := (rOk_parts h).2.2
  rw [rTail_4 h1, decide_eq_true_eq] at h2
  exact h2
theorem anyEq {α : Type} [DecidableEq α] {l : List α} {v : α} : l.any (fun a => decide (a = v)) = decide (v ∈ l) := by
  rw [Bool.eq_iff_iff, List.any_eq_true, decide_eq_true_eq]
  constructor
  · rintro ⟨a, h, e⟩; rw [decide_eq_true_eq] at e; rw [← e]; exact h
  · intro h; exact ⟨v, h, decide_eq_true rfl⟩
theorem dist_next {x : List Int} {k : Nat} (h : distB x k = true) (h2 : x.getD k default ∉ x.take k) : distB x (k + 1) = true := rng_next h (by rw [decide_eq_false h2]; rfl)
theorem dist_no {x : List Int} {k n : Nat} (hk : k < n) (h : x.getD k default ∈ x.take k) : distB x n = false := rng_no hk (by rw [decide_eq_true h]; rfl)
theorem mulR39 {a x : Int} (h : -9 ≤ a ∧ a ≤ 9) (h2 : 0 ≤ x ∧ x ≤ 3) : -27 ≤ a * x ∧ a * x ≤ 27 := by
  have : x = 0 ∨ x = 1 ∨ x = 2 ∨ x = 3 := by omega
  rcases this with rfl | rfl | rfl | rfl <;> omega
theorem vals_at {vs c : List Int} {k : Nat} (h : k < vs.length) : (valsC vs c).getD k default = c.getD (vs.getD k default).toNat default := by
  unfold valsC
  rw [List.getD_eq_getElem?_getD, List.getElem?_map, List.getElem?_eq_getElem h, List.getD_eq_getElem?_getD (l := vs), List.getElem?_eq_getElem h]; rfl
theorem vals_rng {n : Int} {r : Rl} {c : List Int} (h : rOk n r = true) (hc : (c.length : Int) = n ∧ ∀ k, k < c.length → 0 ≤ c.getD k default ∧ c.getD k default ≤ 3) : ∀ k, k < (valsC r.2.1 c).length → 0 ≤ (valsC r.2.1 c).getD k default ∧ (valsC r.2.1 c).getD k default ≤ 3 := by
  intro k hk
  rw [vals_len] at hk
  rw [vals_at hk]
  have := rOk_vs h k hk
  exact hc.2 _ (by omega)
theorem lf_ints {l : List Int} : (l.map dI).flatten.all lf = true := by
  rw [List.all_eq_true]
  intro v hv
  rw [List.mem_flatten] at hv
  obtain ⟨x, hx, hv⟩ := hv
  obtain ⟨a, _, rfl⟩ := List.mem_map.1 hx
  simp only [dI, List.mem_singleton] at hv
  subst hv; rfl
theorem getD_setne {α : Type} {l : List α} {i j : Nat} {a d : α} (h : i ≠ j) : (l.set j a).getD i d = l.getD i d := by
  rw [List.getD_eq_getElem?_getD, List.getD_eq_getElem?_getD, List.getElem?_set_ne (Ne.symm h)]
end Go.Ab

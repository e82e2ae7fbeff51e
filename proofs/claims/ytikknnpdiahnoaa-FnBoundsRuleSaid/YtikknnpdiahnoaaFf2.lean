/- More on filtered domains. -/
import Derived.Test.YtikknnpdiahnoaaBnd
import Derived.Test.YtikknnpdiahnoaaDmod
set_option linter.unusedSimpArgs false
set_option linter.unusedVariables false
namespace Go.Ab
theorem fr_parts {m : Md} {i : Int} {d : List (List Bool)} (h : frOk m i d = true) : dmB m d = true ∧ (0 ≤ i ∧ i < m.2.length) := by
  unfold frOk at h
  rw [Bool.and_eq_true, decide_eq_true_eq] at h
  exact h
theorem dm_of {m : Md} {d : List (List Bool)} (h : mOk m = true) (h2 : fitsB m.1 d = true) : dmB m d = true := by unfold dmB; rw [h, h2]; rfl
theorem fits_row {m : Md} {d : List (List Bool)} {k : Nat} (h : mOk m = true) (hd : fitsB m.1 d = true) : (d.getD k default).length ≤ 4 := by
  obtain ⟨h1, h2⟩ := fits_at hd
  by_cases hk : k < d.length
  · have h3 := h2 k hk; have h4 := (mOk_sz h).2 k (by omega); omega
  · rw [List.getD_eq_getElem?_getD, List.getElem?_eq_none (by omega)]; exact Nat.zero_le _
end Go.Ab
namespace Go.Ab
theorem lf_bools {l : List Bool} : (l.map dB).flatten.all lf = true := by
  rw [List.all_eq_true]
  intro v hv
  rw [List.mem_flatten] at hv
  obtain ⟨x, hx, hv⟩ := hv
  obtain ⟨a, _, rfl⟩ := List.mem_map.1 hx
  simp only [dB, List.mem_singleton] at hv
  subst hv; rfl
theorem em_all {d : List (List Bool)} : emB d = !(d.all (fun x => decide (true ∈ x))) := by
  unfold emB
  rw [List.not_all_eq_any_not]
theorem some_next {x : List Bool} {j : Nat} (h : j < x.length) : decide (true ∈ x.take (j + 1)) = (decide (true ∈ x.take j) || x.getD j default) := by
  rw [take_succD (d := default) h, Bool.eq_iff_iff, Bool.or_eq_true, decide_eq_true_eq, decide_eq_true_eq, List.mem_append, List.mem_singleton]
  exact ⟨fun q => q.imp id Eq.symm, fun q => q.imp id Eq.symm⟩
theorem brOk_no {m : Md} {i : Int} {d : List (List Bool)} (h : dmB m d = false ∨ emB d = true ∨ ¬ (0 ≤ i ∧ i < m.2.length) ∨ (m.2.getD i.toNat default).1 ≠ 1) : brOk m i d = false := by
  unfold brOk
  rcases h with h | h | h | h
  · rw [h]; rfl
  · rw [h]; simp
  · rw [decide_eq_false h]; simp
  · rw [decide_eq_false h]; simp
theorem brOk_yes {m : Md} {i : Int} {d : List (List Bool)} (h : dmB m d = true) (h1 : emB d = false) (h2 : 0 ≤ i ∧ i < m.2.length) (h3 : (m.2.getD i.toNat default).1 = 1) : brOk m i d = true := by
  unfold brOk; rw [h, h1, decide_eq_true h2, decide_eq_true h3]; rfl
theorem de_em {m : Md} {d : List (List Bool)} (h : deB m d = true) : emB d = true := by unfold deB at h; rw [Bool.and_eq_true] at h; exact h.2
theorem de_no {m : Md} {d : List (List Bool)} (h : deB m d = false) (h2 : dmB m d = true) : emB d = false := by unfold deB at h; rw [h2] at h; exact h
theorem ms_at {α : Type} {f : α → List V} {l : List α} {v : Nat} {x : α} (h : v < l.length) : ((l.set v x).map f)[v]? = some (f x) := by
  rw [List.getElem?_map, List.getElem?_set_self h]; rfl
theorem ms_set {α : Type} {f : α → List V} {l : List α} {v : Nat} {x y : α} {z : List V} (h : z = f y) : ((l.set v x).map f).set v z = (l.set v y).map f := by
  subst h; rw [← List.map_set, List.set_set]
theorem set_selfL {α : Type} [Inhabited α] {l : List α} {v : Nat} : l.set v (l.getD v default) = l := by
  have := set_same (fun a : α => a) l v
  simpa using this
theorem brP_keep {rest a b : Int} {row : List Bool} {j : Nat} (hj : j < row.length) (h : b ≤ rest + a * j) : brP rest a b row (j + 1) = brP rest a b row j := by
  have h1 : (brP rest a b row j).getD j default = row.getD j default := by rw [brP_at (by omega), if_neg (by omega)]
  rw [brP, decide_eq_true h, Bool.and_true, ← h1, set_selfL]
theorem brP_drop {rest a b : Int} {row : List Bool} {j : Nat} (h : ¬ b ≤ rest + a * j) : brP rest a b row (j + 1) = (brP rest a b row j).set j false := by
  rw [brP, decide_eq_false h, Bool.and_false]
def bstL (r : Rl) (d : List (List Bool)) (k : Nat) : List Int := (List.range k).map (bstR r d)
theorem bstL_len {r : Rl} {d : List (List Bool)} {k : Nat} : (bstL r d k).length = k := by simp [bstL]
theorem bstL_next {r : Rl} {d : List (List Bool)} {k : Nat} : bstL r d (k + 1) = bstL r d k ++ [bstR r d k] := by unfold bstL; rw [List.range_succ, List.map_append]; rfl
theorem bstL_at {r : Rl} {d : List (List Bool)} {n k : Nat} (h : k < n) : (bstL r d n).getD k default = bstR r d k := by
  unfold bstL; rw [List.getD_eq_getElem?_getD, List.getElem?_map, List.getElem?_range h]; rfl
theorem rows_le {m : Md} {d : List (List Bool)} (h : mOk m = true) (hd : fitsB m.1 d = true) : ∀ k, (d.getD k default).length ≤ 1000 := fun k => Nat.le_trans (fits_row h hd) (by omega)
end Go.Ab
namespace Go.Ab
theorem vs_count {n : Nat} : ∀ {k : Nat} {f : Nat → Nat}, (∀ i, i < k → f i < n) → (∀ i j, i < k → j < i → f j ≠ f i) → k ≤ n
  | 0, _, _, _ => Nat.zero_le _
  | k + 1, f, h, h2 => by
    have h3 : ((List.range (k + 1)).map f).Nodup := by
      rw [List.nodup_iff_pairwise_ne] 
      refine List.pairwise_map.2 (List.Pairwise.imp_of_mem ?_ (List.pairwise_lt_range (n := k + 1)))
      intro a b ha hb hab
      exact h2 b a (List.mem_range.1 hb) hab
    have h4 : ((List.range (k + 1)).map f).length ≤ (List.range n).length := List.Nodup.length_le_of_subset h3 (fun x hx => by
      obtain ⟨i, hi, rfl⟩ := List.mem_map.1 hx
      exact List.mem_range.2 (h i (List.mem_range.1 hi)))
    simpa using h4
theorem rOk_len {m : Md} {q : Rl} {d : List (List Bool)} (h : rOk m.1.length q = true) (hd : d.length = m.1.length) (h5 : d.length ≤ 5) : q.2.1.length ≤ 5 := by
  have := vs_count (n := m.1.length) (k := q.2.1.length) (f := vrN q) (fun i hi => by have := rOk_vs h i hi; unfold vrN; omega) (fun i j hi hj => vs_ne h hi hj)
  omega
end Go.Ab

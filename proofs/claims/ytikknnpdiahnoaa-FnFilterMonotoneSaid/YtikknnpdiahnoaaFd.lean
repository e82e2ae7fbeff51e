/- The sizes of full domains. -/
import Derived.Test.YtikknnpdiahnoaaMod3
import Derived.Test.YtikknnpdiahnoaaAb19
namespace Go.Ab
theorem fdL_sum {b : Bool} : ∀ {xs : List Int}, (∀ a ∈ xs, a ≤ 3) → sumW List.length (fdL b xs) ≤ 4 * xs.length
  | [], _ => by simp [fdL, sumW]
  | x :: r, h => by
    have h1 := fdL_sum (b := b) (xs := r) (fun a ha => h a (List.mem_cons_of_mem _ ha))
    have h2 := h x List.mem_cons_self
    have h3 : sumW List.length (fdL b (x :: r)) = (x + 1).toNat + sumW List.length (fdL b r) := by simp [fdL, sumW]
    rw [h3, List.length_cons]; omega
theorem fullD_sum {m : Md} : (fullD m).length ≤ 5 ∧ sumW List.length (fullD m) ≤ 20 := by
  cases h : mOk m
  · rw [fullD_bad h]; simp [sumW]
  · obtain ⟨⟨_, h5⟩, hs⟩ := mOk_sz h
    rw [fullD_ok h, fdL_len]
    refine ⟨h5, Nat.le_trans (fdL_sum fun a ha => ?_) (by omega)⟩
    obtain ⟨k, hk, rfl⟩ := List.mem_iff_getElem.1 ha
    have := (hs k hk).2
    rwa [List.getD_eq_getElem?_getD, List.getElem?_eq_getElem hk] at this
theorem flatten_one {α β : Type} {f : α → β} : ∀ {l : List α} {j : Nat} {v : β}, (l.map (fun a => [f a])).flatten[j]? = some v → ∃ a, a ∈ l ∧ v = f a
  | [], j, v, h => by simp at h
  | a :: l, 0, v, h => by simp at h; exact ⟨a, by simp, h.symm⟩
  | a :: l, j + 1, v, h => by
    obtain ⟨b, hb, h2⟩ := flatten_one (l := l) (j := j) (v := v) (by simpa using h)
    exact ⟨b, by simp [hb], h2⟩
theorem plD_bools {e : Nat} {l : List Bool} : PlD 1 (.mk e 1 []) (l.map dB) := by
  intro j v hj
  obtain ⟨a, _, h⟩ := flatten_one (f := fun b : Bool => V.p (.bool b)) hj
  show plV v = true
  rw [h]; rfl
theorem plD_rowsB {e e2 : Nat} {l : List (List Bool)} : PlD 2 (.mk e 1 [(0, .mk e2 1 [])]) (l.map dD) := by
  intro j v hj
  obtain ⟨a, _, h⟩ := flatten_one (f := fun x : List Bool => V.sl (x.map dB)) hj
  show match (DTy.mk e 1 [(0, .mk e2 1 [])]).sub (j % 1) with | none => plV v = true | some t' => ∀ es', v = .sl es' → PlD 1 t' es'
  rw [Nat.mod_one, h]
  intro es' he
  obtain rfl := V.sl.inj he
  exact plD_bools
theorem pl_newB {e e2 : Nat} {l : List (List Bool)} {hh : Option (Nat × Nat × Nat × Nat)} : ∀ o ∈ ([] : List Obj) ++ [.deep (.mk e 1 [(0, .mk e2 1 [])]) (l.map dD) hh], plO o := by
  intro o ho
  simp only [List.nil_append, List.mem_singleton] at ho
  subst ho; exact ⟨2, plD_rowsB⟩
end Go.Ab

/- Results that are told by plain values: listings. -/
import Derived.Test.YtoodaakcfelaaaaDeep4
import Derived.Test.YtoodaakcfelaaaaFd
set_option linter.unusedSimpArgs false
set_option linter.unusedVariables false
namespace Go.Ab
theorem flat_five : ∀ {l : List Stp} {j : Nat} {v : V}, (l.map dStp).flatten[j]? = some v → ∃ a ∈ l, (dStp a)[j % 5]? = some v
  | [], j, v, h => by simp at h
  | a :: l, j, v, h => by
    rw [List.map_cons, List.flatten_cons] at h
    by_cases q : j < 5
    · rw [List.getElem?_append_left (by exact q)] at h
      exact ⟨a, List.mem_cons_self, by rw [Nat.mod_eq_of_lt q]; exact h⟩
    · rw [List.getElem?_append_right (by show 5 ≤ j; omega)] at h
      obtain ⟨b, hb, h2⟩ := flat_five (l := l) h
      refine ⟨b, List.mem_cons_of_mem _ hb, ?_⟩
      rw [← h2]; congr 1
      show j % 5 = (j - 5) % 5
      omega
theorem plD_stp {e e2 : Nat} {l : List Stp} : PlD 2 (.mk e 5 [(3, .mk e2 2 [])]) (l.map dStp) := by
  intro j v hj
  obtain ⟨a, _, h⟩ := flat_five hj
  show match (DTy.mk e 5 [(3, .mk e2 2 [])]).sub (j % 5) with | none => plV v = true | some t' => ∀ es', v = .sl es' → PlD 1 t' es'
  have h5 : j % 5 < 5 := Nat.mod_lt _ (by decide)
  rcases (by omega : j % 5 = 0 ∨ j % 5 = 1 ∨ j % 5 = 2 ∨ j % 5 = 3 ∨ j % 5 = 4) with q | q | q | q | q <;> rw [q] at h ⊢ <;> (have h9 := Option.some.inj h; subst h9)
  · exact rfl
  · exact rfl
  · exact rfl
  · intro es' he
    obtain rfl := V.sl.inj he
    exact plD_terms
  · exact rfl
theorem pl_list {e e2 e3 e4 : Nat} {F : List (List Bool)} {S : List Stp} {h1 h2 : Option (Nat × Nat × Nat × Nat)} : ∀ o ∈ ([] : List Obj) ++ [.deep (.mk e 1 [(0, .mk e2 1 [])]) (F.map dD) h1, .deep (.mk e3 5 [(3, .mk e4 2 [])]) (S.map dStp) h2], plO o :=
  pl_two ⟨2, plD_rowsB⟩ ⟨2, plD_stp⟩
end Go.Ab

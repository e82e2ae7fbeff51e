/- The sizes of full domains. -/
import Derived.Test.YtikknnpdiahnoaaMod3
import Derived.Test.YtikknnpdiahnoaaAb19
namespace Go.Ab
theorem flatten_one {α β : Type} {f : α → β} : ∀ {l : List α} {j : Nat} {v : β}, (l.map (fun a => [f a])).flatten[j]? = some v → ∃ a, a ∈ l ∧ v = f a
  | [], j, v, h => by simp at h
  | a :: l, 0, v, h => by simp at h; exact ⟨a, by simp, h.symm⟩
  | a :: l, j + 1, v, h => by
    obtain ⟨b, hb, h2⟩ := flatten_one (l := l) (j := j) (v := v) (by simpa using h)
    exact ⟨b, by simp [hb], h2⟩
theorem plD_bools {e : Nat} {l : List Bool} : PlD 1 (.mk e 1 []) (l.map dB) := by
  intro j v hj
  obtain ⟨a, _, h⟩ := flatten_one (f := fun b : Bool => V.p (.bool b)) hj
  show plV v = true
  rw [h]; rfl
theorem plD_rowsB {e e2 : Nat} {l : List (List Bool)} : PlD 2 (.mk e 1 [(0, .mk e2 1 [])]) (l.map dD) := by
  intro j v hj
  obtain ⟨a, _, h⟩ := flatten_one (f := fun x : List Bool => V.sl (x.map dB)) hj
  show match (DTy.mk e 1 [(0, .mk e2 1 [])]).sub (j % 1) with | none => plV v = true | some t' => ∀ es', v = .sl es' → PlD 1 t' es'
  rw [Nat.mod_one, h]
  intro es' he
  obtain rfl := V.sl.inj he
  exact plD_bools
theorem pl_newB {e e2 : Nat} {l : List (List Bool)} {hh : Option (Nat × Nat × Nat × Nat)} : ∀ o ∈ ([] : List Obj) ++ [.deep (.mk e 1 [(0, .mk e2 1 [])]) (l.map dD) hh], plO o := by
  intro o ho
  simp only [List.nil_append, List.mem_singleton] at ho
  subst ho; exact ⟨2, plD_rowsB⟩
theorem wM_mark {m : Md} (h : wM m ≤ 1048576) : 1 + m.1.length + sumW cR m.2 ≤ 4611686018427387904 ∧ wRS m.2 ≤ 1048576 := by
  have h1 := cRS_le (l := m.2)
  unfold wM at h
  refine ⟨?_, by omega⟩
  unfold wRS at h; omega
end Go.Ab

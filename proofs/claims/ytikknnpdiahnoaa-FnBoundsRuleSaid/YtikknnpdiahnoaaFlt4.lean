/- Filtering by one rule of a model. -/
import Derived.Test.YtikknnpdiahnoaaFlt3
set_option linter.unusedSimpArgs false
set_option linter.unusedVariables false
namespace Go.Ab
def frOk (m : Md) (i : Int) (d : List (List Bool)) : Bool := dmB m d && decide (0 ≤ i ∧ i < m.2.length)
def frD (m : Md) (i : Int) (d : List (List Bool)) : List (List Bool) := if frOk m i d then filtD m (m.2.getD i.toNat default) d else []
theorem fr_bad {m : Md} {i : Int} {d : List (List Bool)} (h : frOk m i d = false) : frD m i d = [] := by unfold frD; rw [if_neg (by rw [h]; decide)]
theorem fr_ok {m : Md} {i : Int} {d : List (List Bool)} (h : frOk m i d = true) : frD m i d = filtD m (m.2.getD i.toNat default) d := by unfold frD; rw [if_pos h]
theorem frOk_no {m : Md} {i : Int} {d : List (List Bool)} (h : dmB m d = false ∨ ¬ (0 ≤ i ∧ i < m.2.length)) : frOk m i d = false := by
  unfold frOk
  rcases h with h | h
  · rw [h]; rfl
  · rw [decide_eq_false h, Bool.and_false]
theorem frOk_yes {m : Md} {i : Int} {d : List (List Bool)} (h : dmB m d = true) (h2 : 0 ≤ i ∧ i < m.2.length) : frOk m i d = true := by
  unfold frOk; rw [h, decide_eq_true h2]; rfl
theorem dm_parts {m : Md} {d : List (List Bool)} (h : dmB m d = true) : mOk m = true ∧ fitsB m.1 d = true := by
  unfold dmB at h
  rw [Bool.and_eq_true] at h
  exact h
theorem mOk_rule {m : Md} (h : mOk m = true) {k : Nat} (hk : k < m.2.length) : rOk m.1.length (m.2.getD k default) = true := by
  unfold mOk at h
  simp only [Bool.and_eq_true] at h
  exact all_at (d := default) h.2.2 hk
theorem wRS_rule {l : List Rl} (h : wRS l ≤ 1048576) {k : Nat} (hk : k < l.length) : (l.getD k default).2.1.length ≤ 1048576 := by
  have h1 := sumW_at (w := wR) (l := l) (k := k) hk
  unfold wRS at h
  have h2 : wR (l.getD k default) = (l.getD k default).2.1.length + (l.getD k default).2.2.1.length + wLL (l.getD k default).2.2.2.2 := rfl
  omega
theorem nxt_at {sz e : List Int} {k : Nat} (h : 1 ≤ k) : nxt sz e k = if e.getD (k - 1) default < sz.getD (k - 1) default then (e.set (k - 1) (e.getD (k - 1) default + 1), true) else nxt sz (e.set (k - 1) 0) (k - 1) := by
  obtain ⟨j, rfl⟩ : ∃ j, k = j + 1 := ⟨k - 1, by omega⟩
  rfl
abbrev stepO (q : Rl) (d : List (List Bool)) (c : List Int) (o : List (List Bool)) : List (List Bool) := if okC2 q d c then markN o c c.length else o
theorem fits_step {sz : List Int} {q : Rl} {d o : List (List Bool)} {c : List Int} (h : fitsB sz o = true) : fitsB sz (stepO q d c o) = true := by
  unfold stepO
  split
  · exact fits_mark h
  · exact h
end Go.Ab

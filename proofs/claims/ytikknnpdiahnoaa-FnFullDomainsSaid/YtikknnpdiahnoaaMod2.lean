/- Rules and models, in the form in which walks use them. -/
import Derived.Test.YtikknnpdiahnoaaMod
import Derived.Test.YtikknnpdiahnoaaSimp
set_option linter.unusedSimpArgs false
set_option linter.unusedVariables false
namespace Go.Ab
theorem any_mem {α : Type} [DecidableEq α] {l : List α} {v : α} : l.any (fun a => decide (v = a)) = decide (v ∈ l) := by
  rw [Bool.eq_iff_iff, List.any_eq_true, decide_eq_true_eq]
  constructor
  · rintro ⟨a, h, e⟩; rw [decide_eq_true_eq] at e; rw [e]; exact h
  · intro h; exact ⟨v, h, decide_eq_true rfl⟩
theorem a_len_rule {C : Ctx} {s : St} {Q : Exit → St → Prop} {c : Code} {α : Type} {f : α → List V} {l : List α} {v : V} {r : List V} (t : Nat) (ht : get s.sl t = .agg (v :: .sl (l.map f) :: r)) (h : l.length ≤ 9223372036854775807 → AWp C c Q s) : AWp C c Q s := by
  intro a w g hr
  refine h ?_ a w g hr
  obtain ⟨cs, h1, h2, h3⟩ := hr.agg (x := .tmp t) ht
  have h4 := h3 1 (.sl (l.map f)) (cs[1]'(by rw [h2]; simp)) rfl (by simp)
  generalize cs[1]'(by rw [h2]; simp) = u at h4
  cases h4 with
  | sh h4 =>
    generalize he : l.map f = es at h4
    have hl : l.length = es.length := by rw [← he, List.length_map]
    cases h4 with
    | nil => rw [hl]; simp
    | sl _ _ _ _ _ _ _ hc hm => rw [hl]; rw [maxLen_eq] at hm; omega
end Go.Ab

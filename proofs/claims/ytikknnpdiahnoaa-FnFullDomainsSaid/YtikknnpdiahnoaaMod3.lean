/- Sums over lists, lists that are being changed in place. -/
import Derived.Test.YtikknnpdiahnoaaMod2
import Derived.Test.YtikknnpdiahnoaaDeep
set_option linter.unusedSimpArgs false
set_option linter.unusedVariables false
namespace Go.Ab
def sumW {α : Type} (w : α → Nat) (l : List α) : Nat := (l.map w).sum
instance decRl : DecidableEq Rl := inferInstanceAs (DecidableEq (Int × List Int × List Int × Int × List (List Int)))
instance decMd : DecidableEq Md := @instDecidableEqProd (List Int) (List Rl) inferInstance (@instDecidableEqList Rl decRl)
theorem sumW_app {α : Type} {w : α → Nat} {a b : List α} : sumW w (a ++ b) = sumW w a + sumW w b := by simp [sumW]
theorem sumW_mem {α : Type} {w : α → Nat} {l : List α} {a : α} (h : a ∈ l) : w a ≤ sumW w l := by
  obtain ⟨x, y, rfl⟩ := List.append_of_mem h
  rw [sumW_app]; simp only [sumW, List.map_cons, List.sum_cons]; omega
theorem sumW_at {α : Type} [Inhabited α] {w : α → Nat} {l : List α} {k : Nat} (h : k < l.length) : w (l.getD k default) ≤ sumW w l := sumW_mem (getD_mem h)
def wLL (xs : List (List Int)) : Nat := xs.length + sumW List.length xs
def wR (r : Rl) : Nat := r.2.1.length + r.2.2.1.length + wLL r.2.2.2.2
def wRS (l : List Rl) : Nat := l.length + sumW wR l
def wM (m : Md) : Nat := m.1.length + wRS m.2
def cR (r : Rl) : Nat := 2 + r.2.1.length + r.2.2.1.length + sumW List.length r.2.2.2.2
theorem ps_set {α : Type} [Inhabited α] {f : α → List V} {p l : List α} {y : α} (h : p.length < l.length) : ((p ++ l.drop p.length).map f).set p.length (f y) = ((p ++ [y]) ++ l.drop (p ++ [y]).length).map f := by
  rw [drop_getD (d := default) h, List.map_append, List.set_append_right _ _ (by simp)]
  simp
def marksLB : Nat → List (List Bool) → List (List Bool)
  | _, [] => []
  | k, x :: r => marksB k x.length :: marksLB (k + x.length) r
theorem vs_no {vs : List Int} {k j : Nat} {x : Int} (h : x ∉ vs.take j) (hj : j < vs.length) (h2 : vs.getD j default ≠ x) : x ∉ vs.take (j + 1) := by
  rw [take_succD (d := default) hj, List.mem_append]
  rintro (q | q)
  · exact h q
  · rw [List.mem_singleton] at q; exact h2 q.symm
theorem vs_in {vs : List Int} {k j : Nat} (hk : k < vs.length) (hj : j < k) : vs.getD j default ∈ vs.take k := by
  rw [List.mem_iff_getElem?]
  exact ⟨j, by rw [List.getElem?_take, if_pos hj, List.getD_eq_getElem?_getD, List.getElem?_eq_getElem (by omega)]; rfl⟩
theorem rep_succ {α : Type} {n : Nat} {a : α} : List.replicate n a ++ [a] = List.replicate (n + 1) a := by rw [List.replicate_succ']
end Go.Ab
namespace Go.Ab
theorem wr_rep {n j : Nat} {b : Bool} {z : List V} (h : j < n) : (wr dB (List.replicate n b) j z).set j [.p (.bool b)] = wr dB (List.replicate n b) (j + 1) z := by
  have := wr_set (f := dB) (d := default) (l := List.replicate n b) (k := j) (z := z) (by simpa using h)
  rw [← this, List.getD_eq_getElem?_getD, List.getElem?_replicate, if_pos h]; rfl
theorem rOk_v2 {n : Int} {r : Rl} (h : (vsN n r.2.1 r.2.1.length && decide (r.2.1.length ≠ 0)) = false) : rOk n r = false := by
  rw [Bool.and_eq_false_iff] at h
  rcases h with h | h
  · exact rOk_v h
  · exact rOk_h (by have := of_decide_eq_false h; unfold rHead; omega)
theorem agg_len {C : Ctx} {s : St} {a : Act} {w : World} {g : Gh} {α : Type} {f : α → List V} {l : List α} {xs : List V} {t i : Nat} (hr : Rel C a w s g) (ht : get s.sl t = .agg xs) (hi : xs[i]? = some (.sl (l.map f))) : l.length ≤ 9223372036854775807 := by
  obtain ⟨cs, h1, h2, h3⟩ := hr.agg (x := .tmp t) ht
  have hil : i < cs.size := by rw [h2]; exact (List.getElem?_eq_some_iff.1 hi).1
  have h4 := h3 i (.sl (l.map f)) cs[i] hi (by simp [hil])
  generalize cs[i] = u at h4
  cases h4 with
  | sh h4 =>
    generalize he : l.map f = es at h4
    have hl : l.length = es.length := by rw [← he, List.length_map]
    cases h4 with
    | nil => rw [hl]; simp
    | sl _ _ _ _ _ _ _ hc hm => rw [hl]; rw [maxLen_eq] at hm; omega
theorem a_len_rule2 {C : Ctx} {s : St} {Q : Exit → St → Prop} {c : Code} {α : Type} {f : α → List V} {l : List α} {v v2 : V} {r : List V} (t : Nat) (ht : get s.sl t = .agg (v :: v2 :: .sl (l.map f) :: r)) (h : l.length ≤ 9223372036854775807 → AWp C c Q s) : AWp C c Q s :=
  fun a w g hr => h (agg_len (i := 2) hr ht rfl) a w g hr
theorem a_len_rule3 {C : Ctx} {s : St} {Q : Exit → St → Prop} {c : Code} {α : Type} {f : α → List V} {l : List α} {v v2 v3 v4 : V} {r : List V} (t : Nat) (ht : get s.sl t = .agg (v :: v2 :: v3 :: v4 :: .sl (l.map f) :: r)) (h : l.length ≤ 9223372036854775807 → AWp C c Q s) : AWp C c Q s :=
  fun a w g hr => h (agg_len (i := 4) hr ht rfl) a w g hr
end Go.Ab
namespace Go.Ab
end Go.Ab

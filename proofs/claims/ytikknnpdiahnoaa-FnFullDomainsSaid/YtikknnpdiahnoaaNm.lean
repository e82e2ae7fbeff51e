/- The next solution of a model. -/
import Derived.Test.YtikknnpdiahnoaaLf1
import Derived.Test.YtikknnpdiahnoaaAb20
set_option linter.unusedSimpArgs false
set_option linter.unusedVariables false
namespace Go.Ab
def solB (m : Md) (c : List Int) : Bool := m.2.all (fun r => holdB r (valsC r.2.1 c))
def nmF (sz : List Int) (f : List Int → Bool) : Nat → List Int → Option (List Int)
  | 0, _ => none
  | n + 1, c => if f c then some c else if (nxt sz c c.length).2 then nmF sz f n (nxt sz c c.length).1 else none
def nmS (m : Md) (c : List Int) : Option (List Int) := nmF m.1 (solB m) (prS m.1 - vlS m.1 c) c
def nmV (m : Md) (c : List Int) : Option (List Int) := if cvB m c then nmS m c else none
def caV (m : Md) (c : List Int) : Option (List Int) := if (nxt m.1 c c.length).2 then nmV m (nxt m.1 c c.length).1 else none
theorem cvB_of {m : Md} {c : List Int} (h : mOk m = true) (h2 : cvL m.1 c = true) : cvB m c = true := by unfold cvB; rw [h, h2]; rfl
/-- Of a solution that is told: it is a solution. -/
def okSo (m : Md) (o : Option (List Int)) : Prop := ∀ c, o = some c → cvL m.1 c = true ∧ solB m c = true
def muSo (m : Md) (o : Option (List Int)) : Nat := match o with | none => 0 | some c => prS m.1 - vlS m.1 c
theorem zero_cv {m : Md} (hm : mOk m = true) : cvL m.1 (List.replicate m.1.length 0) = true := cv_zero (sz_pos hm)
/-! ### All solutions -/
def restD (m : Md) (f : List Int → Bool) (o : Option (List Int)) (s : List (List Bool)) : List (List Bool) := match o with | none => s | some c => runF m.1 f (prS m.1 - vlS m.1 c) c s
theorem ci_of {m : Md} {d : List (List Bool)} {c : List Int} (h : dmB m d = true) (h2 : cvL m.1 c = true) (h3 : inB d c = true) : ciB m d c = true := by
  unfold ciB; rw [h, cvB_of (dm_parts h).1 h2, h3]; rfl
theorem ci_in {m : Md} {d : List (List Bool)} {c : List Int} (h : ciB m d c = true) : dmB m d = true ∧ cvL m.1 c = true ∧ inB d c = true := by
  unfold ciB cvB at h
  simp only [Bool.and_eq_true] at h
  exact ⟨h.1, h.2.1.2, h.2.2⟩
theorem full_in {m : Md} {c : List Int} (hm : mOk m = true) (hc : cvL m.1 c = true) : ciB m (fullD m) c = true := by
  refine ci_of (dm_full hm) hc (inB_iff.2 fun i hi => ?_)
  obtain ⟨h1, h2⟩ := fits_at (dm_parts (dm_full hm)).2
  obtain ⟨c1, c2⟩ := cv_at hc
  have h3 := h2 i (by omega)
  have h4 := c2 i hi
  exact full_cel hm (by omega) (by omega)
theorem cv_self {m : Md} (hm : mOk m = true) : cvL m.1 m.1 = true := cv_yes rfl (List.all_eq_true.2 fun i hi => decide_eq_true ⟨sz_pos hm i (List.mem_range.1 hi), Int.le_refl _⟩)
theorem full_de {m : Md} (hm : mOk m = true) : deB m (fullD m) = false := by
  have h := ci_in (full_in hm (zero_cv hm))
  unfold deB; rw [h.1, em_in (dm_parts h.1).2 h.2.1 h.2.2]; rfl
def noneR (x : List Bool) (j : Nat) : List Bool := List.replicate j false ++ x.drop j
theorem noneR_len {x : List Bool} {j : Nat} (h : j ≤ x.length) : (noneR x j).length = x.length := by unfold noneR; simp; omega
theorem noneR_set {x : List Bool} {j : Nat} (h : j < x.length) : ((noneR x j).map dB).set j [.p (.bool false)] = (noneR x (j + 1)).map dB := by
  have := ps_set (f := dB) (p := List.replicate j false) (l := x) (y := false) (by simpa using h)
  rw [rep_succ, List.length_replicate, List.length_replicate] at this
  exact this
theorem noneR_end {x : List Bool} {j : Nat} (h : x.length ≤ j) (h2 : j ≤ x.length) : noneR x j = List.replicate x.length false := by
  obtain rfl : j = x.length := by omega
  unfold noneR; rw [List.drop_length, List.append_nil]
theorem fits_set {sz : List Int} {d : List (List Bool)} {v : Nat} {x : List Bool} (hd : fitsB sz d = true) (hx : x.length = (d.getD v default).length) : fitsB sz (d.set v x) = true := by
  obtain ⟨d1, d2⟩ := fits_at hd
  refine fits_yes (by rw [List.length_set]; exact d1) (List.all_eq_true.2 fun k hk => decide_eq_true ?_)
  rw [List.mem_range, List.length_set] at hk
  by_cases hv : v < d.length
  · rw [set_row hv]
    by_cases q : k = v
    · rw [if_pos q, hx, ← q]; exact d2 k hk
    · rw [if_neg q]; exact d2 k hk
  · rw [List.set_eq_of_length_le (by omega)]; exact d2 k hk
theorem none_dm {m : Md} {v : Nat} (hm : mOk m = true) : dmB m ((fullD m).set v (List.replicate ((fullD m).getD v default).length false)) = true := dm_of hm (fits_set (dm_parts (dm_full hm)).2 (by simp))
theorem none_cel {m : Md} {v w : Nat} (hv : v < (fullD m).length) : cel ((fullD m).set v (List.replicate ((fullD m).getD v default).length false)) v w = false := by
  unfold cel; rw [set_row hv, if_pos rfl, List.getD_eq_getElem?_getD, List.getElem?_replicate]; split <;> rfl
theorem none_de {m : Md} {v : Nat} (hm : mOk m = true) (hv : v < (fullD m).length) : deB m ((fullD m).set v (List.replicate ((fullD m).getD v default).length false)) = true := by
  unfold deB; rw [none_dm hm, Bool.true_and]
  cases h : emB ((fullD m).set v (List.replicate ((fullD m).getD v default).length false))
  · obtain ⟨w, q⟩ := em_no.1 h v (by rw [List.length_set]; exact hv)
    rw [none_cel hv] at q; cases q
  · rfl
theorem none_ci {m : Md} {v : Nat} {c : List Int} (hv : v < (fullD m).length) : ciB m ((fullD m).set v (List.replicate ((fullD m).getD v default).length false)) c = false := by
  rw [Bool.eq_false_iff]
  intro q
  obtain ⟨h1, h2, h3⟩ := ci_in q
  have h4 := em_in (dm_parts h1).2 h2 h3
  have h5 := none_de (dm_parts h1).1 hv
  rw [de_em h5] at h4; cases h4
end Go.Ab
namespace Go.Ab
/-- A list that may be missing, as the program holds it: nil or the list. -/
def outV (o : Option (List Int)) : V := match o with | none => .p (.slice none 0 0) | some c => .sl (c.map dI)
end Go.Ab

/- Filtering, step by step. -/
import Derived.Test.YtikknnpdiahnoaaFlt2
set_option linter.unusedSimpArgs false
set_option linter.unusedVariables false
namespace Go.Ab
theorem mark_eq {d : List (List Bool)} {c : List Int} {k : Nat} : ((markN d c k).map dD).set k [.sl ((((markN d c k).getD k default).map dB).set (c.getD k default).toNat [.p (.bool true)])] = (markN d c (k + 1)).map dD := by
  rw [markN, List.map_set]
  show _ = List.set _ k [V.sl ((List.set _ _ true).map dB)]
  rw [List.map_set]; rfl
theorem rep0_at {n i : Nat} : (List.replicate n (0 : Int)).getD i default = 0 := by
  rw [List.getD_eq_getElem?_getD, List.getElem?_replicate]
  split <;> rfl
theorem cv_zero {sz : List Int} (h : ∀ k, k < sz.length → 0 ≤ sz.getD k default) : cvL sz (List.replicate sz.length 0) = true := by
  refine cv_yes (by simp) (List.all_eq_true.2 fun i hi => ?_)
  rw [List.mem_range, List.length_replicate] at hi
  rw [rep0_at]; exact decide_eq_true ⟨Int.le_refl _, h i hi⟩
theorem vl_zero : ∀ {sz : List Int}, vlS sz (List.replicate sz.length 0) = 0
  | [] => rfl
  | s :: r => by
    show (0 : Int).toNat * prS r + vlS r (List.replicate r.length 0) = 0
    rw [vl_zero]; simp
theorem fits_full {b : Bool} {sz : List Int} (h : ∀ k, k < sz.length → 0 ≤ sz.getD k default) : fitsB sz (fdL b sz) = true := by
  refine fits_yes fdL_len (List.all_eq_true.2 fun i hi => decide_eq_true ?_)
  rw [List.mem_range, fdL_len] at hi
  have h2 := h i hi
  unfold fdL
  rw [List.getD_eq_getElem?_getD, List.getElem?_map, List.getElem?_eq_getElem hi]
  rw [List.getD_eq_getElem?_getD, List.getElem?_eq_getElem hi] at h2 ⊢
  simp only [Option.map_some, Option.getD_some, List.length_replicate] at h2 ⊢
  omega
theorem run_next {sz : List Int} {f : List Int → Bool} {c : List Int} {o T : List (List Bool)} (hc : cvL sz c = true) (h : runF sz f (prS sz - vlS sz c) c o = T) :
    cvL sz (nxt sz c c.length).1 = true ∧ (if (nxt sz c c.length).2 = true then runF sz f (prS sz - vlS sz (nxt sz c c.length).1) (nxt sz c c.length).1 (if f c then markN o c c.length else o) else (if f c then markN o c c.length else o)) = T ∧
    (if (nxt sz c c.length).2 = true then prS sz - vlS sz (nxt sz c c.length).1 else 0) < prS sz - vlS sz c := by
  obtain ⟨h1, h2⟩ := cv_at hc
  obtain ⟨⟨a1, a2⟩, a3, a4, a5⟩ := nxt_val h1 h2
  refine ⟨cv_yes a1 (List.all_eq_true.2 fun i hi => decide_eq_true (a2 i (by rw [List.mem_range, a1] at hi; exact hi))), ?_, ?_⟩
  · have hk : prS sz - vlS sz c = (prS sz - vlS sz c - 1) + 1 := by omega
    rw [hk, runF] at h
    cases hb : (nxt sz c c.length).2 with
    | true =>
      rw [hb, if_pos rfl] at h
      rw [if_pos rfl, ← h, a4 hb]
      congr 1
    | false =>
      rw [hb, if_neg (by decide)] at h
      rw [if_neg (by decide)]; exact h
  · cases hb : (nxt sz c c.length).2 with
    | true => rw [if_pos rfl, a4 hb]; omega
    | false => rw [if_neg (by decide)]; omega
theorem run_yes {f : List Int → Bool} {c : List Int} {o : List (List Bool)} (h : f c = true) : (if f c then markN o c c.length else o) = markN o c c.length := if_pos h
theorem run_no {f : List Int → Bool} {c : List Int} {o : List (List Bool)} (h : f c = false) : (if f c then markN o c c.length else o) = o := if_neg (by rw [h]; decide)
end Go.Ab

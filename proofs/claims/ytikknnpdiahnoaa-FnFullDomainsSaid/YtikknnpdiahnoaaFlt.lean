/- Cells, domains, filtering, told in plain lists. -/
import Derived.Test.YtikknnpdiahnoaaMod3
set_option linter.unusedSimpArgs false
set_option linter.unusedVariables false
namespace Go.Ab
/-! ### Domains and cells -/
def fitsB (sz : List Int) (d : List (List Bool)) : Bool := decide (d.length = sz.length) && (List.range d.length).all (fun k => decide (((d.getD k default).length : Int) = sz.getD k default + 1))
def dmB (m : Md) (d : List (List Bool)) : Bool := mOk m && fitsB m.1 d
def cvL (sz c : List Int) : Bool := decide (c.length = sz.length) && (List.range c.length).all (fun k => decide (0 ≤ c.getD k default ∧ c.getD k default ≤ sz.getD k default))
def cvB (m : Md) (c : List Int) : Bool := mOk m && cvL m.1 c
def cellD (d : List (List Bool)) (c : List Int) (k : Nat) : Bool := (d.getD k default).getD (c.getD k default).toNat default
def inB (d : List (List Bool)) (c : List Int) : Bool := (List.range c.length).all (cellD d c)
def ciB (m : Md) (d : List (List Bool)) (c : List Int) : Bool := dmB m d && (cvB m c && inB d c)
theorem rng_next {p : Nat → Bool} {k : Nat} (h : (List.range k).all p = true) (h2 : p k = true) : (List.range (k + 1)).all p = true := by
  rw [List.range_succ, List.all_append, h, List.all_cons, List.all_nil, h2]; rfl
theorem rng_no {p : Nat → Bool} {k n : Nat} (hk : k < n) (h : p k = false) : (List.range n).all p = false := by
  rw [Bool.eq_false_iff]
  intro q
  rw [List.all_eq_true.1 q k (List.mem_range.2 hk)] at h; cases h
theorem rng_at {p : Nat → Bool} {k n : Nat} (h : (List.range n).all p = true) (hk : k < n) : p k = true := List.all_eq_true.1 h k (List.mem_range.2 hk)
theorem fits_l {sz : List Int} {d : List (List Bool)} (h : d.length ≠ sz.length) : fitsB sz d = false := by unfold fitsB; rw [decide_eq_false h]; rfl
theorem fits_no {sz : List Int} {d : List (List Bool)} {k : Nat} (hk : k < d.length) (h : ((d.getD k default).length : Int) ≠ sz.getD k default + 1) : fitsB sz d = false := by
  unfold fitsB; rw [rng_no hk (decide_eq_false h), Bool.and_false]
theorem fits_yes {sz : List Int} {d : List (List Bool)} (h : d.length = sz.length) (h2 : (List.range d.length).all (fun k => decide (((d.getD k default).length : Int) = sz.getD k default + 1)) = true) : fitsB sz d = true := by
  unfold fitsB; rw [decide_eq_true h, h2]; rfl
theorem fits_at {sz : List Int} {d : List (List Bool)} (h : fitsB sz d = true) : d.length = sz.length ∧ ∀ k, k < d.length → ((d.getD k default).length : Int) = sz.getD k default + 1 := by
  unfold fitsB at h
  rw [Bool.and_eq_true, decide_eq_true_eq] at h
  exact ⟨h.1, fun k hk => of_decide_eq_true (rng_at h.2 hk)⟩
theorem cv_l {sz c : List Int} (h : c.length ≠ sz.length) : cvL sz c = false := by unfold cvL; rw [decide_eq_false h]; rfl
theorem cv_no {sz c : List Int} {k : Nat} (hk : k < c.length) (h : ¬ (0 ≤ c.getD k default ∧ c.getD k default ≤ sz.getD k default)) : cvL sz c = false := by
  unfold cvL; rw [rng_no hk (decide_eq_false h), Bool.and_false]
theorem cv_yes {sz c : List Int} (h : c.length = sz.length) (h2 : (List.range c.length).all (fun k => decide (0 ≤ c.getD k default ∧ c.getD k default ≤ sz.getD k default)) = true) : cvL sz c = true := by
  unfold cvL; rw [decide_eq_true h, h2]; rfl
theorem cv_at {sz c : List Int} (h : cvL sz c = true) : c.length = sz.length ∧ ∀ k, k < c.length → 0 ≤ c.getD k default ∧ c.getD k default ≤ sz.getD k default := by
  unfold cvL at h
  rw [Bool.and_eq_true, decide_eq_true_eq] at h
  exact ⟨h.1, fun k hk => of_decide_eq_true (rng_at h.2 hk)⟩
/-! ### What a rule says of its cells' values -/
def valsC (vs c : List Int) : List Int := vs.map (fun v => c.getD v.toNat default)
def dotC (a x : List Int) (k : Nat) : Int := ((List.range k).map (fun i => a.getD i default * x.getD i default)).sum
def distB (x : List Int) (k : Nat) : Bool := (List.range k).all (fun i => !decide (x.getD i default ∈ x.take i))
def holdB (r : Rl) (x : List Int) : Bool := if r.1 = 1 then decide (r.2.2.2.1 ≤ dotC r.2.2.1 x x.length) else if r.1 = 2 then distB x x.length else if r.1 = 3 then decide (x ∈ r.2.2.2.2) else decide (x.getD 0 default < x.getD 1 default)
def markN (d : List (List Bool)) (c : List Int) : Nat → List (List Bool)
  | 0 => d
  | k + 1 => (markN d c k).set k (((markN d c k).getD k default).set (c.getD k default).toNat true)
def nxt (sz : List Int) : List Int → Nat → List Int × Bool
  | c, 0 => (c, false)
  | c, i + 1 => if c.getD i default < sz.getD i default then (c.set i (c.getD i default + 1), true) else nxt sz (c.set i 0) i
def prS : List Int → Nat
  | [] => 1
  | s :: r => (s + 1).toNat * prS r
def vlS : List Int → List Int → Nat
  | s :: sr, c :: cr => c.toNat * prS sr + vlS sr cr
  | _, _ => 0
def runF (sz : List Int) (f : List Int → Bool) : Nat → List Int → List (List Bool) → List (List Bool)
  | 0, _, out => out
  | n + 1, c, out => if (nxt sz c c.length).2 then runF sz f n (nxt sz c c.length).1 (if f c then markN out c c.length else out) else (if f c then markN out c c.length else out)
def okC2 (r : Rl) (d : List (List Bool)) (c : List Int) : Bool := inB d c && holdB r (valsC r.2.1 c)
def filtD (m : Md) (r : Rl) (d : List (List Bool)) : List (List Bool) := runF m.1 (okC2 r d) (prS m.1) (List.replicate m.1.length 0) (fdL false m.1)
end Go.Ab

/- Fixing told by values; pure literals; implications. -/
import Derived.Test.YtliampibpeokmaaFix
import Derived.Test.YtliampibpeokmaaLaws3
set_option linter.unusedSimpArgs false
set_option linter.unusedVariables false
namespace Go.Ab
/-! ### Values overwritten by a partial assignment -/
def ovV (p : List Int) (bs : List Bool) : List Bool := (List.range 12).map (fun i => if p.getD i default = 1 then true else if p.getD i default = -1 then false else bs.getD i default)
def coefF (m : Int) : List Term → Int
  | [] => 0
  | t :: r => if t.2 = m then t.1 else coefF m r
theorem coefF_hit {m : Int} {ts : List Term} {k : Nat} (h : k < ts.length) (hm : (ts.getD k default).2 = m) : coefF m (ts.drop k) = (ts.getD k default).1 := by
  rw [drop_getD (d := default) h, coefF, if_pos hm]
theorem coefF_skip {m : Int} {ts : List Term} {k : Nat} (h : k < ts.length) (hm : (ts.getD k default).2 ≠ m) : coefF m (ts.drop k) = coefF m (ts.drop (k + 1)) := by
  rw [drop_getD (d := default) h, coefF, if_neg hm]
theorem coefF_end {m : Int} {ts : List Term} {k : Nat} (h : ts.length ≤ k) : coefF m (ts.drop k) = 0 := by
  rw [List.drop_of_length_le h]; rfl
theorem coefF_rng {m : Int} : ∀ {ts : List Term}, (∀ t ∈ ts, 1 ≤ t.1 ∧ t.1 ≤ 1000) → 0 ≤ coefF m ts ∧ coefF m ts ≤ 1000
  | [], _ => by simp [coefF]
  | t :: r, h => by
    have h1 := h t (by simp)
    have h2 := coefF_rng (m := m) (ts := r) (fun t ht => h t (by simp [ht]))
    rw [coefF]; split <;> omega
def hasV (l : List Con) (m : Int) : Bool := l.any (fun c => decide (0 < coefF m c.1))
def pureN (l : List Con) : Nat → List Int
  | 0 => []
  | k + 1 => pureN l k ++ (if hasV l ((k : Int) + 1) && !hasV l (-((k : Int) + 1)) then [(k : Int) + 1] else if hasV l (-((k : Int) + 1)) && !hasV l ((k : Int) + 1) then [-((k : Int) + 1)] else [])
def pureL (l : List Con) : List Int := if pOk l then pureN l 12 else []
def lossV (a b : Con) (k : Nat) : Int := (a.1.take k).foldl (fun s t => s + max 0 (t.1 - coefF t.2 b.1)) 0
theorem loss_next {a b : Con} {k : Nat} (h : k < a.1.length) : lossV a b (k + 1) = lossV a b k + max 0 ((a.1.getD k default).1 - coefF (a.1.getD k default).2 b.1) := by
  unfold lossV
  rw [take_succD (d := default) h, List.foldl_append]; rfl
def covB (a b : Con) : Bool := decide (b.2 ≤ a.2 - lossV a b a.1.length)
def covV (a b : Con) : Bool := cOk a && cOk b && covB a b
theorem loss_rng {a b : Con} (ha : cOk a = true) (hb : cOk b = true) : ∀ {k : Nat}, k ≤ a.1.length → 0 ≤ lossV a b k ∧ lossV a b k ≤ 1000 * k
  | 0, _ => by simp [lossV]
  | k + 1, h => by
    have ih := loss_rng ha hb (k := k) (by omega)
    have h1 := cOk_terms ha (k := k) (by omega)
    have h2 := coefF_rng (m := (a.1.getD k default).2) (cOk_coefs hb)
    rw [loss_next (by omega)]; omega
/-- The common part of a's true literals in b. -/
def comS (bs : List Bool) (ts us : List Term) : Int := ts.foldl (fun s t => s + (if litV bs t.2 then coefF t.2 us else 0)) 0
end Go.Ab
namespace Go.Ab
def bitOf (m : Int) : Nat := 12 - (varOf m).toNat
def unitC (m : Int) : Con := ([(1, m)], 1)
def ovN (p : List Int) (bs : List Bool) (k : Nat) : List Bool := (List.range 12).map (fun i => if i < k then (ovV p bs).getD i default else bs.getD i default)
end Go.Ab
namespace Go.Ab
theorem fpL_ok {l : List Con} {p : List Int} (h : fpOk l p = true) : fpL l p = l.map (fixC p) := by unfold fpL; rw [if_pos h]
end Go.Ab
namespace Go.Ab
theorem all_lf_dI : ∀ l : List Int, (l.map dI).flatten.all lf = true
  | [] => rfl
  | c :: r => by rw [List.map_cons, List.flatten_cons, List.all_append, all_lf_dI r]; rfl
end Go.Ab

/- The search, told in plain lists. -/
import Derived.Test.YtoodaakcfelaaaaGreatSimp
import Derived.Test.YtoodaakcfelaaaaGreatAb24
set_option linter.unusedSimpArgs false
set_option linter.unusedVariables false
namespace Go.Ab
def negL (D : List Int) : List Int := D.map (fun d => -d)
def cle (D : List Int) : Con := ((negL D).map oneL, 1)
def freeF : List Int → Nat → Nat
  | [], _ => 0
  | a :: r, k => if a = 0 then k + 1 else freeF r (k + 1)
def freeV (p : List Int) : Nat := freeF p 0
def valP (p : List Int) : List Bool := p.map (fun a => decide (0 < a))
abbrev prD (l st : List Con) (D : List Int) : List Int × Int := prop (l ++ st) (asgL zeroP D)
def visit (l : List Con) : Nat → List Con → Int → List Int → List Con × Int × Int × List Bool
  | 0, st, fu, D => (st, fu, 0, [])
  | n + 1, st, fu, D =>
    if fu = 0 ∨ 1000 ≤ st.length then (st, fu, 0, [])
    else if 0 ≤ (prD l st D).2 then (st ++ [cle D], fu - 1, 2, [])
    else if freeV (prD l st D).1 = 0 then (st, fu - 1, 1, valP (prD l st D).1)
    else if (visit l n st (fu - 1) (D ++ [(freeV (prD l st D).1 : Int)])).2.2.1 ≠ 2 then visit l n st (fu - 1) (D ++ [(freeV (prD l st D).1 : Int)])
    else if (visit l n (visit l n st (fu - 1) (D ++ [(freeV (prD l st D).1 : Int)])).1 (visit l n st (fu - 1) (D ++ [(freeV (prD l st D).1 : Int)])).2.1 (D ++ [-(freeV (prD l st D).1 : Int)])).2.2.1 ≠ 2 then
      visit l n (visit l n st (fu - 1) (D ++ [(freeV (prD l st D).1 : Int)])).1 (visit l n st (fu - 1) (D ++ [(freeV (prD l st D).1 : Int)])).2.1 (D ++ [-(freeV (prD l st D).1 : Int)])
    else if 1000 ≤ (visit l n (visit l n st (fu - 1) (D ++ [(freeV (prD l st D).1 : Int)])).1 (visit l n st (fu - 1) (D ++ [(freeV (prD l st D).1 : Int)])).2.1 (D ++ [-(freeV (prD l st D).1 : Int)])).1.length then
      ((visit l n (visit l n st (fu - 1) (D ++ [(freeV (prD l st D).1 : Int)])).1 (visit l n st (fu - 1) (D ++ [(freeV (prD l st D).1 : Int)])).2.1 (D ++ [-(freeV (prD l st D).1 : Int)])).1, (visit l n (visit l n st (fu - 1) (D ++ [(freeV (prD l st D).1 : Int)])).1 (visit l n st (fu - 1) (D ++ [(freeV (prD l st D).1 : Int)])).2.1 (D ++ [-(freeV (prD l st D).1 : Int)])).2.1, 0, [])
    else ((visit l n (visit l n st (fu - 1) (D ++ [(freeV (prD l st D).1 : Int)])).1 (visit l n st (fu - 1) (D ++ [(freeV (prD l st D).1 : Int)])).2.1 (D ++ [-(freeV (prD l st D).1 : Int)])).1 ++ [cle D], (visit l n (visit l n st (fu - 1) (D ++ [(freeV (prD l st D).1 : Int)])).1 (visit l n st (fu - 1) (D ++ [(freeV (prD l st D).1 : Int)])).2.1 (D ++ [-(freeV (prD l st D).1 : Int)])).2.1, 2, [])
section
variable {l st : List Con} {n : Nat} {fu : Int} {D : List Int}
abbrev vis1 (l : List Con) (n : Nat) (st : List Con) (fu : Int) (D : List Int) := visit l n st (fu - 1) (D ++ [(freeV (prD l st D).1 : Int)])
abbrev vis2 (l : List Con) (n : Nat) (st : List Con) (fu : Int) (D : List Int) := visit l n (vis1 l n st fu D).1 (vis1 l n st fu D).2.1 (D ++ [-(freeV (prD l st D).1 : Int)])
end
abbrev asc (D : List Int) : Prop := okFrom 0 (D.map oneL) = true
end Go.Ab
/- What the search learns follows by reverse unit propagation; what it finds is a solution. -/
set_option linter.unusedSimpArgs false
set_option linter.unusedVariables false
namespace Go.Ab
end Go.Ab
/- What a search returns. -/
set_option linter.unusedSimpArgs false
set_option linter.unusedVariables false
namespace Go.Ab
def inv (l st : List Con) (D : List Int) : Prop := asc D ∧ (D = [] ∨ ∃ D0 d st0 q0, D = D0 ++ [d] ∧ (∀ c ∈ l ++ st0, c ∈ l ++ st) ∧ prop (l ++ st0) (asgL zeroP D0) = (q0, -1) ∧ ∀ i : Nat, (i : Int) < varOf d - 1 → q0.getD i default ≠ 0)
section
variable {l st : List Con} {D : List Int}
end
structure VisG (l st : List Con) (fu : Int) (D : List Int) (r : List Con × Int × Int × List Bool) : Prop where
  pre : ∃ x, r.1 = st ++ x
  len : r.1.length ≤ 1000
  ok : (l ++ r.1).all cOk = true
  rup : ∀ k, st.length ≤ k → k < r.1.length → rupV (l ++ r.1.take k) (r.1.getD k default) = true
  fuel : 0 ≤ r.2.1 ∧ r.2.1 ≤ fu
  code : r.2.2.1 = 0 ∨ r.2.2.1 = 1 ∨ r.2.2.1 = 2
  sat : r.2.2.1 = 1 → r.2.2.2.length = 12 ∧ satV l r.2.2.2 = true
  uns : r.2.2.1 = 2 → cle D ∈ r.1
  non : r.2.2.1 ≠ 1 → r.2.2.2 = []
def svOk (l : List Con) (fu : Int) : Bool := pOk l && decide (0 ≤ fu ∧ fu ≤ 2000)
abbrev svR (l : List Con) (fu : Int) : List Con × Int × Int × List Bool := visit l 13 [] fu []
def svC (l : List Con) (fu : Int) : Int := if svOk l fu then (svR l fu).2.2.1 else 3
def svV (l : List Con) (fu : Int) : List Bool := if svOk l fu then (svR l fu).2.2.2 else []
def svS (l : List Con) (fu : Int) : List Con := if svC l fu = 2 then (svR l fu).1 else []
end Go.Ab
/- Models, told in plain lists. -/
set_option linter.unusedSimpArgs false
set_option linter.unusedVariables false
namespace Go.Ab
abbrev Rl := Int × List Int × List Int × Int × List (List Int)
abbrev Md := List Int × List Rl
def dL (x : List Int) : List V := [.sl (x.map dI)]
def dR (r : Rl) : List V := [.p (.int .i64 r.1), .sl (r.2.1.map dI), .sl (r.2.2.1.map dI), .p (.int .i64 r.2.2.2.1), .sl (r.2.2.2.2.map dL)]
def dD (x : List Bool) : List V := [.sl (x.map dB)]
def vsN (n : Int) (vs : List Int) (k : Nat) : Bool := (List.range k).all (fun i => decide (0 ≤ vs.getD i default ∧ vs.getD i default < n) && !decide (vs.getD i default ∈ vs.take i))
def linOk (r : Rl) : Bool := decide (r.2.2.1.length = r.2.1.length) && (decide (-1000 ≤ r.2.2.2.1 ∧ r.2.2.2.1 ≤ 1000) && r.2.2.1.all (fun a => decide (a ≠ 0 ∧ -9 ≤ a ∧ a ≤ 9)))
def rowOk (r : Rl) (x : List Int) : Bool := decide (x.length = r.2.1.length) && x.all (fun a => decide (0 ≤ a ∧ a ≤ 3))
def tabOk (r : Rl) : Bool := decide (r.2.2.2.2.length ≤ 8) && r.2.2.2.2.all (rowOk r)
def rHead (r : Rl) : Prop := r.2.1.length ≠ 0 ∧ (r.1 ≠ 1 → r.2.2.1.length = 0 ∧ r.2.2.2.1 = 0) ∧ (r.1 ≠ 3 → r.2.2.2.2.length = 0)
instance (r : Rl) : Decidable (rHead r) := by unfold rHead; exact inferInstance
def rTail (r : Rl) : Bool := if r.1 = 1 then linOk r else if r.1 = 3 then tabOk r else if r.1 = 4 then decide (r.2.1.length = 2) else decide (r.1 = 2)
def rOk (n : Int) (r : Rl) : Bool := vsN n r.2.1 r.2.1.length && (decide (rHead r) && rTail r)
def szSum (xs : List Int) : Int := xs.foldl (fun a s => a + (s + 1)) 0
def szsOk (xs : List Int) : Bool := decide (1 ≤ xs.length ∧ xs.length ≤ 5) && (xs.all (fun s => decide (0 ≤ s ∧ s ≤ 3)) && decide (szSum xs ≤ 12))
def mOk (m : Md) : Bool := szsOk m.1 && (decide (m.2.length ≤ 8) && m.2.all (rOk m.1.length))
def fdL (b : Bool) (xs : List Int) : List (List Bool) := xs.map (fun s => List.replicate (s + 1).toNat b)
def fullD (m : Md) : List (List Bool) := if mOk m then fdL true m.1 else []
end Go.Ab
/- Rules and models, in the form in which walks use them. -/
set_option linter.unusedSimpArgs false
set_option linter.unusedVariables false
namespace Go.Ab
end Go.Ab
/- Marks of constraints, sizes of problems. -/
set_option linter.unusedSimpArgs false
set_option linter.unusedVariables false
namespace Go.Ab
def endC : Nat → List Con → Nat
  | k, [] => k
  | k, c :: r => endC (k + 2 * c.1.length + 1) r
def markC (k : Nat) (c : Con) : Con := (marksT k c.1.length, ((k + 2 * c.1.length : Nat) : Int))
def marksC : Nat → List Con → List Con
  | _, [] => []
  | k, c :: r => markC k c :: marksC (k + 2 * c.1.length + 1) r
def szL : List Con → Int → Int
  | [], n => n
  | c :: r, n => if szv c.1.length n < 0 then -1 else szL r (szv c.1.length n)
def szC (l : List Con) (n : Int) : Int := if szv l.length n < 0 then -1 else szL l (szv l.length n)
theorem szv_cases {n : Nat} {k : Int} : (szv n k = k - n ∧ (n : Int) ≤ k) ∨ (szv n k = -1 ∧ k < n) := by unfold szv; split <;> omega
def sumL (l : List Con) : Nat := (l.map (fun c => c.1.length)).sum
theorem szL_le : ∀ {l : List Con} {n : Int}, 0 ≤ n → ¬ szL l n < 0 → (sumL l : Int) ≤ n
  | [], n, h, _ => by simpa [sumL] using h
  | c :: r, n, h, h2 => by
    rw [szL] at h2
    split at h2
    · exact absurd h2 (by decide)
    · rcases szv_cases (n := c.1.length) (k := n) with ⟨e, e2⟩ | ⟨e, e2⟩
      · rw [e] at h2
        have := szL_le (l := r) (n := n - c.1.length) (by omega) h2
        simp only [sumL, List.map_cons, List.sum_cons] at this ⊢; omega
      · omega
theorem szC_le {l : List Con} {n : Int} (h0 : 0 ≤ n) (h : ¬ szC l n < 0) : (sumL l : Int) + l.length ≤ n := by
  unfold szC at h
  split at h
  · exact absurd h (by decide)
  · rcases szv_cases (n := l.length) (k := n) with ⟨e, e2⟩ | ⟨e, e2⟩
    · rw [e] at h
      have := szL_le (by omega) h; omega
    · omega
theorem sumL_mem {l : List Con} {c : Con} (h : c ∈ l) : c.1.length ≤ sumL l := by
  induction l with
  | nil => simp at h
  | cons d r ih =>
    simp only [sumL, List.map_cons, List.sum_cons] at ih ⊢
    rcases List.mem_cons.1 h with rfl | h
    · omega
    · have := ih h; omega
def fitC (l : List Con) : Prop := sumL l + l.length ≤ 1048576
theorem fitC_of {l : List Con} (h : ¬ szC l 1048576 < 0) : fitC l := by have := szC_le (by decide) h; unfold fitC; omega
theorem fitC_len {l : List Con} (h : fitC l) : l.length ≤ 1048576 := by unfold fitC at h; omega
theorem fitC_at {l : List Con} (h : fitC l) {c : Con} (hc : c ∈ l) : c.1.length ≤ 1048576 := by have := sumL_mem hc; unfold fitC at h; omega
end Go.Ab
namespace Go.Ab
theorem szL_bad {d : Con} {l : List Con} {k : Nat} {z : Int} (h : k < l.length) (h2 : szv (l.getD k d).1.length z < 0) : szL (l.drop k) z = -1 := by
  rw [drop_getD (d := d) h, szL, if_pos h2]
theorem szL_next {d : Con} {l : List Con} {k : Nat} {z : Int} (h : k < l.length) (h2 : ¬ szv (l.getD k d).1.length z < 0) : szL (l.drop k) z = szL (l.drop (k + 1)) (szv (l.getD k d).1.length z) := by
  rw [drop_getD (d := d) h, szL, if_neg h2]
theorem szL_end {l : List Con} {k : Nat} {z : Int} (h : l.length ≤ k) : szL (l.drop k) z = z := by
  rw [List.drop_of_length_le h]; rfl
end Go.Ab
/- Sums over lists, lists that are being changed in place. -/
set_option linter.unusedSimpArgs false
set_option linter.unusedVariables false
namespace Go.Ab
def sumW {α : Type} (w : α → Nat) (l : List α) : Nat := (l.map w).sum
instance decRl : DecidableEq Rl := inferInstanceAs (DecidableEq (Int × List Int × List Int × Int × List (List Int)))
instance decMd : DecidableEq Md := @instDecidableEqProd (List Int) (List Rl) inferInstance (@instDecidableEqList Rl decRl)
theorem sumW_take {α : Type} {w : α → Nat} {d : α} {l : List α} {k : Nat} (h : k < l.length) : sumW w (l.take (k + 1)) = sumW w (l.take k) + w (l.getD k d) := by
  unfold sumW
  rw [take_succD (d := d) h]; simp
theorem sumW_app {α : Type} {w : α → Nat} {a b : List α} : sumW w (a ++ b) = sumW w a + sumW w b := by simp [sumW]
theorem sumW_le {α : Type} {w : α → Nat} {l : List α} {k : Nat} : sumW w (l.take k) ≤ sumW w l := by
  have := sumW_app (w := w) (a := l.take k) (b := l.drop k)
  rw [List.take_append_drop] at this; omega
theorem sumW_mem {α : Type} {w : α → Nat} {l : List α} {a : α} (h : a ∈ l) : w a ≤ sumW w l := by
  obtain ⟨x, y, rfl⟩ := List.append_of_mem h
  rw [sumW_app]; simp only [sumW, List.map_cons, List.sum_cons]; omega
theorem sumW_at {α : Type} [Inhabited α] {w : α → Nat} {l : List α} {k : Nat} (h : k < l.length) : w (l.getD k default) ≤ sumW w l := sumW_mem (getD_mem h)
def wLL (xs : List (List Int)) : Nat := xs.length + sumW List.length xs
def wR (r : Rl) : Nat := r.2.1.length + r.2.2.1.length + wLL r.2.2.2.2
def wRS (l : List Rl) : Nat := l.length + sumW wR l
def wM (m : Md) : Nat := m.1.length + wRS m.2
def cR (r : Rl) : Nat := 2 + r.2.1.length + r.2.2.1.length + sumW List.length r.2.2.2.2
def marksLB : Nat → List (List Bool) → List (List Bool)
  | _, [] => []
  | k, x :: r => marksB k x.length :: marksLB (k + x.length) r
end Go.Ab
namespace Go.Ab
end Go.Ab
namespace Go.Ab
end Go.Ab
/- Cells, domains, filtering, told in plain lists. -/
set_option linter.unusedSimpArgs false
set_option linter.unusedVariables false
namespace Go.Ab
def fitsB (sz : List Int) (d : List (List Bool)) : Bool := decide (d.length = sz.length) && (List.range d.length).all (fun k => decide (((d.getD k default).length : Int) = sz.getD k default + 1))
def dmB (m : Md) (d : List (List Bool)) : Bool := mOk m && fitsB m.1 d
def cvL (sz c : List Int) : Bool := decide (c.length = sz.length) && (List.range c.length).all (fun k => decide (0 ≤ c.getD k default ∧ c.getD k default ≤ sz.getD k default))
def cvB (m : Md) (c : List Int) : Bool := mOk m && cvL m.1 c
def cellD (d : List (List Bool)) (c : List Int) (k : Nat) : Bool := (d.getD k default).getD (c.getD k default).toNat default
def inB (d : List (List Bool)) (c : List Int) : Bool := (List.range c.length).all (cellD d c)
def ciB (m : Md) (d : List (List Bool)) (c : List Int) : Bool := dmB m d && (cvB m c && inB d c)
def valsC (vs c : List Int) : List Int := vs.map (fun v => c.getD v.toNat default)
def dotC (a x : List Int) (k : Nat) : Int := ((List.range k).map (fun i => a.getD i default * x.getD i default)).sum
def distB (x : List Int) (k : Nat) : Bool := (List.range k).all (fun i => !decide (x.getD i default ∈ x.take i))
def holdB (r : Rl) (x : List Int) : Bool := if r.1 = 1 then decide (r.2.2.2.1 ≤ dotC r.2.2.1 x x.length) else if r.1 = 2 then distB x x.length else if r.1 = 3 then decide (x ∈ r.2.2.2.2) else decide (x.getD 0 default < x.getD 1 default)
def markN (d : List (List Bool)) (c : List Int) : Nat → List (List Bool)
  | 0 => d
  | k + 1 => (markN d c k).set k (((markN d c k).getD k default).set (c.getD k default).toNat true)
def nxt (sz : List Int) : List Int → Nat → List Int × Bool
  | c, 0 => (c, false)
  | c, i + 1 => if c.getD i default < sz.getD i default then (c.set i (c.getD i default + 1), true) else nxt sz (c.set i 0) i
def prS : List Int → Nat
  | [] => 1
  | s :: r => (s + 1).toNat * prS r
def vlS : List Int → List Int → Nat
  | s :: sr, c :: cr => c.toNat * prS sr + vlS sr cr
  | _, _ => 0
def runF (sz : List Int) (f : List Int → Bool) : Nat → List Int → List (List Bool) → List (List Bool)
  | 0, _, out => out
  | n + 1, c, out => if (nxt sz c c.length).2 then runF sz f n (nxt sz c c.length).1 (if f c then markN out c c.length else out) else (if f c then markN out c c.length else out)
def okC2 (r : Rl) (d : List (List Bool)) (c : List Int) : Bool := inB d c && holdB r (valsC r.2.1 c)
def filtD (m : Md) (r : Rl) (d : List (List Bool)) : List (List Bool) := runF m.1 (okC2 r d) (prS m.1) (List.replicate m.1.length 0) (fdL false m.1)
end Go.Ab
/- What a valid rule's parts are. -/
set_option linter.unusedSimpArgs false
set_option linter.unusedVariables false
namespace Go.Ab
end Go.Ab
/- Filtering, step by step. -/
set_option linter.unusedSimpArgs false
set_option linter.unusedVariables false
namespace Go.Ab
end Go.Ab
/- Filtering by one rule of a model. -/
set_option linter.unusedSimpArgs false
set_option linter.unusedVariables false
namespace Go.Ab
def frOk (m : Md) (i : Int) (d : List (List Bool)) : Bool := dmB m d && decide (0 ≤ i ∧ i < m.2.length)
def frD (m : Md) (i : Int) (d : List (List Bool)) : List (List Bool) := if frOk m i d then filtD m (m.2.getD i.toNat default) d else []
abbrev stepO (q : Rl) (d : List (List Bool)) (c : List Int) (o : List (List Bool)) : List (List Bool) := if okC2 q d c then markN o c c.length else o
end Go.Ab
/- The sizes of full domains. -/
namespace Go.Ab
end Go.Ab
/- The sizes of filtered domains. -/
namespace Go.Ab
def wLB (xs : List (List Bool)) : Nat := xs.length + sumW List.length xs
end Go.Ab

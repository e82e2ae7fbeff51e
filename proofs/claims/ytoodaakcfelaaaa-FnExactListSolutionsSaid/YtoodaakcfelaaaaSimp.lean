/- Constraints, told in plain lists. -/
import Derived.Test.YtoodaakcfelaaaaVals
set_option linter.unusedSimpArgs false
set_option linter.unusedVariables false
set_option linter.unnecessarySimpa false
namespace Go.Ab
def litOk (n : Int) : Bool := decide (n ≠ 0 ∧ -12 ≤ n ∧ n ≤ 12)
def varOf (n : Int) : Int := max n (-n)
theorem litOk_iff {n : Int} : litOk n = true ↔ (n ≠ 0 ∧ -12 ≤ n ∧ n ≤ 12) := by simp [litOk]
def okFrom : Int → List Term → Bool
  | _, [] => true
  | p, t :: r => litOk t.2 && (decide (p < varOf t.2) && (decide (1 ≤ t.1 ∧ t.1 ≤ 1000) && okFrom (varOf t.2) r))
def cOk (c : Con) : Bool := okFrom 0 c.1 && decide (0 ≤ c.2 ∧ c.2 ≤ 20000)
theorem qzu {p : Int} {t : Term} {r : List Term} (h : ¬ (litOk t.2 = true ∧ p < varOf t.2 ∧ 1 ≤ t.1 ∧ t.1 ≤ 1000)) : okFrom p (t :: r) = false := by
  rw [Bool.eq_false_iff]
  intro e
  simp only [okFrom, Bool.and_eq_true, decide_eq_true_eq] at e
  exact h ⟨e.1, e.2.1, e.2.2.1⟩
theorem qzm {p : Int} {t : Term} {r : List Term} (h : litOk t.2 = true) (h2 : p < varOf t.2) (h3 : 1 ≤ t.1) (h4 : t.1 ≤ 1000) : okFrom p (t :: r) = okFrom (varOf t.2) r := by
  simp only [okFrom, h, Bool.true_and, h2, decide_true, h3, h4, and_self]
theorem qjm {α : Type} {d : α} {l : List α} {k : Nat} (h : k < l.length) : l.drop k = l.getD k d :: l.drop (k + 1) := by
  rw [List.drop_eq_getElem_cons h, List.getD_eq_getElem?_getD, List.getElem?_eq_getElem h, Option.getD_some]
def prevV (ts : List Term) (k : Nat) : Int := if k = 0 then 0 else varOf (ts.getD (k - 1) default).2
theorem prevV_succ {ts : List Term} {k : Nat} : prevV ts (k + 1) = varOf (ts.getD k default).2 := by simp [prevV]
theorem prevV_pos {ts : List Term} {k : Nat} (h : 0 < k) : prevV ts k = varOf (ts.getD (k - 1) default).2 := by unfold prevV; rw [if_neg (by omega)]
theorem varOf_pos {n : Int} (h : litOk n = true) : 0 < varOf n := by rw [litOk_iff] at h; unfold varOf; omega
end Go.Ab
namespace Go.Ab
def gcdL (ts : List Term) : Nat := ts.foldl (fun g t => Nat.gcd t.1.toNat g) 0
def cdiv (c : Con) : Int := if cOk c then ((gcdL c.1 : Nat) : Int) else 0
theorem qzs : ∀ {ts : List Term} {p : Int}, okFrom p ts = true → ∀ t ∈ ts, litOk t.2 = true ∧ 1 ≤ t.1 ∧ t.1 ≤ 1000
  | [], _, _, t, ht => by simp at ht
  | x :: r, p, h, t, ht => by
    simp only [okFrom, Bool.and_eq_true, decide_eq_true_eq] at h
    rcases List.mem_cons.1 ht with rfl | ht
    · exact ⟨h.1, h.2.2.1⟩
    · exact qzs h.2.2.2 t ht
theorem qzw {α : Type} {d : α} {l : List α} {k : Nat} (h : k < l.length) : l.getD k d ∈ l := by
  rw [List.getD_eq_getElem?_getD, List.getElem?_eq_getElem h, Option.getD_some]; exact List.getElem_mem h
theorem cOk_terms {c : Con} (h : cOk c = true) {k : Nat} (hk : k < c.1.length) : litOk (c.1.getD k default).2 = true ∧ 1 ≤ (c.1.getD k default).1 ∧ (c.1.getD k default).1 ≤ 1000 := by
  simp only [cOk, Bool.and_eq_true] at h
  exact qzs h.1 _ (qzw hk)
theorem cOk_bound {c : Con} (h : cOk c = true) : 0 ≤ c.2 ∧ c.2 ≤ 20000 := by
  simp only [cOk, Bool.and_eq_true, decide_eq_true_eq] at h
  exact h.2
theorem okFrom_len : ∀ {ts : List Term} {p : Int}, okFrom p ts = true → (ts.length : Int) ≤ max (12 - p) 0
  | [], p, _ => by simp; omega
  | x :: r, p, h => by
    simp only [okFrom, Bool.and_eq_true, decide_eq_true_eq] at h
    have ih := okFrom_len h.2.2.2
    have h1 := litOk_iff.1 h.1
    have h2 := h.2.1
    simp only [varOf] at h2 ih
    rw [List.length_cons]; omega
theorem cOk_len {c : Con} (h : cOk c = true) : c.1.length ≤ 12 := by
  simp only [cOk, Bool.and_eq_true] at h
  have := okFrom_len h.1; omega
def szv (n : Nat) (k : Int) : Int := if (n : Int) ≤ k then k - n else -1
end Go.Ab
namespace Go.Ab
def marksI (k n : Nat) : List Int := (List.range n).map (fun i => ((k + i : Nat) : Int))
theorem marksI_length {k n : Nat} : (marksI k n).length = n := by simp [marksI]
theorem marksI_at {k n i : Nat} (h : i < n) : (marksI k n).getD i default = ((k + i : Nat) : Int) := by simp [marksI, h]
def markT (k i : Nat) : Term := (((k + 2 * i : Nat) : Int), ((k + 2 * i + 1 : Nat) : Int))
def marksT (k n : Nat) : List Term := (List.range n).map (markT k)
theorem qjs {k n : Nat} : (marksT k n).length = n := by simp [marksT]
theorem marksT_at {k n i : Nat} (h : i < n) : (marksT k n).getD i default = markT k i := by simp [marksT, h]
def varsFrom : Int → List Int → Bool
  | _, [] => true
  | p, v :: r => decide (p < v) && (decide (1 ≤ v ∧ v ≤ 12) && varsFrom v r)
theorem varsFrom_bad {p v : Int} {r : List Int} (h : ¬ (p < v ∧ 1 ≤ v ∧ v ≤ 12)) : varsFrom p (v :: r) = false := by
  rw [Bool.eq_false_iff]
  intro e
  simp only [varsFrom, Bool.and_eq_true, decide_eq_true_eq] at e
  exact h ⟨e.1, e.2.1⟩
theorem varsFrom_good {p v : Int} {r : List Int} (h : p < v) (h2 : 1 ≤ v) (h3 : v ≤ 12) : varsFrom p (v :: r) = varsFrom v r := by
  simp only [varsFrom, h, decide_true, h2, h3, and_self, Bool.true_and]
theorem varsFrom_all : ∀ {vs : List Int} {p : Int}, varsFrom p vs = true → ∀ v ∈ vs, 1 ≤ v ∧ v ≤ 12
  | [], _, _, v, hv => by simp at hv
  | x :: r, p, h, v, hv => by
    simp only [varsFrom, Bool.and_eq_true, decide_eq_true_eq] at h
    rcases List.mem_cons.1 hv with rfl | hv
    · exact h.2.1
    · exact varsFrom_all h.2.2 v hv
theorem vars_at {vs : List Int} (h : varsFrom 0 vs = true) {k : Nat} (hk : k < vs.length) : 1 ≤ vs.getD k default ∧ vs.getD k default ≤ 12 := varsFrom_all h _ (qzw hk)
theorem varsFrom_len : ∀ {vs : List Int} {p : Int}, varsFrom p vs = true → (vs.length : Int) ≤ max (12 - p) 0
  | [], p, _ => by simp; omega
  | x :: r, p, h => by
    simp only [varsFrom, Bool.and_eq_true, decide_eq_true_eq] at h
    have ih := varsFrom_len h.2.2
    rw [List.length_cons]; omega
theorem vars_len {vs : List Int} (h : varsFrom 0 vs = true) : vs.length ≤ 12 := by have := varsFrom_len h; omega
def prevI (vs : List Int) (k : Nat) : Int := if k = 0 then 0 else vs.getD (k - 1) default
theorem prevI_succ {vs : List Int} {k : Nat} : prevI vs (k + 1) = vs.getD k default := by simp [prevI]
theorem prevI_pos {vs : List Int} {k : Nat} (h : 0 < k) : prevI vs k = vs.getD (k - 1) default := by unfold prevI; rw [if_neg (by omega)]
theorem prevI_zero {vs : List Int} {k : Nat} (h : ¬ 0 < k) : prevI vs k = 0 := by unfold prevI; rw [if_pos (by omega)]
def exT (bs : List Bool) (v : Int) : Term := (1, if bs.getD (v - 1).toNat default then -v else v)
def exTs (vs : List Int) (bs : List Bool) : List Term := vs.map (exT bs)
def exOk (vs : List Int) (bs : List Bool) : Bool := varsFrom 0 vs && decide (bs.length = 12)
def exC (vs : List Int) (bs : List Bool) : Con := if exOk vs bs then (exTs vs bs, 1) else ([], 0)
theorem exTs_next {vs : List Int} {bs : List Bool} {k : Nat} {t : Term} (h : k < vs.length) (ht : exT bs (vs.getD k default) = t) : (exTs (vs.take k) bs).map dT ++ [dT t] = (exTs (vs.take (k + 1)) bs).map dT := by
  unfold exTs
  rw [qjt (d := default) h, ← ht]; simp
theorem qjz {vs : List Int} {bs : List Bool} : (exTs vs bs).length = vs.length := by simp [exTs]
theorem exT_t {bs : List Bool} {v : Int} (h : bs.getD (v - 1).toNat default = true) : exT bs v = (1, -v) := by unfold exT; rw [if_pos h]
theorem exT_f {bs : List Bool} {v : Int} (h : bs.getD (v - 1).toNat default = false) : exT bs v = (1, v) := by unfold exT; rw [if_neg (by rw [h]; decide)]
end Go.Ab
namespace Go.Ab
end Go.Ab
namespace Go.Ab
end Go.Ab
/- All values of twelve variables, told in plain lists. -/
set_option linter.unusedSimpArgs false
set_option linter.unusedVariables false
set_option linter.unnecessarySimpa false
namespace Go.Ab
def assn (n : Nat) : List Bool := (List.range 12).map (fun i => n.testBit (11 - i))
def enc : List Bool → Nat
  | [] => 0
  | b :: r => 2 ^ r.length * (if b then 1 else 0) + enc r
def litV (bs : List Bool) (l : Int) : Bool := bs.getD (varOf l - 1).toNat default == decide (0 < l)
def term (bs : List Bool) (t : Term) : Int := if litV bs t.2 then t.1 else 0
def sumV (ts : List Term) (bs : List Bool) : Int := ts.foldl (fun s t => s + term bs t) 0
def holdsV (c : Con) (bs : List Bool) : Bool := decide (c.2 ≤ sumV c.1 bs)
def totV (ts : List Term) : Int := ts.foldl (fun s t => s + t.1) 0
theorem totV_bounds {ts : List Term} (h : ∀ t ∈ ts, 1 ≤ t.1 ∧ t.1 ≤ 1000) : 0 ≤ totV ts ∧ totV ts ≤ 1000 * ts.length := by
  suffices ∀ (ts : List Term) (s : Int), (∀ t ∈ ts, 1 ≤ t.1 ∧ t.1 ≤ 1000) → s ≤ ts.foldl (fun s t => s + t.1) s ∧ ts.foldl (fun s t => s + t.1) s ≤ s + 1000 * ts.length by
    have := this ts 0 h
    unfold totV; omega
  intro ts
  induction ts with
  | nil => intro s _; simp
  | cons t r ih =>
    intro s h
    have h1 := h t (by simp)
    have h2 := ih (s + t.1) (fun t ht => h t (by simp [ht]))
    simp only [List.foldl_cons, List.length_cons]
    omega
theorem cOk_coefs {c : Con} (h : cOk c = true) : ∀ t ∈ c.1, 1 ≤ t.1 ∧ t.1 ≤ 1000 := by
  simp only [cOk, Bool.and_eq_true] at h
  exact fun t ht => (qzs h.1 t ht).2
theorem tot_take {c : Con} (h : cOk c = true) {k : Nat} (hk : k ≤ c.1.length) : 0 ≤ totV (c.1.take k) ∧ totV (c.1.take k) ≤ 1000 * k := by
  have := totV_bounds (ts := c.1.take k) (fun t ht => cOk_coefs h t (List.mem_of_mem_take ht))
  rw [List.length_take] at this; omega
def sbf (a b : Con) : Nat → Int × Bool
  | 0 => (0, false)
  | k + 1 => if holdsV a (assn k) then (if (sbf a b k).2 = false ∨ sumV b.1 (assn k) < (sbf a b k).1 then (sumV b.1 (assn k), true) else sbf a b k) else sbf a b k
def leastV (a b : Con) (k : Nat) : Int := if (sbf a b k).2 then (sbf a b k).1 else -1
theorem okFrom_gt : ∀ {ts : List Term} {p : Int}, okFrom p ts = true → ∀ t ∈ ts, p < varOf t.2
  | [], _, _, t, ht => by simp at ht
  | x :: r, p, h, t, ht => by
    simp only [okFrom, Bool.and_eq_true, decide_eq_true_eq] at h
    rcases List.mem_cons.1 ht with rfl | ht
    · exact h.2.1
    · have := okFrom_gt h.2.2.2 t ht; omega
theorem okFrom_uniq : ∀ {ts : List Term} {p : Int}, okFrom p ts = true → ∀ t ∈ ts, ∀ u ∈ ts, varOf t.2 = varOf u.2 → t = u
  | [], _, _, t, ht, _, _, _ => by simp at ht
  | x :: r, p, h, t, ht, u, hu, e => by
    simp only [okFrom, Bool.and_eq_true, decide_eq_true_eq] at h
    rcases List.mem_cons.1 ht with e1 | ht1
    · rcases List.mem_cons.1 hu with e2 | hu1
      · rw [e1, e2]
      · have := okFrom_gt h.2.2.2 u hu1; rw [e1] at e; omega
    · rcases List.mem_cons.1 hu with e2 | hu1
      · have := okFrom_gt h.2.2.2 t ht1; rw [e2] at e; omega
      · exact okFrom_uniq h.2.2.2 t ht1 u hu1 e
def allTrue (ts : List Term) : List Bool := (List.range 12).map (fun (i : Nat) => ts.any (fun t => decide (t.2 = (i : Int) + 1)))
end Go.Ab
namespace Go.Ab
def pa (n k : Nat) : List Bool := (List.range 12).map (fun j => if j < k then n.testBit (11 - j) else false)
def pb (n k : Nat) : List Bool := (List.range 12).map (fun j => if 12 - k ≤ j then n.testBit (11 - j) else false)
theorem map_range_set {α : Type} {f g : Nat → α} {n k : Nat} (h : ∀ j, j < n → g j = if j = k then g k else f j) : ((List.range n).map f).set k (g k) = (List.range n).map g := by
  apply List.ext_getElem?
  intro i
  rw [List.getElem?_set]
  by_cases hi : i < n
  · rw [List.getElem?_map, List.getElem?_map, List.getElem?_range hi]
    have hg := h i hi
    by_cases e : k = i
    · subst e; simp [hi]
    · have e' : ¬ i = k := fun h => e h.symm
      rw [if_neg e'] at hg
      simp [e, hg]
  · have e1 : (List.map g (List.range n))[i]? = none := List.getElem?_eq_none (by simp; omega)
    have e2 : (List.map f (List.range n))[i]? = none := List.getElem?_eq_none (by simp; omega)
    rw [e1, e2]
    split
    · split
      · rename_i h1; simp at h1; omega
      · rfl
    · rfl
end Go.Ab
namespace Go.Ab
end Go.Ab
namespace Go.Ab
def sbR (a b : Con) : Int × Bool := if cOk a && cOk b then sbf a b 4096 else (0, false)
def icR (a b : Con) : Bool := if cOk a && cOk b then (!(sbR a b).2 || decide (b.2 ≤ (sbR a b).1)) else false
end Go.Ab
/- How many values have each sum: by enumeration, by a table. -/
set_option linter.unusedSimpArgs false
set_option linter.unusedVariables false
set_option linter.unnecessarySimpa false
namespace Go.Ab
def cnt (ts : List Term) (k : Nat) (s : Int) : Nat := (List.range k).countP (fun n => decide (sumV ts (assn n) = s))
end Go.Ab
namespace Go.Ab
def tabF (ts : List Term) : Int → Nat := ts.foldl (fun f t => fun s => f s + f (s - t.1)) (fun s => if s = 0 then 1 else 0)
theorem okFrom_take_ne {ts : List Term} {p : Int} (h : okFrom p ts = true) {k : Nat} (hk : k < ts.length) : ∀ t ∈ ts.take k, varOf t.2 ≠ varOf (ts.getD k default).2 := by
  intro t ht e
  induction ts generalizing p k with
  | nil => simp at hk
  | cons x r ih =>
    simp only [okFrom, Bool.and_eq_true, decide_eq_true_eq] at h
    cases k with
    | zero => simp at ht
    | succ k =>
      simp only [List.length_cons] at hk
      simp only [List.take_succ_cons, List.mem_cons] at ht
      have hg : (x :: r).getD (k + 1) default = r.getD k default := rfl
      rw [hg] at e
      rcases ht with rfl | ht
      · have := okFrom_gt h.2.2.2 (r.getD k default) (qzw (by omega)); omega
      · exact ih h.2.2.2 (by omega) ht e
end Go.Ab
namespace Go.Ab
def rowI (N : Nat) (f : Nat → Nat) : List Int := (List.range N).map (fun s => ((f s : Nat) : Int))
def totN (ts : List Term) : Nat := (totV ts).toNat
def cntRow (ts : List Term) (k : Nat) : List Int := rowI (totN ts + 1) (fun s => cnt ts k s)
end Go.Ab
namespace Go.Ab
def nx (F : Nat → Nat) (a i j s : Nat) : Nat := (if s < i then F s else 0) + (if a ≤ s ∧ s - a < j then F (s - a) else 0)
def tabS (ts : List Term) (k : Nat) (s : Nat) : Nat := tabF (ts.take k) s
def rowT (ts : List Term) (k : Nat) : List Int := rowI (totN (ts.take k) + 1) (tabS ts k)
end Go.Ab
namespace Go.Ab
end Go.Ab
namespace Go.Ab
end Go.Ab
namespace Go.Ab
def sumTab (c : Con) : List Int := if cOk c then cntRow c.1 4096 else []
end Go.Ab
/- Counting the values that satisfy a constraint; the next bound that is a sum. -/
set_option linter.unusedSimpArgs false
set_option linter.unusedVariables false
set_option linter.unnecessarySimpa false
namespace Go.Ab
def cntH (c : Con) (k : Nat) : Nat := (List.range k).countP (fun n => holdsV c (assn n))
def upto (f : Nat → Nat) (b : Nat) : Nat → Nat
  | 0 => 0
  | m + 1 => upto f b m + (if b ≤ m then f m else 0)
def ccV (c : Con) : Int := if cOk c then ((cntH c 4096 : Nat) : Int) else 0
end Go.Ab
namespace Go.Ab
end Go.Ab
namespace Go.Ab
def raise (f : Nat → Nat) (N : Nat) : Nat → Nat → Nat
  | 0, b => b
  | k + 1, b => if b < N ∧ f b = 0 then raise f N k (b + 1) else b
def tbB (c : Con) : Nat := raise (fun s => cnt c.1 4096 s) (totN c.1 + 1) (totN c.1 + 1) c.2.toNat
def tbC (c : Con) : Con := if cOk c then (c.1, ((tbB c : Nat) : Int)) else ([], 0)
end Go.Ab
namespace Go.Ab
theorem all_lf_dT : ∀ ts : List Term, (ts.map dT).flatten.all lf = true
  | [] => rfl
  | t :: r => by
    rw [List.map_cons, List.flatten_cons, List.all_append, all_lf_dT r]; rfl
end Go.Ab
namespace Go.Ab
end Go.Ab
/- The drawing of numbers, told plainly. -/
set_option linter.unusedSimpArgs false
set_option linter.unusedVariables false
namespace Go.Ab
def okB (b : List Int) : Prop := b.length ≤ 2000 ∧ ∀ a ∈ b, 0 ≤ a ∧ a ≤ 255
def mixI (b : List Int) (k : Nat) : Int := b.getD (k % b.length) default * 131 + b.getD ((k * 7 + 3) % b.length) default * 1117 + (k : Int) * 29 + (k : Int) / (b.length : Int) * 53
def pickV (b : List Int) (p : Nat) (n : Int) : Int :=
  if n < 1 ∨ b.length = 0 then 0 else if p < b.length then b.getD p default % n else (((mixI b p).toNat ^^^ (mixI b p / 64).toNat : Nat) : Int) % n
def ofV {α : Type} [Inhabited α] (b : List Int) (p : Nat) (l : List α) : α := l.getD (pickV b p (l.length : Nat)).toNat default
end Go.Ab
namespace Go.Ab
end Go.Ab
/- What the laws on counts and on exclusion say, told plainly. -/
set_option linter.unusedSimpArgs false
set_option linter.unusedVariables false
namespace Go.Ab
theorem foldl_add {α : Type} (f : α → Int) : ∀ (l : List α) (s : Int), l.foldl (fun s t => s + f t) s = s + l.foldl (fun s t => s + f t) 0
  | [], s => by simp
  | t :: r, s => by
    simp only [List.foldl_cons]
    rw [foldl_add f r (s + f t), foldl_add f r (0 + f t)]; omega
theorem sumV_cons {t : Term} {r : List Term} {bs : List Bool} : sumV (t :: r) bs = term bs t + sumV r bs := by
  unfold sumV
  rw [List.foldl_cons, foldl_add]; omega
theorem totV_cons {t : Term} {r : List Term} : totV (t :: r) = t.1 + totV r := by
  unfold totV
  rw [List.foldl_cons, foldl_add]; omega
def evV (c : Con) (bs : List Bool) : Bool := cOk c && decide (bs.length = 12) && holdsV c bs
def diffV (vs : List Int) (bs os : List Bool) : Bool := vs.any (fun v => bs.getD (v - 1).toNat default != os.getD (v - 1).toNat default)
theorem okFrom_ex {bs : List Bool} : ∀ {vs : List Int} {p : Int}, 0 ≤ p → varsFrom p vs = true → okFrom p (exTs vs bs) = true
  | [], p, _, _ => rfl
  | v :: r, p, hp, h => by
    by_cases hv : p < v ∧ 1 ≤ v ∧ v ≤ 12
    · rw [varsFrom_good hv.1 hv.2.1 hv.2.2] at h
      have e : varOf (exT bs v).2 = v := by unfold exT varOf; split <;> (dsimp only; omega)
      have l : litOk (exT bs v).2 = true := by rw [litOk_iff]; unfold exT; split <;> (dsimp only; omega)
      show okFrom p (exT bs v :: exTs r bs) = true
      rw [qzm l (by omega) (by unfold exT; exact Int.le_refl 1) (by unfold exT; dsimp only; omega), e]
      exact okFrom_ex (by omega) h
    · rw [varsFrom_bad hv] at h; cases h
def negT (t : Term) : Term := (t.1, -t.2)
def negC (c : Con) : Con := (c.1.map negT, max 0 (totV c.1 - c.2 + 1))
theorem okFrom_neg : ∀ {ts : List Term} {p : Int}, okFrom p ts = true → okFrom p (ts.map negT) = true
  | [], _, _ => rfl
  | t :: r, p, h => by
    by_cases hv : litOk t.2 = true ∧ p < varOf t.2 ∧ 1 ≤ t.1 ∧ t.1 ≤ 1000
    · rw [qzm hv.1 hv.2.1 hv.2.2.1 hv.2.2.2] at h
      have e : varOf (negT t).2 = varOf t.2 := by unfold negT varOf; dsimp only; omega
      have l : litOk (negT t).2 = true := by have := litOk_iff.1 hv.1; rw [litOk_iff]; unfold negT; dsimp only; omega
      show okFrom p (negT t :: r.map negT) = true
      rw [qzm l (by rw [e]; exact hv.2.1) hv.2.2.1 hv.2.2.2, e]
      exact okFrom_neg h
    · rw [qzu hv] at h; cases h
theorem negC_ok {c : Con} (h : cOk c = true) : cOk (negC c) = true := by
  have h1 := tot_take h (k := c.1.length) (Nat.le_refl _)
  have h2 := cOk_len h
  have h3 := cOk_bound h
  rw [List.take_length] at h1
  have h4 : okFrom 0 c.1 = true := by unfold cOk at h; simp at h; exact h.1
  unfold cOk negC
  rw [Bool.and_eq_true]
  exact ⟨okFrom_neg h4, decide_eq_true (by dsimp only; omega)⟩
def negR (c : Con) : Con := if cOk c then negC c else ([], 0)
end Go.Ab
namespace Go.Ab
theorem mapD_at {α β : Type} [Inhabited α] [Inhabited β] {f : α → β} {l : List α} {i : Nat} (h : i < l.length) : (l.map f).getD i default = f (l.getD i default) := by
  simp [h]
def sclT (k : Int) (t : Term) : Term := (t.1 * k, t.2)
end Go.Ab
namespace Go.Ab
end Go.Ab
namespace Go.Ab
def l1D (b : List Int) (p : Nat) : Nat → List Term × Nat
  | 0 => ([], p)
  | k + 1 => if pickV b (l1D b p k).2 2 = 0 then ((l1D b p k).1 ++ [(ofV b ((l1D b p k).2 + 1) ([1, 1, 2, 3, 1, 5, 4] : List Int), if pickV b ((l1D b p k).2 + 2) 2 = 0 then -((k : Int) + 1) else (k : Int) + 1)], (l1D b p k).2 + 3) else ((l1D b p k).1, (l1D b p k).2 + 1)
def l1C (b : List Int) (p : Nat) (most : Int) : Con × Nat :=
  let d := l1D b p most.toNat
  if pickV b (d.2 + 1) 4 = 0 then ((d.1, pickV b (d.2 + 2) (totV d.1 + 2)), d.2 + 3) else ((d.1, ofV b d.2 ([1, 2, 1, 3, 0] : List Int)), d.2 + 2)
def mutC (b : List Int) (p : Nat) (c : Con) : Con × Nat :=
  if pickV b p 40 = 0 then ((c.1, ofV b (p + 1) ([-1, 20001, 9223372036854775807] : List Int)), p + 2)
  else if pickV b p 40 = 1 then (if 0 < c.1.length then ((c.1.set 0 (ofV b (p + 1) ([0, -1, 1001] : List Int), (c.1.getD 0 default).2), c.2), p + 2) else (c, p + 1))
  else if pickV b p 40 = 2 then (if 0 < c.1.length then ((c.1.set (c.1.length - 1) ((c.1.getD (c.1.length - 1) default).1, ofV b (p + 1) ([0, 13, -13, 1, -9223372036854775808] : List Int)), c.2), p + 2) else (c, p + 1))
  else if pickV b p 40 = 3 then ((c.1 ++ [(1, 1)], c.2), p + 1) else (c, p + 1)
def l15C (b : List Int) (p : Nat) : Con × Nat :=
  let d := l1C b (p + 1) (ofV b p ([4, 5, 3, 8] : List Int))
  let ts := d.1.1.map (sclT (ofV b d.2 ([1, 2, 3, 1] : List Int)))
  ((ts, pickV b (d.2 + 1) (totV ts + 2)), d.2 + 2)
def valB (b : List Int) (p : Nat) (n : Nat) : List Bool := (List.range n).map (fun i => decide (pickV b (p + i) 2 = 0))
def valV (b : List Int) (p : Nat) : List Bool := if pickV b (p + 12) 40 = 0 then (valB b p 12).take 11 else valB b p 12
end Go.Ab
/- Problems: lists of constraints; the first element of a kind; constraints changed. -/
set_option linter.unusedSimpArgs false
set_option linter.unusedVariables false
namespace Go.Ab
def idxF {α : Type} (p : α → Bool) : List α → Int → Int
  | [], _ => -1
  | a :: r, k => if p a then k else idxF p r (k + 1)
theorem idxF_hit {α : Type} {p : α → Bool} {d : α} {l : List α} {k : Nat} (h : k < l.length) (hp : p (l.getD k d) = true) : idxF p (l.drop k) (k : Int) = (k : Int) := by
  rw [qjm (d := d) h, idxF, if_pos hp]
theorem idxF_skip {α : Type} {p : α → Bool} {d : α} {l : List α} {k : Nat} (h : k < l.length) (hp : p (l.getD k d) = false) : idxF p (l.drop k) (k : Int) = idxF p (l.drop (k + 1)) ((k + 1 : Nat) : Int) := by
  rw [qjm (d := d) h, idxF, if_neg (by rw [hp]; decide)]; rfl
theorem idxF_end {α : Type} {p : α → Bool} {l : List α} {k : Nat} (h : l.length ≤ k) {i : Int} : idxF p (l.drop k) i = -1 := by
  rw [List.drop_of_length_le h]; rfl
theorem idxF_any {α : Type} {p : α → Bool} : ∀ {l : List α} {k : Int}, 0 ≤ k → decide (0 ≤ idxF p l k) = l.any p
  | [], k, _ => rfl
  | a :: r, k, h => by
    rw [idxF, List.any_cons]
    cases hp : p a
    · rw [if_neg (by decide), idxF_any (by omega)]; rfl
    · rw [if_pos rfl]; simp [h]
theorem not_any_not {α : Type} {p : α → Bool} {l : List α} : (!l.any (fun c => !p c)) = l.all p := by
  induction l with
  | nil => rfl
  | cons a r ih => rw [List.any_cons, List.all_cons, Bool.not_or, ih, Bool.not_not]
theorem all_next {α : Type} {p : α → Bool} {d : α} {l : List α} {k : Nat} (h : (l.take k).all p = true) (hk : k < l.length) (hp : p (l.getD k d) = true) : (l.take (k + 1)).all p = true := by
  rw [qjt (d := d) hk, List.all_append, h, List.all_cons, hp]; rfl
theorem all_no {α : Type} {p : α → Bool} {d : α} {l : List α} {k : Nat} (hk : k < l.length) (hp : p (l.getD k d) = false) : l.all p = false := by
  rw [Bool.eq_false_iff]
  intro h
  have := List.all_eq_true.1 h _ (qzw (d := d) hk)
  rw [hp] at this; cases this
theorem all_at {α : Type} {p : α → Bool} {d : α} {l : List α} {k : Nat} (h : l.all p = true) (hk : k < l.length) : p (l.getD k d) = true := List.all_eq_true.1 h _ (qzw hk)
theorem all_full {α : Type} {p : α → Bool} {l : List α} {k : Nat} (h : (l.take k).all p = true) (hk : l.length ≤ k) : l.all p = true := by rwa [List.take_of_length_le hk] at h
def pOk (l : List Con) : Bool := decide (l.length ≤ 400) && l.all cOk
theorem pOk_all {l : List Con} (h : pOk l = true) : l.all cOk = true := by unfold pOk at h; simp only [Bool.and_eq_true] at h; exact h.2
theorem pOk_len {l : List Con} (h : pOk l = true) : l.length ≤ 400 := by unfold pOk at h; simp only [Bool.and_eq_true, decide_eq_true_eq] at h; exact h.1
def satV (l : List Con) (bs : List Bool) : Bool := l.all (fun c => holdsV c bs)
def saV (l : List Con) (bs : List Bool) : Bool := pOk l && decide (bs.length = 12) && satV l bs
def cntS (l : List Con) (k : Nat) : Nat := (List.range k).countP (fun n => satV l (assn n))
def csV (l : List Con) : Int := if pOk l then ((cntS l 4096 : Nat) : Int) else 0
def vC (c : Con) : Con := if cOk c then c else ([], 0)
def chT (f : Int → Int) (t : Term) : Term := (f t.1, t.2)
def chC (f : Int → Int) (c : Con) : Con := (c.1.map (chT f), f c.2)
def kOk (c : Con) (k : Int) : Bool := cOk c && decide (1 ≤ k ∧ k ≤ 1000)
def chR (f : Int → Int) (c : Con) (k : Int) : Con := if kOk c k then vC (chC f c) else ([], 0)
def chB (f : Int → Int) (c : Con) (k : Int) : Bool := kOk c k && cOk (chC f c)
def mulK (k n : Int) : Int := n * k
def divK (k n : Int) : Int := (n + k - 1) / k
def weakT (v : Int) (ts : List Term) : List Term := ts.filter (fun t => decide (varOf t.2 ≠ v))
def weakB (v : Int) (ts : List Term) (b : Int) : Int := ts.foldl (fun s t => if varOf t.2 = v then s - t.1 else s) b
def wOk (c : Con) (v : Int) : Bool := cOk c && decide (1 ≤ v ∧ v ≤ 12)
def weakC (c : Con) (v : Int) : Con := if wOk c v then (weakT v c.1, max 0 (weakB v c.1 c.2)) else ([], 0)
def divR (c : Con) (k : Int) : Con := if kOk c k then chC (divK k) c else ([], 0)
end Go.Ab
namespace Go.Ab
end Go.Ab
namespace Go.Ab
theorem all_lf_dC : ∀ l : List Con, (l.map dC).flatten.all lf = true
  | [] => rfl
  | c :: r => by rw [List.map_cons, List.flatten_cons, List.all_append, all_lf_dC r]; rfl
def okP (l : List Con) (n m : Nat) : Prop := l.length ≤ n ∧ ∀ c ∈ l, c.1.length ≤ m
end Go.Ab
/- Variables replaced by values. -/
set_option linter.unusedSimpArgs false
set_option linter.unusedVariables false
namespace Go.Ab
def stV (p : List Int) (l : Int) : Int := if l < 0 then -(p.getD (-l - 1).toNat default) else p.getD (l - 1).toNat default
def paOk (p : List Int) : Bool := decide (p.length = 12) && p.all (fun a => decide (-1 ≤ a ∧ a ≤ 1))
theorem qjv {p : List Int} (h : paOk p = true) : p.length = 12 := by unfold paOk at h; simp only [Bool.and_eq_true, decide_eq_true_eq] at h; exact h.1
theorem paOk_at {p : List Int} (h : paOk p = true) (k : Nat) : -1 ≤ p.getD k default ∧ p.getD k default ≤ 1 := by
  unfold paOk at h
  simp only [Bool.and_eq_true, decide_eq_true_eq] at h
  by_cases hk : k < p.length
  · have := List.all_eq_true.1 h.2 _ (qzw (d := default) hk)
    exact of_decide_eq_true this
  · have e : p.getD k default = 0 := by simp [List.getElem?_eq_none (show p.length ≤ k by omega)]
    rw [e]; omega
theorem stV_rng {p : List Int} (h : paOk p = true) (l : Int) : -1 ≤ stV p l ∧ stV p l ≤ 1 := by
  unfold stV
  have h1 := paOk_at h (-l - 1).toNat
  have h2 := paOk_at h (l - 1).toNat
  split <;> omega
def fixT (p : List Int) (ts : List Term) : List Term := ts.filter (fun t => decide (stV p t.2 = 0))
def fixB (p : List Int) (ts : List Term) (b : Int) : Int := ts.foldl (fun s t => if stV p t.2 = 1 then max 0 (s - t.1) else s) b
def fixS (p : List Int) (ts : List Term) (b : Int) : Int := ts.foldl (fun s t => if stV p t.2 = 1 then s - t.1 else s) b
def fixC (p : List Int) (c : Con) : Con := (fixT p c.1, fixB p c.1 c.2)
def trueS (p : List Int) (ts : List Term) : Int := ts.foldl (fun s t => s + (if stV p t.2 = 1 then t.1 else 0)) 0
theorem cOk_ok {c : Con} (h : cOk c = true) : okFrom 0 c.1 = true := by unfold cOk at h; simp at h; exact h.1
theorem cOk_mk {ts : List Term} {b : Int} (h : okFrom 0 ts = true) (h1 : 0 ≤ b) (h2 : b ≤ 20000) : cOk (ts, b) = true := by
  unfold cOk; rw [Bool.and_eq_true]; exact ⟨h, decide_eq_true (by dsimp only; omega)⟩
def fpOk (l : List Con) (p : List Int) : Bool := pOk l && paOk p
def fpL (l : List Con) (p : List Int) : List Con := if fpOk l p then l.map (fixC p) else []
def justV (lit : Int) : List Int := (List.replicate 12 (0 : Int)).set (varOf lit - 1).toNat (if lit < 0 then -1 else 1)
def flOk (l : List Con) (lit : Int) : Bool := pOk l && litOk lit
def flL (l : List Con) (lit : Int) : List Con := if flOk l lit then l.map (fixC (justV lit)) else []
end Go.Ab
namespace Go.Ab
end Go.Ab
namespace Go.Ab
end Go.Ab
/- What the laws on sums and bounds say, told plainly. -/
set_option linter.unusedSimpArgs false
set_option linter.unusedVariables false
namespace Go.Ab
end Go.Ab
namespace Go.Ab
end Go.Ab
/- The common divisor; the table's symmetry. -/
set_option linter.unusedSimpArgs false
set_option linter.unusedVariables false
namespace Go.Ab
def gcdG (g : Nat) (ts : List Term) : Nat := ts.foldl (fun g t => Nat.gcd t.1.toNat g) g
def cdC (c : Con) : Con := chC (divK (cdiv c)) c
end Go.Ab
/- Fixing told by values; pure literals; implications. -/
set_option linter.unusedSimpArgs false
set_option linter.unusedVariables false
namespace Go.Ab
def ovV (p : List Int) (bs : List Bool) : List Bool := (List.range 12).map (fun i => if p.getD i default = 1 then true else if p.getD i default = -1 then false else bs.getD i default)
def coefF (m : Int) : List Term → Int
  | [] => 0
  | t :: r => if t.2 = m then t.1 else coefF m r
def hasV (l : List Con) (m : Int) : Bool := l.any (fun c => decide (0 < coefF m c.1))
def pureN (l : List Con) : Nat → List Int
  | 0 => []
  | k + 1 => pureN l k ++ (if hasV l ((k : Int) + 1) && !hasV l (-((k : Int) + 1)) then [(k : Int) + 1] else if hasV l (-((k : Int) + 1)) && !hasV l ((k : Int) + 1) then [-((k : Int) + 1)] else [])
def pureL (l : List Con) : List Int := if pOk l then pureN l 12 else []
def lossV (a b : Con) (k : Nat) : Int := (a.1.take k).foldl (fun s t => s + max 0 (t.1 - coefF t.2 b.1)) 0
def covB (a b : Con) : Bool := decide (b.2 ≤ a.2 - lossV a b a.1.length)
def covV (a b : Con) : Bool := cOk a && cOk b && covB a b
def comS (bs : List Bool) (ts us : List Term) : Int := ts.foldl (fun s t => s + (if litV bs t.2 then coefF t.2 us else 0)) 0
end Go.Ab
namespace Go.Ab
def bitOf (m : Int) : Nat := 12 - (varOf m).toNat
def unitC (m : Int) : Con := ([(1, m)], 1)
def ovN (p : List Int) (bs : List Bool) (k : Nat) : List Bool := (List.range 12).map (fun i => if i < k then (ovV p bs).getD i default else bs.getD i default)
end Go.Ab
namespace Go.Ab
end Go.Ab
namespace Go.Ab
theorem all_lf_dI : ∀ l : List Int, (l.map dI).flatten.all lf = true
  | [] => rfl
  | c :: r => by rw [List.map_cons, List.flatten_cons, List.all_append, all_lf_dI r]; rfl
end Go.Ab
/- Covered constraints removed. -/
set_option linter.unusedSimpArgs false
set_option linter.unusedVariables false
namespace Go.Ab
def cvT (l : List Con) (g : List Bool) (i j : Nat) : Bool := decide (j ≠ i) && (!g.getD j default && covV (l.getD j default) (l.getD i default))
def cvrN (l : List Con) (g : List Bool) (i k : Nat) : Bool := (List.range k).any (fun j => cvT l g i j)
def goneN (l : List Con) : Nat → List Bool
  | 0 => List.replicate l.length false
  | i + 1 => (goneN l i).set i (cvrN l (goneN l i) i l.length)
def keepN (l : List Con) (k : Nat) : List Nat := (List.range k).filter (fun i => !(goneN l l.length).getD i default)
def uncN (l : List Con) (k : Nat) : List Con := (keepN l k).map (fun i => l.getD i default)
def uncL (l : List Con) : List Con := uncN l l.length
def rcL (l : List Con) : List Con := if pOk l then uncL l else []
end Go.Ab
namespace Go.Ab
end Go.Ab
/- The clauses of a constraint. -/
set_option linter.unusedSimpArgs false
set_option linter.unusedVariables false
namespace Go.Ab
def selF : List Term → Nat → List Term
  | [], _ => []
  | t :: r, s => if s % 2 = 1 then t :: selF r (s / 2) else selF r (s / 2)
def oneT (t : Term) : Term := (1, t.2)
def mnV (b : Int) (ts : List Term) : Int := ts.foldl (fun m t => min m t.1) b
def leftV (c : Con) (s : Nat) : Int := totV c.1 - totV (selF c.1 s)
def incV (c : Con) (s : Nat) : Bool := decide (leftV c s < c.2) && (decide (s = 0) || decide (c.2 ≤ leftV c s + mnV 20000 (selF c.1 s)))
def clC (c : Con) (s : Nat) : Con := ((selF c.1 s).map oneT, 1)
def clN (c : Con) : Nat → List Con
  | 0 => []
  | s + 1 => clN c s ++ (if incV c s then [clC c s] else [])
def clA (c : Con) : List Con := clN c (2 ^ c.1.length)
def clB (c : Con) : Bool := cOk c && decide ((clA c).length ≤ 400)
def clL (c : Con) : List Con := if clB c then clA c else []
end Go.Ab
namespace Go.Ab
def oneL (l : Int) : Term := (1, l)
def seenG : List Int → Int → Int
  | [], _ => 0
  | l :: r, v => if varOf l = v then l else seenG r v
theorem seen_0 {v : Int} : ∀ {ls : List Int}, (∀ l ∈ ls, varOf l ≠ v) → seenG ls v = 0
  | [], _ => rfl
  | l :: r, h => by rw [seenG, if_neg (h l (by simp)), seen_0 (fun l hl => h l (by simp [hl]))]
theorem seen_app {v x : Int} : ∀ {ls : List Int}, (∀ l ∈ ls, varOf l ≠ varOf x) → seenG (ls ++ [x]) v = if v = varOf x then x else seenG ls v
  | [], _ => by
    show (if varOf x = v then x else 0) = _
    by_cases e : varOf x = v
    · rw [if_pos e, if_pos e.symm]
    · rw [if_neg e, if_neg (Ne.symm e)]; rfl
  | l :: r, h => by
    have ih := seen_app (v := v) (x := x) (ls := r) (fun l hl => h l (by simp [hl]))
    have h0 := h l (by simp)
    rw [List.cons_append, seenG, ih, seenG]
    by_cases e : varOf l = v
    · rw [if_pos e, if_pos e, if_neg (by omega)]
    · rw [if_neg e, if_neg e]
theorem lit_apart {ls : List Int} (h : okFrom 0 (ls.map oneL) = true) {k : Nat} (hk : k < ls.length) : ∀ l ∈ ls.take k, varOf l ≠ varOf (ls.getD k default) := by
  intro l hl
  have := okFrom_take_ne h (k := k) (by simpa using hk) (oneL l) (by rw [← List.map_take]; exact List.mem_map.2 ⟨l, hl, rfl⟩)
  have e : ((ls.map oneL).getD k default).2 = ls.getD k default := by
    have := mapD_at (f := oneL) (l := ls) (i := k) hk
    rw [this]; rfl
  rw [e] at this
  exact this
theorem lit_ok {ls : List Int} (h : okFrom 0 (ls.map oneL) = true) {k : Nat} (hk : k < ls.length) : litOk (ls.getD k default) = true := by
  have := (qzs h (oneL (ls.getD k default)) (List.mem_map.2 ⟨_, qzw hk, rfl⟩)).1
  exact this
theorem lits_len {ls : List Int} (h : okFrom 0 (ls.map oneL) = true) : ls.length ≤ 12 := by
  have := okFrom_len h
  rw [List.length_map] at this; omega
def rowS (ls : List Int) : List Int := (List.range 13).map (fun (v : Nat) => seenG ls (v : Int))
theorem qzo {ls : List Int} : (rowS ls).length = 13 := by simp [rowS]
theorem rowS_at {ls : List Int} {v : Nat} (h : v < 13) : (rowS ls).getD v default = seenG ls (v : Int) := by
  unfold rowS
  rw [List.getD_eq_getElem?_getD, List.getElem?_map, List.getElem?_range h]; rfl
theorem rowS_nil : (rowS []).map dI = List.replicate 13 [V.p (.int .i64 0)] := rfl
theorem rowS_set {ls : List Int} (h : okFrom 0 (ls.map oneL) = true) {k : Nat} (hk : k < ls.length) : ((rowS (ls.take k)).map dI).set (varOf (ls.getD k default)).toNat (dI (ls.getD k default)) = (rowS (ls.take (k + 1))).map dI := by
  have hl := litOk_iff.1 (lit_ok h hk)
  have hv : varOf (ls.getD k default) = max (ls.getD k default) (-(ls.getD k default)) := rfl
  rw [← List.map_set, qjt (d := default) hk]
  congr 1
  unfold rowS
  have e : ∀ v : Nat, seenG (ls.take k ++ [ls.getD k default]) (v : Int) = if v = (varOf (ls.getD k default)).toNat then ls.getD k default else seenG (ls.take k) (v : Int) := by
    intro v
    rw [seen_app (lit_apart h hk)]
    by_cases q : v = (varOf (ls.getD k default)).toNat
    · rw [if_pos q, if_pos (by omega)]
    · rw [if_neg q, if_neg (by omega)]
  have := map_range_set (f := fun v : Nat => seenG (ls.take k) (v : Int)) (g := fun v : Nat => seenG (ls.take k ++ [ls.getD k default]) (v : Int)) (n := 13) (k := (varOf (ls.getD k default)).toNat) (fun j _ => by
    rw [e j, e (varOf (ls.getD k default)).toNat, if_pos rfl])
  rw [e, if_pos rfl] at this
  exact this
def filtN (ls : List Int) (v : Int) : List Int := ls.filter (fun l => decide (varOf l ≤ v))
theorem filt_gt {ls : List Int} {p v : Int} (h : okFrom p (ls.map oneL) = true) (hv : v ≤ p) : filtN ls v = [] := by
  unfold filtN
  rw [List.filter_eq_nil_iff]
  intro l hl q
  have := okFrom_gt h (oneL l) (List.mem_map.2 ⟨l, hl, rfl⟩)
  have e : (oneL l).2 = l := rfl
  rw [e] at this
  have := of_decide_eq_true q
  omega
theorem filt_next {v : Int} : ∀ {ls : List Int} {p : Int}, okFrom p (ls.map oneL) = true → filtN ls (v + 1) = filtN ls v ++ (if seenG ls (v + 1) ≠ 0 then [seenG ls (v + 1)] else [])
  | [], _, _ => rfl
  | l :: r, p, h => by
    by_cases hv : litOk l = true ∧ p < varOf l
    · have h' : okFrom (varOf l) (r.map oneL) = true := by
        have := qzm (p := p) (t := oneL l) (r := r.map oneL) hv.1 hv.2 (Int.le_refl 1) (show (1 : Int) ≤ 1000 by decide)
        rw [show (l :: r).map oneL = oneL l :: r.map oneL from rfl, this] at h
        exact h
      have hl0 : l ≠ 0 := (litOk_iff.1 hv.1).1
      by_cases e : varOf l = v + 1
      · have e1 : filtN (l :: r) (v + 1) = l :: filtN r (v + 1) := List.filter_cons_of_pos (by rw [decide_eq_true_eq]; omega)
        have e2 : filtN (l :: r) v = filtN r v := List.filter_cons_of_neg (by rw [decide_eq_true_eq]; omega)
        rw [e1, e2, filt_gt h' (by omega), filt_gt h' (by omega), seenG, if_pos e, if_pos hl0]; rfl
      · have ih := filt_next (v := v) h'
        rw [seenG, if_neg e]
        by_cases q : varOf l ≤ v
        · have e1 : filtN (l :: r) (v + 1) = l :: filtN r (v + 1) := List.filter_cons_of_pos (by rw [decide_eq_true_eq]; omega)
          have e2 : filtN (l :: r) v = l :: filtN r v := List.filter_cons_of_pos (by rw [decide_eq_true_eq]; omega)
          rw [e1, e2, ih]; rfl
        · have e1 : filtN (l :: r) (v + 1) = filtN r (v + 1) := List.filter_cons_of_neg (by rw [decide_eq_true_eq]; omega)
          have e2 : filtN (l :: r) v = filtN r v := List.filter_cons_of_neg (by rw [decide_eq_true_eq]; omega)
          rw [e1, e2, ih]
    · exfalso
      rw [show (l :: r).map oneL = oneL l :: r.map oneL from rfl, qzu (t := oneL l) (fun q => hv ⟨q.1, q.2.1⟩)] at h
      cases h
theorem filt_all {ls : List Int} (h : okFrom 0 (ls.map oneL) = true) : filtN ls 12 = ls := by
  unfold filtN
  rw [List.filter_eq_self]
  intro l hl
  have := litOk_iff.1 (qzs h (oneL l) (List.mem_map.2 ⟨l, hl, rfl⟩)).1
  have e : (oneL l).2 = l := rfl
  rw [e] at this
  apply decide_eq_true
  unfold varOf; omega
end Go.Ab
/- Propagation, told plainly. -/
set_option linter.unusedSimpArgs false
set_option linter.unusedVariables false
namespace Go.Ab
def slF (p : List Int) (ts : List Term) (b : Int) : Int := ts.foldl (fun s t => if 0 ≤ stV p t.2 then s + t.1 else s) b
def slV (c : Con) (p : List Int) : Int := slF p c.1 (-c.2)
theorem slF_next {p : List Int} {b : Int} {ts : List Term} {k : Nat} (h : k < ts.length) : slF p (ts.take (k + 1)) b = if 0 ≤ stV p (ts.getD k default).2 then slF p (ts.take k) b + (ts.getD k default).1 else slF p (ts.take k) b := by
  unfold slF
  rw [qjt (d := default) h, List.foldl_append]; rfl
theorem slF_rng {p : List Int} : ∀ {ts : List Term} {b : Int}, (∀ t ∈ ts, 1 ≤ t.1 ∧ t.1 ≤ 1000) → b ≤ slF p ts b ∧ slF p ts b ≤ b + 1000 * ts.length
  | [], b, _ => by simp [slF]
  | t :: r, b, h => by
    have ht := h t (by simp)
    have ih := slF_rng (p := p) (ts := r) (b := if 0 ≤ stV p t.2 then b + t.1 else b) (fun t ht => h t (by simp [ht]))
    have e : slF p (t :: r) b = slF p r (if 0 ≤ stV p t.2 then b + t.1 else b) := rfl
    rw [e, List.length_cons]
    by_cases h0 : 0 ≤ stV p t.2
    · rw [if_pos h0] at ih ⊢; omega
    · rw [if_neg h0] at ih ⊢; omega
theorem slF_take {c : Con} (hc : cOk c = true) (p : List Int) (k : Nat) : -20000 ≤ slF p (c.1.take k) (-c.2) ∧ slF p (c.1.take k) (-c.2) ≤ 12000 := by
  have h1 := cOk_bound hc
  have h2 := cOk_len hc
  have h3 := slF_rng (p := p) (b := -c.2) (ts := c.1.take k) (fun t ht => cOk_coefs hc t (List.mem_of_mem_take ht))
  have h4 : (c.1.take k).length ≤ c.1.length := by rw [List.length_take]; omega
  omega
def impF (p : List Int) (s : Int) (ts : List Term) : List Int := (ts.filter (fun t => decide (stV p t.2 = 0 ∧ s < t.1))).map (·.2)
def impC (c : Con) (p : List Int) : List Int := impF p (slV c p) c.1
theorem impF_yes {p : List Int} {s : Int} {ts : List Term} {k : Nat} (h : k < ts.length) (hc : stV p (ts.getD k default).2 = 0 ∧ s < (ts.getD k default).1) : impF p s (ts.take (k + 1)) = impF p s (ts.take k) ++ [(ts.getD k default).2] := by
  unfold impF
  rw [qjt (d := default) h, List.filter_append, List.filter_cons_of_pos (by rw [decide_eq_true_eq]; exact hc)]; simp
theorem impF_no {p : List Int} {s : Int} {ts : List Term} {k : Nat} (h : k < ts.length) (hc : ¬ (stV p (ts.getD k default).2 = 0 ∧ s < (ts.getD k default).1)) : impF p s (ts.take (k + 1)) = impF p s (ts.take k) := by
  unfold impF
  rw [qjt (d := default) h, List.filter_append, List.filter_cons_of_neg (by rw [decide_eq_true_eq]; exact hc)]; simp
theorem impF_len {p : List Int} {s : Int} {ts : List Term} : (impF p s ts).length ≤ ts.length := by
  unfold impF; rw [List.length_map]; exact List.length_filter_le ..
theorem impF_take {p : List Int} {s : Int} {ts : List Term} {k : Nat} : (impF p s (ts.take k)).length ≤ k := by
  have := impF_len (p := p) (s := s) (ts := ts.take k)
  rw [List.length_take] at this; omega
theorem impC_len {c : Con} (hc : cOk c = true) {p : List Int} : (impC c p).length ≤ 12 := by
  have := impF_len (p := p) (s := slV c p) (ts := c.1)
  have := cOk_len hc
  unfold impC; omega
theorem impC_mem {c : Con} {p : List Int} {m : Int} (h : m ∈ impC c p) : ∃ t ∈ c.1, t.2 = m ∧ stV p m = 0 ∧ slV c p < t.1 := by
  unfold impC impF at h
  obtain ⟨t, ht, rfl⟩ := List.mem_map.1 h
  rw [List.mem_filter, decide_eq_true_eq] at ht
  exact ⟨t, ht.1, rfl, ht.2⟩
theorem impC_lit {c : Con} (hc : cOk c = true) {p : List Int} {m : Int} (h : m ∈ impC c p) : litOk m = true := by
  obtain ⟨t, ht, rfl, _⟩ := impC_mem h
  exact (qzs (cOk_ok hc) t ht).1
theorem impC_at {c : Con} (hc : cOk c = true) {p : List Int} {k : Nat} (h : k < (impC c p).length) : litOk ((impC c p).getD k default) = true := impC_lit hc (qzw h)
def asg (p : List Int) (m : Int) : List Int := p.set (varOf m - 1).toNat (if m < 0 then -1 else 1)
def asgL (p : List Int) (ms : List Int) : List Int := ms.foldl asg p
theorem asg_len {p : List Int} {m : Int} : (asg p m).length = p.length := by simp [asg]
theorem qqc : ∀ {ms : List Int} {p : List Int}, (asgL p ms).length = p.length
  | [], p => rfl
  | m :: r, p => by show (asgL (asg p m) r).length = _; rw [qqc, asg_len]
theorem asgL_next {p : List Int} {ms : List Int} {k : Nat} (h : k < ms.length) : asgL p (ms.take (k + 1)) = asg (asgL p (ms.take k)) (ms.getD k default) := by
  unfold asgL
  rw [qjt (d := default) h, List.foldl_append]; rfl
theorem asg_ok {p : List Int} {m : Int} (h : paOk p = true) : paOk (asg p m) = true := by
  unfold paOk at h ⊢
  simp only [Bool.and_eq_true, decide_eq_true_eq, List.all_eq_true] at h ⊢
  refine ⟨by rw [asg_len]; exact h.1, fun a ha => ?_⟩
  rcases List.mem_or_eq_of_mem_set ha with ha | rfl
  · exact h.2 a ha
  · split <;> omega
theorem asgL_ok : ∀ {ms : List Int} {p : List Int}, paOk p = true → paOk (asgL p ms) = true
  | [], p, h => h
  | m :: r, p, h => asgL_ok (ms := r) (asg_ok h)
theorem asg_at {p : List Int} {m : Int} {i : Nat} (hi : i < p.length) : (asg p m).getD i default = if i = (varOf m - 1).toNat then (if m < 0 then -1 else 1) else p.getD i default := by
  unfold asg
  simp only [List.getD_eq_getElem?_getD, List.getElem?_set]
  by_cases e : (varOf m - 1).toNat = i
  · subst e; rw [if_pos rfl, if_pos hi, if_pos rfl]; rfl
  · rw [if_neg e, if_neg (fun h => e h.symm)]
theorem stV_asg {p : List Int} (hp : p.length = 12) {m l : Int} (hm : litOk m = true) (hl : litOk l = true) : stV (asg p m) l = if l = m then 1 else if l = -m then -1 else stV p l := by
  have h1 := litOk_iff.1 hm
  have h2 := litOk_iff.1 hl
  have hv : varOf m = max m (-m) := rfl
  unfold stV
  by_cases hl0 : l < 0
  · rw [if_pos hl0, if_pos hl0, asg_at (by omega)]
    by_cases e : (-l - 1).toNat = (varOf m - 1).toNat
    · rw [if_pos e]
      by_cases hm0 : m < 0
      · rw [if_pos hm0, if_pos (by omega)]; omega
      · rw [if_neg hm0, if_neg (by omega), if_pos (by omega)]
    · rw [if_neg e, if_neg (by omega), if_neg (by omega)]
  · rw [if_neg hl0, if_neg hl0, asg_at (by omega)]
    by_cases e : (l - 1).toNat = (varOf m - 1).toNat
    · rw [if_pos e]
      by_cases hm0 : m < 0
      · rw [if_pos hm0, if_neg (by omega), if_pos (by omega)]
      · rw [if_neg hm0, if_pos (by omega)]
    · rw [if_neg e, if_neg (by omega), if_neg (by omega)]
def zer (p : List Int) : Nat := p.countP (fun a => decide (a = 0))
theorem zer_set : ∀ {p : List Int} {i : Nat} {v : Int}, i < p.length → p.getD i default = 0 → v ≠ 0 → zer (p.set i v) + 1 = zer p
  | [], i, v, h, _, _ => by simp at h
  | a :: r, 0, v, _, h, hv => by
    simp only [List.getD_cons_zero] at h
    subst h
    simp only [List.set_cons_zero, zer, List.countP_cons]
    simp [hv]
  | a :: r, i + 1, v, h, h2, hv => by
    have := zer_set (p := r) (i := i) (v := v) (by simpa using h) (by simpa using h2) hv
    simp only [List.set_cons_succ, zer, List.countP_cons] at this ⊢
    omega
theorem stV_zero {p : List Int} {m : Int} (hm : litOk m = true) (h : stV p m = 0) : p.getD (varOf m - 1).toNat default = 0 := by
  have h1 := litOk_iff.1 hm
  have hv : varOf m = max m (-m) := rfl
  unfold stV at h
  by_cases hm0 : m < 0
  · rw [if_pos hm0] at h
    rw [show (varOf m - 1).toNat = (-m - 1).toNat by omega]; omega
  · rw [if_neg hm0] at h
    rw [show (varOf m - 1).toNat = (m - 1).toNat by omega]; omega
theorem zer_asg {p : List Int} (hp : p.length = 12) {m : Int} (hm : litOk m = true) (h : stV p m = 0) : zer (asg p m) + 1 = zer p := by
  have h1 := litOk_iff.1 hm
  have hv : varOf m = max m (-m) := rfl
  exact zer_set (by omega) (stV_zero hm h) (by split <;> decide)
theorem okFrom_gt' : ∀ {ts : List Term} {p : Int}, okFrom p ts = true → ∀ t ∈ ts, p < varOf t.2
  | [], _, _, t, ht => by simp at ht
  | x :: r, p, h, t, ht => by
    simp only [okFrom, Bool.and_eq_true, decide_eq_true_eq] at h
    rcases List.mem_cons.1 ht with rfl | ht
    · exact h.2.1
    · have := okFrom_gt' h.2.2.2 t ht; omega
theorem okFrom_apart' : ∀ {ts : List Term} {p : Int}, okFrom p ts = true → ts.Pairwise (fun a b => varOf a.2 < varOf b.2)
  | [], _, _ => .nil
  | x :: r, p, h => by
    simp only [okFrom, Bool.and_eq_true, decide_eq_true_eq] at h
    exact .cons (fun t ht => okFrom_gt' h.2.2.2 t ht) (okFrom_apart' h.2.2.2)
theorem imp_apart {c : Con} (hc : cOk c = true) {p : List Int} : (impC c p).Pairwise (fun a b => varOf a < varOf b) := by
  unfold impC impF
  rw [List.pairwise_map]
  exact (okFrom_apart' (cOk_ok hc)).filter _
theorem zer_asgL : ∀ {ms : List Int} {p : List Int}, p.length = 12 → (∀ m ∈ ms, litOk m = true ∧ stV p m = 0) → ms.Pairwise (fun a b => varOf a < varOf b) → zer (asgL p ms) + ms.length = zer p
  | [], p, _, _, _ => rfl
  | m :: r, p, hp, h, hw => by
    have hm := h m (by simp)
    rw [List.pairwise_cons] at hw
    have h1 := zer_asg hp hm.1 hm.2
    have ih := zer_asgL (ms := r) (p := asg p m) (by rw [asg_len]; exact hp) (fun l hl => by
      have h2 := h l (by simp [hl])
      have h3 := hw.1 l hl
      refine ⟨h2.1, ?_⟩
      rw [stV_asg hp hm.1 h2.1, if_neg (by rintro rfl; omega), if_neg (by rintro rfl; simp only [varOf, Int.neg_neg] at h3; omega)]
      exact h2.2) hw.2
    show zer (asgL (asg p m) r) + (r.length + 1) = zer p
    omega
theorem zer_imp {c : Con} (hc : cOk c = true) {p : List Int} (hp : p.length = 12) {k : Nat} (hk : k ≤ (impC c p).length) : zer (asgL p ((impC c p).take k)) + k = zer p := by
  have := zer_asgL (ms := (impC c p).take k) hp (fun m hm => by
    have hm := List.mem_of_mem_take hm
    obtain ⟨t, ht, rfl, h1, _⟩ := impC_mem hm
    exact ⟨impC_lit hc hm, h1⟩) ((imp_apart hc).take)
  rw [List.length_take, Nat.min_eq_left hk] at this; exact this
theorem zer_impA {c : Con} (hc : cOk c = true) {p : List Int} (hp : p.length = 12) : zer (asgL p (impC c p)) + (impC c p).length = zer p := by
  have := zer_imp hc hp (k := (impC c p).length) (Nat.le_refl _)
  rwa [List.take_length] at this
def rnd : List Con → Int → List Int → List Int × Int
  | [], _, p => (p, -1)
  | c :: r, i, p => if slV c p < 0 then (p, i) else rnd r (i + 1) (asgL p (impC c p))
def prop (l : List Con) (p : List Int) : List Int × Int :=
  if 0 ≤ (rnd l 0 p).2 then rnd l 0 p else if h : zer (rnd l 0 p).1 < zer p then prop l (rnd l 0 p).1 else rnd l 0 p
termination_by zer p
theorem rnd_cons {c : Con} {r : List Con} {i : Int} {p : List Int} : rnd (c :: r) i p = if slV c p < 0 then (p, i) else rnd r (i + 1) (asgL p (impC c p)) := rfl
theorem rnd_hit {l : List Con} {k : Nat} {p : List Int} (hk : k < l.length) (h : slV (l.getD k default) p < 0) : rnd (l.drop k) (k : Int) p = (p, (k : Int)) := by
  rw [qjm (d := default) hk, rnd_cons, if_pos h]
theorem rnd_step {l : List Con} {k : Nat} {p : List Int} (hk : k < l.length) (h : ¬ slV (l.getD k default) p < 0) : rnd (l.drop k) (k : Int) p = rnd (l.drop (k + 1)) ((k + 1 : Nat) : Int) (asgL p (impC (l.getD k default) p)) := by
  rw [qjm (d := default) hk, rnd_cons, if_neg h]; rfl
theorem rnd_end {l : List Con} {k : Nat} {i : Int} {p : List Int} (hk : l.length ≤ k) : rnd (l.drop k) i p = (p, -1) := by
  rw [List.drop_of_length_le hk]; rfl
theorem prop_bad {l : List Con} {p p' : List Int} {k : Nat} (h : rnd l 0 p = (p', (k : Int))) : prop l p = (p', (k : Int)) := by
  rw [prop, h]; simp
theorem prop_again {l : List Con} {p p' : List Int} (h : rnd l 0 p = (p', -1)) (h2 : zer p' < zer p) : prop l p = prop l p' := by
  rw [prop, h]; simp [h2]
theorem prop_done {l : List Con} {p p' : List Int} (h : rnd l 0 p = (p', -1)) (h2 : ¬ zer p' < zer p) : prop l p = (p', -1) := by
  rw [prop, h]; simp [h2]
theorem rnd_ok : ∀ {l : List Con} {i : Int} {p : List Int}, paOk p = true → paOk (rnd l i p).1 = true
  | [], i, p, h => h
  | c :: r, i, p, h => by
    rw [rnd_cons]
    split
    · exact h
    · exact rnd_ok (asgL_ok h)
theorem prop_ind {l : List Con} {P : List Int → Prop} (h : ∀ p, P p → P (rnd l 0 p).1) : ∀ {n : Nat} {p : List Int}, zer p ≤ n → P p → P (prop l p).1 := by
  intro n
  induction n with
  | zero =>
    intro p hn hp
    rw [prop]
    split
    · exact h p hp
    · split
      · omega
      · exact h p hp
  | succ n ih =>
    intro p hn hp
    rw [prop]
    split
    · exact h p hp
    · split
      · exact ih (by omega) (h p hp)
      · exact h p hp
theorem prop_ok {l : List Con} {p : List Int} (h : paOk p = true) : paOk (prop l p).1 = true :=
  prop_ind (P := fun p => paOk p = true) (fun _ h => rnd_ok h) (Nat.le_refl _) h
theorem rnd_rng : ∀ {l : List Con} {i : Int} {p : List Int}, 0 ≤ i → (rnd l i p).2 = -1 ∨ (i ≤ (rnd l i p).2 ∧ (rnd l i p).2 < i + l.length)
  | [], i, p, h => .inl rfl
  | c :: r, i, p, h => by
    rw [rnd_cons]
    split
    · right; simp only [List.length_cons]; omega
    · rcases rnd_rng (l := r) (i := i + 1) (p := asgL p (impC c p)) (by omega) with h | h
      · exact .inl h
      · right; simp only [List.length_cons]; omega
theorem prop_rng {l : List Con} : ∀ {n : Nat} {p : List Int}, zer p ≤ n → (prop l p).2 = -1 ∨ (0 ≤ (prop l p).2 ∧ (prop l p).2 < l.length) := by
  intro n
  induction n with
  | zero =>
    intro p hn
    have := rnd_rng (l := l) (i := 0) (p := p) (by decide)
    rw [prop]
    split
    · omega
    · split <;> omega
  | succ n ih =>
    intro p hn
    have := rnd_rng (l := l) (i := 0) (p := p) (by decide)
    rw [prop]
    split
    · omega
    · split
      · exact ih (by omega)
      · omega
end Go.Ab
/- What propagation means: fixed points, order, soundness. -/
set_option linter.unusedSimpArgs false
set_option linter.unusedVariables false
namespace Go.Ab
def sumF (f : Term → Int) : List Term → Int
  | [] => 0
  | t :: r => f t + sumF f r
theorem sumF_le {f g : Term → Int} : ∀ {ts : List Term}, (∀ t ∈ ts, f t ≤ g t) → sumF f ts ≤ sumF g ts
  | [], _ => Int.le_refl _
  | t :: r, h => by
    have h1 := h t (by simp)
    have h2 := sumF_le (ts := r) (fun t ht => h t (by simp [ht]))
    simp only [sumF]; omega
theorem sumF_lt {f g : Term → Int} {t0 : Term} {d : Int} : ∀ {ts : List Term}, (∀ t ∈ ts, f t ≤ g t) → t0 ∈ ts → f t0 + d ≤ g t0 → sumF f ts + d ≤ sumF g ts
  | [], _, h, _ => by simp at h
  | t :: r, h, hm, h0 => by
    have h1 := h t (by simp)
    simp only [sumF]
    rcases List.mem_cons.1 hm with rfl | hm
    · have h2 := sumF_le (ts := r) (fun t ht => h t (by simp [ht])); omega
    · have h2 := sumF_lt (ts := r) (fun t ht => h t (by simp [ht])) hm h0; omega
theorem sumF_eq {f g : Term → Int} {ts : List Term} (h : ∀ t ∈ ts, f t = g t) : sumF f ts = sumF g ts :=
  Int.le_antisymm (sumF_le fun t ht => Int.le_of_eq (h t ht)) (sumF_le fun t ht => Int.le_of_eq (h t ht).symm)
theorem sumV_F {bs : List Bool} : ∀ {ts : List Term}, sumV ts bs = sumF (fun t => if litV bs t.2 then t.1 else 0) ts
  | [] => rfl
  | t :: r => by rw [sumV_cons, sumV_F]; rfl
theorem slF_F {p : List Int} : ∀ {ts : List Term} {b : Int}, slF p ts b = b + sumF (fun t => if 0 ≤ stV p t.2 then t.1 else 0) ts
  | [], b => by simp [slF, sumF]
  | t :: r, b => by
    have e : slF p (t :: r) b = slF p r (if 0 ≤ stV p t.2 then b + t.1 else b) := rfl
    rw [e, slF_F]
    simp only [sumF]
    split <;> omega
theorem slV_F {c : Con} {p : List Int} : slV c p = sumF (fun t => if 0 ≤ stV p t.2 then t.1 else 0) c.1 - c.2 := by
  unfold slV; rw [slF_F]; omega
theorem stV_neg {p : List Int} {m : Int} (h : m ≠ 0) : stV p (-m) = -stV p m := by
  unfold stV
  by_cases h0 : m < 0
  · rw [if_pos h0, if_neg (by omega)]; simp
  · rw [if_neg h0, if_pos (by omega)]; simp
theorem litOk_opp {m : Int} (h : litOk m = true) : litOk (-m) = true := by rw [litOk_iff] at *; omega
def leP (p q : List Int) : Prop := ∀ m, litOk m = true → stV p m ≠ 0 → stV q m = stV p m
theorem leP_refl (p : List Int) : leP p p := fun _ _ _ => rfl
theorem leP_trans {p q r : List Int} (h : leP p q) (k : leP q r) : leP p r := fun m hm h0 => by
  have h1 := h m hm h0
  rw [k m hm (by rw [h1]; exact h0), h1]
theorem leP_asg {p : List Int} (hp : p.length = 12) {m : Int} (hm : litOk m = true) (h : stV p m = 0) : leP p (asg p m) := by
  intro l hl h0
  have hm0 := (litOk_iff.1 hm).1
  rw [stV_asg hp hm hl, if_neg (by rintro rfl; exact h0 h), if_neg (by rintro rfl; exact h0 (by rw [stV_neg hm0, h]; rfl))]
theorem leP_asgL : ∀ {ms : List Int} {p : List Int}, p.length = 12 → (∀ m ∈ ms, litOk m = true ∧ stV p m = 0) → ms.Pairwise (fun a b => varOf a < varOf b) → leP p (asgL p ms)
  | [], p, _, _, _ => leP_refl p
  | m :: r, p, hp, h, hw => by
    have hm := h m (by simp)
    rw [List.pairwise_cons] at hw
    refine leP_trans (leP_asg hp hm.1 hm.2) (leP_asgL (ms := r) (p := asg p m) (by rw [asg_len]; exact hp) (fun l hl => ?_) hw.2)
    have h2 := h l (by simp [hl])
    have h3 := hw.1 l hl
    refine ⟨h2.1, ?_⟩
    rw [stV_asg hp hm.1 h2.1, if_neg (by rintro rfl; omega), if_neg (by rintro rfl; simp only [varOf, Int.neg_neg] at h3; omega)]
    exact h2.2
theorem leP_imp {c : Con} (hc : cOk c = true) {p : List Int} (hp : p.length = 12) : leP p (asgL p (impC c p)) :=
  leP_asgL hp (fun m hm => let ⟨t, ht, e, h1, _⟩ := impC_mem hm; ⟨impC_lit hc hm, h1⟩) (imp_apart hc)
theorem leP_rnd : ∀ {l : List Con} {i : Int} {p : List Int}, l.all cOk = true → p.length = 12 → leP p (rnd l i p).1
  | [], i, p, _, _ => leP_refl p
  | c :: r, i, p, h, hp => by
    simp only [List.all_cons, Bool.and_eq_true] at h
    rw [rnd_cons]
    split
    · exact leP_refl p
    · exact leP_trans (leP_imp h.1 hp) (leP_rnd h.2 (by rw [qqc]; exact hp))
theorem rnd_len : ∀ {l : List Con} {i : Int} {p : List Int}, (rnd l i p).1.length = p.length
  | [], i, p => rfl
  | c :: r, i, p => by
    rw [rnd_cons]
    split
    · rfl
    · rw [rnd_len, qqc]
theorem leP_prop {l : List Con} (h : l.all cOk = true) {p : List Int} (hp : p.length = 12) : leP p (prop l p).1 := by
  have := prop_ind (l := l) (P := fun q => q.length = 12 ∧ leP p q) (fun q hq => ⟨by rw [rnd_len]; exact hq.1, leP_trans hq.2 (leP_rnd h hq.1)⟩) (n := zer p) (p := p) (Nat.le_refl _) ⟨hp, leP_refl p⟩
  exact this.2
def fixP (l : List Con) (q : List Int) : Prop := ∀ c ∈ l, 0 ≤ slV c q ∧ impC c q = []
theorem rnd_fix : ∀ {l : List Con} {i : Int} {p q : List Int}, l.all cOk = true → p.length = 12 → 0 ≤ i → rnd l i p = (q, -1) → zer q ≤ zer p ∧ (zer q = zer p → q = p ∧ fixP l p)
  | [], i, p, q, _, _, _, h => by
    have : p = q := congrArg Prod.fst h
    subst this
    exact ⟨Nat.le_refl _, fun _ => ⟨rfl, fun c hc => by simp at hc⟩⟩
  | c :: r, i, p, q, hl, hp, hi, h => by
    simp only [List.all_cons, Bool.and_eq_true] at hl
    rw [rnd_cons] at h
    split at h
    · have := congrArg Prod.snd h
      simp at this; omega
    · rename_i hs
      obtain ⟨h1, h2⟩ := rnd_fix hl.2 (by rw [qqc]; exact hp) (by omega) h
      have h3 := zer_impA hl.1 hp
      refine ⟨by omega, fun e => ?_⟩
      have h4 : (impC c p).length = 0 := by omega
      have h5 : impC c p = [] := List.length_eq_zero_iff.1 h4
      have h6 : asgL p (impC c p) = p := by rw [h5]; rfl
      rw [h6] at h2
      obtain ⟨rfl, h7⟩ := h2 e
      refine ⟨rfl, fun d hd => ?_⟩
      rcases List.mem_cons.1 hd with rfl | hd
      · exact ⟨by omega, h5⟩
      · exact h7 d hd
theorem prop_fix {l : List Con} (hl : l.all cOk = true) : ∀ {n : Nat} {p q : List Int}, zer p ≤ n → p.length = 12 → prop l p = (q, -1) → fixP l q := by
  intro n
  induction n with
  | zero =>
    intro p q hn hp h
    cases e : rnd l 0 p with
    | mk a b =>
      have hr := rnd_rng (l := l) (i := 0) (p := p) (by decide)
      rw [e] at hr
      rcases hr with hr | hr
      · dsimp only at hr; subst hr
        have h1 := rnd_fix hl hp (by decide) e
        rw [prop_done e (by omega)] at h
        obtain rfl : a = q := congrArg Prod.fst h
        obtain ⟨rfl, h2⟩ := h1.2 (by omega)
        exact h2
      · rw [prop, e] at h
        simp only [hr.1, if_true] at h
        have := congrArg Prod.snd h
        simp at this hr; omega
  | succ n ih =>
    intro p q hn hp h
    cases e : rnd l 0 p with
    | mk a b =>
      have hr := rnd_rng (l := l) (i := 0) (p := p) (by decide)
      rw [e] at hr
      rcases hr with hr | hr
      · dsimp only at hr; subst hr
        have h1 := rnd_fix hl hp (by decide) e
        by_cases hz : zer a < zer p
        · rw [prop_again e hz] at h
          exact ih (by omega) (by have := rnd_len (l := l) (i := 0) (p := p); rw [e] at this; exact this.trans hp) h
        · rw [prop_done e hz] at h
          obtain rfl : a = q := congrArg Prod.fst h
          obtain ⟨rfl, h2⟩ := h1.2 (by omega)
          exact h2
      · rw [prop, e] at h
        simp only [hr.1, if_true] at h
        have := congrArg Prod.snd h
        simp at this hr; omega
theorem below {c : Con} (hc : cOk c = true) {p q : List Int} (hp : paOk p = true) (hq : paOk q = true) (h : leP p q) (h1 : 0 ≤ slV c q) (h2 : impC c q = []) : 0 ≤ slV c p ∧ leP (asgL p (impC c p)) q := by
  have hlt : ∀ t ∈ c.1, litOk t.2 = true ∧ 1 ≤ t.1 ∧ t.1 ≤ 1000 := qzs (cOk_ok hc)
  have hle : ∀ t ∈ c.1, (if 0 ≤ stV q t.2 then t.1 else 0) ≤ (if 0 ≤ stV p t.2 then t.1 else 0) := fun t ht => by
    have h3 := hlt t ht
    by_cases h4 : 0 ≤ stV p t.2
    · rw [if_pos h4]; split <;> omega
    · rw [if_neg h4, if_neg (by rw [h t.2 h3.1 (by omega)]; exact h4)]; exact Int.le_refl _
  have hs : slV c q ≤ slV c p := by rw [slV_F, slV_F]; have := sumF_le hle; omega
  refine ⟨by omega, ?_⟩
  have key : ∀ m ∈ impC c p, stV q m = 1 := by
    intro m hm
    obtain ⟨t, ht, rfl, h3, h4⟩ := impC_mem hm
    have h5 := hlt t ht
    have hr := stV_rng hq t.2
    by_cases e0 : stV q t.2 = 0
    · exfalso
      have : t.2 ∈ impC c q := List.mem_map.2 ⟨t, List.mem_filter.2 ⟨ht, by rw [decide_eq_true_eq]; exact ⟨e0, by omega⟩⟩, rfl⟩
      rw [h2] at this; simp at this
    · by_cases e1 : stV q t.2 = -1
      · exfalso
        have := sumF_lt (d := t.1) hle ht (by rw [if_neg (by omega), if_pos (by omega)]; omega)
        rw [slV_F] at h1 h4; omega
      · omega
  have hmono : ∀ {ms : List Int} {p : List Int}, p.length = 12 → leP p q → (∀ m ∈ ms, litOk m = true ∧ stV q m = 1) → leP (asgL p ms) q := by
    intro ms
    induction ms with
    | nil => intro p _ h _; exact h
    | cons m r ih =>
      intro p hp h hm
      have hm0 := hm m (by simp)
      refine ih (p := asg p m) (by rw [asg_len]; exact hp) (fun l hl h0 => ?_) (fun m hm' => hm m (by simp [hm']))
      rw [stV_asg hp hm0.1 hl] at h0 ⊢
      by_cases e1 : l = m
      · subst e1; rw [if_pos rfl]; exact hm0.2
      · rw [if_neg e1] at h0 ⊢
        by_cases e2 : l = -m
        · subst e2; rw [if_pos rfl, stV_neg (litOk_iff.1 hm0.1).1, hm0.2]
        · rw [if_neg e2] at h0 ⊢; exact h l hl h0
  exact hmono (qjv hp) h (fun m hm => ⟨impC_lit hc hm, key m hm⟩)
theorem rnd_below : ∀ {l : List Con} {i : Int} {p q : List Int}, l.all cOk = true → paOk p = true → paOk q = true → leP p q → fixP l q → (rnd l i p).2 = -1 ∧ leP (rnd l i p).1 q
  | [], i, p, q, _, _, _, h, _ => ⟨rfl, h⟩
  | c :: r, i, p, q, hl, hp, hq, h, hf => by
    simp only [List.all_cons, Bool.and_eq_true] at hl
    have h1 := hf c (by simp)
    have h2 := below hl.1 hp hq h h1.1 h1.2
    rw [rnd_cons, if_neg (by omega)]
    exact rnd_below hl.2 (asgL_ok hp) hq h2.2 (fun d hd => hf d (by simp [hd]))
theorem prop_below {l : List Con} (hl : l.all cOk = true) {q : List Int} (hq : paOk q = true) (hf : fixP l q) : ∀ {n : Nat} {p : List Int}, zer p ≤ n → paOk p = true → leP p q → (prop l p).2 = -1 ∧ leP (prop l p).1 q := by
  intro n
  induction n with
  | zero =>
    intro p hn hp h
    have h1 := rnd_below (i := 0) hl hp hq h hf
    rw [prop, if_neg (by omega), dif_neg (by omega)]; exact h1
  | succ n ih =>
    intro p hn hp h
    have h1 := rnd_below (i := 0) hl hp hq h hf
    rw [prop, if_neg (by omega)]
    split
    · exact ih (by omega) (rnd_ok hp) h1.2
    · exact h1
def agB (p : List Int) (bs : List Bool) : Prop := ∀ m, litOk m = true → stV p m = 1 → litV bs m = true
def zeroP : List Int := List.replicate 12 0
theorem zero_ok : paOk zeroP = true := by decide
theorem stV_zeroP {m : Int} : stV zeroP m = 0 := by
  have : ∀ k, zeroP.getD k default = 0 := fun k => by
    unfold zeroP
    rw [List.getD_eq_getElem?_getD, List.getElem?_replicate]
    split <;> rfl
  unfold stV; rw [this, this]; split <;> rfl
def rupV (l : List Con) (c : Con) : Bool := decide (0 ≤ (prop (l ++ [negC c]) zeroP).2)
theorem rup_no {l : List Con} {c : Con} (hl : l.all cOk = true) (hc : cOk c = true) (h : rupV l c = false) : ∃ q, paOk q = true ∧ fixP l q ∧ 0 ≤ slV (negC c) q ∧ impC (negC c) q = [] := by
  have hl2 : (l ++ [negC c]).all cOk = true := by rw [List.all_append, hl]; simp [negC_ok hc]
  unfold rupV at h
  rw [decide_eq_false_iff_not] at h
  have h1 := prop_rng (l := l ++ [negC c]) (n := zer zeroP) (p := zeroP) (Nat.le_refl _)
  have h2 : prop (l ++ [negC c]) zeroP = ((prop (l ++ [negC c]) zeroP).1, -1) := Prod.ext rfl (by dsimp only; omega)
  have h3 := prop_fix hl2 (Nat.le_refl _) (by rfl) h2
  exact ⟨_, prop_ok zero_ok, fun d hd => h3 d (by simp [hd]), h3 _ (by simp)⟩
theorem neg_clause {ts : List Term} {q : List Int} (hq : paOk q = true) (hk : okFrom 0 (ts.map oneT) = true) (h1 : 0 ≤ slV (negC (ts.map oneT, 1)) q) (h2 : impC (negC (ts.map oneT, 1)) q = []) : ∀ t ∈ ts, stV q t.2 = -1 := by
  have hlt := qzs hk
  have htot : ∀ {ts : List Term}, totV (ts.map oneT) = ts.length := by
    intro ts
    induction ts with
    | nil => rfl
    | cons t r ih => rw [List.map_cons, totV_cons, ih, List.length_cons]; simp only [oneT]; omega
  have hn1 : (negC (ts.map oneT, 1)).1 = (ts.map oneT).map negT := rfl
  have hn2 : (negC (ts.map oneT, 1)).2 = ts.length := by
    show max 0 (totV (ts.map oneT) - 1 + 1) = _
    rw [htot]; omega
  have hlen : ∀ {us : List Term}, (∀ t ∈ us, t.1 = 1) → sumF (fun t => t.1) us = us.length := by
    intro us
    induction us with
    | nil => intro _; rfl
    | cons t r ih => intro h; simp only [sumF, List.length_cons]; rw [ih (fun t ht => h t (by simp [ht])), h t (by simp)]; omega
  have hone : ∀ u ∈ (ts.map oneT).map negT, u.1 = 1 := by
    intro u hu
    obtain ⟨a, ha, rfl⟩ := List.mem_map.1 hu
    obtain ⟨t, _, rfl⟩ := List.mem_map.1 ha
    rfl
  have hl2 := hlen hone
  rw [slV_F, hn1, hn2] at h1
  simp only [List.length_map] at hl2
  have hle : ∀ u ∈ (ts.map oneT).map negT, (if 0 ≤ stV q u.2 then u.1 else 0) ≤ u.1 := fun u hu => by
    have := hone u hu; split <;> omega
  intro t ht
  have hmem : negT (oneT t) ∈ (ts.map oneT).map negT := List.mem_map.2 ⟨_, List.mem_map.2 ⟨t, ht, rfl⟩, rfl⟩
  have hlo := (hlt (oneT t) (List.mem_map.2 ⟨t, ht, rfl⟩)).1
  have hm0 : t.2 ≠ 0 := (litOk_iff.1 hlo).1
  have hst : stV q (negT (oneT t)).2 = -stV q t.2 := stV_neg hm0
  have hr := stV_rng hq t.2
  by_cases e1 : stV q t.2 = 1
  · exfalso
    have h3 := sumF_lt (d := 1) (g := Prod.fst) hle hmem (by rw [if_neg (by omega), hone _ hmem]; decide)
    have h4 : sumF Prod.fst ((ts.map oneT).map negT) = ts.length := hl2
    omega
  · by_cases e0 : stV q t.2 = 0
    · exfalso
      have hs : slV (negC (ts.map oneT, 1)) q ≤ 0 := by
        rw [slV_F, hn1, hn2]
        have h3 := sumF_le (g := Prod.fst) hle
        have h4 : sumF Prod.fst ((ts.map oneT).map negT) = ts.length := hl2
        omega
      have : (negT (oneT t)).2 ∈ impC (negC (ts.map oneT, 1)) q := List.mem_map.2 ⟨_, List.mem_filter.2 ⟨hmem, by rw [decide_eq_true_eq]; exact ⟨by omega, by rw [hone _ hmem]; exact Int.lt_of_le_of_lt hs (by decide)⟩⟩, rfl⟩
      rw [h2] at this; simp at this
    · omega
end Go.Ab
/- Rows in which literals are made true. -/
set_option linter.unusedSimpArgs false
set_option linter.unusedVariables false
namespace Go.Ab
theorem asg_rowp {p : List Int} {m : Int} (h : 0 < m) : (p.map dI).set (m - 1).toNat [.p (.int .i64 1)] = (asg p m).map dI := by
  unfold asg varOf
  rw [if_neg (by omega), List.map_set, show max m (-m) - 1 = m - 1 by omega]; rfl
theorem asg_rown {p : List Int} {m : Int} (h : m ≤ 0) (h0 : m ≠ 0) : (p.map dI).set (-m - 1).toNat [.p (.int .i64 (-1))] = (asg p m).map dI := by
  unfold asg varOf
  rw [if_pos (by omega), List.map_set, show max m (-m) - 1 = -m - 1 by omega]; rfl
end Go.Ab
namespace Go.Ab
def failS (l : List Con) (ms : List Int) : List Int := ms.filter (fun m => decide (0 ≤ (prop l (justV m)).2))
def failN (l : List Con) : Nat → List Int
  | 0 => []
  | k + 1 => failN l k ++ failS l [(k : Int) + 1, -((k : Int) + 1)]
def failL (l : List Con) : List Int := if pOk l then failN l 12 else []
end Go.Ab
/- Clauses of a constraint are least, and follow by reverse unit propagation. -/
set_option linter.unusedSimpArgs false
set_option linter.unusedVariables false
namespace Go.Ab
def rupB (l : List Con) (c : Con) : Bool := pOk l && (cOk c && rupV l c)
end Go.Ab
/- Problems made simpler. -/
set_option linter.unusedSimpArgs false
set_option linter.unusedVariables false
namespace Go.Ab
def stT (b : Int) (t : Term) : Term := (min t.1 b, t.2)
def stC (c : Con) : Con := if 0 < c.2 then (c.1.map (stT c.2), c.2) else ([], c.2)
def flt (l : List Con) : List Con := l.filter (fun c => decide (0 < c.2))
def stL (l : List Con) : List Con := (flt l).map stC
def stepL (l : List Con) : List Con := uncL (stL l)
def wt (c : Con) : Nat := 1 + (sumF (fun t => t.1) c.1).toNat
def mu (l : List Con) : Nat := (l.map wt).sum
def simpL (l : List Con) : List Con := if stepL l = l then l else if h : mu (stepL l) < mu l then simpL (stepL l) else l
termination_by mu l
def quiet (c : Con) : Prop := 0 ≤ slV c zeroP ∧ impC c zeroP = []
def quietL (l : List Con) : Prop := ∀ c ∈ l, 0 < c.2 → quiet c
def sOk (l : List Con) : Bool := pOk l && decide ((prop l zeroP).2 < 0)
def sP (l : List Con) : List Int := if sOk l then (prop l zeroP).1 else []
def sL (l : List Con) : List Con := if sOk l then simpL (l.map (fixC (prop l zeroP).1)) else []
def exB (p : List Int) (bs : List Bool) : Bool := paOk p && (decide (bs.length = 12) && (List.range 12).all (fun i => decide (p.getD i default = 0) || decide (bs.getD i default = decide (0 < p.getD i default))))
end Go.Ab
namespace Go.Ab
end Go.Ab
namespace Go.Ab
def exN (p : List Int) (bs : List Bool) (k : Nat) : Bool := (List.range k).all (fun i => decide (p.getD i default = 0) || decide (bs.getD i default = decide (0 < p.getD i default)))
end Go.Ab
namespace Go.Ab
end Go.Ab
namespace Go.Ab
end Go.Ab

/- Problems: lists of constraints; the first element of a kind; constraints changed. -/
import Derived.Test.YtikknnpdiahnoaaLaws1
set_option linter.unusedSimpArgs false
set_option linter.unusedVariables false
namespace Go.Ab
def idxF {α : Type} (p : α → Bool) : List α → Int → Int
  | [], _ => -1
  | a :: r, k => if p a then k else idxF p r (k + 1)
theorem idxF_hit {α : Type} {p : α → Bool} {d : α} {l : List α} {k : Nat} (h : k < l.length) (hp : p (l.getD k d) = true) : idxF p (l.drop k) (k : Int) = (k : Int) := by
  rw [drop_getD (d := d) h, idxF, if_pos hp]
theorem idxF_skip {α : Type} {p : α → Bool} {d : α} {l : List α} {k : Nat} (h : k < l.length) (hp : p (l.getD k d) = false) : idxF p (l.drop k) (k : Int) = idxF p (l.drop (k + 1)) ((k + 1 : Nat) : Int) := by
  rw [drop_getD (d := d) h, idxF, if_neg (by rw [hp]; decide)]; rfl
theorem idxF_end {α : Type} {p : α → Bool} {l : List α} {k : Nat} (h : l.length ≤ k) {i : Int} : idxF p (l.drop k) i = -1 := by
  rw [List.drop_of_length_le h]; rfl
theorem idxF_any {α : Type} {p : α → Bool} : ∀ {l : List α} {k : Int}, 0 ≤ k → decide (0 ≤ idxF p l k) = l.any p
  | [], k, _ => rfl
  | a :: r, k, h => by
    rw [idxF, List.any_cons]
    cases hp : p a
    · rw [if_neg (by decide), idxF_any (by omega)]; rfl
    · rw [if_pos rfl]; simp [h]
theorem not_any_not {α : Type} {p : α → Bool} {l : List α} : (!l.any (fun c => !p c)) = l.all p := by
  induction l with
  | nil => rfl
  | cons a r ih => rw [List.any_cons, List.all_cons, Bool.not_or, ih, Bool.not_not]
theorem all_next {α : Type} {p : α → Bool} {d : α} {l : List α} {k : Nat} (h : (l.take k).all p = true) (hk : k < l.length) (hp : p (l.getD k d) = true) : (l.take (k + 1)).all p = true := by
  rw [take_succD (d := d) hk, List.all_append, h, List.all_cons, hp]; rfl
theorem all_no {α : Type} {p : α → Bool} {d : α} {l : List α} {k : Nat} (hk : k < l.length) (hp : p (l.getD k d) = false) : l.all p = false := by
  rw [Bool.eq_false_iff]
  intro h
  have := List.all_eq_true.1 h _ (getD_mem (d := d) hk)
  rw [hp] at this; cases this
theorem all_at {α : Type} {p : α → Bool} {d : α} {l : List α} {k : Nat} (h : l.all p = true) (hk : k < l.length) : p (l.getD k d) = true := List.all_eq_true.1 h _ (getD_mem hk)
theorem all_full {α : Type} {p : α → Bool} {l : List α} {k : Nat} (h : (l.take k).all p = true) (hk : l.length ≤ k) : l.all p = true := by rwa [List.take_of_length_le hk] at h
/-! ### Problems -/
def pOk (l : List Con) : Bool := decide (l.length ≤ 400) && l.all cOk
def satV (l : List Con) (bs : List Bool) : Bool := l.all (fun c => holdsV c bs)
def saV (l : List Con) (bs : List Bool) : Bool := pOk l && decide (bs.length = 12) && satV l bs
def cntS (l : List Con) (k : Nat) : Nat := (List.range k).countP (fun n => satV l (assn n))
def csV (l : List Con) : Int := if pOk l then ((cntS l 4096 : Nat) : Int) else 0
def vC (c : Con) : Con := if cOk c then c else ([], 0)
def chT (f : Int → Int) (t : Term) : Term := (f t.1, t.2)
def chC (f : Int → Int) (c : Con) : Con := (c.1.map (chT f), f c.2)
def kOk (c : Con) (k : Int) : Bool := cOk c && decide (1 ≤ k ∧ k ≤ 1000)
def chR (f : Int → Int) (c : Con) (k : Int) : Con := if kOk c k then vC (chC f c) else ([], 0)
def chB (f : Int → Int) (c : Con) (k : Int) : Bool := kOk c k && cOk (chC f c)
def mulK (k n : Int) : Int := n * k
def divK (k n : Int) : Int := (n + k - 1) / k
/-- The term of a variable left out. -/
def weakT (v : Int) (ts : List Term) : List Term := ts.filter (fun t => decide (varOf t.2 ≠ v))
def weakB (v : Int) (ts : List Term) (b : Int) : Int := ts.foldl (fun s t => if varOf t.2 = v then s - t.1 else s) b
def wOk (c : Con) (v : Int) : Bool := cOk c && decide (1 ≤ v ∧ v ≤ 12)
def weakC (c : Con) (v : Int) : Con := if wOk c v then (weakT v c.1, max 0 (weakB v c.1 c.2)) else ([], 0)
def divR (c : Con) (k : Int) : Con := if kOk c k then chC (divK k) c else ([], 0)
end Go.Ab
namespace Go.Ab
end Go.Ab
namespace Go.Ab
def okP (l : List Con) (n m : Nat) : Prop := l.length ≤ n ∧ ∀ c ∈ l, c.1.length ≤ m
end Go.Ab

/- Constraints, told in plain lists. -/
import Derived.Test.YtikknnpdiahnoaaVals
set_option linter.unusedSimpArgs false
set_option linter.unusedVariables false
set_option linter.unnecessarySimpa false
namespace Go.Ab
def litOk (n : Int) : Bool := decide (n ≠ 0 ∧ -12 ≤ n ∧ n ≤ 12)
def varOf (n : Int) : Int := max n (-n)
theorem litOk_iff {n : Int} : litOk n = true ↔ (n ≠ 0 ∧ -12 ≤ n ∧ n ≤ 12) := by simp [litOk]
def okFrom : Int → List Term → Bool
  | _, [] => true
  | p, t :: r => litOk t.2 && (decide (p < varOf t.2) && (decide (1 ≤ t.1 ∧ t.1 ≤ 1000) && okFrom (varOf t.2) r))
def cOk (c : Con) : Bool := okFrom 0 c.1 && decide (0 ≤ c.2 ∧ c.2 ≤ 20000)
theorem drop_getD {α : Type} {d : α} {l : List α} {k : Nat} (h : k < l.length) : l.drop k = l.getD k d :: l.drop (k + 1) := by
  rw [List.drop_eq_getElem_cons h, List.getD_eq_getElem?_getD, List.getElem?_eq_getElem h, Option.getD_some]
def prevV (ts : List Term) (k : Nat) : Int := if k = 0 then 0 else varOf (ts.getD (k - 1) default).2
end Go.Ab
namespace Go.Ab
/-! ### Common divisors -/
def gcdL (ts : List Term) : Nat := ts.foldl (fun g t => Nat.gcd t.1.toNat g) 0
def cdiv (c : Con) : Int := if cOk c then ((gcdL c.1 : Nat) : Int) else 0
theorem okFrom_all : ∀ {ts : List Term} {p : Int}, okFrom p ts = true → ∀ t ∈ ts, litOk t.2 = true ∧ 1 ≤ t.1 ∧ t.1 ≤ 1000
  | [], _, _, t, ht => by simp at ht
  | x :: r, p, h, t, ht => by
    simp only [okFrom, Bool.and_eq_true, decide_eq_true_eq] at h
    rcases List.mem_cons.1 ht with rfl | ht
    · exact ⟨h.1, h.2.2.1⟩
    · exact okFrom_all h.2.2.2 t ht
theorem getD_mem {α : Type} {d : α} {l : List α} {k : Nat} (h : k < l.length) : l.getD k d ∈ l := by
  rw [List.getD_eq_getElem?_getD, List.getElem?_eq_getElem h, Option.getD_some]; exact List.getElem_mem h
def szv (n : Nat) (k : Int) : Int := if (n : Int) ≤ k then k - n else -1
end Go.Ab
namespace Go.Ab
/-! ### Marks of numbers and terms -/
def marksI (k n : Nat) : List Int := (List.range n).map (fun i => ((k + i : Nat) : Int))
def markT (k i : Nat) : Term := (((k + 2 * i : Nat) : Int), ((k + 2 * i + 1 : Nat) : Int))
def marksT (k n : Nat) : List Term := (List.range n).map (markT k)
def varsFrom : Int → List Int → Bool
  | _, [] => true
  | p, v :: r => decide (p < v) && (decide (1 ≤ v ∧ v ≤ 12) && varsFrom v r)
def prevI (vs : List Int) (k : Nat) : Int := if k = 0 then 0 else vs.getD (k - 1) default
def exT (bs : List Bool) (v : Int) : Term := (1, if bs.getD (v - 1).toNat default then -v else v)
def exTs (vs : List Int) (bs : List Bool) : List Term := vs.map (exT bs)
def exOk (vs : List Int) (bs : List Bool) : Bool := varsFrom 0 vs && decide (bs.length = 12)
def exC (vs : List Int) (bs : List Bool) : Con := if exOk vs bs then (exTs vs bs, 1) else ([], 0)
end Go.Ab
namespace Go.Ab
end Go.Ab
namespace Go.Ab
end Go.Ab

/- All values of twelve variables, told in plain lists. -/
set_option linter.unusedSimpArgs false
set_option linter.unusedVariables false
set_option linter.unnecessarySimpa false
namespace Go.Ab
def assn (n : Nat) : List Bool := (List.range 12).map (fun i => n.testBit (11 - i))
def enc : List Bool → Nat
  | [] => 0
  | b :: r => 2 ^ r.length * (if b then 1 else 0) + enc r
def litV (bs : List Bool) (l : Int) : Bool := bs.getD (varOf l - 1).toNat default == decide (0 < l)
def term (bs : List Bool) (t : Term) : Int := if litV bs t.2 then t.1 else 0
def sumV (ts : List Term) (bs : List Bool) : Int := ts.foldl (fun s t => s + term bs t) 0
def holdsV (c : Con) (bs : List Bool) : Bool := decide (c.2 ≤ sumV c.1 bs)
def totV (ts : List Term) : Int := ts.foldl (fun s t => s + t.1) 0
def sbf (a b : Con) : Nat → Int × Bool
  | 0 => (0, false)
  | k + 1 => if holdsV a (assn k) then (if (sbf a b k).2 = false ∨ sumV b.1 (assn k) < (sbf a b k).1 then (sumV b.1 (assn k), true) else sbf a b k) else sbf a b k
def leastV (a b : Con) (k : Nat) : Int := if (sbf a b k).2 then (sbf a b k).1 else -1

/-! ### All literals at once -/
def allTrue (ts : List Term) : List Bool := (List.range 12).map (fun (i : Nat) => ts.any (fun t => decide (t.2 = (i : Int) + 1)))
end Go.Ab
namespace Go.Ab
/-! ### The rows of bits while they are made -/
def pa (n k : Nat) : List Bool := (List.range 12).map (fun j => if j < k then n.testBit (11 - j) else false)
def pb (n k : Nat) : List Bool := (List.range 12).map (fun j => if 12 - k ≤ j then n.testBit (11 - j) else false)
end Go.Ab
namespace Go.Ab
end Go.Ab
namespace Go.Ab
def sbR (a b : Con) : Int × Bool := if cOk a && cOk b then sbf a b 4096 else (0, false)
def icR (a b : Con) : Bool := if cOk a && cOk b then (!(sbR a b).2 || decide (b.2 ≤ (sbR a b).1)) else false
end Go.Ab

/- How many values have each sum: by enumeration, by a table. -/
set_option linter.unusedSimpArgs false
set_option linter.unusedVariables false
set_option linter.unnecessarySimpa false
namespace Go.Ab
/-- How many of the first 'k' values have this sum. -/
def cnt (ts : List Term) (k : Nat) (s : Int) : Nat := (List.range k).countP (fun n => decide (sumV ts (assn n) = s))
end Go.Ab
namespace Go.Ab
def tabF (ts : List Term) : Int → Nat := ts.foldl (fun f t => fun s => f s + f (s - t.1)) (fun s => if s = 0 then 1 else 0)
end Go.Ab
namespace Go.Ab
/-! ### The rows of the tables -/
def rowI (N : Nat) (f : Nat → Nat) : List Int := (List.range N).map (fun s => ((f s : Nat) : Int))
def totN (ts : List Term) : Nat := (totV ts).toNat
def cntRow (ts : List Term) (k : Nat) : List Int := rowI (totN ts + 1) (fun s => cnt ts k s)
end Go.Ab
namespace Go.Ab
def nx (F : Nat → Nat) (a i j s : Nat) : Nat := (if s < i then F s else 0) + (if a ≤ s ∧ s - a < j then F (s - a) else 0)
def tabS (ts : List Term) (k : Nat) (s : Nat) : Nat := tabF (ts.take k) s
def rowT (ts : List Term) (k : Nat) : List Int := rowI (totN (ts.take k) + 1) (tabS ts k)
end Go.Ab
namespace Go.Ab
end Go.Ab
namespace Go.Ab
end Go.Ab
namespace Go.Ab
def sumTab (c : Con) : List Int := if cOk c then cntRow c.1 4096 else []
end Go.Ab

/- Counting the values that satisfy a constraint; the next bound that is a sum. -/
set_option linter.unusedSimpArgs false
set_option linter.unusedVariables false
set_option linter.unnecessarySimpa false
namespace Go.Ab
/-- How many of the first k values satisfy c. -/
def cntH (c : Con) (k : Nat) : Nat := (List.range k).countP (fun n => holdsV c (assn n))
/-- The sum of a table's entries from 'b' below 'm'. -/
def upto (f : Nat → Nat) (b : Nat) : Nat → Nat
  | 0 => 0
  | m + 1 => upto f b m + (if b ≤ m then f m else 0)
def ccV (c : Con) : Int := if cOk c then ((cntH c 4096 : Nat) : Int) else 0
end Go.Ab
namespace Go.Ab
end Go.Ab
namespace Go.Ab
/-- The bound raised while its entry is zero. -/
def raise (f : Nat → Nat) (N : Nat) : Nat → Nat → Nat
  | 0, b => b
  | k + 1, b => if b < N ∧ f b = 0 then raise f N k (b + 1) else b
def tbB (c : Con) : Nat := raise (fun s => cnt c.1 4096 s) (totN c.1 + 1) (totN c.1 + 1) c.2.toNat
def tbC (c : Con) : Con := if cOk c then (c.1, ((tbB c : Nat) : Int)) else ([], 0)
end Go.Ab
namespace Go.Ab
end Go.Ab
namespace Go.Ab
end Go.Ab

/- The drawing of numbers, told plainly. -/
set_option linter.unusedSimpArgs false
set_option linter.unusedVariables false
namespace Go.Ab
def okB (b : List Int) : Prop := b.length ≤ 2000 ∧ ∀ a ∈ b, 0 ≤ a ∧ a ≤ 255
theorem okB_at {b : List Int} (h : okB b) (k : Nat) : 0 ≤ b.getD k default ∧ b.getD k default ≤ 255 := by
  by_cases hk : k < b.length
  · have e : b.getD k default = b[k] := by simp [hk]
    rw [e]; exact h.2 _ (List.getElem_mem hk)
  · have e : b.getD k default = 0 := by simp [List.getElem?_eq_none (show b.length ≤ k by omega)]
    rw [e]; omega
theorem okB_take {b : List Int} {n : Nat} (hn : n ≤ 2000) (h : ∀ a ∈ b, 0 ≤ a ∧ a ≤ 255) : okB (b.take n) := ⟨by rw [List.length_take]; omega, fun a ha => h a (List.mem_of_mem_take ha)⟩
def mixI (b : List Int) (k : Nat) : Int := b.getD (k % b.length) default * 131 + b.getD ((k * 7 + 3) % b.length) default * 1117 + (k : Int) * 29 + (k : Int) / (b.length : Int) * 53
theorem mix_bounds {b : List Int} {k : Nat} (h : okB b) (hk : k ≤ 1099511627776) (hl : b.length ≠ 0) : 0 ≤ mixI b k ∧ mixI b k ≤ 281474976710656 := by
  have h1 := okB_at h (k % b.length)
  have h2 := okB_at h ((k * 7 + 3) % b.length)
  have h3 : 0 ≤ (k : Int) / (b.length : Int) := Int.ediv_nonneg (by omega) (by omega)
  have h4 : (k : Int) / (b.length : Int) ≤ k := Int.ediv_le_self _ (by omega)
  unfold mixI
  omega
def pickV (b : List Int) (p : Nat) (n : Int) : Int :=
  if n < 1 ∨ b.length = 0 then 0 else if p < b.length then b.getD p default % n else (((mixI b p).toNat ^^^ (mixI b p / 64).toNat : Nat) : Int) % n
theorem pickV_lt {b : List Int} {p : Nat} {n : Int} (h : 1 ≤ n) : 0 ≤ pickV b p n ∧ pickV b p n < n := by
  unfold pickV
  split
  · omega
  · split
    · exact ⟨Int.emod_nonneg _ (by omega), Int.emod_lt_of_pos _ (by omega)⟩
    · exact ⟨Int.emod_nonneg _ (by omega), Int.emod_lt_of_pos _ (by omega)⟩
def ofV {α : Type} [Inhabited α] (b : List Int) (p : Nat) (l : List α) : α := l.getD (pickV b p (l.length : Nat)).toNat default
theorem ofV_mem {α : Type} [Inhabited α] {b : List Int} {p : Nat} {l : List α} (h : 0 < l.length) : ofV b p l ∈ l := by
  have h1 := pickV_lt (b := b) (p := p) (n := (l.length : Nat)) (by omega)
  unfold ofV
  have h2 : (pickV b p (l.length : Nat)).toNat < l.length := by omega
  rw [List.getD_eq_getElem?_getD, List.getElem?_eq_getElem h2, Option.getD_some]
  exact List.getElem_mem h2
theorem ofV_lt {α : Type} {b : List Int} {p : Nat} {l : List α} (h : 0 < l.length) : 0 ≤ pickV b p (l.length : Nat) ∧ (pickV b p (l.length : Nat)).toNat < l.length := by
  have h1 := pickV_lt (b := b) (p := p) (n := (l.length : Nat)) (by omega)
  omega
end Go.Ab
namespace Go.Ab
end Go.Ab

/- What the laws on counts and on exclusion say, told plainly. -/
set_option linter.unusedSimpArgs false
set_option linter.unusedVariables false
namespace Go.Ab
def evV (c : Con) (bs : List Bool) : Bool := cOk c && decide (bs.length = 12) && holdsV c bs
/-! ### Exclusion -/
def diffV (vs : List Int) (bs os : List Bool) : Bool := vs.any (fun v => bs.getD (v - 1).toNat default != os.getD (v - 1).toNat default)
def negT (t : Term) : Term := (t.1, -t.2)
def negC (c : Con) : Con := (c.1.map negT, max 0 (totV c.1 - c.2 + 1))
def negR (c : Con) : Con := if cOk c then negC c else ([], 0)
/-! ### Terms changed in place -/
end Go.Ab
namespace Go.Ab
def sclT (k : Int) (t : Term) : Term := (t.1 * k, t.2)
theorem ofV_in {b : List Int} {p : Nat} {l : List Int} {lo hi : Int} (h : 0 < l.length) (h2 : ∀ t ∈ l, lo ≤ t ∧ t ≤ hi) : lo ≤ ofV b p l ∧ ofV b p l ≤ hi := h2 _ (ofV_mem h)
end Go.Ab
namespace Go.Ab
end Go.Ab
namespace Go.Ab
/-! ### Drawn constraints -/
def l1D (b : List Int) (p : Nat) : Nat → List Term × Nat
  | 0 => ([], p)
  | k + 1 => if pickV b (l1D b p k).2 2 = 0 then ((l1D b p k).1 ++ [(ofV b ((l1D b p k).2 + 1) ([1, 1, 2, 3, 1, 5, 4] : List Int), if pickV b ((l1D b p k).2 + 2) 2 = 0 then -((k : Int) + 1) else (k : Int) + 1)], (l1D b p k).2 + 3) else ((l1D b p k).1, (l1D b p k).2 + 1)
def l1C (b : List Int) (p : Nat) (most : Int) : Con × Nat :=
  let d := l1D b p most.toNat
  if pickV b (d.2 + 1) 4 = 0 then ((d.1, pickV b (d.2 + 2) (totV d.1 + 2)), d.2 + 3) else ((d.1, ofV b d.2 ([1, 2, 1, 3, 0] : List Int)), d.2 + 2)
/-- A constraint, sometimes made invalid. -/
def mutC (b : List Int) (p : Nat) (c : Con) : Con × Nat :=
  if pickV b p 40 = 0 then ((c.1, ofV b (p + 1) ([-1, 20001, 9223372036854775807] : List Int)), p + 2)
  else if pickV b p 40 = 1 then (if 0 < c.1.length then ((c.1.set 0 (ofV b (p + 1) ([0, -1, 1001] : List Int), (c.1.getD 0 default).2), c.2), p + 2) else (c, p + 1))
  else if pickV b p 40 = 2 then (if 0 < c.1.length then ((c.1.set (c.1.length - 1) ((c.1.getD (c.1.length - 1) default).1, ofV b (p + 1) ([0, 13, -13, 1, -9223372036854775808] : List Int)), c.2), p + 2) else (c, p + 1))
  else if pickV b p 40 = 3 then ((c.1 ++ [(1, 1)], c.2), p + 1) else (c, p + 1)
def l15C (b : List Int) (p : Nat) : Con × Nat :=
  let d := l1C b (p + 1) (ofV b p ([4, 5, 3, 8] : List Int))
  let ts := d.1.1.map (sclT (ofV b d.2 ([1, 2, 3, 1] : List Int)))
  ((ts, pickV b (d.2 + 1) (totV ts + 2)), d.2 + 2)
/-- Drawn values. -/
def valB (b : List Int) (p : Nat) (n : Nat) : List Bool := (List.range n).map (fun i => decide (pickV b (p + i) 2 = 0))
def valV (b : List Int) (p : Nat) : List Bool := if pickV b (p + 12) 40 = 0 then (valB b p 12).take 11 else valB b p 12
end Go.Ab

/- Problems: lists of constraints; the first element of a kind; constraints changed. -/
set_option linter.unusedSimpArgs false
set_option linter.unusedVariables false
namespace Go.Ab
def idxF {α : Type} (p : α → Bool) : List α → Int → Int
  | [], _ => -1
  | a :: r, k => if p a then k else idxF p r (k + 1)
theorem idxF_hit {α : Type} {p : α → Bool} {d : α} {l : List α} {k : Nat} (h : k < l.length) (hp : p (l.getD k d) = true) : idxF p (l.drop k) (k : Int) = (k : Int) := by
  rw [drop_getD (d := d) h, idxF, if_pos hp]
theorem idxF_skip {α : Type} {p : α → Bool} {d : α} {l : List α} {k : Nat} (h : k < l.length) (hp : p (l.getD k d) = false) : idxF p (l.drop k) (k : Int) = idxF p (l.drop (k + 1)) ((k + 1 : Nat) : Int) := by
  rw [drop_getD (d := d) h, idxF, if_neg (by rw [hp]; decide)]; rfl
theorem idxF_end {α : Type} {p : α → Bool} {l : List α} {k : Nat} (h : l.length ≤ k) {i : Int} : idxF p (l.drop k) i = -1 := by
  rw [List.drop_of_length_le h]; rfl
theorem idxF_any {α : Type} {p : α → Bool} : ∀ {l : List α} {k : Int}, 0 ≤ k → decide (0 ≤ idxF p l k) = l.any p
  | [], k, _ => rfl
  | a :: r, k, h => by
    rw [idxF, List.any_cons]
    cases hp : p a
    · rw [if_neg (by decide), idxF_any (by omega)]; rfl
    · rw [if_pos rfl]; simp [h]
theorem not_any_not {α : Type} {p : α → Bool} {l : List α} : (!l.any (fun c => !p c)) = l.all p := by
  induction l with
  | nil => rfl
  | cons a r ih => rw [List.any_cons, List.all_cons, Bool.not_or, ih, Bool.not_not]
theorem all_next {α : Type} {p : α → Bool} {d : α} {l : List α} {k : Nat} (h : (l.take k).all p = true) (hk : k < l.length) (hp : p (l.getD k d) = true) : (l.take (k + 1)).all p = true := by
  rw [take_succD (d := d) hk, List.all_append, h, List.all_cons, hp]; rfl
theorem all_no {α : Type} {p : α → Bool} {d : α} {l : List α} {k : Nat} (hk : k < l.length) (hp : p (l.getD k d) = false) : l.all p = false := by
  rw [Bool.eq_false_iff]
  intro h
  have := List.all_eq_true.1 h _ (getD_mem (d := d) hk)
  rw [hp] at this; cases this
theorem all_at {α : Type} {p : α → Bool} {d : α} {l : List α} {k : Nat} (h : l.all p = true) (hk : k < l.length) : p (l.getD k d) = true := List.all_eq_true.1 h _ (getD_mem hk)
theorem all_full {α : Type} {p : α → Bool} {l : List α} {k : Nat} (h : (l.take k).all p = true) (hk : l.length ≤ k) : l.all p = true := by rwa [List.take_of_length_le hk] at h
/-! ### Problems -/
def pOk (l : List Con) : Bool := decide (l.length ≤ 400) && l.all cOk
def satV (l : List Con) (bs : List Bool) : Bool := l.all (fun c => holdsV c bs)
def saV (l : List Con) (bs : List Bool) : Bool := pOk l && decide (bs.length = 12) && satV l bs
def cntS (l : List Con) (k : Nat) : Nat := (List.range k).countP (fun n => satV l (assn n))
def csV (l : List Con) : Int := if pOk l then ((cntS l 4096 : Nat) : Int) else 0
def vC (c : Con) : Con := if cOk c then c else ([], 0)
def chT (f : Int → Int) (t : Term) : Term := (f t.1, t.2)
def chC (f : Int → Int) (c : Con) : Con := (c.1.map (chT f), f c.2)
def kOk (c : Con) (k : Int) : Bool := cOk c && decide (1 ≤ k ∧ k ≤ 1000)
def chR (f : Int → Int) (c : Con) (k : Int) : Con := if kOk c k then vC (chC f c) else ([], 0)
def chB (f : Int → Int) (c : Con) (k : Int) : Bool := kOk c k && cOk (chC f c)
def mulK (k n : Int) : Int := n * k
def divK (k n : Int) : Int := (n + k - 1) / k
/-- The term of a variable left out. -/
def weakT (v : Int) (ts : List Term) : List Term := ts.filter (fun t => decide (varOf t.2 ≠ v))
def weakB (v : Int) (ts : List Term) (b : Int) : Int := ts.foldl (fun s t => if varOf t.2 = v then s - t.1 else s) b
def wOk (c : Con) (v : Int) : Bool := cOk c && decide (1 ≤ v ∧ v ≤ 12)
def weakC (c : Con) (v : Int) : Con := if wOk c v then (weakT v c.1, max 0 (weakB v c.1 c.2)) else ([], 0)
def divR (c : Con) (k : Int) : Con := if kOk c k then chC (divK k) c else ([], 0)
end Go.Ab
namespace Go.Ab
end Go.Ab
namespace Go.Ab
def okP (l : List Con) (n m : Nat) : Prop := l.length ≤ n ∧ ∀ c ∈ l, c.1.length ≤ m
end Go.Ab

/- Variables replaced by values. -/
set_option linter.unusedSimpArgs false
set_option linter.unusedVariables false
namespace Go.Ab
/-- 1 if a literal is true, -1 if it is false, 0 if it has no value. -/
def stV (p : List Int) (l : Int) : Int := if l < 0 then -(p.getD (-l - 1).toNat default) else p.getD (l - 1).toNat default
def paOk (p : List Int) : Bool := decide (p.length = 12) && p.all (fun a => decide (-1 ≤ a ∧ a ≤ 1))
theorem paOk_len {p : List Int} (h : paOk p = true) : p.length = 12 := by unfold paOk at h; simp only [Bool.and_eq_true, decide_eq_true_eq] at h; exact h.1
theorem paOk_at {p : List Int} (h : paOk p = true) (k : Nat) : -1 ≤ p.getD k default ∧ p.getD k default ≤ 1 := by
  unfold paOk at h
  simp only [Bool.and_eq_true, decide_eq_true_eq] at h
  by_cases hk : k < p.length
  · have := List.all_eq_true.1 h.2 _ (getD_mem (d := default) hk)
    exact of_decide_eq_true this
  · have e : p.getD k default = 0 := by simp [List.getElem?_eq_none (show p.length ≤ k by omega)]
    rw [e]; omega
theorem stV_rng {p : List Int} (h : paOk p = true) (l : Int) : -1 ≤ stV p l ∧ stV p l ≤ 1 := by
  unfold stV
  have h1 := paOk_at h (-l - 1).toNat
  have h2 := paOk_at h (l - 1).toNat
  split <;> omega
def fixT (p : List Int) (ts : List Term) : List Term := ts.filter (fun t => decide (stV p t.2 = 0))
def fixB (p : List Int) (ts : List Term) (b : Int) : Int := ts.foldl (fun s t => if stV p t.2 = 1 then max 0 (s - t.1) else s) b
def fixS (p : List Int) (ts : List Term) (b : Int) : Int := ts.foldl (fun s t => if stV p t.2 = 1 then s - t.1 else s) b
def fixC (p : List Int) (c : Con) : Con := (fixT p c.1, fixB p c.1 c.2)
/-- The true literals' coefficients. -/
def trueS (p : List Int) (ts : List Term) : Int := ts.foldl (fun s t => s + (if stV p t.2 = 1 then t.1 else 0)) 0
theorem cOk_ok {c : Con} (h : cOk c = true) : okFrom 0 c.1 = true := by unfold cOk at h; simp at h; exact h.1
def fpOk (l : List Con) (p : List Int) : Bool := pOk l && paOk p
def fpL (l : List Con) (p : List Int) : List Con := if fpOk l p then l.map (fixC p) else []
def justV (lit : Int) : List Int := (List.replicate 12 (0 : Int)).set (varOf lit - 1).toNat (if lit < 0 then -1 else 1)
def flOk (l : List Con) (lit : Int) : Bool := pOk l && litOk lit
def flL (l : List Con) (lit : Int) : List Con := if flOk l lit then l.map (fixC (justV lit)) else []
end Go.Ab
namespace Go.Ab
end Go.Ab
namespace Go.Ab
end Go.Ab

/- What the laws on sums and bounds say, told plainly. -/
set_option linter.unusedSimpArgs false
set_option linter.unusedVariables false
namespace Go.Ab
/-! ### Multiples -/
end Go.Ab
namespace Go.Ab
end Go.Ab

/- The common divisor; the table's symmetry. -/
set_option linter.unusedSimpArgs false
set_option linter.unusedVariables false
namespace Go.Ab
/-! ### The common divisor -/
def gcdG (g : Nat) (ts : List Term) : Nat := ts.foldl (fun g t => Nat.gcd t.1.toNat g) g
def cdC (c : Con) : Con := chC (divK (cdiv c)) c
end Go.Ab

/- Fixing told by values; pure literals; implications. -/
set_option linter.unusedSimpArgs false
set_option linter.unusedVariables false
namespace Go.Ab
/-! ### Values overwritten by a partial assignment -/
def ovV (p : List Int) (bs : List Bool) : List Bool := (List.range 12).map (fun i => if p.getD i default = 1 then true else if p.getD i default = -1 then false else bs.getD i default)
def coefF (m : Int) : List Term → Int
  | [] => 0
  | t :: r => if t.2 = m then t.1 else coefF m r
def hasV (l : List Con) (m : Int) : Bool := l.any (fun c => decide (0 < coefF m c.1))
def pureN (l : List Con) : Nat → List Int
  | 0 => []
  | k + 1 => pureN l k ++ (if hasV l ((k : Int) + 1) && !hasV l (-((k : Int) + 1)) then [(k : Int) + 1] else if hasV l (-((k : Int) + 1)) && !hasV l ((k : Int) + 1) then [-((k : Int) + 1)] else [])
def pureL (l : List Con) : List Int := if pOk l then pureN l 12 else []
def lossV (a b : Con) (k : Nat) : Int := (a.1.take k).foldl (fun s t => s + max 0 (t.1 - coefF t.2 b.1)) 0
def covB (a b : Con) : Bool := decide (b.2 ≤ a.2 - lossV a b a.1.length)
def covV (a b : Con) : Bool := cOk a && cOk b && covB a b
/-- The common part of a's true literals in b. -/
def comS (bs : List Bool) (ts us : List Term) : Int := ts.foldl (fun s t => s + (if litV bs t.2 then coefF t.2 us else 0)) 0
end Go.Ab
namespace Go.Ab
def bitOf (m : Int) : Nat := 12 - (varOf m).toNat
def unitC (m : Int) : Con := ([(1, m)], 1)
def ovN (p : List Int) (bs : List Bool) (k : Nat) : List Bool := (List.range 12).map (fun i => if i < k then (ovV p bs).getD i default else bs.getD i default)
end Go.Ab
namespace Go.Ab
end Go.Ab
namespace Go.Ab
end Go.Ab

/- Covered constraints removed. -/
set_option linter.unusedSimpArgs false
set_option linter.unusedVariables false
namespace Go.Ab
def cvT (l : List Con) (g : List Bool) (i j : Nat) : Bool := decide (j ≠ i) && (!g.getD j default && covV (l.getD j default) (l.getD i default))
def cvrN (l : List Con) (g : List Bool) (i k : Nat) : Bool := (List.range k).any (fun j => cvT l g i j)
def goneN (l : List Con) : Nat → List Bool
  | 0 => List.replicate l.length false
  | i + 1 => (goneN l i).set i (cvrN l (goneN l i) i l.length)
def keepN (l : List Con) (k : Nat) : List Nat := (List.range k).filter (fun i => !(goneN l l.length).getD i default)
def uncN (l : List Con) (k : Nat) : List Con := (keepN l k).map (fun i => l.getD i default)
def uncL (l : List Con) : List Con := uncN l l.length
def rcL (l : List Con) : List Con := if pOk l then uncL l else []
end Go.Ab
namespace Go.Ab
end Go.Ab

/- The clauses of a constraint. -/
set_option linter.unusedSimpArgs false
set_option linter.unusedVariables false
namespace Go.Ab
/-- The terms whose bits are set. -/
def selF : List Term → Nat → List Term
  | [], _ => []
  | t :: r, s => if s % 2 = 1 then t :: selF r (s / 2) else selF r (s / 2)
def oneT (t : Term) : Term := (1, t.2)
/-- The least coefficient, from a start. -/
def mnV (b : Int) (ts : List Term) : Int := ts.foldl (fun m t => min m t.1) b
def leftV (c : Con) (s : Nat) : Int := totV c.1 - totV (selF c.1 s)
def incV (c : Con) (s : Nat) : Bool := decide (leftV c s < c.2) && (decide (s = 0) || decide (c.2 ≤ leftV c s + mnV 20000 (selF c.1 s)))
def clC (c : Con) (s : Nat) : Con := ((selF c.1 s).map oneT, 1)
def clN (c : Con) : Nat → List Con
  | 0 => []
  | s + 1 => clN c s ++ (if incV c s then [clC c s] else [])
def clA (c : Con) : List Con := clN c (2 ^ c.1.length)
def clB (c : Con) : Bool := cOk c && decide ((clA c).length ≤ 400)
def clL (c : Con) : List Con := if clB c then clA c else []
end Go.Ab
namespace Go.Ab
/-! ### A clause out of its literals -/
def oneL (l : Int) : Term := (1, l)
def seenG : List Int → Int → Int
  | [], _ => 0
  | l :: r, v => if varOf l = v then l else seenG r v
def rowS (ls : List Int) : List Int := (List.range 13).map (fun (v : Nat) => seenG ls (v : Int))
def filtN (ls : List Int) (v : Int) : List Int := ls.filter (fun l => decide (varOf l ≤ v))
end Go.Ab

/- Propagation, told plainly. -/
set_option linter.unusedSimpArgs false
set_option linter.unusedVariables false
namespace Go.Ab
def slF (p : List Int) (ts : List Term) (b : Int) : Int := ts.foldl (fun s t => if 0 ≤ stV p t.2 then s + t.1 else s) b
def slV (c : Con) (p : List Int) : Int := slF p c.1 (-c.2)
def impF (p : List Int) (s : Int) (ts : List Term) : List Int := (ts.filter (fun t => decide (stV p t.2 = 0 ∧ s < t.1))).map (·.2)
def impC (c : Con) (p : List Int) : List Int := impF p (slV c p) c.1
theorem impC_mem {c : Con} {p : List Int} {m : Int} (h : m ∈ impC c p) : ∃ t ∈ c.1, t.2 = m ∧ stV p m = 0 ∧ slV c p < t.1 := by
  unfold impC impF at h
  obtain ⟨t, ht, rfl⟩ := List.mem_map.1 h
  rw [List.mem_filter, decide_eq_true_eq] at ht
  exact ⟨t, ht.1, rfl, ht.2⟩
theorem impC_lit {c : Con} (hc : cOk c = true) {p : List Int} {m : Int} (h : m ∈ impC c p) : litOk m = true := by
  obtain ⟨t, ht, rfl, _⟩ := impC_mem h
  exact (okFrom_all (cOk_ok hc) t ht).1
def asg (p : List Int) (m : Int) : List Int := p.set (varOf m - 1).toNat (if m < 0 then -1 else 1)
def asgL (p : List Int) (ms : List Int) : List Int := ms.foldl asg p
theorem asg_len {p : List Int} {m : Int} : (asg p m).length = p.length := by simp [asg]
theorem asg_at {p : List Int} {m : Int} {i : Nat} (hi : i < p.length) : (asg p m).getD i default = if i = (varOf m - 1).toNat then (if m < 0 then -1 else 1) else p.getD i default := by
  unfold asg
  simp only [List.getD_eq_getElem?_getD, List.getElem?_set]
  by_cases e : (varOf m - 1).toNat = i
  · subst e; rw [if_pos rfl, if_pos hi, if_pos rfl]; rfl
  · rw [if_neg e, if_neg (fun h => e h.symm)]
theorem stV_asg {p : List Int} (hp : p.length = 12) {m l : Int} (hm : litOk m = true) (hl : litOk l = true) : stV (asg p m) l = if l = m then 1 else if l = -m then -1 else stV p l := by
  have h1 := litOk_iff.1 hm
  have h2 := litOk_iff.1 hl
  have hv : varOf m = max m (-m) := rfl
  unfold stV
  by_cases hl0 : l < 0
  · rw [if_pos hl0, if_pos hl0, asg_at (by omega)]
    by_cases e : (-l - 1).toNat = (varOf m - 1).toNat
    · rw [if_pos e]
      by_cases hm0 : m < 0
      · rw [if_pos hm0, if_pos (by omega)]; omega
      · rw [if_neg hm0, if_neg (by omega), if_pos (by omega)]
    · rw [if_neg e, if_neg (by omega), if_neg (by omega)]
  · rw [if_neg hl0, if_neg hl0, asg_at (by omega)]
    by_cases e : (l - 1).toNat = (varOf m - 1).toNat
    · rw [if_pos e]
      by_cases hm0 : m < 0
      · rw [if_pos hm0, if_neg (by omega), if_pos (by omega)]
      · rw [if_neg hm0, if_pos (by omega)]
    · rw [if_neg e, if_neg (by omega), if_neg (by omega)]
/-- How many variables have no value. -/
def zer (p : List Int) : Nat := p.countP (fun a => decide (a = 0))
def rnd : List Con → Int → List Int → List Int × Int
  | [], _, p => (p, -1)
  | c :: r, i, p => if slV c p < 0 then (p, i) else rnd r (i + 1) (asgL p (impC c p))
def prop (l : List Con) (p : List Int) : List Int × Int :=
  if 0 ≤ (rnd l 0 p).2 then rnd l 0 p else if h : zer (rnd l 0 p).1 < zer p then prop l (rnd l 0 p).1 else rnd l 0 p
termination_by zer p
end Go.Ab

/- What propagation means: fixed points, order, soundness. -/
set_option linter.unusedSimpArgs false
set_option linter.unusedVariables false
namespace Go.Ab
def sumF (f : Term → Int) : List Term → Int
  | [] => 0
  | t :: r => f t + sumF f r
theorem sumF_le {f g : Term → Int} : ∀ {ts : List Term}, (∀ t ∈ ts, f t ≤ g t) → sumF f ts ≤ sumF g ts
  | [], _ => Int.le_refl _
  | t :: r, h => by
    have h1 := h t (by simp)
    have h2 := sumF_le (ts := r) (fun t ht => h t (by simp [ht]))
    simp only [sumF]; omega
theorem sumF_lt {f g : Term → Int} {t0 : Term} {d : Int} : ∀ {ts : List Term}, (∀ t ∈ ts, f t ≤ g t) → t0 ∈ ts → f t0 + d ≤ g t0 → sumF f ts + d ≤ sumF g ts
  | [], _, h, _ => by simp at h
  | t :: r, h, hm, h0 => by
    have h1 := h t (by simp)
    simp only [sumF]
    rcases List.mem_cons.1 hm with rfl | hm
    · have h2 := sumF_le (ts := r) (fun t ht => h t (by simp [ht])); omega
    · have h2 := sumF_lt (ts := r) (fun t ht => h t (by simp [ht])) hm h0; omega
theorem slF_F {p : List Int} : ∀ {ts : List Term} {b : Int}, slF p ts b = b + sumF (fun t => if 0 ≤ stV p t.2 then t.1 else 0) ts
  | [], b => by simp [slF, sumF]
  | t :: r, b => by
    have e : slF p (t :: r) b = slF p r (if 0 ≤ stV p t.2 then b + t.1 else b) := rfl
    rw [e, slF_F]
    simp only [sumF]
    split <;> omega
theorem slV_F {c : Con} {p : List Int} : slV c p = sumF (fun t => if 0 ≤ stV p t.2 then t.1 else 0) c.1 - c.2 := by
  unfold slV; rw [slF_F]; omega
theorem stV_neg {p : List Int} {m : Int} (h : m ≠ 0) : stV p (-m) = -stV p m := by
  unfold stV
  by_cases h0 : m < 0
  · rw [if_pos h0, if_neg (by omega)]; simp
  · rw [if_neg h0, if_pos (by omega)]; simp
def leP (p q : List Int) : Prop := ∀ m, litOk m = true → stV p m ≠ 0 → stV q m = stV p m
def fixP (l : List Con) (q : List Int) : Prop := ∀ c ∈ l, 0 ≤ slV c q ∧ impC c q = []
/-- Below a fixed point nothing is violated, and propagation stays below. -/
theorem below {c : Con} (hc : cOk c = true) {p q : List Int} (hp : paOk p = true) (hq : paOk q = true) (h : leP p q) (h1 : 0 ≤ slV c q) (h2 : impC c q = []) : 0 ≤ slV c p ∧ leP (asgL p (impC c p)) q := by
  have hlt : ∀ t ∈ c.1, litOk t.2 = true ∧ 1 ≤ t.1 ∧ t.1 ≤ 1000 := okFrom_all (cOk_ok hc)
  have hle : ∀ t ∈ c.1, (if 0 ≤ stV q t.2 then t.1 else 0) ≤ (if 0 ≤ stV p t.2 then t.1 else 0) := fun t ht => by
    have h3 := hlt t ht
    by_cases h4 : 0 ≤ stV p t.2
    · rw [if_pos h4]; split <;> omega
    · rw [if_neg h4, if_neg (by rw [h t.2 h3.1 (by omega)]; exact h4)]; exact Int.le_refl _
  have hs : slV c q ≤ slV c p := by rw [slV_F, slV_F]; have := sumF_le hle; omega
  refine ⟨by omega, ?_⟩
  have key : ∀ m ∈ impC c p, stV q m = 1 := by
    intro m hm
    obtain ⟨t, ht, rfl, h3, h4⟩ := impC_mem hm
    have h5 := hlt t ht
    have hr := stV_rng hq t.2
    by_cases e0 : stV q t.2 = 0
    · exfalso
      have : t.2 ∈ impC c q := List.mem_map.2 ⟨t, List.mem_filter.2 ⟨ht, by rw [decide_eq_true_eq]; exact ⟨e0, by omega⟩⟩, rfl⟩
      rw [h2] at this; simp at this
    · by_cases e1 : stV q t.2 = -1
      · exfalso
        have := sumF_lt (d := t.1) hle ht (by rw [if_neg (by omega), if_pos (by omega)]; omega)
        rw [slV_F] at h1 h4; omega
      · omega
  have hmono : ∀ {ms : List Int} {p : List Int}, p.length = 12 → leP p q → (∀ m ∈ ms, litOk m = true ∧ stV q m = 1) → leP (asgL p ms) q := by
    intro ms
    induction ms with
    | nil => intro p _ h _; exact h
    | cons m r ih =>
      intro p hp h hm
      have hm0 := hm m (by simp)
      refine ih (p := asg p m) (by rw [asg_len]; exact hp) (fun l hl h0 => ?_) (fun m hm' => hm m (by simp [hm']))
      rw [stV_asg hp hm0.1 hl] at h0 ⊢
      by_cases e1 : l = m
      · subst e1; rw [if_pos rfl]; exact hm0.2
      · rw [if_neg e1] at h0 ⊢
        by_cases e2 : l = -m
        · subst e2; rw [if_pos rfl, stV_neg (litOk_iff.1 hm0.1).1, hm0.2]
        · rw [if_neg e2] at h0 ⊢; exact h l hl h0
  exact hmono (paOk_len hp) h (fun m hm => ⟨impC_lit hc hm, key m hm⟩)
def agB (p : List Int) (bs : List Bool) : Prop := ∀ m, litOk m = true → stV p m = 1 → litV bs m = true
def zeroP : List Int := List.replicate 12 0
def rupV (l : List Con) (c : Con) : Bool := decide (0 ≤ (prop (l ++ [negC c]) zeroP).2)
end Go.Ab

/- Rows in which literals are made true. -/
set_option linter.unusedSimpArgs false
set_option linter.unusedVariables false
namespace Go.Ab
end Go.Ab
namespace Go.Ab
def failS (l : List Con) (ms : List Int) : List Int := ms.filter (fun m => decide (0 ≤ (prop l (justV m)).2))
def failN (l : List Con) : Nat → List Int
  | 0 => []
  | k + 1 => failN l k ++ failS l [(k : Int) + 1, -((k : Int) + 1)]
def failL (l : List Con) : List Int := if pOk l then failN l 12 else []
end Go.Ab

/- Clauses of a constraint are least, and follow by reverse unit propagation. -/
set_option linter.unusedSimpArgs false
set_option linter.unusedVariables false
namespace Go.Ab
def rupB (l : List Con) (c : Con) : Bool := pOk l && (cOk c && rupV l c)
end Go.Ab

/- Problems made simpler. -/
set_option linter.unusedSimpArgs false
set_option linter.unusedVariables false
namespace Go.Ab
/-- A constraint saturated. -/
def stT (b : Int) (t : Term) : Term := (min t.1 b, t.2)
def stC (c : Con) : Con := if 0 < c.2 then (c.1.map (stT c.2), c.2) else ([], c.2)
def flt (l : List Con) : List Con := l.filter (fun c => decide (0 < c.2))
def stL (l : List Con) : List Con := (flt l).map stC
def stepL (l : List Con) : List Con := uncL (stL l)
def wt (c : Con) : Nat := 1 + (sumF (fun t => t.1) c.1).toNat
def mu (l : List Con) : Nat := (l.map wt).sum
def simpL (l : List Con) : List Con := if stepL l = l then l else if h : mu (stepL l) < mu l then simpL (stepL l) else l
termination_by mu l
def quiet (c : Con) : Prop := 0 ≤ slV c zeroP ∧ impC c zeroP = []
def quietL (l : List Con) : Prop := ∀ c ∈ l, 0 < c.2 → quiet c
def sOk (l : List Con) : Bool := pOk l && decide ((prop l zeroP).2 < 0)
def sP (l : List Con) : List Int := if sOk l then (prop l zeroP).1 else []
def sL (l : List Con) : List Con := if sOk l then simpL (l.map (fixC (prop l zeroP).1)) else []
def exB (p : List Int) (bs : List Bool) : Bool := paOk p && (decide (bs.length = 12) && (List.range 12).all (fun i => decide (p.getD i default = 0) || decide (bs.getD i default = decide (0 < p.getD i default))))
end Go.Ab
namespace Go.Ab
end Go.Ab
namespace Go.Ab
def exN (p : List Int) (bs : List Bool) (k : Nat) : Bool := (List.range k).all (fun i => decide (p.getD i default = 0) || decide (bs.getD i default = decide (0 < p.getD i default)))
end Go.Ab
namespace Go.Ab
end Go.Ab
namespace Go.Ab
end Go.Ab

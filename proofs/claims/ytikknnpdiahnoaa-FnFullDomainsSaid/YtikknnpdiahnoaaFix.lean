/- Variables replaced by values. -/
import Derived.Test.YtikknnpdiahnoaaProb
set_option linter.unusedSimpArgs false
set_option linter.unusedVariables false
namespace Go.Ab
/-- 1 if a literal is true, -1 if it is false, 0 if it has no value. -/
def stV (p : List Int) (l : Int) : Int := if l < 0 then -(p.getD (-l - 1).toNat default) else p.getD (l - 1).toNat default
def paOk (p : List Int) : Bool := decide (p.length = 12) && p.all (fun a => decide (-1 ≤ a ∧ a ≤ 1))
theorem paOk_len {p : List Int} (h : paOk p = true) : p.length = 12 := by unfold paOk at h; simp only [Bool.and_eq_true, decide_eq_true_eq] at h; exact h.1
theorem paOk_at {p : List Int} (h : paOk p = true) (k : Nat) : -1 ≤ p.getD k default ∧ p.getD k default ≤ 1 := by
  unfold paOk at h
  simp only [Bool.and_eq_true, decide_eq_true_eq] at h
  by_cases hk : k < p.length
  · have := List.all_eq_true.1 h.2 _ (getD_mem (d := default) hk)
    exact of_decide_eq_true this
  · have e : p.getD k default = 0 := by simp [List.getElem?_eq_none (show p.length ≤ k by omega)]
    rw [e]; omega
theorem stV_rng {p : List Int} (h : paOk p = true) (l : Int) : -1 ≤ stV p l ∧ stV p l ≤ 1 := by
  unfold stV
  have h1 := paOk_at h (-l - 1).toNat
  have h2 := paOk_at h (l - 1).toNat
  split <;> omega
def fixT (p : List Int) (ts : List Term) : List Term := ts.filter (fun t => decide (stV p t.2 = 0))
def fixB (p : List Int) (ts : List Term) (b : Int) : Int := ts.foldl (fun s t => if stV p t.2 = 1 then max 0 (s - t.1) else s) b
def fixS (p : List Int) (ts : List Term) (b : Int) : Int := ts.foldl (fun s t => if stV p t.2 = 1 then s - t.1 else s) b
def fixC (p : List Int) (c : Con) : Con := (fixT p c.1, fixB p c.1 c.2)
/-- The true literals' coefficients. -/
def trueS (p : List Int) (ts : List Term) : Int := ts.foldl (fun s t => s + (if stV p t.2 = 1 then t.1 else 0)) 0
theorem cOk_ok {c : Con} (h : cOk c = true) : okFrom 0 c.1 = true := by unfold cOk at h; simp at h; exact h.1
def fpOk (l : List Con) (p : List Int) : Bool := pOk l && paOk p
def fpL (l : List Con) (p : List Int) : List Con := if fpOk l p then l.map (fixC p) else []
def justV (lit : Int) : List Int := (List.replicate 12 (0 : Int)).set (varOf lit - 1).toNat (if lit < 0 then -1 else 1)
def flOk (l : List Con) (lit : Int) : Bool := pOk l && litOk lit
def flL (l : List Con) (lit : Int) : List Con := if flOk l lit then l.map (fixC (justV lit)) else []
end Go.Ab
namespace Go.Ab
end Go.Ab
namespace Go.Ab
end Go.Ab

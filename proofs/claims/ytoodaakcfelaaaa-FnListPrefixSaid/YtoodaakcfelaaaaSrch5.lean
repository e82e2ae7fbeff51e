/- Texts. -/
import Derived.Test.YtoodaakcfelaaaaSrch4
set_option autoImplicit false
namespace Go.Ab
def visH (l : List Con) (n : Nat) (st : List Con) (fu : Int) (D : List Int) : Prop := (l ++ st).all cOk = true ∧ st.length ≤ 1000 ∧ (0 ≤ fu ∧ fu ≤ 2000) ∧ inv l st D ∧ n + D.length = 13 ∧ l.length ≤ 1000
section
variable (l : List Con) (n : Nat) (st : List Con) (fu : Int) (D : List Int)
abbrev twoV : List Int := [(freeV (prD l st D).1 : Int), -(freeV (prD l st D).1 : Int)]
def visK : Nat → List Con × Int
  | 0 => (st, fu - 1)
  | 1 => ((vis1 l n st fu D).1, (vis1 l n st fu D).2.1)
  | _ => ((vis2 l n st fu D).1, (vis2 l n st fu D).2.1)
def visN (k : Nat) : List Con × Int × Int × List Bool := visit l n (visK l n st fu D k).1 (visK l n st fu D k).2 (D ++ [(twoV l st D).getD k default])
end
section
variable {l : List Con} {n : Nat} {st : List Con} {fu : Int} {D : List Int}
theorem visK_next {k : Nat} (hk : k < 2) : visK l n st fu D (k + 1) = ((visN l n st fu D k).1, (visN l n st fu D k).2.1) := by
  match k, hk with
  | 0, _ => rfl
  | 1, _ => rfl
theorem visH_len (h : visH l n st fu D) : D.length ≤ 12 := asc_len h.2.2.2.1.1
theorem visH_n (h : visH l n st fu D) : n ≠ 0 := by have := visH_len h; have := h.2.2.2.2.1; omega
theorem visK_H (h : visH l (n + 1) st fu D) (hm : ¬ (fu = 0 ∨ 1000 ≤ st.length)) (hp : ¬ 0 ≤ (prD l st D).2) (hv : ¬ freeV (prD l st D).1 = 0) {k : Nat} (hk : k < 2) : visH l n (visK l n st fu D k).1 (visK l n st fu D k).2 (D ++ [(twoV l st D).getD k default]) := by
  obtain ⟨h1, h2, h3, h4, h5, h6⟩ := h
  obtain ⟨ha, i1, i2⟩ := inv_next h4 h1 hp hv
  have hf1 : 0 ≤ fu - 1 ∧ fu - 1 ≤ 2000 := by omega
  have hlen : ∀ d : Int, n + (D ++ [d]).length = 13 := fun d => by simp; omega
  match k, hk with
  | 0, _ => exact ⟨h1, h2, hf1, i1, hlen _, h6⟩
  | 1, _ =>
    have g1 := visit_good (l := l) (n := n) (st := st) (fu := fu - 1) (D := D ++ [(freeV (prD l st D).1 : Int)]) h1 h2 hf1.1 i1
    have hsub : ∀ c ∈ st, c ∈ (vis1 l n st fu D).1 := fun c hc => by obtain ⟨x, hx⟩ := g1.pre; rw [show (vis1 l n st fu D).1 = st ++ x from hx]; simp [hc]
    have hf : (vis1 l n st fu D).2.1 ≤ fu - 1 := g1.fuel.2
    exact ⟨g1.ok, g1.len, ⟨g1.fuel.1, by show (vis1 l n st fu D).2.1 ≤ 2000; omega⟩, inv_more i2 hsub, hlen _, h6⟩
theorem visN_good (h : visH l (n + 1) st fu D) (hm : ¬ (fu = 0 ∨ 1000 ≤ st.length)) (hp : ¬ 0 ≤ (prD l st D).2) (hv : ¬ freeV (prD l st D).1 = 0) {k : Nat} (hk : k < 2) : VisG l (visK l n st fu D k).1 (visK l n st fu D k).2 (D ++ [(twoV l st D).getD k default]) (visN l n st fu D k) := by
  have h1 := visK_H h hm hp hv hk
  exact visit_good h1.1 h1.2.1 h1.2.2.1.1 h1.2.2.2.1
/-- A branch that was not refuted is the answer. -/
theorem visN_hit (hm : ¬ (fu = 0 ∨ 1000 ≤ st.length)) (hp : ¬ 0 ≤ (prD l st D).2) (hv : ¬ freeV (prD l st D).1 = 0) {k : Nat} (hk : k < 2) (hc : k = 1 → (vis1 l n st fu D).2.2.1 = 2) (h : (visN l n st fu D k).2.2.1 ≠ 2) : visit l (n + 1) st fu D = visN l n st fu D k := by
  match k, hk with
  | 0, _ => exact vs_one hm hp hv h
  | 1, _ => exact vs_two hm hp hv (fun q => q (hc rfl)) h
theorem varOf_rng {d : Int} (h : litOk d = true) : 1 ≤ varOf d ∧ varOf d ≤ 12 := by have := litOk_iff.1 h; unfold varOf; omega
theorem asg_twop {p : List Int} {m : Int} (h : 0 < m) : (p.map dI).set (varOf m - 1).toNat [.p (.int .i64 1)] = (asg p m).map dI := by
  rw [show varOf m = m by unfold varOf; omega]; exact asg_rowp h
theorem asg_twon {p : List Int} {m : Int} (h : m < 0) : ((p.map dI).set (varOf m - 1).toNat [.p (.int .i64 1)]).set (-m - 1).toNat [.p (.int .i64 (-1))] = (asg p m).map dI := by
  rw [show varOf m = -m by unfold varOf; omega, List.set_set]; exact asg_rown (by omega) (by omega)
theorem boxF {e : Nat} {a b : V} {x : Int} {c : Bool} (h : c = false) : some (0, Obj.box e [a, .p (.int .i64 x), b, .p (.bool c)]) = some (0, Obj.box e [a, .p (.int .i64 x), b, .p (.bool false)]) := by rw [h]
end
end Go.Ab

/- Fixing told by values; pure literals; implications. -/
import Derived.Test.YtdnkggifpoknoaaFix
import Derived.Test.YtdnkggifpoknoaaLaws3
set_option linter.unusedSimpArgs false
set_option linter.unusedVariables false
namespace Go.Ab
/-! ### Values overwritten by a partial assignment -/
def ovV (p : List Int) (bs : List Bool) : List Bool := (List.range 12).map (fun i => if p.getD i default = 1 then true else if p.getD i default = -1 then false else bs.getD i default)
theorem ov_at {p : List Int} {bs : List Bool} {i : Nat} (h : i < 12) : (ovV p bs).getD i default = if p.getD i default = 1 then true else if p.getD i default = -1 then false else bs.getD i default := by
  unfold ovV
  rw [List.getD_eq_getElem?_getD, List.getElem?_map, List.getElem?_range h]; rfl
theorem lit_ov {p : List Int} (hp : paOk p = true) {bs : List Bool} {l : Int} (h : litOk l = true) : litV (ovV p bs) l = if stV p l = 1 then true else if stV p l = -1 then false else litV bs l := by
  have h1 := litOk_iff.1 h
  have hi : (varOf l - 1).toNat < 12 := by unfold varOf; omega
  unfold litV
  rw [ov_at hi]
  unfold stV
  by_cases hn : l < 0
  · have e : (varOf l - 1).toNat = (-l - 1).toNat := by unfold varOf; omega
    have hr := paOk_at hp (-l - 1).toNat
    rw [if_pos hn, e, decide_eq_false (by omega)]
    by_cases e1 : p.getD (-l - 1).toNat default = 1
    · rw [if_pos e1, if_neg (by omega), if_pos (by omega)]; rfl
    · by_cases e2 : p.getD (-l - 1).toNat default = -1
      · rw [if_neg e1, if_pos e2, if_pos (by omega)]; rfl
      · rw [if_neg e1, if_neg e2, if_neg (by omega), if_neg (by omega)]
  · have e : (varOf l - 1).toNat = (l - 1).toNat := by unfold varOf; omega
    rw [if_neg hn, e, decide_eq_true (by omega)]
    by_cases e1 : p.getD (l - 1).toNat default = 1
    · rw [if_pos e1, if_pos e1]; rfl
    · by_cases e2 : p.getD (l - 1).toNat default = -1
      · rw [if_neg e1, if_pos e2, if_neg e1, if_pos e2]; rfl
      · rw [if_neg e1, if_neg e2, if_neg e1, if_neg e2]
theorem sum_ov {p : List Int} (hp : paOk p = true) {bs : List Bool} : ∀ {ts : List Term}, (∀ t ∈ ts, litOk t.2 = true) → sumV ts (ovV p bs) = trueS p ts + sumV (fixT p ts) bs
  | [], _ => rfl
  | t :: r, h => by
    have ih := sum_ov hp (bs := bs) (ts := r) (fun t ht => h t (by simp [ht]))
    have hl := h t (by simp)
    have hr := stV_rng hp t.2
    rw [sumV_cons, trueS_cons, ih]
    have e : term (ovV p bs) t = if litV (ovV p bs) t.2 then t.1 else 0 := rfl
    rw [e, lit_ov hp hl]
    unfold fixT
    by_cases e0 : stV p t.2 = 0
    · have n1 : ¬ stV p t.2 = 1 := by omega
      have n2 : ¬ stV p t.2 = -1 := by omega
      rw [List.filter_cons_of_pos (by rw [decide_eq_true_eq]; exact e0), sumV_cons]
      simp only [if_neg n1, if_neg n2]
      have : term bs t = if litV bs t.2 then t.1 else 0 := rfl
      omega
    · rw [List.filter_cons_of_neg (by rw [decide_eq_true_eq]; exact e0)]
      by_cases e1 : stV p t.2 = 1
      · simp only [if_pos e1, if_true]; omega
      · have e2 : stV p t.2 = -1 := by omega
        simp only [if_neg e1, if_pos e2, Bool.false_eq_true, if_false]; omega
theorem fix_holds {p : List Int} (hp : paOk p = true) {c : Con} (h : cOk c = true) (bs : List Bool) : holdsV (fixC p c) bs = holdsV c (ovV p bs) := by
  have hl : ∀ t ∈ c.1, litOk t.2 = true := fun t ht => (okFrom_all (cOk_ok h) t ht).1
  have e := sum_ov hp (bs := bs) hl
  have hb := fixB_eq (p := p) (cOk_coefs h) (cOk_bound h).1
  have hs := (sumV_bounds (bs := bs) (cOk_coefs (fix_ok (p := p) h))).1
  unfold holdsV
  have e2 : (fixC p c).2 = fixB p c.1 c.2 := rfl
  have e3 : (fixC p c).1 = fixT p c.1 := rfl
  rw [e2, e3, hb, e]
  rw [e3] at hs
  exact decide_eq_decide.2 (by omega)
theorem fix_sat {p : List Int} (hp : paOk p = true) {l : List Con} (h : l.all cOk = true) (bs : List Bool) : satV (l.map (fixC p)) bs = satV l (ovV p bs) := by
  unfold satV
  rw [List.all_map]
  apply Bool.eq_iff_iff.2
  rw [List.all_eq_true, List.all_eq_true]
  exact ⟨fun q c hc => by rw [← fix_holds hp (List.all_eq_true.1 h c hc)]; exact q c hc, fun q c hc => (fix_holds hp (List.all_eq_true.1 h c hc) bs).trans (q c hc)⟩
theorem cntS_pos {l : List Con} {k : Nat} : 0 < cntS l k ↔ ∃ n, n < k ∧ satV l (assn n) = true := by
  unfold cntS
  rw [List.countP_pos_iff]
  exact ⟨fun ⟨n, h1, h2⟩ => ⟨n, List.mem_range.1 h1, h2⟩, fun ⟨n, h1, h2⟩ => ⟨n, List.mem_range.2 h1, h2⟩⟩
theorem csV_pos {l : List Con} (h : pOk l = true) : 0 < csV l ↔ ∃ bs : List Bool, bs.length = 12 ∧ satV l bs = true := by
  unfold csV
  rw [if_pos h]
  have := cntS_pos (l := l) (k := 4096)
  constructor
  · intro q
    obtain ⟨n, h1, h2⟩ := this.1 (by omega)
    exact ⟨assn n, assn_length, h2⟩
  · rintro ⟨bs, h1, h2⟩
    obtain ⟨q1, q2⟩ := assn_enc h1
    have := this.2 ⟨enc bs, q1, by rw [q2]; exact h2⟩
    omega
/-! ### Coefficients -/
def coefF (m : Int) : List Term → Int
  | [] => 0
  | t :: r => if t.2 = m then t.1 else coefF m r
def hasV (l : List Con) (m : Int) : Bool := l.any (fun c => decide (0 < coefF m c.1))
def pureN (l : List Con) : Nat → List Int
  | 0 => []
  | k + 1 => pureN l k ++ (if hasV l ((k : Int) + 1) && !hasV l (-((k : Int) + 1)) then [(k : Int) + 1] else if hasV l (-((k : Int) + 1)) && !hasV l ((k : Int) + 1) then [-((k : Int) + 1)] else [])
def pureL (l : List Con) : List Int := if pOk l then pureN l 12 else []
def lossV (a b : Con) (k : Nat) : Int := (a.1.take k).foldl (fun s t => s + max 0 (t.1 - coefF t.2 b.1)) 0
def covB (a b : Con) : Bool := decide (b.2 ≤ a.2 - lossV a b a.1.length)
def covV (a b : Con) : Bool := cOk a && cOk b && covB a b
/-- The common part of a's true literals in b. -/
def comS (bs : List Bool) (ts us : List Term) : Int := ts.foldl (fun s t => s + (if litV bs t.2 then coefF t.2 us else 0)) 0
end Go.Ab
namespace Go.Ab
def bitOf (m : Int) : Nat := 12 - (varOf m).toNat
def unitC (m : Int) : Con := ([(1, m)], 1)
theorem unit_ok {m : Int} (hm : litOk m = true) : cOk (unitC m) = true := by
  refine cOk_mk ?_ (by decide) (by decide)
  rw [okFrom_good hm (varOf_pos hm) (Int.le_refl 1) (show (1 : Int) ≤ 1000 by decide)]; rfl
def ovN (p : List Int) (bs : List Bool) (k : Nat) : List Bool := (List.range 12).map (fun i => if i < k then (ovV p bs).getD i default else bs.getD i default)
end Go.Ab
namespace Go.Ab
end Go.Ab
namespace Go.Ab
theorem all_lf_dI : ∀ l : List Int, (l.map dI).flatten.all lf = true
  | [] => rfl
  | c :: r => by rw [List.map_cons, List.flatten_cons, List.all_append, all_lf_dI r]; rfl
end Go.Ab

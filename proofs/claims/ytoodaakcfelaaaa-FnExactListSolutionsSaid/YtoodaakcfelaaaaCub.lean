/- Texts. -/
import Derived.Test.YtoodaakcfelaaaaFd
import Derived.Test.YtoodaakcfelaaaaSimp
import Derived.Test.YtoodaakcfelaaaaAb25
set_option autoImplicit false
namespace Go.Ab
theorem asc_noneg {L : List Int} (h : asc L) {k : Nat} (hk : k < L.length) : -(L.getD k default) ∉ L := by
  intro hm
  have h1 := qzw (d := default) hk
  have h2 := okFrom_uniq h (oneL (L.getD k default)) (List.mem_map.2 ⟨_, h1, rfl⟩) (oneL (-(L.getD k default))) (List.mem_map.2 ⟨_, hm, rfl⟩) varOf_neg.symm
  have h3 : L.getD k default = -(L.getD k default) := congrArg Prod.snd h2
  have h4 := litOk_iff.1 (asc_lit h _ h1)
  omega
theorem asc_pair {L : List Int} (h : asc L) : L.Pairwise (fun a b => varOf a < varOf b) := by
  have h1 := okFrom_apart' h
  rw [List.pairwise_map] at h1
  exact h1
theorem asc_lt {L : List Int} (h : asc L) {k : Nat} (hk : k + 1 < L.length) : varOf (L.getD k default) < varOf (L.getD (k + 1) default) := by
  have h1 := List.pairwise_iff_getElem.1 (asc_pair h) k (k + 1) (by omega) hk (by omega)
  rw [List.getD_eq_getElem?_getD, List.getD_eq_getElem?_getD, List.getElem?_eq_getElem (by omega : k < L.length), List.getElem?_eq_getElem hk]
  exact h1
theorem asc_lt' {L : List Int} (h : asc L) {k : Nat} (h0 : 1 ≤ k) (hk : k < L.length) : varOf (L.getD (k - 1) default) < varOf (L.getD k default) := by
  obtain ⟨j, rfl⟩ : ∃ j, k = j + 1 := ⟨k - 1, by omega⟩
  exact asc_lt h hk
theorem asc_ne {L : List Int} (h : asc L) {k : Nat} (h0 : 1 ≤ k) (hk : k < L.length) : ¬ L.getD k default = L.getD (k - 1) default := fun e => by
  have := asc_lt' h h0 hk
  rw [e] at this; omega
theorem asc_at {L : List Int} (h : asc L) {k : Nat} (hk : k < L.length) : litOk (L.getD k default) = true := asc_lit h _ (qzw hk)
theorem qj2 {D : List Int} : (negL D).length = D.length := List.length_map ..
theorem asc_negL {D : List Int} (h : asc D) : asc (negL D) := asc_neg h
theorem negL_take {D : List Int} {k : Nat} (hk : k < D.length) : negL (D.take (k + 1)) = negL (D.take k) ++ [-(D.getD k default)] := by
  unfold negL; rw [qjt (d := default) hk, List.map_append]; rfl
theorem wrapU64 {x : Nat} (hx : x ≤ 12) : IntKind.u64.wrap (x : Int) = x := by rcases (by omega : x = 0 ∨ x = 1 ∨ x = 2 ∨ x = 3 ∨ x = 4 ∨ x = 5 ∨ x = 6 ∨ x = 7 ∨ x = 8 ∨ x = 9 ∨ x = 10 ∨ x = 11 ∨ x = 12) with h | h | h | h | h | h | h | h | h | h | h | h | h <;> (subst h; rfl)
theorem wrapU8 {x : Nat} (hx : x ≤ 12) : IntKind.u8.wrap (x : Int) = x := by rcases (by omega : x = 0 ∨ x = 1 ∨ x = 2 ∨ x = 3 ∨ x = 4 ∨ x = 5 ∨ x = 6 ∨ x = 7 ∨ x = 8 ∨ x = 9 ∨ x = 10 ∨ x = 11 ∨ x = 12) with h | h | h | h | h | h | h | h | h | h | h | h | h <;> (subst h; rfl)
def lenT (x : Nat) : UInt8 := ([0, 1, 2, 2, 3, 3, 3, 3, 4, 4, 4, 4, 4] : List UInt8).getD x 0
end Go.Ab
set_option autoImplicit false
namespace Go.Ab
def dSt (c : Con) : List V := [.p (.int .i64 7), .p (.int .i64 0), .p (.int .i64 0), .sl (c.1.map dT), .p (.int .i64 c.2)]
def valO (p : List Int) : List Bool := if freeV p = 0 then valP p else []
theorem valO_y {p : List Int} (h : freeV p = 0) : valO p = valP p := by unfold valO; rw [if_pos h]
theorem valO_n {p : List Int} (h : ¬ freeV p = 0) : valO p = [] := by unfold valO; rw [if_neg h]
theorem dSt_snoc {S : List Con} {c : Con} : (S ++ [c]).map dSt = S.map dSt ++ [dSt c] := by simp
theorem cle_len {D : List Int} (h : asc D) : (cle D).1.length ≤ 12 := by
  unfold cle; rw [List.length_map, qj2]; exact asc_len h
end Go.Ab
set_option autoImplicit false
namespace Go.Ab
def visH (l : List Con) (n : Nat) (st : List Con) (fu : Int) (D : List Int) : Prop := (l ++ st).all cOk = true ∧ st.length ≤ 1000 ∧ (0 ≤ fu ∧ fu ≤ 2000) ∧ inv l st D ∧ n + D.length = 13 ∧ l.length ≤ 1000
section
variable (l : List Con) (n : Nat) (st : List Con) (fu : Int) (D : List Int)
abbrev twoV : List Int := [(freeV (prD l st D).1 : Int), -(freeV (prD l st D).1 : Int)]
def visK : Nat → List Con × Int
  | 0 => (st, fu - 1)
  | 1 => ((vis1 l n st fu D).1, (vis1 l n st fu D).2.1)
  | _ => ((vis2 l n st fu D).1, (vis2 l n st fu D).2.1)
def visN (k : Nat) : List Con × Int × Int × List Bool := visit l n (visK l n st fu D k).1 (visK l n st fu D k).2 (D ++ [(twoV l st D).getD k default])
end
section
variable {l : List Con} {n : Nat} {st : List Con} {fu : Int} {D : List Int}
theorem qzp {k : Nat} (hk : k < 2) : visK l n st fu D (k + 1) = ((visN l n st fu D k).1, (visN l n st fu D k).2.1) := by
  match k, hk with
  | 0, _ => rfl
  | 1, _ => rfl
theorem visH_len (h : visH l n st fu D) : D.length ≤ 12 := asc_len h.2.2.2.1.1
theorem visH_n (h : visH l n st fu D) : n ≠ 0 := by have := visH_len h; have := h.2.2.2.2.1; omega
theorem visK_H (h : visH l (n + 1) st fu D) (hm : ¬ (fu = 0 ∨ 1000 ≤ st.length)) (hp : ¬ 0 ≤ (prD l st D).2) (hv : ¬ freeV (prD l st D).1 = 0) {k : Nat} (hk : k < 2) : visH l n (visK l n st fu D k).1 (visK l n st fu D k).2 (D ++ [(twoV l st D).getD k default]) := by
  obtain ⟨h1, h2, h3, h4, h5, h6⟩ := h
  obtain ⟨ha, i1, i2⟩ := inv_next h4 h1 hp hv
  have hf1 : 0 ≤ fu - 1 ∧ fu - 1 ≤ 2000 := by omega
  have hlen : ∀ d : Int, n + (D ++ [d]).length = 13 := fun d => by simp; omega
  match k, hk with
  | 0, _ => exact ⟨h1, h2, hf1, i1, hlen _, h6⟩
  | 1, _ =>
    have g1 := visit_good (l := l) (n := n) (st := st) (fu := fu - 1) (D := D ++ [(freeV (prD l st D).1 : Int)]) h1 h2 hf1.1 i1
    have hsub : ∀ c ∈ st, c ∈ (vis1 l n st fu D).1 := fun c hc => by obtain ⟨x, hx⟩ := g1.pre; rw [show (vis1 l n st fu D).1 = st ++ x from hx]; simp [hc]
    have hf : (vis1 l n st fu D).2.1 ≤ fu - 1 := g1.fuel.2
    exact ⟨g1.ok, g1.len, ⟨g1.fuel.1, by show (vis1 l n st fu D).2.1 ≤ 2000; omega⟩, inv_more i2 hsub, hlen _, h6⟩
theorem visN_good (h : visH l (n + 1) st fu D) (hm : ¬ (fu = 0 ∨ 1000 ≤ st.length)) (hp : ¬ 0 ≤ (prD l st D).2) (hv : ¬ freeV (prD l st D).1 = 0) {k : Nat} (hk : k < 2) : VisG l (visK l n st fu D k).1 (visK l n st fu D k).2 (D ++ [(twoV l st D).getD k default]) (visN l n st fu D k) := by
  have h1 := visK_H h hm hp hv hk
  exact visit_good h1.1 h1.2.1 h1.2.2.1.1 h1.2.2.2.1
theorem visN_hit (hm : ¬ (fu = 0 ∨ 1000 ≤ st.length)) (hp : ¬ 0 ≤ (prD l st D).2) (hv : ¬ freeV (prD l st D).1 = 0) {k : Nat} (hk : k < 2) (hc : k = 1 → (vis1 l n st fu D).2.2.1 = 2) (h : (visN l n st fu D k).2.2.1 ≠ 2) : visit l (n + 1) st fu D = visN l n st fu D k := by
  match k, hk with
  | 0, _ => exact vs_one hm hp hv h
  | 1, _ => exact vs_two hm hp hv (fun q => q (hc rfl)) h
theorem varOf_rng {d : Int} (h : litOk d = true) : 1 ≤ varOf d ∧ varOf d ≤ 12 := by have := litOk_iff.1 h; unfold varOf; omega
theorem asg_twop {p : List Int} {m : Int} (h : 0 < m) : (p.map dI).set (varOf m - 1).toNat [.p (.int .i64 1)] = (asg p m).map dI := by
  rw [show varOf m = m by unfold varOf; omega]; exact asg_rowp h
theorem asg_twon {p : List Int} {m : Int} (h : m < 0) : ((p.map dI).set (varOf m - 1).toNat [.p (.int .i64 1)]).set (-m - 1).toNat [.p (.int .i64 (-1))] = (asg p m).map dI := by
  rw [show varOf m = -m by unfold varOf; omega, List.set_set]; exact asg_rown (by omega) (by omega)
theorem boxF {e : Nat} {a b : V} {x : Int} {c : Bool} (h : c = false) : some (0, Obj.box e [a, .p (.int .i64 x), b, .p (.bool c)]) = some (0, Obj.box e [a, .p (.int .i64 x), b, .p (.bool false)]) := by rw [h]
end
end Go.Ab
set_option autoImplicit false
namespace Go.Ab
def lsX (vs : List Int) (bs : List Bool) : Con := (exTs vs bs, 1)
def lsN (vs : List Int) (fu : Int) : Nat → List Con → List (List Bool) → Int × List (List Bool) × List Con
  | 0, _, _ => (0, [], [])
  | n + 1, L, f => if svC L fu = 2 then (2, f, svS L fu) else if svC L fu ≠ 1 ∨ f.length = 64 then (0, [], []) else lsN vs fu n (L ++ [lsX vs (svV L fu)]) (f ++ [svV L fu])
def lsOk (l : List Con) (vs : List Int) (fu : Int) : Bool := pOk l && decide (l.length ≤ 336) && varsFrom 0 vs && decide (0 ≤ fu ∧ fu ≤ 2000)
def lsV (l : List Con) (vs : List Int) (fu : Int) : Int × List (List Bool) × List Con := if lsOk l vs fu then lsN vs fu 65 l [] else (3, [], [])
theorem ls_bad {l : List Con} {vs : List Int} {fu : Int} (h : lsOk l vs fu = false) : lsV l vs fu = (3, [], []) := by unfold lsV; rw [if_neg (by rw [h]; decide)]
theorem ls_ok {l : List Con} {vs : List Int} {fu : Int} (h : lsOk l vs fu = true) : lsV l vs fu = lsN vs fu 65 l [] := by unfold lsV; rw [if_pos h]
theorem lsOk_parts {l : List Con} {vs : List Int} {fu : Int} (h : lsOk l vs fu = true) : pOk l = true ∧ l.length ≤ 336 ∧ varsFrom 0 vs = true ∧ 0 ≤ fu ∧ fu ≤ 2000 := by
  unfold lsOk at h; simp only [Bool.and_eq_true, decide_eq_true_eq] at h; exact ⟨h.1.1.1, h.1.1.2, h.1.2, h.2⟩
def lsI (l : List Con) (vs : List Int) (fu : Int) (n : Nat) (L : List Con) (f : List (List Bool)) : Prop := lsV l vs fu = lsN vs fu (n + 1) L f ∧ f.length + n = 64 ∧ L.length ≤ 336 + f.length ∧ L.all cOk = true
theorem ls_start {l : List Con} {vs : List Int} {fu : Int} (h : lsOk l vs fu = true) : lsI l vs fu 64 l [] := ⟨ls_ok h, rfl, (lsOk_parts h).2.1, pOk_all (lsOk_parts h).1⟩
theorem ls_sv {l L : List Con} {vs : List Int} {fu : Int} {n : Nat} {f : List (List Bool)} (h : lsOk l vs fu = true) (hi : lsI l vs fu n L f) : svOk L fu = true := by
  obtain ⟨_, _, _, h4, h5⟩ := lsOk_parts h
  unfold svOk pOk
  rw [hi.2.2.2, decide_eq_true (by have := hi.2.1; have := hi.2.2.1; omega), decide_eq_true ⟨h4, h5⟩]; rfl
theorem ls_uns {l L : List Con} {vs : List Int} {fu : Int} {n : Nat} {f : List (List Bool)} (hi : lsI l vs fu n L f) (h : svC L fu = 2) : lsV l vs fu = (2, f, svS L fu) := by rw [hi.1, lsN, if_pos h]
theorem ls_stop {l L : List Con} {vs : List Int} {fu : Int} {n : Nat} {f : List (List Bool)} (hi : lsI l vs fu n L f) (h : ¬ svC L fu = 2) (h2 : svC L fu ≠ 1 ∨ f.length = 64) : lsV l vs fu = (0, [], []) := by rw [hi.1, lsN, if_neg h, if_pos h2]
theorem lsX_ok {vs : List Int} {bs : List Bool} (h : varsFrom 0 vs = true) : cOk (lsX vs bs) = true := cOk_mk (okFrom_ex (Int.le_refl 0) h) (by decide) (by decide)
theorem ls_next {l L : List Con} {vs : List Int} {fu : Int} {n : Nat} {f : List (List Bool)} (ho : lsOk l vs fu = true) (hi : lsI l vs fu n L f) (h : ¬ svC L fu = 2) (h2 : ¬ (svC L fu ≠ 1 ∨ f.length = 64)) : 0 < n ∧ lsI l vs fu (n - 1) (L ++ [lsX vs (svV L fu)]) (f ++ [svV L fu]) := by
  have hn : 0 < n := by have := hi.2.1; omega
  obtain ⟨m, rfl⟩ : ∃ m, n = m + 1 := ⟨n - 1, by omega⟩
  refine ⟨hn, by rw [hi.1, lsN, if_neg h, if_neg h2]; rfl, by have := hi.2.1; simp; omega, by have := hi.2.2.1; simp; omega, ?_⟩
  rw [List.all_append, hi.2.2.2]; simp [lsX_ok (lsOk_parts ho).2.2.1]
theorem ls_val {L : List Con} {fu : Int} (h : svOk L fu = true) (h1 : svC L fu = 1) : (svV L fu).length = 12 ∧ satV L (svV L fu) = true := by
  have h2 := sv_ok h
  rw [h2.2]
  exact (sv_good h).sat (by rw [← h2.1]; exact h1)
theorem svC_cases {L : List Con} {fu : Int} (h : svOk L fu = true) : svC L fu = 0 ∨ svC L fu = 1 ∨ svC L fu = 2 := by
  rw [(sv_ok h).1]; exact (sv_good h).code
end Go.Ab
/- Solutions counted by some variables. -/
set_option linter.unusedSimpArgs false
set_option linter.unusedVariables false
namespace Go.Ab
def b2i (b : Bool) : Int := if b then 1 else 0
def keyI (bs : List Bool) (vs : List Int) : Int := vs.foldl (fun k v => k * 2 + b2i (bs.getD (v - 1).toNat default)) 0
def keysN (l : List Con) (vs : List Int) : Nat → List Int
  | 0 => []
  | n + 1 => if satV l (assn n) then insK (keysN l vs n) (keyI (assn n) vs) else keysN l vs n
def cpOk (l : List Con) (vs : List Int) : Bool := pOk l && varsFrom 0 vs
def cpV (l : List Con) (vs : List Int) : Int := if cpOk l vs then (((keysN l vs 4096).length : Nat) : Int) else 0
def seenR (ks : List Int) : List Bool := (List.range 4096).map (fun (k : Nat) => decide ((k : Int) ∈ ks))
def allV : List Int := (List.range 12).map (fun (i : Nat) => (i : Int) + 1)
end Go.Ab
/- Listings: what is found are pairwise different, satisfy the problem, and leave nothing out. -/
set_option autoImplicit false
set_option linter.unusedSimpArgs false
set_option linter.unusedVariables false
namespace Go.Ab
theorem sv_sat {l : List Con} {fu : Int} (h : svC l fu = 1) : (svV l fu).length = 12 ∧ satV l (svV l fu) = true := by
  have ho : svOk l fu = true := by
    cases hq : svOk l fu
    · have := (sv_bad hq).1; omega
    · rfl
  exact ls_val ho h
def chn (vs : List Int) : List Con → List (List Bool) → Prop
  | L, [] => ∀ bs : List Bool, bs.length = 12 → satV L bs = false
  | L, b :: g => b.length = 12 ∧ satV L b = true ∧ chn vs (L ++ [lsX vs b]) g
end Go.Ab
/- Proofs that are run, told in plain lists. -/
set_option autoImplicit false
set_option linter.unusedSimpArgs false
set_option linter.unusedVariables false
namespace Go.Ab
abbrev Stp := Int × Int × Int × Con
def dStp (s : Stp) : List V := [.p (.int .i64 s.1), .p (.int .i64 s.2.1), .p (.int .i64 s.2.2.1), .sl (s.2.2.2.1.map dT), .p (.int .i64 s.2.2.2.2)]
def rupS (c : Con) : Stp := (7, 0, 0, c)
def netA (v : Int) (t : Term) : Int := if t.2 = v then t.1 else if t.2 = -v then -t.1 else 0
def netV (ts : List Term) (v : Int) : Int := ts.foldl (fun s t => s + netA v t) 0
def netB (ts : List Term) (b : Int) : Int := ts.foldl (fun s t => if t.2 < 0 then s - t.1 else s) b
def nrm1 (f : Int → Int) (v : Int) : List Term := if 0 < f v then [(f v, v)] else if f v < 0 then [(-f v, -v)] else []
def nrmT (f : Int → Int) : Nat → List Term
  | 0 => []
  | n + 1 => nrmT f n ++ nrm1 f (n : Int)
def nrmB (f : Int → Int) (b : Int) : Nat → Int
  | 0 => b
  | n + 1 => nrmB f b n - min 0 (f (n : Int))
def nrmC (ts : List Term) (b : Int) : Con := (nrmT (netV ts) 13, max 0 (nrmB (netV ts) (netB ts b) 13))
def addO (a b : Con) : Bool := cOk (nrmC (a.1 ++ b.1) (a.2 + b.2))
def addC (a b : Con) : Con := vC (nrmC (a.1 ++ b.1) (a.2 + b.2))
def refK (k : Int) : Int × Bool := if k = 1 then (2, false) else if k = 2 ∨ k = 3 ∨ k = 5 then (1, true) else if k = 4 ∨ k = 8 then (1, false) else if k = 6 ∨ k = 7 then (0, false) else (-1, false)
def noC (c : Con) : Bool := decide (c.1.length = 0) && decide (c.2 = 0)
def shpV (s : Stp) : Bool :=
  if s.1 = 1 ∨ s.1 = 2 ∨ s.1 = 3 ∨ s.1 = 5 then noC s.2.2.2
  else if s.1 = 4 ∨ s.1 = 6 ∨ s.1 = 8 then noC s.2.2.2 && decide (s.2.2.1 = 0)
  else if s.1 = 7 then decide (s.2.1 = 0) && decide (s.2.2.1 = 0)
  else false
def axC (a : Int) : Con := if litOk a then ([(1, a)], 0) else ([], 0)
def falC (c : Con) : Bool := cOk c && decide (totV c.1 < c.2)
abbrev Db := List Con × List Bool
def livV (D : Db) (i : Int) : Bool := decide (0 ≤ i) && decide (i < (D.1.length : Int)) && !D.2.getD i.toNat default
def kepN (D : Db) : Nat → List Con
  | 0 => []
  | n + 1 => if D.2.getD n default then kepN D n else kepN D n ++ [D.1.getD n default]
def kepV (D : Db) : List Con := kepN D D.1.length
def drvC (D : Db) (s : Stp) : Con :=
  if s.1 = 1 then addC (D.1.getD s.2.1.toNat default) (D.1.getD s.2.2.1.toNat default)
  else if s.1 = 2 then chR (mulK s.2.2.1) (D.1.getD s.2.1.toNat default) s.2.2.1
  else if s.1 = 3 then divR (D.1.getD s.2.1.toNat default) s.2.2.1
  else if s.1 = 4 then (if cOk (D.1.getD s.2.1.toNat default) then stC (D.1.getD s.2.1.toNat default) else ([], 0))
  else if s.1 = 5 then weakC (D.1.getD s.2.1.toNat default) s.2.2.1
  else if s.1 = 6 then axC s.2.1
  else s.2.2.2
def drvO (D : Db) (s : Stp) : Bool :=
  if s.1 = 1 then addO (D.1.getD s.2.1.toNat default) (D.1.getD s.2.2.1.toNat default)
  else if s.1 = 2 then chB (mulK s.2.2.1) (D.1.getD s.2.1.toNat default) s.2.2.1
  else if s.1 = 3 then kOk (D.1.getD s.2.1.toNat default) s.2.2.1
  else if s.1 = 4 then cOk (D.1.getD s.2.1.toNat default)
  else if s.1 = 5 then wOk (D.1.getD s.2.1.toNat default) s.2.2.1
  else if s.1 = 6 then litOk s.2.1
  else cOk s.2.2.2 && rupV (kepV D) s.2.2.2
def refO (D : Db) (s : Stp) : Bool := (decide (¬ 0 < (refK s.1).1) || livV D s.2.1) && (decide (¬ 1 < (refK s.1).1) || livV D s.2.2.1)
def stpO (D : Db) (s : Stp) : Bool := shpV s && (refO D s && (decide (s.1 = 8) || drvO D s))
def stpD (D : Db) (s : Stp) : Db := if s.1 = 8 then (D.1, D.2.set s.2.1.toNat true) else (D.1 ++ [drvC D s], D.2 ++ [false])
def stpV (D : Db) (s : Stp) : Option Db := if stpO D s then some (stpD D s) else none
def runS (D : Db) (ss : List Stp) : Option Db := ss.foldl (fun o s => o.bind fun D => stpV D s) (some D)
def run0 (l : List Con) : Db := (l, List.replicate l.length false)
def runV (l : List Con) (ss : List Stp) : Option Db := if pOk l && decide (ss.length ≤ 1000) then runS (run0 l) ss else none
def falN (D : Db) (i : Nat) : Bool := !D.2.getD i default && falC (D.1.getD i default)
def falV (D : Db) : Bool := (List.range D.1.length).any (falN D)
def crV (l : List Con) (ss : List Stp) : Bool := match runV l ss with | none => false | some D => falV D
def lcOk (l : List Con) (vs : List Int) (f : List (List Bool)) : Bool := pOk l && decide (l.length ≤ 336) && varsFrom 0 vs && decide (f.length ≤ 64)
def lcN (vs : List Int) (L : List Con) : List (List Bool) → Option (List Con)
  | [] => some L
  | b :: f => if b.length = 12 ∧ satV L b = true then lcN vs (L ++ [lsX vs b]) f else none
def lcV (l : List Con) (vs : List Int) (f : List (List Bool)) (ss : List Stp) : Bool :=
  if lcOk l vs f then (match lcN vs l f with | none => false | some L => crV L ss) else false
end Go.Ab
namespace Go.Ab
end Go.Ab
namespace Go.Ab
def weakM (v : Int) (ts : List Term) (b : Int) : Int := ts.foldl (fun s t => if varOf t.2 = v then max 0 (b - t.1) else s) b
end Go.Ab
/- Facts for the walks of proofs that are run. -/
set_option autoImplicit false
namespace Go.Ab
abbrev fitT (ts : List Term) : Prop := ts.length ≤ 80 ∧ ∀ t ∈ ts, litOk t.2 = true ∧ -30000 ≤ t.1 ∧ t.1 ≤ 30000
def netL (ts : List Term) : List Int := (List.range 13).map fun (v : Nat) => netV ts (v : Int)
def netR (ts : List Term) : List V := (netL ts).map fun x => V.p (.int .i64 x)
def catE (a b : List Term) (k : Nat) : List Term := if k = 0 then a else b
def catN (a b : List Term) : Nat → List Term
  | 0 => []
  | 1 => a
  | _ => a ++ b
end Go.Ab
namespace Go.Ab
end Go.Ab
namespace Go.Ab
end Go.Ab
/- Steps of proofs, told for the walks. -/
set_option autoImplicit false
set_option linter.unusedSimpArgs false
namespace Go.Ab
def stpF (D : Db) (s : Stp) : Db := if shpV s && refO D s then stpD D s else D
abbrev atI (D : Db) (i : Int) : Con := D.1.getD i.toNat default
section
variable {D : Db} {s : Stp}
def invD (D : Db) (n : Nat) : Prop := D.1.all cOk = true ∧ D.2.length = D.1.length ∧ D.1.length ≤ n
end
def runI (l : List Con) (ss : List Stp) (k : Nat) (D : Db) : Prop := k ≤ ss.length ∧ runS (run0 l) (ss.take k) = some D ∧ invD D (400 + k)
def falI (D : Db) : Int := idxF (falN D) (List.range D.1.length) 0
end Go.Ab
namespace Go.Ab
end Go.Ab
namespace Go.Ab
def drvX (D : Db) (s : Stp) : Con := if refO D s then drvC D s else ([], 0)
def drvY (D : Db) (s : Stp) : Bool := refO D s && drvO D s
section
variable {D : Db} {s : Stp}
end
end Go.Ab
/- Literals in ascending order of their variables. -/
set_option autoImplicit false
set_option linter.unusedSimpArgs false
set_option linter.unusedVariables false
namespace Go.Ab
def insS (x : Int) : List Int → List Int
  | [] => [x]
  | y :: r => if varOf x ≤ varOf y then x :: y :: r else y :: insS x r
def srtS (ls : List Int) : List Int := ls.foldr insS []
def apt (l : List Int) : Prop := (∀ x ∈ l, litOk x = true) ∧ l.Pairwise (fun a b => varOf a ≠ varOf b)
def insI (M : List Int) (i j : Nat) : Prop := ∀ p q : Nat, p < q → q ≤ i → q ≠ j → varOf (M.getD p default) < varOf (M.getD q default)
def ordI (M : List Int) (i : Nat) : Prop := ∀ p q : Nat, p < q → q < i → varOf (M.getD p default) < varOf (M.getD q default)
def swpL (M : List Int) (j : Nat) : List Int := (M.set j (M.getD (j - 1) default)).set (j - 1) (M.getD j default)
end Go.Ab
namespace Go.Ab
end Go.Ab
/- A search that is split by cubes: its merged proof is accepted. -/
set_option autoImplicit false
set_option linter.unusedSimpArgs false
set_option linter.unusedVariables false
namespace Go.Ab
def cub1 (o : List (List Int)) (v : Int) : List (List Int) := o.flatMap fun c => [c ++ [v], c ++ [-v]]
def cubV (vs : List Int) : List (List Int) := vs.foldl cub1 [[]]
def uniC (x : Int) : Con := ([(1, x)], 1)
def cuL (l : List Con) (c : List Int) : List Con := l ++ c.map uniC
def litsC (K : Con) : List Int := K.1.map (·.2)
def lifC (c : List Int) (K : Con) : Con := ((srtS (negL c ++ litsC K)).map oneL, 1)
def under (c : List Int) (K : Con) : Prop := ∃ D, K = cle D ∧ apt (c ++ D) ∧ asc D
def cla (A : List Int) : Con := (A.map oneL, 1)
def fixq (K : Con) (q : List Int) : Prop := 0 ≤ slV K q ∧ impC K q = []
def nfL (q : List Int) (A : List Int) : Int := sumF (fun t => if 0 ≤ stV q t.2 then t.1 else 0) (A.map oneL)
def chnR : List Con → List Con → Prop
  | _, [] => True
  | L, K :: r => cOk K = true ∧ rupV L K = true ∧ chnR (L ++ [K]) r
theorem chnR_app : ∀ {a b L : List Con}, chnR L (a ++ b) ↔ chnR L a ∧ chnR (L ++ a) b
  | [], b, L => by simp [chnR]
  | K :: a, b, L => by
    rw [List.cons_append, chnR, chnR, chnR_app (a := a), show L ++ K :: a = L ++ [K] ++ a by simp]
    constructor
    · rintro ⟨h1, h2, h3, h4⟩; exact ⟨⟨h1, h2, h3⟩, h4⟩
    · rintro ⟨⟨h1, h2, h3⟩, h4⟩; exact ⟨h1, h2, h3, h4⟩
theorem chnR_of {L S : List Con} (ho : S.all cOk = true) (h : ∀ k, k < S.length → rupV (L ++ S.take k) (S.getD k default) = true) : ∀ k, k ≤ S.length → chnR L (S.take k)
  | 0, _ => by simp [chnR]
  | k + 1, hk => by
    rw [qjt (d := default) (by omega), chnR_app]
    exact ⟨chnR_of ho h k (by omega), List.all_eq_true.1 ho _ (qzw (by omega)), h k (by omega), trivial⟩
theorem chnR_all : ∀ {S L : List Con}, chnR L S → S.all cOk = true
  | [], _, _ => rfl
  | K :: r, L, h => by rw [List.all_cons, h.1, chnR_all h.2.2]; rfl
theorem sv_chn {l : List Con} {fu : Int} (h : svC l fu = 2) : pOk l = true ∧ chnR l (svS l fu) ∧ cle [] ∈ svS l fu ∧ (svS l fu).length ≤ 1000 := by
  have ho : svOk l fu = true := by
    cases hq : svOk l fu
    · have := (sv_bad hq).1; omega
    · rfl
  have g := sv_good ho
  have hc := (sv_ok ho).1
  have e : svS l fu = (svR l fu).1 := by unfold svS; rw [if_pos h]
  rw [e]
  have ho2 := g.ok
  rw [List.all_append, Bool.and_eq_true] at ho2
  have h1 := chnR_of ho2.2 (fun k hk => g.rup k (by simp) hk) _ (Nat.le_refl _)
  rw [List.take_length] at h1
  exact ⟨(svOk_parts ho).1, h1, g.uns (by rw [← hc]; exact h), g.len⟩
end Go.Ab

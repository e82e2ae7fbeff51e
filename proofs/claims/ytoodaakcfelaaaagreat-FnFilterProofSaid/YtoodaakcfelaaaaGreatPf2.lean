/- Texts. -/
import Derived.Test.YtoodaakcfelaaaaGreatDmod2
import Derived.Test.YtoodaakcfelaaaaGreatSimp
import Derived.Test.YtoodaakcfelaaaaGreatAb24
set_option autoImplicit false
namespace Go.Ab
theorem asc_noneg {L : List Int} (h : asc L) {k : Nat} (hk : k < L.length) : -(L.getD k default) ∉ L := by
  intro hm
  have h1 := qzo (d := default) hk
  have h2 := okFrom_uniq h (oneL (L.getD k default)) (List.mem_map.2 ⟨_, h1, rfl⟩) (oneL (-(L.getD k default))) (List.mem_map.2 ⟨_, hm, rfl⟩) varOf_neg.symm
  have h3 : L.getD k default = -(L.getD k default) := congrArg Prod.snd h2
  have h4 := litOk_iff.1 (asc_lit h _ h1)
  omega
theorem asc_pair {L : List Int} (h : asc L) : L.Pairwise (fun a b => varOf a < varOf b) := by
  have h1 := okFrom_apart' h
  rw [List.pairwise_map] at h1
  exact h1
theorem asc_lt {L : List Int} (h : asc L) {k : Nat} (hk : k + 1 < L.length) : varOf (L.getD k default) < varOf (L.getD (k + 1) default) := by
  have h1 := List.pairwise_iff_getElem.1 (asc_pair h) k (k + 1) (by omega) hk (by omega)
  rw [List.getD_eq_getElem?_getD, List.getD_eq_getElem?_getD, List.getElem?_eq_getElem (by omega : k < L.length), List.getElem?_eq_getElem hk]
  exact h1
theorem asc_lt' {L : List Int} (h : asc L) {k : Nat} (h0 : 1 ≤ k) (hk : k < L.length) : varOf (L.getD (k - 1) default) < varOf (L.getD k default) := by
  obtain ⟨j, rfl⟩ : ∃ j, k = j + 1 := ⟨k - 1, by omega⟩
  exact asc_lt h hk
theorem asc_ne {L : List Int} (h : asc L) {k : Nat} (h0 : 1 ≤ k) (hk : k < L.length) : ¬ L.getD k default = L.getD (k - 1) default := fun e => by
  have := asc_lt' h h0 hk
  rw [e] at this; omega
theorem asc_at {L : List Int} (h : asc L) {k : Nat} (hk : k < L.length) : litOk (L.getD k default) = true := asc_lit h _ (qzo hk)
theorem negL_len {D : List Int} : (negL D).length = D.length := List.length_map ..
theorem asc_negL {D : List Int} (h : asc D) : asc (negL D) := asc_neg h
theorem negL_take {D : List Int} {k : Nat} (hk : k < D.length) : negL (D.take (k + 1)) = negL (D.take k) ++ [-(D.getD k default)] := by
  unfold negL; rw [qjn (d := default) hk, List.map_append]; rfl
theorem wrapU64 {x : Nat} (hx : x ≤ 12) : IntKind.u64.wrap (x : Int) = x := by rcases (by omega : x = 0 ∨ x = 1 ∨ x = 2 ∨ x = 3 ∨ x = 4 ∨ x = 5 ∨ x = 6 ∨ x = 7 ∨ x = 8 ∨ x = 9 ∨ x = 10 ∨ x = 11 ∨ x = 12) with h | h | h | h | h | h | h | h | h | h | h | h | h <;> (subst h; rfl)
theorem wrapU8 {x : Nat} (hx : x ≤ 12) : IntKind.u8.wrap (x : Int) = x := by rcases (by omega : x = 0 ∨ x = 1 ∨ x = 2 ∨ x = 3 ∨ x = 4 ∨ x = 5 ∨ x = 6 ∨ x = 7 ∨ x = 8 ∨ x = 9 ∨ x = 10 ∨ x = 11 ∨ x = 12) with h | h | h | h | h | h | h | h | h | h | h | h | h <;> (subst h; rfl)
def lenT (x : Nat) : UInt8 := ([0, 1, 2, 2, 3, 3, 3, 3, 4, 4, 4, 4, 4] : List UInt8).getD x 0
end Go.Ab
set_option autoImplicit false
namespace Go.Ab
def dSt (c : Con) : List V := [.p (.int .i64 7), .p (.int .i64 0), .p (.int .i64 0), .sl (c.1.map dT), .p (.int .i64 c.2)]
def valO (p : List Int) : List Bool := if freeV p = 0 then valP p else []
theorem valO_y {p : List Int} (h : freeV p = 0) : valO p = valP p := by unfold valO; rw [if_pos h]
theorem valO_n {p : List Int} (h : ¬ freeV p = 0) : valO p = [] := by unfold valO; rw [if_neg h]
theorem dSt_snoc {S : List Con} {c : Con} : (S ++ [c]).map dSt = S.map dSt ++ [dSt c] := by simp
theorem cle_len {D : List Int} (h : asc D) : (cle D).1.length ≤ 12 := by
  unfold cle; rw [List.length_map, negL_len]; exact asc_len h
end Go.Ab
set_option autoImplicit false
namespace Go.Ab
def visH (l : List Con) (n : Nat) (st : List Con) (fu : Int) (D : List Int) : Prop := (l ++ st).all cOk = true ∧ st.length ≤ 1000 ∧ (0 ≤ fu ∧ fu ≤ 2000) ∧ inv l st D ∧ n + D.length = 13 ∧ l.length ≤ 1000
section
variable (l : List Con) (n : Nat) (st : List Con) (fu : Int) (D : List Int)
abbrev twoV : List Int := [(freeV (prD l st D).1 : Int), -(freeV (prD l st D).1 : Int)]
def visK : Nat → List Con × Int
  | 0 => (st, fu - 1)
  | 1 => ((vis1 l n st fu D).1, (vis1 l n st fu D).2.1)
  | _ => ((vis2 l n st fu D).1, (vis2 l n st fu D).2.1)
def visN (k : Nat) : List Con × Int × Int × List Bool := visit l n (visK l n st fu D k).1 (visK l n st fu D k).2 (D ++ [(twoV l st D).getD k default])
end
section
variable {l : List Con} {n : Nat} {st : List Con} {fu : Int} {D : List Int}
theorem visK_next {k : Nat} (hk : k < 2) : visK l n st fu D (k + 1) = ((visN l n st fu D k).1, (visN l n st fu D k).2.1) := by
  match k, hk with
  | 0, _ => rfl
  | 1, _ => rfl
theorem visH_len (h : visH l n st fu D) : D.length ≤ 12 := asc_len h.2.2.2.1.1
theorem visH_n (h : visH l n st fu D) : n ≠ 0 := by have := visH_len h; have := h.2.2.2.2.1; omega
theorem visK_H (h : visH l (n + 1) st fu D) (hm : ¬ (fu = 0 ∨ 1000 ≤ st.length)) (hp : ¬ 0 ≤ (prD l st D).2) (hv : ¬ freeV (prD l st D).1 = 0) {k : Nat} (hk : k < 2) : visH l n (visK l n st fu D k).1 (visK l n st fu D k).2 (D ++ [(twoV l st D).getD k default]) := by
  obtain ⟨h1, h2, h3, h4, h5, h6⟩ := h
  obtain ⟨ha, i1, i2⟩ := inv_next h4 h1 hp hv
  have hf1 : 0 ≤ fu - 1 ∧ fu - 1 ≤ 2000 := by omega
  have hlen : ∀ d : Int, n + (D ++ [d]).length = 13 := fun d => by simp; omega
  match k, hk with
  | 0, _ => exact ⟨h1, h2, hf1, i1, hlen _, h6⟩
  | 1, _ =>
    have g1 := visit_good (l := l) (n := n) (st := st) (fu := fu - 1) (D := D ++ [(freeV (prD l st D).1 : Int)]) h1 h2 hf1.1 i1
    have hsub : ∀ c ∈ st, c ∈ (vis1 l n st fu D).1 := fun c hc => by obtain ⟨x, hx⟩ := g1.pre; rw [show (vis1 l n st fu D).1 = st ++ x from hx]; simp [hc]
    have hf : (vis1 l n st fu D).2.1 ≤ fu - 1 := g1.fuel.2
    exact ⟨g1.ok, g1.len, ⟨g1.fuel.1, by show (vis1 l n st fu D).2.1 ≤ 2000; omega⟩, inv_more i2 hsub, hlen _, h6⟩
theorem visN_good (h : visH l (n + 1) st fu D) (hm : ¬ (fu = 0 ∨ 1000 ≤ st.length)) (hp : ¬ 0 ≤ (prD l st D).2) (hv : ¬ freeV (prD l st D).1 = 0) {k : Nat} (hk : k < 2) : VisG l (visK l n st fu D k).1 (visK l n st fu D k).2 (D ++ [(twoV l st D).getD k default]) (visN l n st fu D k) := by
  have h1 := visK_H h hm hp hv hk
  exact visit_good h1.1 h1.2.1 h1.2.2.1.1 h1.2.2.2.1
theorem visN_hit (hm : ¬ (fu = 0 ∨ 1000 ≤ st.length)) (hp : ¬ 0 ≤ (prD l st D).2) (hv : ¬ freeV (prD l st D).1 = 0) {k : Nat} (hk : k < 2) (hc : k = 1 → (vis1 l n st fu D).2.2.1 = 2) (h : (visN l n st fu D k).2.2.1 ≠ 2) : visit l (n + 1) st fu D = visN l n st fu D k := by
  match k, hk with
  | 0, _ => exact vs_one hm hp hv h
  | 1, _ => exact vs_two hm hp hv (fun q => q (hc rfl)) h
theorem varOf_rng {d : Int} (h : litOk d = true) : 1 ≤ varOf d ∧ varOf d ≤ 12 := by have := litOk_iff.1 h; unfold varOf; omega
theorem asg_twop {p : List Int} {m : Int} (h : 0 < m) : (p.map dI).set (varOf m - 1).toNat [.p (.int .i64 1)] = (asg p m).map dI := by
  rw [show varOf m = m by unfold varOf; omega]; exact asg_rowp h
theorem asg_twon {p : List Int} {m : Int} (h : m < 0) : ((p.map dI).set (varOf m - 1).toNat [.p (.int .i64 1)]).set (-m - 1).toNat [.p (.int .i64 (-1))] = (asg p m).map dI := by
  rw [show varOf m = -m by unfold varOf; omega, List.set_set]; exact asg_rown (by omega) (by omega)
theorem boxF {e : Nat} {a b : V} {x : Int} {c : Bool} (h : c = false) : some (0, Obj.box e [a, .p (.int .i64 x), b, .p (.bool c)]) = some (0, Obj.box e [a, .p (.int .i64 x), b, .p (.bool false)]) := by rw [h]
end
end Go.Ab
set_option autoImplicit false
namespace Go.Ab
def lsX (vs : List Int) (bs : List Bool) : Con := (exTs vs bs, 1)
def lsN (vs : List Int) (fu : Int) : Nat → List Con → List (List Bool) → Int × List (List Bool) × List Con
  | 0, _, _ => (0, [], [])
  | n + 1, L, f => if svC L fu = 2 then (2, f, svS L fu) else if svC L fu ≠ 1 ∨ f.length = 64 then (0, [], []) else lsN vs fu n (L ++ [lsX vs (svV L fu)]) (f ++ [svV L fu])
def lsOk (l : List Con) (vs : List Int) (fu : Int) : Bool := pOk l && decide (l.length ≤ 336) && varsFrom 0 vs && decide (0 ≤ fu ∧ fu ≤ 2000)
def lsV (l : List Con) (vs : List Int) (fu : Int) : Int × List (List Bool) × List Con := if lsOk l vs fu then lsN vs fu 65 l [] else (3, [], [])
def lsI (l : List Con) (vs : List Int) (fu : Int) (n : Nat) (L : List Con) (f : List (List Bool)) : Prop := lsV l vs fu = lsN vs fu (n + 1) L f ∧ f.length + n = 64 ∧ L.length ≤ 336 + f.length ∧ L.all cOk = true
theorem ls_val {L : List Con} {fu : Int} (h : svOk L fu = true) (h1 : svC L fu = 1) : (svV L fu).length = 12 ∧ satV L (svV L fu) = true := by
  have h2 := sv_ok h
  rw [h2.2]
  exact (sv_good h).sat (by rw [← h2.1]; exact h1)
theorem svC_cases {L : List Con} {fu : Int} (h : svOk L fu = true) : svC L fu = 0 ∨ svC L fu = 1 ∨ svC L fu = 2 := by
  rw [(sv_ok h).1]; exact (sv_good h).code
end Go.Ab
/- Solutions counted by some variables. -/
set_option linter.unusedSimpArgs false
set_option linter.unusedVariables false
namespace Go.Ab
def b2i (b : Bool) : Int := if b then 1 else 0
def keyI (bs : List Bool) (vs : List Int) : Int := vs.foldl (fun k v => k * 2 + b2i (bs.getD (v - 1).toNat default)) 0
def keysN (l : List Con) (vs : List Int) : Nat → List Int
  | 0 => []
  | n + 1 => if satV l (assn n) then insK (keysN l vs n) (keyI (assn n) vs) else keysN l vs n
def cpOk (l : List Con) (vs : List Int) : Bool := pOk l && varsFrom 0 vs
def cpV (l : List Con) (vs : List Int) : Int := if cpOk l vs then (((keysN l vs 4096).length : Nat) : Int) else 0
def seenR (ks : List Int) : List Bool := (List.range 4096).map (fun (k : Nat) => decide ((k : Int) ∈ ks))
def allV : List Int := (List.range 12).map (fun (i : Nat) => (i : Int) + 1)
end Go.Ab
/- Listings: what is found are pairwise different, satisfy the problem, and leave nothing out. -/
set_option autoImplicit false
set_option linter.unusedSimpArgs false
set_option linter.unusedVariables false
namespace Go.Ab
theorem sv_sat {l : List Con} {fu : Int} (h : svC l fu = 1) : (svV l fu).length = 12 ∧ satV l (svV l fu) = true := by
  have ho : svOk l fu = true := by
    cases hq : svOk l fu
    · have := (sv_bad hq).1; omega
    · rfl
  exact ls_val ho h
def chn (vs : List Int) : List Con → List (List Bool) → Prop
  | L, [] => ∀ bs : List Bool, bs.length = 12 → satV L bs = false
  | L, b :: g => b.length = 12 ∧ satV L b = true ∧ chn vs (L ++ [lsX vs b]) g
end Go.Ab
/- Proofs that are run, told in plain lists. -/
set_option autoImplicit false
set_option linter.unusedSimpArgs false
set_option linter.unusedVariables false
namespace Go.Ab
abbrev Stp := Int × Int × Int × Con
def dStp (s : Stp) : List V := [.p (.int .i64 s.1), .p (.int .i64 s.2.1), .p (.int .i64 s.2.2.1), .sl (s.2.2.2.1.map dT), .p (.int .i64 s.2.2.2.2)]
def rupS (c : Con) : Stp := (7, 0, 0, c)
def netA (v : Int) (t : Term) : Int := if t.2 = v then t.1 else if t.2 = -v then -t.1 else 0
def netV (ts : List Term) (v : Int) : Int := ts.foldl (fun s t => s + netA v t) 0
def netB (ts : List Term) (b : Int) : Int := ts.foldl (fun s t => if t.2 < 0 then s - t.1 else s) b
def nrm1 (f : Int → Int) (v : Int) : List Term := if 0 < f v then [(f v, v)] else if f v < 0 then [(-f v, -v)] else []
def nrmT (f : Int → Int) : Nat → List Term
  | 0 => []
  | n + 1 => nrmT f n ++ nrm1 f (n : Int)
def nrmB (f : Int → Int) (b : Int) : Nat → Int
  | 0 => b
  | n + 1 => nrmB f b n - min 0 (f (n : Int))
def nrmC (ts : List Term) (b : Int) : Con := (nrmT (netV ts) 13, max 0 (nrmB (netV ts) (netB ts b) 13))
def addO (a b : Con) : Bool := cOk (nrmC (a.1 ++ b.1) (a.2 + b.2))
def addC (a b : Con) : Con := vC (nrmC (a.1 ++ b.1) (a.2 + b.2))
def refK (k : Int) : Int × Bool := if k = 1 then (2, false) else if k = 2 ∨ k = 3 ∨ k = 5 then (1, true) else if k = 4 ∨ k = 8 then (1, false) else if k = 6 ∨ k = 7 then (0, false) else (-1, false)
def noC (c : Con) : Bool := decide (c.1.length = 0) && decide (c.2 = 0)
def shpV (s : Stp) : Bool :=
  if s.1 = 1 ∨ s.1 = 2 ∨ s.1 = 3 ∨ s.1 = 5 then noC s.2.2.2
  else if s.1 = 4 ∨ s.1 = 6 ∨ s.1 = 8 then noC s.2.2.2 && decide (s.2.2.1 = 0)
  else if s.1 = 7 then decide (s.2.1 = 0) && decide (s.2.2.1 = 0)
  else false
def axC (a : Int) : Con := if litOk a then ([(1, a)], 0) else ([], 0)
def falC (c : Con) : Bool := cOk c && decide (totV c.1 < c.2)
abbrev Db := List Con × List Bool
def livV (D : Db) (i : Int) : Bool := decide (0 ≤ i) && decide (i < (D.1.length : Int)) && !D.2.getD i.toNat default
def kepN (D : Db) : Nat → List Con
  | 0 => []
  | n + 1 => if D.2.getD n default then kepN D n else kepN D n ++ [D.1.getD n default]
def kepV (D : Db) : List Con := kepN D D.1.length
def drvC (D : Db) (s : Stp) : Con :=
  if s.1 = 1 then addC (D.1.getD s.2.1.toNat default) (D.1.getD s.2.2.1.toNat default)
  else if s.1 = 2 then chR (mulK s.2.2.1) (D.1.getD s.2.1.toNat default) s.2.2.1
  else if s.1 = 3 then divR (D.1.getD s.2.1.toNat default) s.2.2.1
  else if s.1 = 4 then (if cOk (D.1.getD s.2.1.toNat default) then stC (D.1.getD s.2.1.toNat default) else ([], 0))
  else if s.1 = 5 then weakC (D.1.getD s.2.1.toNat default) s.2.2.1
  else if s.1 = 6 then axC s.2.1
  else s.2.2.2
def drvO (D : Db) (s : Stp) : Bool :=
  if s.1 = 1 then addO (D.1.getD s.2.1.toNat default) (D.1.getD s.2.2.1.toNat default)
  else if s.1 = 2 then chB (mulK s.2.2.1) (D.1.getD s.2.1.toNat default) s.2.2.1
  else if s.1 = 3 then kOk (D.1.getD s.2.1.toNat default) s.2.2.1
  else if s.1 = 4 then cOk (D.1.getD s.2.1.toNat default)
  else if s.1 = 5 then wOk (D.1.getD s.2.1.toNat default) s.2.2.1
  else if s.1 = 6 then litOk s.2.1
  else cOk s.2.2.2 && rupV (kepV D) s.2.2.2
def refO (D : Db) (s : Stp) : Bool := (decide (¬ 0 < (refK s.1).1) || livV D s.2.1) && (decide (¬ 1 < (refK s.1).1) || livV D s.2.2.1)
def stpO (D : Db) (s : Stp) : Bool := shpV s && (refO D s && (decide (s.1 = 8) || drvO D s))
def stpD (D : Db) (s : Stp) : Db := if s.1 = 8 then (D.1, D.2.set s.2.1.toNat true) else (D.1 ++ [drvC D s], D.2 ++ [false])
def stpV (D : Db) (s : Stp) : Option Db := if stpO D s then some (stpD D s) else none
def runS (D : Db) (ss : List Stp) : Option Db := ss.foldl (fun o s => o.bind fun D => stpV D s) (some D)
def run0 (l : List Con) : Db := (l, List.replicate l.length false)
def runV (l : List Con) (ss : List Stp) : Option Db := if pOk l && decide (ss.length ≤ 1000) then runS (run0 l) ss else none
def falN (D : Db) (i : Nat) : Bool := !D.2.getD i default && falC (D.1.getD i default)
def falV (D : Db) : Bool := (List.range D.1.length).any (falN D)
def crV (l : List Con) (ss : List Stp) : Bool := match runV l ss with | none => false | some D => falV D
def lcOk (l : List Con) (vs : List Int) (f : List (List Bool)) : Bool := pOk l && decide (l.length ≤ 336) && varsFrom 0 vs && decide (f.length ≤ 64)
def lcN (vs : List Int) (L : List Con) : List (List Bool) → Option (List Con)
  | [] => some L
  | b :: f => if b.length = 12 ∧ satV L b = true then lcN vs (L ++ [lsX vs b]) f else none
def lcV (l : List Con) (vs : List Int) (f : List (List Bool)) (ss : List Stp) : Bool :=
  if lcOk l vs f then (match lcN vs l f with | none => false | some L => crV L ss) else false
end Go.Ab
namespace Go.Ab
end Go.Ab
namespace Go.Ab
def weakM (v : Int) (ts : List Term) (b : Int) : Int := ts.foldl (fun s t => if varOf t.2 = v then max 0 (b - t.1) else s) b
end Go.Ab
/- Literals in ascending order of their variables. -/
set_option autoImplicit false
set_option linter.unusedSimpArgs false
set_option linter.unusedVariables false
namespace Go.Ab
def insS (x : Int) : List Int → List Int
  | [] => [x]
  | y :: r => if varOf x ≤ varOf y then x :: y :: r else y :: insS x r
def srtS (ls : List Int) : List Int := ls.foldr insS []
theorem insS_perm {x : Int} : ∀ {l : List Int}, (insS x l).Perm (x :: l)
  | [] => List.Perm.refl _
  | y :: r => by
    rw [insS]
    split
    · exact List.Perm.refl _
    · exact (List.Perm.cons y insS_perm).trans (List.Perm.swap x y r)
theorem srtS_perm : ∀ {l : List Int}, (srtS l).Perm l
  | [] => List.Perm.refl _
  | x :: r => (insS_perm (x := x) (l := srtS r)).trans (List.Perm.cons x srtS_perm)
theorem insS_sorted {x : Int} : ∀ {l : List Int}, l.Pairwise (fun a b => varOf a < varOf b) → (∀ y ∈ l, varOf y ≠ varOf x) → (insS x l).Pairwise (fun a b => varOf a < varOf b)
  | [], _, _ => List.pairwise_singleton _ _
  | y :: r, h, hn => by
    rw [List.pairwise_cons] at h
    rw [insS]
    have h0 := hn y (by simp)
    split
    · rename_i hle
      rw [List.pairwise_cons, List.pairwise_cons]
      exact ⟨fun z hz => by
        rcases List.mem_cons.1 hz with e | e
        · subst e; omega
        · have := h.1 z e; omega, h⟩
    · rename_i hle
      rw [List.pairwise_cons]
      refine ⟨fun z hz => ?_, insS_sorted h.2 (fun z hz => hn z (by simp [hz]))⟩
      rcases List.mem_cons.1 (insS_perm.mem_iff.1 hz) with e | e
      · subst e; omega
      · exact h.1 z e
theorem srtS_sorted : ∀ {l : List Int}, l.Pairwise (fun a b => varOf a ≠ varOf b) → (srtS l).Pairwise (fun a b => varOf a < varOf b)
  | [], _ => List.Pairwise.nil
  | x :: r, h => by
    rw [List.pairwise_cons] at h
    exact insS_sorted (srtS_sorted h.2) (fun y hy => Ne.symm (h.1 y (srtS_perm.mem_iff.1 hy)))
def apt (l : List Int) : Prop := (∀ x ∈ l, litOk x = true) ∧ l.Pairwise (fun a b => varOf a ≠ varOf b)
theorem asc_of : ∀ {l : List Int} {p : Int}, (∀ x ∈ l, litOk x = true ∧ p < varOf x) → l.Pairwise (fun a b => varOf a < varOf b) → okFrom p (l.map oneL) = true
  | [], _, _, _ => rfl
  | x :: r, p, h, hp => by
    rw [List.pairwise_cons] at hp
    have h1 := h x (by simp)
    rw [List.map_cons, okFrom_good (t := oneL x) h1.1 h1.2 (Int.le_refl 1) (show (1 : Int) ≤ 1000 by decide)]
    exact asc_of (fun y hy => ⟨(h y (by simp [hy])).1, hp.1 y hy⟩) hp.2
theorem apt_asc {l : List Int} (h : apt l) : asc (srtS l) := asc_of (fun x hx => by
  have := h.1 x (srtS_perm.mem_iff.1 hx)
  refine ⟨this, ?_⟩
  have := litOk_iff.1 this
  unfold varOf; omega) (srtS_sorted h.2)
theorem sorted_unique : ∀ {a b : List Int}, a.Perm b → a.Pairwise (fun x y => varOf x < varOf y) → b.Pairwise (fun x y => varOf x < varOf y) → a = b
  | [], b, h, _, _ => by rw [List.nil_perm.1 h]
  | x :: a, [], h, _, _ => by have := h.length_eq; simp at this
  | x :: a, y :: b, h, ha, hb => by
    rw [List.pairwise_cons] at ha hb
    have e : x = y := by
      rcases List.mem_cons.1 (h.mem_iff.1 (List.mem_cons_self (a := x) (l := a))) with e | e
      · exact e
      · rcases List.mem_cons.1 (h.mem_iff.2 (List.mem_cons_self (a := y) (l := b))) with q | q
        · exact q.symm
        · have h1 := hb.1 x e; have h2 := ha.1 y q; omega
    subst e
    rw [sorted_unique (List.Perm.cons_inv h) ha.2 hb.2]
theorem apt_perm {a b : List Int} (h : a.Perm b) (hb : apt b) : apt a :=
  ⟨fun x hx => hb.1 x (h.mem_iff.1 hx), (h.pairwise_iff (fun h e => h e.symm)).2 hb.2⟩
theorem qjx {l : List Int} : (srtS l).length = l.length := srtS_perm.length_eq
theorem apt_len {l : List Int} (h : apt l) : l.length ≤ 12 := by rw [← qjx]; exact asc_len (apt_asc h)
theorem seen_hit : ∀ {L : List Int} {x : Int}, L.Pairwise (fun a b => varOf a ≠ varOf b) → x ∈ L → seenG L (varOf x) = x
  | [], _, _, h => by cases h
  | l :: r, x, hp, h => by
    rw [List.pairwise_cons] at hp
    rw [seenG]
    rcases List.mem_cons.1 h with e | e
    · subst e; rw [if_pos rfl]
    · rw [if_neg (hp.1 x e)]; exact seen_hit hp.2 e
theorem apt_at {L : List Int} (h : apt L) {k : Nat} (hk : k < L.length) : litOk (L.getD k default) = true := h.1 _ (qzo hk)
theorem apt_noneg {L : List Int} (h : apt L) {k : Nat} (hk : k < L.length) : -(L.getD k default) ∉ L := by
  intro hm
  have h1 := seen_hit h.2 hm
  have h2 := seen_hit h.2 (qzo (d := default) hk)
  rw [varOf_neg, h2] at h1
  have := litOk_iff.1 (apt_at h hk)
  omega
def insI (M : List Int) (i j : Nat) : Prop := ∀ p q : Nat, p < q → q ≤ i → q ≠ j → varOf (M.getD p default) < varOf (M.getD q default)
def ordI (M : List Int) (i : Nat) : Prop := ∀ p q : Nat, p < q → q < i → varOf (M.getD p default) < varOf (M.getD q default)
theorem ins_start {M : List Int} {i : Nat} (h : ordI M i) : insI M i i := fun p q h1 h2 h3 => h p q h1 (by omega)
theorem ins_end {M : List Int} {i j : Nat} (h : insI M i j) (hj : j ≤ i) (h2 : j = 0 ∨ varOf (M.getD (j - 1) default) < varOf (M.getD j default)) : ordI M (i + 1) := fun p q h3 h4 => by
  by_cases e : q = j
  · subst e
    rcases h2 with h2 | h2
    · omega
    · by_cases e2 : p = q - 1
      · subst e2; exact h2
      · have := h p (q - 1) (by omega) (by omega) (by omega); omega
  · exact h p q h3 (by omega) e
def swpL (M : List Int) (j : Nat) : List Int := (M.set j (M.getD (j - 1) default)).set (j - 1) (M.getD j default)
theorem swp_at {M : List Int} {j : Nat} (h0 : 0 < j) (hj : j < M.length) (p : Nat) : (swpL M j).getD p default = if p = j - 1 then M.getD j default else if p = j then M.getD (j - 1) default else M.getD p default := by
  unfold swpL
  simp only [List.getD_eq_getElem?_getD, List.getElem?_set, List.length_set]
  by_cases e1 : p = j - 1
  · subst e1; rw [if_pos rfl, if_pos rfl, if_pos (by omega)]; rfl
  · rw [if_neg (Ne.symm e1), if_neg e1]
    by_cases e2 : p = j
    · subst e2; rw [if_pos rfl, if_pos rfl, if_pos hj]; rfl
    · rw [if_neg (Ne.symm e2), if_neg e2]
theorem swp_len {M : List Int} {j : Nat} : (swpL M j).length = M.length := by unfold swpL; simp
theorem swp_perm {M : List Int} {j : Nat} (h0 : 0 < j) (hj : j < M.length) : (swpL M j).Perm M := by
  obtain ⟨a, x, y, b, rfl, hl⟩ : ∃ a x y b, M = a ++ x :: y :: b ∧ a.length = j - 1 := by
    refine ⟨M.take (j - 1), M.getD (j - 1) default, M.getD j default, M.drop (j + 1), ?_, by simp; omega⟩
    have h1 := drop_getD (d := default) (l := M) (k := j - 1) (by omega)
    have h2 := drop_getD (d := default) (l := M) (k := j) hj
    rw [show j - 1 + 1 = j by omega, h2] at h1
    rw [← h1, List.take_append_drop]
  have e : swpL (a ++ x :: y :: b) j = a ++ y :: x :: b := by
    apply List.ext_getElem?
    intro i
    have hs := swp_at (M := a ++ x :: y :: b) h0 hj i
    by_cases hi : i < (a ++ x :: y :: b).length
    · have e1 : (swpL (a ++ x :: y :: b) j)[i]? = some ((swpL (a ++ x :: y :: b) j).getD i default) := by
        rw [List.getD_eq_getElem?_getD, List.getElem?_eq_getElem (by rw [swp_len]; exact hi)]; rfl
      have e2 : (a ++ y :: x :: b)[i]? = some ((a ++ y :: x :: b).getD i default) := by
        rw [List.getD_eq_getElem?_getD, List.getElem?_eq_getElem (by simp at hi ⊢; omega)]; rfl
      rw [e1, e2, hs]
      congr 1
      simp only [List.getD_eq_getElem?_getD]
      by_cases c1 : i = j - 1
      · rw [if_pos c1, c1, ← hl, List.getElem?_append_right (by omega), List.getElem?_append_right (by omega), show j - a.length = 1 by omega, Nat.sub_self]; rfl
      · rw [if_neg c1]
        by_cases c2 : i = j
        · rw [if_pos c2, c2, List.getElem?_append_right (by omega), List.getElem?_append_right (by omega), show j - 1 - a.length = 0 by omega, show j - a.length = 1 by omega]; rfl
        · rw [if_neg c2]
          by_cases c3 : i < a.length
          · rw [List.getElem?_append_left c3, List.getElem?_append_left c3]
          · rw [List.getElem?_append_right (by omega), List.getElem?_append_right (by omega)]
            obtain ⟨m, hm⟩ : ∃ m, i - a.length = m + 2 := ⟨i - a.length - 2, by omega⟩
            rw [hm]; rfl
    · rw [List.getElem?_eq_none (by rw [swp_len]; omega), List.getElem?_eq_none (by simp at hi ⊢; omega)]
  rw [e]
  exact List.Perm.append_left a (List.Perm.swap x y b)
theorem ins_step {M : List Int} {i j : Nat} (h : insI M i j) (h0 : 0 < j) (hj : j ≤ i) (hi : i < M.length) (hlt : varOf (M.getD j default) < varOf (M.getD (j - 1) default)) : insI (swpL M j) i (j - 1) := fun p q h1 h2 h3 => by
  rw [swp_at h0 (by omega), swp_at h0 (by omega), if_neg h3]
  by_cases c2 : q = j
  · rw [if_pos c2]
    by_cases c1 : p = j - 1
    · rw [if_pos c1]; exact hlt
    · rw [if_neg c1, if_neg (by omega)]; exact h p (j - 1) (by omega) (by omega) (by omega)
  · rw [if_neg c2]
    by_cases c1 : p = j - 1
    · rw [if_pos c1]; exact h j q (by omega) h2 c2
    · rw [if_neg c1]
      by_cases c3 : p = j
      · rw [if_pos c3]; exact h (j - 1) q (by omega) h2 c2
      · rw [if_neg c3]; exact h p q h1 h2 c2
theorem ord_pair {M : List Int} (h : ordI M M.length) : M.Pairwise (fun a b => varOf a < varOf b) := by
  rw [List.pairwise_iff_getElem]
  intro i j hi hj hij
  have := h i j hij hj
  simpa [List.getD_eq_getElem?_getD, List.getElem?_eq_getElem hi, List.getElem?_eq_getElem hj] using this
theorem ord_one {M : List Int} : ordI M 1 := fun p q h1 h2 => by omega
theorem ord_done {L M : List Int} (hp : M.Perm L) (hL : apt L) (h : ordI M M.length) : M = srtS L := sorted_unique (hp.trans srtS_perm.symm) (ord_pair h) (srtS_sorted hL.2)
theorem perm_ne {L M : List Int} (hp : M.Perm L) (hL : apt L) {i j : Nat} (hi : i < M.length) (hj : j < M.length) (hij : i ≠ j) : varOf (M.getD i default) ≠ varOf (M.getD j default) := by
  have h := (apt_perm hp hL).2
  rw [List.pairwise_iff_getElem] at h
  simp only [List.getD_eq_getElem?_getD, List.getElem?_eq_getElem hi, List.getElem?_eq_getElem hj, Option.getD_some]
  rcases Nat.lt_or_gt_of_ne hij with q | q
  · exact h i j hi hj q
  · exact Ne.symm (h j i hj hi q)
theorem swp_row {M : List Int} {j : Nat} : ((M.map dI).set j (dI (M.getD (j - 1) default))).set (j - 1) (dI (M.getD j default)) = (swpL M j).map dI := by
  unfold swpL; rw [List.map_set, List.map_set]
end Go.Ab
namespace Go.Ab
theorem srt_end {L M : List Int} {i : Nat} (hp : M.Perm L) (h : apt L) (ho : ordI M i) (hi : M.length ≤ i) : M = srtS L := ord_done hp h (fun p q h1 h2 => ho p q h1 (by omega))
end Go.Ab
/- A search that is split by cubes: its merged proof is accepted. -/
set_option autoImplicit false
set_option linter.unusedSimpArgs false
set_option linter.unusedVariables false
namespace Go.Ab
def cub1 (o : List (List Int)) (v : Int) : List (List Int) := o.flatMap fun c => [c ++ [v], c ++ [-v]]
def cubV (vs : List Int) : List (List Int) := vs.foldl cub1 [[]]
def uniC (x : Int) : Con := ([(1, x)], 1)
def cuL (l : List Con) (c : List Int) : List Con := l ++ c.map uniC
def litsC (K : Con) : List Int := K.1.map (·.2)
def lifC (c : List Int) (K : Con) : Con := ((srtS (negL c ++ litsC K)).map oneL, 1)
def under (c : List Int) (K : Con) : Prop := ∃ D, K = cle D ∧ apt (c ++ D) ∧ asc D
def cla (A : List Int) : Con := (A.map oneL, 1)
def fixq (K : Con) (q : List Int) : Prop := 0 ≤ slV K q ∧ impC K q = []
def nfL (q : List Int) (A : List Int) : Int := sumF (fun t => if 0 ≤ stV q t.2 then t.1 else 0) (A.map oneL)
def chnR : List Con → List Con → Prop
  | _, [] => True
  | L, K :: r => cOk K = true ∧ rupV L K = true ∧ chnR (L ++ [K]) r
theorem chnR_app : ∀ {a b L : List Con}, chnR L (a ++ b) ↔ chnR L a ∧ chnR (L ++ a) b
  | [], b, L => by simp [chnR]
  | K :: a, b, L => by
    rw [List.cons_append, chnR, chnR, chnR_app (a := a), show L ++ K :: a = L ++ [K] ++ a by simp]
    constructor
    · rintro ⟨h1, h2, h3, h4⟩; exact ⟨⟨h1, h2, h3⟩, h4⟩
    · rintro ⟨⟨h1, h2, h3⟩, h4⟩; exact ⟨h1, h2, h3, h4⟩
theorem chnR_of {L S : List Con} (ho : S.all cOk = true) (h : ∀ k, k < S.length → rupV (L ++ S.take k) (S.getD k default) = true) : ∀ k, k ≤ S.length → chnR L (S.take k)
  | 0, _ => by simp [chnR]
  | k + 1, hk => by
    rw [qjn (d := default) (by omega), chnR_app]
    exact ⟨chnR_of ho h k (by omega), List.all_eq_true.1 ho _ (qzo (by omega)), h k (by omega), trivial⟩
theorem sv_chn {l : List Con} {fu : Int} (h : svC l fu = 2) : pOk l = true ∧ chnR l (svS l fu) ∧ cle [] ∈ svS l fu ∧ (svS l fu).length ≤ 1000 := by
  have ho : svOk l fu = true := by
    cases hq : svOk l fu
    · have := (sv_bad hq).1; omega
    · rfl
  have g := sv_good ho
  have hc := (sv_ok ho).1
  have e : svS l fu = (svR l fu).1 := by unfold svS; rw [if_pos h]
  rw [e]
  have ho2 := g.ok
  rw [List.all_append, Bool.and_eq_true] at ho2
  have h1 := chnR_of ho2.2 (fun k hk => g.rup k (by simp) hk) _ (Nat.le_refl _)
  rw [List.take_length] at h1
  exact ⟨(svOk_parts ho).1, h1, g.uns (by rw [← hc]; exact h), g.len⟩
end Go.Ab
/- Facts for the walks of proofs that are run. -/
set_option autoImplicit false
namespace Go.Ab
theorem netV_next {ts : List Term} {k : Nat} (h : k < ts.length) (v : Int) : netV (ts.take (k + 1)) v = netV (ts.take k) v + netA v (ts.getD k default) := by
  unfold netV; rw [qjn (d := default) h, List.foldl_append]; rfl
theorem netB_next {ts : List Term} {b : Int} {k : Nat} (h : k < ts.length) : netB (ts.take (k + 1)) b = if (ts.getD k default).2 < 0 then netB (ts.take k) b - (ts.getD k default).1 else netB (ts.take k) b := by
  unfold netB; rw [qjn (d := default) h, List.foldl_append]; rfl
abbrev fitT (ts : List Term) : Prop := ts.length ≤ 80 ∧ ∀ t ∈ ts, litOk t.2 = true ∧ -30000 ≤ t.1 ∧ t.1 ≤ 30000
theorem fit_at {ts : List Term} (h : fitT ts) {k : Nat} (hk : k < ts.length) : litOk (ts.getD k default).2 = true ∧ -30000 ≤ (ts.getD k default).1 ∧ (ts.getD k default).1 ≤ 30000 := h.2 _ (qzo hk)
theorem netA_rng {v : Int} {t : Term} (h : -30000 ≤ t.1 ∧ t.1 ≤ 30000) : -30000 ≤ netA v t ∧ netA v t ≤ 30000 := by unfold netA; (repeat' split) <;> omega
theorem netV_rng {ts : List Term} (h : fitT ts) (v : Int) : ∀ {k : Nat}, k ≤ ts.length → -30000 * (k : Int) ≤ netV (ts.take k) v ∧ netV (ts.take k) v ≤ 30000 * (k : Int)
  | 0, _ => by simp [netV]
  | k + 1, hk => by
    have ih := netV_rng h v (k := k) (by omega)
    have := netA_rng (v := v) (fit_at h (k := k) (by omega)).2
    rw [netV_next (by omega)]; omega
theorem netB_rng {ts : List Term} (h : fitT ts) {b : Int} : ∀ {k : Nat}, k ≤ ts.length → b - 30000 * (k : Int) ≤ netB (ts.take k) b ∧ netB (ts.take k) b ≤ b + 30000 * (k : Int)
  | 0, _ => by simp [netB]
  | k + 1, hk => by
    have ih := netB_rng h (b := b) (k := k) (by omega)
    have := (fit_at h (k := k) (by omega)).2
    rw [netB_next (by omega)]; split <;> omega
def netL (ts : List Term) : List Int := (List.range 13).map fun (v : Nat) => netV ts (v : Int)
theorem netL_len {ts : List Term} : (netL ts).length = 13 := by simp [netL]
theorem netA_at {t : Term} (h : litOk t.2 = true) {v : Nat} (hv : v < 13) : netA (v : Int) t = if v = (varOf t.2).toNat then (if 0 < t.2 then t.1 else -t.1) else 0 := by
  have := litOk_iff.1 h
  unfold netA varOf
  by_cases h1 : 0 < t.2
  · by_cases e : t.2 = (v : Int)
    · rw [if_pos e, if_pos (by omega), if_pos h1]
    · rw [if_neg e, if_neg (by omega), if_neg (by omega)]
  · by_cases e : t.2 = -(v : Int)
    · rw [if_neg (by omega), if_pos e, if_pos (by omega), if_neg h1]
    · rw [if_neg (by omega), if_neg e, if_neg (by omega)]
theorem netL_set {ts : List Term} (h : fitT ts) {k : Nat} (hk : k < ts.length) {x : Int} (hx : x = netV (ts.take k) (varOf (ts.getD k default).2) + (if 0 < (ts.getD k default).2 then (ts.getD k default).1 else -(ts.getD k default).1)) : (netL (ts.take k)).set (varOf (ts.getD k default).2).toNat x = netL (ts.take (k + 1)) := by
  have hl := (fit_at h hk).1
  have hl2 := litOk_iff.1 hl
  have hv : varOf (ts.getD k default).2 = max (ts.getD k default).2 (-(ts.getD k default).2) := rfl
  unfold netL
  have := map_range_set (f := fun v : Nat => netV (ts.take k) (v : Int)) (g := fun v : Nat => netV (ts.take (k + 1)) (v : Int)) (n := 13) (k := (varOf (ts.getD k default).2).toNat) (fun j hj => by
    by_cases hj13 : j < 13
    · rw [netV_next hk, netA_at hl hj13]
      by_cases e : j = (varOf (ts.getD k default).2).toNat
      · rw [if_pos e, if_pos e, netV_next hk, netA_at hl (by omega), if_pos rfl, e]
      · rw [if_neg e, if_neg e, Int.add_zero]
    · rw [netV_next hk, if_neg (by omega)]
      unfold netA; rw [if_neg (by omega), if_neg (by omega), Int.add_zero])
  rw [← this]
  congr 1
  rw [netV_next hk, netA_at hl (by omega), if_pos rfl, hx]
  congr 2; omega
def netR (ts : List Term) : List V := (netL ts).map fun x => V.p (.int .i64 x)
theorem netR_nil : netR [] = [.p (.int .i64 0), .p (.int .i64 0), .p (.int .i64 0), .p (.int .i64 0), .p (.int .i64 0), .p (.int .i64 0), .p (.int .i64 0), .p (.int .i64 0), .p (.int .i64 0), .p (.int .i64 0), .p (.int .i64 0), .p (.int .i64 0), .p (.int .i64 0)] := rfl
theorem netR_len {ts : List Term} : (netR ts).length = 13 := by unfold netR; rw [List.length_map, netL_len]
theorem netR_get {ts : List Term} {v : Nat} (h : v < 13) : (netR ts)[v]? = some (.p (.int .i64 (netV ts (v : Int)))) := by
  unfold netR netL
  rw [List.getElem?_map, List.getElem?_map, List.getElem?_range h]; rfl
theorem netR_at {ts : List Term} {i : Int} {o : Nat} (h : 0 ≤ i ∧ i < 13) (ho : o = 0 + i.toNat * 1) : (netR ts)[o]? = some (.p (.int .i64 (netV ts i))) := by
  subst ho
  rw [Nat.zero_add, Nat.mul_one, netR_get (by omega), Int.toNat_of_nonneg h.1]
theorem netR_pos {ts : List Term} (h : fitT ts) {k : Nat} (hk : k < ts.length) (h0 : ¬ (ts.getD k default).2 < 0) : (netR (ts.take k)).set (0 + (ts.getD k default).2.toNat * 1) (.p (.int .i64 (netV (ts.take k) (ts.getD k default).2 + (ts.getD k default).1))) = netR (ts.take (k + 1)) := by
  have hl := litOk_iff.1 (fit_at h hk).1
  have hv : varOf (ts.getD k default).2 = (ts.getD k default).2 := by unfold varOf; omega
  unfold netR
  rw [← netL_set h hk (x := netV (ts.take k) (ts.getD k default).2 + (ts.getD k default).1) (by rw [hv, if_pos (by omega)]), hv, List.map_set, Nat.zero_add, Nat.mul_one]
theorem netR_neg {ts : List Term} (h : fitT ts) {k : Nat} (hk : k < ts.length) (h0 : (ts.getD k default).2 < 0) : (netR (ts.take k)).set (0 + (-(ts.getD k default).2).toNat * 1) (.p (.int .i64 (netV (ts.take k) (-(ts.getD k default).2) - (ts.getD k default).1))) = netR (ts.take (k + 1)) := by
  have hl := litOk_iff.1 (fit_at h hk).1
  have hv : varOf (ts.getD k default).2 = -(ts.getD k default).2 := by unfold varOf; omega
  unfold netR
  rw [← netL_set h hk (x := netV (ts.take k) (-(ts.getD k default).2) - (ts.getD k default).1) (by rw [hv, if_neg (by omega)]; omega), hv, List.map_set, Nat.zero_add, Nat.mul_one]
theorem nrm1_len {f : Int → Int} {v : Int} : (nrm1 f v).length ≤ 1 := by unfold nrm1; (repeat' split) <;> simp
theorem nrmT_len {f : Int → Int} : ∀ {n : Nat}, (nrmT f n).length ≤ n
  | 0 => Nat.le_refl _
  | n + 1 => by
    have ih := nrmT_len (f := f) (n := n)
    have := nrm1_len (f := f) (v := (n : Int))
    rw [nrmT, List.length_append]; omega
theorem nrmT_p {f : Int → Int} {n : Nat} (h : 0 < f (n : Int)) : nrmT f (n + 1) = nrmT f n ++ [(f (n : Int), (n : Int))] := by rw [nrmT, nrm1, if_pos h]
theorem nrmT_m {f : Int → Int} {n : Nat} (h : f (n : Int) < 0) : nrmT f (n + 1) = nrmT f n ++ [(-f (n : Int), -(n : Int))] := by rw [nrmT, nrm1, if_neg (by omega), if_pos h]
theorem nrmT_z {f : Int → Int} {n : Nat} (h : ¬ 0 < f (n : Int)) (h2 : ¬ f (n : Int) < 0) : nrmT f (n + 1) = nrmT f n := by rw [nrmT, nrm1, if_neg h, if_neg h2, List.append_nil]
theorem nrmB_m {f : Int → Int} {b : Int} {n : Nat} (h : f (n : Int) < 0) : nrmB f b (n + 1) = nrmB f b n - f (n : Int) := by rw [nrmB]; omega
theorem nrmB_z {f : Int → Int} {b : Int} {n : Nat} (h : ¬ f (n : Int) < 0) : nrmB f b (n + 1) = nrmB f b n := by rw [nrmB]; omega
theorem nrmB_rng {f : Int → Int} {b M : Int} (hf : ∀ v, -M ≤ f v ∧ f v ≤ M) : ∀ {n : Nat}, b ≤ nrmB f b n ∧ nrmB f b n ≤ b + M * (n : Int)
  | 0 => by simp [nrmB]
  | n + 1 => by
    have ih := nrmB_rng (b := b) hf (n := n)
    have h := hf (n : Int)
    rw [nrmB]
    have : M * ((n + 1 : Nat) : Int) = M * (n : Int) + M := by rw [Int.natCast_add, Int.mul_add]; simp
    omega
theorem netV_all {ts : List Term} (h : fitT ts) (v : Int) : -2400000 ≤ netV ts v ∧ netV ts v ≤ 2400000 := by
  have h1 := netV_rng h v (Nat.le_refl _)
  rw [List.take_length] at h1
  have := h.1; omega
theorem netB_all {ts : List Term} (h : fitT ts) (b : Int) : b - 2400000 ≤ netB ts b ∧ netB ts b ≤ b + 2400000 := by
  have h1 := netB_rng h (b := b) (Nat.le_refl _)
  rw [List.take_length] at h1
  have := h.1; omega
theorem nrmB_all {ts : List Term} (h : fitT ts) {b : Int} {n : Nat} (hn : n ≤ 13) : b ≤ nrmB (netV ts) b n ∧ nrmB (netV ts) b n ≤ b + 40000000 := by
  have := nrmB_rng (b := b) (netV_all h) (n := n)
  omega
def catE (a b : List Term) (k : Nat) : List Term := if k = 0 then a else b
def catN (a b : List Term) : Nat → List Term
  | 0 => []
  | 1 => a
  | _ => a ++ b
end Go.Ab
namespace Go.Ab
theorem boxEq1 {v e : Nat} {a b : List V} (h : a = b) : (some (v, Obj.box e a) : Option (Nat × Obj)) = some (v, .box e b) := by rw [h]
end Go.Ab
namespace Go.Ab
theorem netR_gi {ts : List Term} {j : Nat} (h : j < 13) : (netR ts)[((j : Nat) : Int).toNat]? = some (.p (.int .i64 (netV ts (j : Int)))) := by
  rw [Int.toNat_natCast]; exact netR_get h
end Go.Ab

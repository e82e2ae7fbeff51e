/- Texts. -/
import Derived.Test.YtoodaakcfelaaaaGreatFlt2
import Derived.Test.YtoodaakcfelaaaaGreatSimp
import Derived.Test.YtoodaakcfelaaaaGreatAb25
set_option autoImplicit false
namespace Go.Ab
theorem asc_noneg {L : List Int} (h : asc L) {k : Nat} (hk : k < L.length) : -(L.getD k default) ∉ L := by
  intro hm
  have h1 := qju (d := default) hk
  have h2 := okFrom_uniq h (oneL (L.getD k default)) (List.mem_map.2 ⟨_, h1, rfl⟩) (oneL (-(L.getD k default))) (List.mem_map.2 ⟨_, hm, rfl⟩) varOf_neg.symm
  have h3 : L.getD k default = -(L.getD k default) := congrArg Prod.snd h2
  have h4 := litOk_iff.1 (asc_lit h _ h1)
  omega
theorem asc_pair {L : List Int} (h : asc L) : L.Pairwise (fun a b => varOf a < varOf b) := by
  have h1 := okFrom_apart' h
  rw [List.pairwise_map] at h1
  exact h1
theorem asc_lt {L : List Int} (h : asc L) {k : Nat} (hk : k + 1 < L.length) : varOf (L.getD k default) < varOf (L.getD (k + 1) default) := by
  have h1 := List.pairwise_iff_getElem.1 (asc_pair h) k (k + 1) (by omega) hk (by omega)
  rw [List.getD_eq_getElem?_getD, List.getD_eq_getElem?_getD, List.getElem?_eq_getElem (by omega : k < L.length), List.getElem?_eq_getElem hk]
  exact h1
theorem asc_lt' {L : List Int} (h : asc L) {k : Nat} (h0 : 1 ≤ k) (hk : k < L.length) : varOf (L.getD (k - 1) default) < varOf (L.getD k default) := by
  obtain ⟨j, rfl⟩ : ∃ j, k = j + 1 := ⟨k - 1, by omega⟩
  exact asc_lt h hk
theorem asc_ne {L : List Int} (h : asc L) {k : Nat} (h0 : 1 ≤ k) (hk : k < L.length) : ¬ L.getD k default = L.getD (k - 1) default := fun e => by
  have := asc_lt' h h0 hk
  rw [e] at this; omega
theorem asc_at {L : List Int} (h : asc L) {k : Nat} (hk : k < L.length) : litOk (L.getD k default) = true := asc_lit h _ (qju hk)
theorem qjc {D : List Int} : (negL D).length = D.length := List.length_map ..
theorem asc_negL {D : List Int} (h : asc D) : asc (negL D) := asc_neg h
theorem negL_take {D : List Int} {k : Nat} (hk : k < D.length) : negL (D.take (k + 1)) = negL (D.take k) ++ [-(D.getD k default)] := by
  unfold negL; rw [qjj (d := default) hk, List.map_append]; rfl
theorem wrapU64 {x : Nat} (hx : x ≤ 12) : IntKind.u64.wrap (x : Int) = x := by rcases (by omega : x = 0 ∨ x = 1 ∨ x = 2 ∨ x = 3 ∨ x = 4 ∨ x = 5 ∨ x = 6 ∨ x = 7 ∨ x = 8 ∨ x = 9 ∨ x = 10 ∨ x = 11 ∨ x = 12) with h | h | h | h | h | h | h | h | h | h | h | h | h <;> (subst h; rfl)
theorem wrapU8 {x : Nat} (hx : x ≤ 12) : IntKind.u8.wrap (x : Int) = x := by rcases (by omega : x = 0 ∨ x = 1 ∨ x = 2 ∨ x = 3 ∨ x = 4 ∨ x = 5 ∨ x = 6 ∨ x = 7 ∨ x = 8 ∨ x = 9 ∨ x = 10 ∨ x = 11 ∨ x = 12) with h | h | h | h | h | h | h | h | h | h | h | h | h <;> (subst h; rfl)
def lenT (x : Nat) : UInt8 := ([0, 1, 2, 2, 3, 3, 3, 3, 4, 4, 4, 4, 4] : List UInt8).getD x 0
end Go.Ab
set_option autoImplicit false
namespace Go.Ab
def dSt (c : Con) : List V := [.p (.int .i64 7), .p (.int .i64 0), .p (.int .i64 0), .sl (c.1.map dT), .p (.int .i64 c.2)]
def valO (p : List Int) : List Bool := if freeV p = 0 then valP p else []
theorem valO_y {p : List Int} (h : freeV p = 0) : valO p = valP p := by unfold valO; rw [if_pos h]
theorem valO_n {p : List Int} (h : ¬ freeV p = 0) : valO p = [] := by unfold valO; rw [if_neg h]
theorem dSt_snoc {S : List Con} {c : Con} : (S ++ [c]).map dSt = S.map dSt ++ [dSt c] := by simp
theorem cle_len {D : List Int} (h : asc D) : (cle D).1.length ≤ 12 := by
  unfold cle; rw [List.length_map, qjc]; exact asc_len h
end Go.Ab
set_option autoImplicit false
namespace Go.Ab
def visH (l : List Con) (n : Nat) (st : List Con) (fu : Int) (D : List Int) : Prop := (l ++ st).all cOk = true ∧ st.length ≤ 1000 ∧ (0 ≤ fu ∧ fu ≤ 2000) ∧ inv l st D ∧ n + D.length = 13 ∧ l.length ≤ 1000
section
variable (l : List Con) (n : Nat) (st : List Con) (fu : Int) (D : List Int)
abbrev twoV : List Int := [(freeV (prD l st D).1 : Int), -(freeV (prD l st D).1 : Int)]
def visK : Nat → List Con × Int
  | 0 => (st, fu - 1)
  | 1 => ((vis1 l n st fu D).1, (vis1 l n st fu D).2.1)
  | _ => ((vis2 l n st fu D).1, (vis2 l n st fu D).2.1)
def visN (k : Nat) : List Con × Int × Int × List Bool := visit l n (visK l n st fu D k).1 (visK l n st fu D k).2 (D ++ [(twoV l st D).getD k default])
end
section
variable {l : List Con} {n : Nat} {st : List Con} {fu : Int} {D : List Int}
theorem visK_next {k : Nat} (hk : k < 2) : visK l n st fu D (k + 1) = ((visN l n st fu D k).1, (visN l n st fu D k).2.1) := by
  match k, hk with
  | 0, _ => rfl
  | 1, _ => rfl
theorem visH_len (h : visH l n st fu D) : D.length ≤ 12 := asc_len h.2.2.2.1.1
theorem visH_n (h : visH l n st fu D) : n ≠ 0 := by have := visH_len h; have := h.2.2.2.2.1; omega
theorem visK_H (h : visH l (n + 1) st fu D) (hm : ¬ (fu = 0 ∨ 1000 ≤ st.length)) (hp : ¬ 0 ≤ (prD l st D).2) (hv : ¬ freeV (prD l st D).1 = 0) {k : Nat} (hk : k < 2) : visH l n (visK l n st fu D k).1 (visK l n st fu D k).2 (D ++ [(twoV l st D).getD k default]) := by
  obtain ⟨h1, h2, h3, h4, h5, h6⟩ := h
  obtain ⟨ha, i1, i2⟩ := inv_next h4 h1 hp hv
  have hf1 : 0 ≤ fu - 1 ∧ fu - 1 ≤ 2000 := by omega
  have hlen : ∀ d : Int, n + (D ++ [d]).length = 13 := fun d => by simp; omega
  match k, hk with
  | 0, _ => exact ⟨h1, h2, hf1, i1, hlen _, h6⟩
  | 1, _ =>
    have g1 := visit_good (l := l) (n := n) (st := st) (fu := fu - 1) (D := D ++ [(freeV (prD l st D).1 : Int)]) h1 h2 hf1.1 i1
    have hsub : ∀ c ∈ st, c ∈ (vis1 l n st fu D).1 := fun c hc => by obtain ⟨x, hx⟩ := g1.pre; rw [show (vis1 l n st fu D).1 = st ++ x from hx]; simp [hc]
    have hf : (vis1 l n st fu D).2.1 ≤ fu - 1 := g1.fuel.2
    exact ⟨g1.ok, g1.len, ⟨g1.fuel.1, by show (vis1 l n st fu D).2.1 ≤ 2000; omega⟩, inv_more i2 hsub, hlen _, h6⟩
theorem visN_good (h : visH l (n + 1) st fu D) (hm : ¬ (fu = 0 ∨ 1000 ≤ st.length)) (hp : ¬ 0 ≤ (prD l st D).2) (hv : ¬ freeV (prD l st D).1 = 0) {k : Nat} (hk : k < 2) : VisG l (visK l n st fu D k).1 (visK l n st fu D k).2 (D ++ [(twoV l st D).getD k default]) (visN l n st fu D k) := by
  have h1 := visK_H h hm hp hv hk
  exact visit_good h1.1 h1.2.1 h1.2.2.1.1 h1.2.2.2.1
theorem visN_hit (hm : ¬ (fu = 0 ∨ 1000 ≤ st.length)) (hp : ¬ 0 ≤ (prD l st D).2) (hv : ¬ freeV (prD l st D).1 = 0) {k : Nat} (hk : k < 2) (hc : k = 1 → (vis1 l n st fu D).2.2.1 = 2) (h : (visN l n st fu D k).2.2.1 ≠ 2) : visit l (n + 1) st fu D = visN l n st fu D k := by
  match k, hk with
  | 0, _ => exact vs_one hm hp hv h
  | 1, _ => exact vs_two hm hp hv (fun q => q (hc rfl)) h
theorem varOf_rng {d : Int} (h : litOk d = true) : 1 ≤ varOf d ∧ varOf d ≤ 12 := by have := litOk_iff.1 h; unfold varOf; omega
theorem asg_twop {p : List Int} {m : Int} (h : 0 < m) : (p.map dI).set (varOf m - 1).toNat [.p (.int .i64 1)] = (asg p m).map dI := by
  rw [show varOf m = m by unfold varOf; omega]; exact asg_rowp h
theorem asg_twon {p : List Int} {m : Int} (h : m < 0) : ((p.map dI).set (varOf m - 1).toNat [.p (.int .i64 1)]).set (-m - 1).toNat [.p (.int .i64 (-1))] = (asg p m).map dI := by
  rw [show varOf m = -m by unfold varOf; omega, List.set_set]; exact asg_rown (by omega) (by omega)
theorem boxF {e : Nat} {a b : V} {x : Int} {c : Bool} (h : c = false) : some (0, Obj.box e [a, .p (.int .i64 x), b, .p (.bool c)]) = some (0, Obj.box e [a, .p (.int .i64 x), b, .p (.bool false)]) := by rw [h]
end
end Go.Ab
set_option autoImplicit false
namespace Go.Ab
def lsX (vs : List Int) (bs : List Bool) : Con := (exTs vs bs, 1)
def lsN (vs : List Int) (fu : Int) : Nat → List Con → List (List Bool) → Int × List (List Bool) × List Con
  | 0, _, _ => (0, [], [])
  | n + 1, L, f => if svC L fu = 2 then (2, f, svS L fu) else if svC L fu ≠ 1 ∨ f.length = 64 then (0, [], []) else lsN vs fu n (L ++ [lsX vs (svV L fu)]) (f ++ [svV L fu])
def lsOk (l : List Con) (vs : List Int) (fu : Int) : Bool := pOk l && decide (l.length ≤ 336) && varsFrom 0 vs && decide (0 ≤ fu ∧ fu ≤ 2000)
def lsV (l : List Con) (vs : List Int) (fu : Int) : Int × List (List Bool) × List Con := if lsOk l vs fu then lsN vs fu 65 l [] else (3, [], [])
def lsI (l : List Con) (vs : List Int) (fu : Int) (n : Nat) (L : List Con) (f : List (List Bool)) : Prop := lsV l vs fu = lsN vs fu (n + 1) L f ∧ f.length + n = 64 ∧ L.length ≤ 336 + f.length ∧ L.all cOk = true
theorem ls_val {L : List Con} {fu : Int} (h : svOk L fu = true) (h1 : svC L fu = 1) : (svV L fu).length = 12 ∧ satV L (svV L fu) = true := by
  have h2 := sv_ok h
  rw [h2.2]
  exact (sv_good h).sat (by rw [← h2.1]; exact h1)
end Go.Ab
/- Solutions counted by some variables. -/
set_option linter.unusedSimpArgs false
set_option linter.unusedVariables false
namespace Go.Ab
def b2i (b : Bool) : Int := if b then 1 else 0
def keyI (bs : List Bool) (vs : List Int) : Int := vs.foldl (fun k v => k * 2 + b2i (bs.getD (v - 1).toNat default)) 0
def keysN (l : List Con) (vs : List Int) : Nat → List Int
  | 0 => []
  | n + 1 => if satV l (assn n) then insK (keysN l vs n) (keyI (assn n) vs) else keysN l vs n
def cpOk (l : List Con) (vs : List Int) : Bool := pOk l && varsFrom 0 vs
def cpV (l : List Con) (vs : List Int) : Int := if cpOk l vs then (((keysN l vs 4096).length : Nat) : Int) else 0
def seenR (ks : List Int) : List Bool := (List.range 4096).map (fun (k : Nat) => decide ((k : Int) ∈ ks))
def allV : List Int := (List.range 12).map (fun (i : Nat) => (i : Int) + 1)
end Go.Ab
/- Listings: what is found are pairwise different, satisfy the problem, and leave nothing out. -/
set_option autoImplicit false
set_option linter.unusedSimpArgs false
set_option linter.unusedVariables false
namespace Go.Ab
theorem satV_app {a b : List Con} {bs : List Bool} : satV (a ++ b) bs = (satV a bs && satV b bs) := by unfold satV; rw [List.all_append]
theorem satV_mem {l : List Con} {bs : List Bool} (h : satV l bs = true) {c : Con} (hc : c ∈ l) : holdsV c bs = true := by unfold satV at h; exact List.all_eq_true.1 h c hc
theorem satV_of {l : List Con} {bs : List Bool} (h : ∀ c ∈ l, holdsV c bs = true) : satV l bs = true := by unfold satV; exact List.all_eq_true.2 h
theorem rup_sound {l : List Con} {c : Con} (hl : l.all cOk = true) (hc : cOk c = true) (h : rupV l c = true) {bs : List Bool} (hs : satV l bs = true) : holdsV c bs = true := by
  refine Classical.not_not.1 fun hn => ?_
  have hh : holdsV (negC c) bs = true := by rw [holds_neg hc]; simpa using hn
  have hl2 : (l ++ [negC c]).all cOk = true := by rw [List.all_append, hl]; simp [negC_ok hc]
  have hs2 : satV (l ++ [negC c]) bs = true := by rw [satV_app, hs, satV_one, hh]; rfl
  have h3 := (prop_ag hl2 hs2 (p := zeroP) (Nat.le_refl _) zero_ok (fun m _ h => by rw [stV_zeroP] at h; cases h)).1
  unfold rupV at h
  rw [decide_eq_true_eq] at h
  omega
theorem chain_sound {l S : List Con} (ho : (l ++ S).all cOk = true) (hr : ∀ k, k < S.length → rupV (l ++ S.take k) (S.getD k default) = true) {bs : List Bool} (hs : satV l bs = true) : ∀ k, k ≤ S.length → satV (l ++ S.take k) bs = true
  | 0, _ => by simpa using hs
  | k + 1, hk => by
    have ih := chain_sound ho hr hs k (by omega)
    rw [List.all_append, Bool.and_eq_true] at ho
    have hm : S.getD k default ∈ S := by rw [List.getD_eq_getElem?_getD, List.getElem?_eq_getElem (by omega)]; exact List.getElem_mem _
    have hk2 : (l ++ S.take k).all cOk = true := by
      rw [List.all_append, ho.1, Bool.true_and]
      exact List.all_eq_true.2 fun c hc => List.all_eq_true.1 ho.2 c (List.take_subset _ _ hc)
    rw [qjj (d := default) (by omega), ← List.append_assoc, satV_app, ih, satV_one, rup_sound hk2 (List.all_eq_true.1 ho.2 _ hm) (hr k (by omega)) ih]; rfl
theorem cle_nil {bs : List Bool} : holdsV (cle []) bs = false := rfl
theorem sv_uns {l : List Con} {fu : Int} (h : svC l fu = 2) {bs : List Bool} : satV l bs = false := by
  have ho : svOk l fu = true := by
    cases hq : svOk l fu
    · have := (sv_bad hq).1; omega
    · rfl
  have g := sv_good ho
  rw [(sv_ok ho).1] at h
  refine Classical.byContradiction fun hn => ?_
  have hs : satV l bs = true := by simpa using hn
  have h1 := chain_sound g.ok (fun k hk => g.rup k (by simp) hk) hs _ (Nat.le_refl _)
  rw [List.take_length] at h1
  have h2 := satV_mem h1 (List.mem_append_right _ (g.uns h))
  rw [cle_nil] at h2; cases h2
theorem sv_sat {l : List Con} {fu : Int} (h : svC l fu = 1) : (svV l fu).length = 12 ∧ satV l (svV l fu) = true := by
  have ho : svOk l fu = true := by
    cases hq : svOk l fu
    · have := (sv_bad hq).1; omega
    · rfl
  exact ls_val ho h
def chn (vs : List Int) : List Con → List (List Bool) → Prop
  | L, [] => ∀ bs : List Bool, bs.length = 12 → satV L bs = false
  | L, b :: g => b.length = 12 ∧ satV L b = true ∧ chn vs (L ++ [lsX vs b]) g
end Go.Ab
/- Proofs that are run, told in plain lists. -/
set_option autoImplicit false
set_option linter.unusedSimpArgs false
set_option linter.unusedVariables false
namespace Go.Ab
abbrev Stp := Int × Int × Int × Con
def dStp (s : Stp) : List V := [.p (.int .i64 s.1), .p (.int .i64 s.2.1), .p (.int .i64 s.2.2.1), .sl (s.2.2.2.1.map dT), .p (.int .i64 s.2.2.2.2)]
def rupS (c : Con) : Stp := (7, 0, 0, c)
theorem dSt_rups {S : List Con} : S.map dSt = (S.map rupS).map dStp := by rw [List.map_map]; rfl
def netA (v : Int) (t : Term) : Int := if t.2 = v then t.1 else if t.2 = -v then -t.1 else 0
def netV (ts : List Term) (v : Int) : Int := ts.foldl (fun s t => s + netA v t) 0
def netB (ts : List Term) (b : Int) : Int := ts.foldl (fun s t => if t.2 < 0 then s - t.1 else s) b
def nrm1 (f : Int → Int) (v : Int) : List Term := if 0 < f v then [(f v, v)] else if f v < 0 then [(-f v, -v)] else []
def nrmT (f : Int → Int) : Nat → List Term
  | 0 => []
  | n + 1 => nrmT f n ++ nrm1 f (n : Int)
def nrmB (f : Int → Int) (b : Int) : Nat → Int
  | 0 => b
  | n + 1 => nrmB f b n - min 0 (f (n : Int))
def nrmC (ts : List Term) (b : Int) : Con := (nrmT (netV ts) 13, max 0 (nrmB (netV ts) (netB ts b) 13))
def addO (a b : Con) : Bool := cOk (nrmC (a.1 ++ b.1) (a.2 + b.2))
def addC (a b : Con) : Con := vC (nrmC (a.1 ++ b.1) (a.2 + b.2))
def refK (k : Int) : Int × Bool := if k = 1 then (2, false) else if k = 2 ∨ k = 3 ∨ k = 5 then (1, true) else if k = 4 ∨ k = 8 then (1, false) else if k = 6 ∨ k = 7 then (0, false) else (-1, false)
def noC (c : Con) : Bool := decide (c.1.length = 0) && decide (c.2 = 0)
def shpV (s : Stp) : Bool :=
  if s.1 = 1 ∨ s.1 = 2 ∨ s.1 = 3 ∨ s.1 = 5 then noC s.2.2.2
  else if s.1 = 4 ∨ s.1 = 6 ∨ s.1 = 8 then noC s.2.2.2 && decide (s.2.2.1 = 0)
  else if s.1 = 7 then decide (s.2.1 = 0) && decide (s.2.2.1 = 0)
  else false
def axC (a : Int) : Con := if litOk a then ([(1, a)], 0) else ([], 0)
def falC (c : Con) : Bool := cOk c && decide (totV c.1 < c.2)
abbrev Db := List Con × List Bool
def livV (D : Db) (i : Int) : Bool := decide (0 ≤ i) && decide (i < (D.1.length : Int)) && !D.2.getD i.toNat default
def kepN (D : Db) : Nat → List Con
  | 0 => []
  | n + 1 => if D.2.getD n default then kepN D n else kepN D n ++ [D.1.getD n default]
def kepV (D : Db) : List Con := kepN D D.1.length
def drvC (D : Db) (s : Stp) : Con :=
  if s.1 = 1 then addC (D.1.getD s.2.1.toNat default) (D.1.getD s.2.2.1.toNat default)
  else if s.1 = 2 then chR (mulK s.2.2.1) (D.1.getD s.2.1.toNat default) s.2.2.1
  else if s.1 = 3 then divR (D.1.getD s.2.1.toNat default) s.2.2.1
  else if s.1 = 4 then (if cOk (D.1.getD s.2.1.toNat default) then stC (D.1.getD s.2.1.toNat default) else ([], 0))
  else if s.1 = 5 then weakC (D.1.getD s.2.1.toNat default) s.2.2.1
  else if s.1 = 6 then axC s.2.1
  else s.2.2.2
def drvO (D : Db) (s : Stp) : Bool :=
  if s.1 = 1 then addO (D.1.getD s.2.1.toNat default) (D.1.getD s.2.2.1.toNat default)
  else if s.1 = 2 then chB (mulK s.2.2.1) (D.1.getD s.2.1.toNat default) s.2.2.1
  else if s.1 = 3 then kOk (D.1.getD s.2.1.toNat default) s.2.2.1
  else if s.1 = 4 then cOk (D.1.getD s.2.1.toNat default)
  else if s.1 = 5 then wOk (D.1.getD s.2.1.toNat default) s.2.2.1
  else if s.1 = 6 then litOk s.2.1
  else cOk s.2.2.2 && rupV (kepV D) s.2.2.2
def refO (D : Db) (s : Stp) : Bool := (decide (¬ 0 < (refK s.1).1) || livV D s.2.1) && (decide (¬ 1 < (refK s.1).1) || livV D s.2.2.1)
def stpO (D : Db) (s : Stp) : Bool := shpV s && (refO D s && (decide (s.1 = 8) || drvO D s))
def stpD (D : Db) (s : Stp) : Db := if s.1 = 8 then (D.1, D.2.set s.2.1.toNat true) else (D.1 ++ [drvC D s], D.2 ++ [false])
def stpV (D : Db) (s : Stp) : Option Db := if stpO D s then some (stpD D s) else none
def runS (D : Db) (ss : List Stp) : Option Db := ss.foldl (fun o s => o.bind fun D => stpV D s) (some D)
def run0 (l : List Con) : Db := (l, List.replicate l.length false)
def runV (l : List Con) (ss : List Stp) : Option Db := if pOk l && decide (ss.length ≤ 1000) then runS (run0 l) ss else none
def falN (D : Db) (i : Nat) : Bool := !D.2.getD i default && falC (D.1.getD i default)
def falV (D : Db) : Bool := (List.range D.1.length).any (falN D)
def crV (l : List Con) (ss : List Stp) : Bool := match runV l ss with | none => false | some D => falV D
def lcOk (l : List Con) (vs : List Int) (f : List (List Bool)) : Bool := pOk l && decide (l.length ≤ 336) && varsFrom 0 vs && decide (f.length ≤ 64)
def lcN (vs : List Int) (L : List Con) : List (List Bool) → Option (List Con)
  | [] => some L
  | b :: f => if b.length = 12 ∧ satV L b = true then lcN vs (L ++ [lsX vs b]) f else none
def lcV (l : List Con) (vs : List Int) (f : List (List Bool)) (ss : List Stp) : Bool :=
  if lcOk l vs f then (match lcN vs l f with | none => false | some L => crV L ss) else false
theorem foldl_none {ss : List Stp} : ss.foldl (fun o s => o.bind fun D => stpV D s) (none : Option Db) = none := by
  induction ss with
  | nil => rfl
  | cons a r ih => simpa using ih
theorem runS_next {D E : Db} {ss : List Stp} {k : Nat} (h : k < ss.length) (hr : runS D (ss.take k) = some E) : runS D (ss.take (k + 1)) = stpV E (ss.getD k default) := by
  unfold runS at hr ⊢
  rw [qjj (d := default) h, List.foldl_append, hr]; rfl
theorem runS_stop {D : Db} {ss : List Stp} {k : Nat} (hr : runS D (ss.take k) = none) : runS D ss = none := by
  unfold runS at hr ⊢
  rw [← List.take_append_drop k ss, List.foldl_append, hr]; exact foldl_none
theorem stpV_y {D : Db} {s : Stp} (h : stpO D s = true) : stpV D s = some (stpD D s) := by unfold stpV; rw [if_pos h]
theorem stpV_n {D : Db} {s : Stp} (h : stpO D s = false) : stpV D s = none := by unfold stpV; rw [if_neg (by rw [h]; decide)]
theorem kepN_y {D : Db} {n : Nat} (h : D.2.getD n default = true) : kepN D (n + 1) = kepN D n := by rw [kepN, if_pos h]
theorem kepN_n {D : Db} {n : Nat} (h : D.2.getD n default = false) : kepN D (n + 1) = kepN D n ++ [D.1.getD n default] := by rw [kepN, if_neg (by rw [h]; decide)]
theorem kepN_len {D : Db} : ∀ {n : Nat}, (kepN D n).length ≤ n
  | 0 => Nat.le_refl _
  | n + 1 => by
    have ih := kepN_len (D := D) (n := n)
    cases h : D.2.getD n default
    · rw [kepN_n h, List.length_append]; simp; omega
    · rw [kepN_y h]; omega
theorem kepV_len {D : Db} : (kepV D).length ≤ D.1.length := kepN_len
theorem kepN_mem {D : Db} {c : Con} : ∀ {n : Nat}, n ≤ D.1.length → c ∈ kepN D n → c ∈ D.1
  | 0, _, h => by cases h
  | n + 1, hn, h => by
    cases hg : D.2.getD n default
    · rw [kepN_n hg] at h
      rcases List.mem_append.1 h with q | q
      · exact kepN_mem (by omega) q
      · simp only [List.mem_singleton] at q; rw [q]; exact qju (by omega)
    · rw [kepN_y hg] at h; exact kepN_mem (by omega) h
theorem kepV_all {D : Db} (h : D.1.all cOk = true) : (kepV D).all cOk = true := List.all_eq_true.2 fun c hc => List.all_eq_true.1 h c (kepN_mem (Nat.le_refl _) hc)
end Go.Ab
namespace Go.Ab
theorem refK_cases (k : Int) : (k = 1 ∧ refK k = (2, false)) ∨ ((k = 2 ∨ k = 3 ∨ k = 5) ∧ refK k = (1, true)) ∨ ((k = 4 ∨ k = 8) ∧ refK k = (1, false)) ∨ ((k = 6 ∨ k = 7) ∧ refK k = (0, false)) ∨ ((k ≠ 1 ∧ k ≠ 2 ∧ k ≠ 3 ∧ k ≠ 4 ∧ k ≠ 5 ∧ k ≠ 6 ∧ k ≠ 7 ∧ k ≠ 8) ∧ refK k = (-1, false)) := by
  unfold refK
  (repeat' split) <;> simp_all <;> omega
theorem noC_eq {c : Con} : noC c = decide (c = ([], 0)) := by
  obtain ⟨a, b⟩ := c
  unfold noC
  cases a <;> simp
theorem shp_eq {s : Stp} : shpV s = ((decide (0 ≤ (refK s.1).1) && (decide (0 < (refK s.1).1) || (decide (s.1 = 6) || decide (s.2.1 = 0)))) && (decide ((refK s.1).1 = 2) || ((refK s.1).2 || decide (s.2.2.1 = 0))) && (decide (s.1 = 7) || decide (s.2.2.2 = ([], 0)))) := by
  unfold shpV
  rw [noC_eq]
  rcases refK_cases s.1 with ⟨h, e⟩ | ⟨h | h | h, e⟩ | ⟨h | h, e⟩ | ⟨h | h, e⟩ | ⟨h, e⟩ <;> rw [e] <;> simp [h, Bool.and_comm]
end Go.Ab
namespace Go.Ab
def weakM (v : Int) (ts : List Term) (b : Int) : Int := ts.foldl (fun s t => if varOf t.2 = v then max 0 (b - t.1) else s) b
theorem weakM_next {v b : Int} {ts : List Term} {k : Nat} (h : k < ts.length) : weakM v (ts.take (k + 1)) b = if varOf (ts.getD k default).2 = v then max 0 (b - (ts.getD k default).1) else weakM v (ts.take k) b := by
  unfold weakM
  rw [qjj (d := default) h, List.foldl_append]; rfl
theorem weakM_k {c : Con} {v : Int} (hc : cOk c = true) : ∀ {k : Nat}, k ≤ c.1.length → ((∀ t ∈ c.1.take k, varOf t.2 ≠ v) ∧ weakM v (c.1.take k) c.2 = c.2 ∧ weakB v (c.1.take k) c.2 = c.2) ∨ ((∃ t ∈ c.1.take k, varOf t.2 = v) ∧ weakM v (c.1.take k) c.2 = max 0 (weakB v (c.1.take k) c.2))
  | 0, _ => .inl ⟨fun t h => by simp at h, rfl, rfl⟩
  | k + 1, hk => by
    have ih := weakM_k (v := v) hc (k := k) (by omega)
    have hne := okFrom_take_ne (cOk_ok hc) (k := k) (by omega)
    have hmem : ∀ t, t ∈ c.1.take (k + 1) ↔ t ∈ c.1.take k ∨ t = c.1.getD k default := fun t => by rw [qjj (d := default) (by omega)]; simp
    rw [weakM_next (by omega), weakB_next (by omega)]
    by_cases e : varOf (c.1.getD k default).2 = v
    · rw [if_pos e, if_pos e]
      rcases ih with ⟨h1, h2, h3⟩ | ⟨⟨t, h1, h2⟩, _⟩
      · exact .inr ⟨⟨_, (hmem _).2 (.inr rfl), e⟩, by rw [h3]⟩
      · exact absurd (h2.trans e.symm) (hne t h1)
    · rw [if_neg e, if_neg e]
      rcases ih with ⟨h1, h2, h3⟩ | ⟨⟨t, h1, h2⟩, h3⟩
      · exact .inl ⟨fun t ht => by
          rcases (hmem t).1 ht with q | q
          · exact h1 t q
          · subst q; exact e, h2, h3⟩
      · exact .inr ⟨⟨t, (hmem t).2 (.inl h1), h2⟩, h3⟩
theorem weakM_all {c : Con} {v : Int} (_ : 1 ≤ v ∧ v ≤ 12) (hc : cOk c = true) : weakM v c.1 c.2 = max 0 (weakB v c.1 c.2) := by
  have h := weakM_k (v := v) hc (Nat.le_refl _)
  rw [List.take_length] at h
  have hb := qzv hc
  rcases h with ⟨_, h2, h3⟩ | ⟨_, h⟩
  · rw [h2, h3, Int.max_eq_right hb.1]
  · exact h
end Go.Ab
/- Literals in ascending order of their variables. -/
set_option autoImplicit false
set_option linter.unusedSimpArgs false
set_option linter.unusedVariables false
namespace Go.Ab
def insS (x : Int) : List Int → List Int
  | [] => [x]
  | y :: r => if varOf x ≤ varOf y then x :: y :: r else y :: insS x r
def srtS (ls : List Int) : List Int := ls.foldr insS []
theorem insS_perm {x : Int} : ∀ {l : List Int}, (insS x l).Perm (x :: l)
  | [] => List.Perm.refl _
  | y :: r => by
    rw [insS]
    split
    · exact List.Perm.refl _
    · exact (List.Perm.cons y insS_perm).trans (List.Perm.swap x y r)
theorem srtS_perm : ∀ {l : List Int}, (srtS l).Perm l
  | [] => List.Perm.refl _
  | x :: r => (insS_perm (x := x) (l := srtS r)).trans (List.Perm.cons x srtS_perm)
theorem insS_sorted {x : Int} : ∀ {l : List Int}, l.Pairwise (fun a b => varOf a < varOf b) → (∀ y ∈ l, varOf y ≠ varOf x) → (insS x l).Pairwise (fun a b => varOf a < varOf b)
  | [], _, _ => List.pairwise_singleton _ _
  | y :: r, h, hn => by
    rw [List.pairwise_cons] at h
    rw [insS]
    have h0 := hn y (by simp)
    split
    · rename_i hle
      rw [List.pairwise_cons, List.pairwise_cons]
      exact ⟨fun z hz => by
        rcases List.mem_cons.1 hz with e | e
        · subst e; omega
        · have := h.1 z e; omega, h⟩
    · rename_i hle
      rw [List.pairwise_cons]
      refine ⟨fun z hz => ?_, insS_sorted h.2 (fun z hz => hn z (by simp [hz]))⟩
      rcases List.mem_cons.1 (insS_perm.mem_iff.1 hz) with e | e
      · subst e; omega
      · exact h.1 z e
theorem srtS_sorted : ∀ {l : List Int}, l.Pairwise (fun a b => varOf a ≠ varOf b) → (srtS l).Pairwise (fun a b => varOf a < varOf b)
  | [], _ => List.Pairwise.nil
  | x :: r, h => by
    rw [List.pairwise_cons] at h
    exact insS_sorted (srtS_sorted h.2) (fun y hy => Ne.symm (h.1 y (srtS_perm.mem_iff.1 hy)))
def apt (l : List Int) : Prop := (∀ x ∈ l, litOk x = true) ∧ l.Pairwise (fun a b => varOf a ≠ varOf b)
theorem asc_of : ∀ {l : List Int} {p : Int}, (∀ x ∈ l, litOk x = true ∧ p < varOf x) → l.Pairwise (fun a b => varOf a < varOf b) → okFrom p (l.map oneL) = true
  | [], _, _, _ => rfl
  | x :: r, p, h, hp => by
    rw [List.pairwise_cons] at hp
    have h1 := h x (by simp)
    rw [List.map_cons, qj2 (t := oneL x) h1.1 h1.2 (Int.le_refl 1) (show (1 : Int) ≤ 1000 by decide)]
    exact asc_of (fun y hy => ⟨(h y (by simp [hy])).1, hp.1 y hy⟩) hp.2
theorem apt_asc {l : List Int} (h : apt l) : asc (srtS l) := asc_of (fun x hx => by
  have := h.1 x (srtS_perm.mem_iff.1 hx)
  refine ⟨this, ?_⟩
  have := litOk_iff.1 this
  unfold varOf; omega) (srtS_sorted h.2)
theorem asc_apt {l : List Int} (h : asc l) : apt l := ⟨asc_lit h, (asc_pair h).imp fun h e => by omega⟩
theorem sorted_unique : ∀ {a b : List Int}, a.Perm b → a.Pairwise (fun x y => varOf x < varOf y) → b.Pairwise (fun x y => varOf x < varOf y) → a = b
  | [], b, h, _, _ => by rw [List.nil_perm.1 h]
  | x :: a, [], h, _, _ => by have := h.length_eq; simp at this
  | x :: a, y :: b, h, ha, hb => by
    rw [List.pairwise_cons] at ha hb
    have e : x = y := by
      rcases List.mem_cons.1 (h.mem_iff.1 (List.mem_cons_self (a := x) (l := a))) with e | e
      · exact e
      · rcases List.mem_cons.1 (h.mem_iff.2 (List.mem_cons_self (a := y) (l := b))) with q | q
        · exact q.symm
        · have h1 := hb.1 x e; have h2 := ha.1 y q; omega
    subst e
    rw [sorted_unique (List.Perm.cons_inv h) ha.2 hb.2]
theorem srtS_asc {l : List Int} (h : asc l) : srtS l = l := sorted_unique srtS_perm (srtS_sorted (asc_apt h).2) (asc_pair h)
theorem apt_perm {a b : List Int} (h : a.Perm b) (hb : apt b) : apt a :=
  ⟨fun x hx => hb.1 x (h.mem_iff.1 hx), (h.pairwise_iff (fun h e => h e.symm)).2 hb.2⟩
theorem apt_neg {l : List Int} (h : apt l) : apt (negL l) := by
  refine ⟨fun x hx => ?_, ?_⟩
  · obtain ⟨y, hy, rfl⟩ := List.mem_map.1 hx
    have := litOk_iff.1 (h.1 y hy); rw [litOk_iff]; omega
  · unfold negL
    rw [List.pairwise_map]
    exact h.2.imp fun h => by rw [varOf_neg, varOf_neg]; exact h
theorem insS_neg {x : Int} : ∀ {l : List Int}, insS (-x) (negL l) = negL (insS x l)
  | [] => rfl
  | y :: r => by
    have ih := insS_neg (x := x) (l := r)
    have e : negL (y :: r) = -y :: negL r := rfl
    rw [e, insS, insS, varOf_neg, varOf_neg]
    split
    · rfl
    · rw [ih]; rfl
theorem srtS_neg : ∀ {l : List Int}, srtS (negL l) = negL (srtS l)
  | [] => rfl
  | x :: r => by
    have ih := srtS_neg (l := r)
    show insS (-x) (srtS (negL r)) = negL (insS x (srtS r))
    rw [ih, insS_neg]
theorem srtS_mem {l : List Int} {x : Int} : x ∈ srtS l ↔ x ∈ l := srtS_perm.mem_iff
theorem srtS_len {l : List Int} : (srtS l).length = l.length := srtS_perm.length_eq
theorem apt_len {l : List Int} (h : apt l) : l.length ≤ 12 := by rw [← srtS_len]; exact asc_len (apt_asc h)
theorem seen_mem : ∀ {L : List Int} {v : Int}, seenG L v = 0 ∨ (seenG L v ∈ L ∧ varOf (seenG L v) = v)
  | [], _ => .inl rfl
  | l :: r, v => by
    rw [seenG]
    split
    · rename_i h; exact .inr ⟨by simp, h⟩
    · rcases seen_mem (L := r) (v := v) with h | h
      · exact .inl h
      · exact .inr ⟨by simp [h.1], h.2⟩
theorem seen_hit : ∀ {L : List Int} {x : Int}, L.Pairwise (fun a b => varOf a ≠ varOf b) → x ∈ L → seenG L (varOf x) = x
  | [], _, _, h => by cases h
  | l :: r, x, hp, h => by
    rw [List.pairwise_cons] at hp
    rw [seenG]
    rcases List.mem_cons.1 h with e | e
    · subst e; rw [if_pos rfl]
    · rw [if_neg (hp.1 x e)]; exact seen_hit hp.2 e
theorem seen_perm {a b : List Int} (h : a.Perm b) (hb : apt b) {v : Int} : seenG a v = seenG b v := by
  have ha := apt_perm h hb
  rcases seen_mem (L := a) (v := v) with e | ⟨e1, e2⟩
  · rcases seen_mem (L := b) (v := v) with q | ⟨q1, q2⟩
    · rw [e, q]
    · have := seen_hit ha.2 (h.mem_iff.2 q1)
      rw [q2, e] at this
      exact e.trans this
  · have := seen_hit hb.2 (h.mem_iff.1 e1)
    rw [e2] at this
    exact this.symm
theorem apt_take_ne {L : List Int} (h : apt L) {k : Nat} (hk : k < L.length) : ∀ l ∈ L.take k, varOf l ≠ varOf (L.getD k default) := by
  intro l hl
  have h2 := h.2
  rw [← List.take_append_drop k L, List.pairwise_append] at h2
  refine h2.2.2 l hl _ ?_
  rw [qjz (d := default) hk]; simp
theorem apt_at {L : List Int} (h : apt L) {k : Nat} (hk : k < L.length) : litOk (L.getD k default) = true := h.1 _ (qju hk)
theorem apt_noneg {L : List Int} (h : apt L) {k : Nat} (hk : k < L.length) : -(L.getD k default) ∉ L := by
  intro hm
  have h1 := seen_hit h.2 hm
  have h2 := seen_hit h.2 (qju (d := default) hk)
  rw [varOf_neg, h2] at h1
  have := litOk_iff.1 (apt_at h hk)
  omega
theorem rowS_setA {ls : List Int} (h : apt ls) {k : Nat} (hk : k < ls.length) : ((rowS (ls.take k)).map dI).set (varOf (ls.getD k default)).toNat (dI (ls.getD k default)) = (rowS (ls.take (k + 1))).map dI := by
  have hl := litOk_iff.1 (apt_at h hk)
  have hv : varOf (ls.getD k default) = max (ls.getD k default) (-(ls.getD k default)) := rfl
  rw [← List.map_set, qjj (d := default) hk]
  congr 1
  unfold rowS
  have e : ∀ v : Nat, seenG (ls.take k ++ [ls.getD k default]) (v : Int) = if v = (varOf (ls.getD k default)).toNat then ls.getD k default else seenG (ls.take k) (v : Int) := by
    intro v
    rw [seen_app (apt_take_ne h hk)]
    by_cases q : v = (varOf (ls.getD k default)).toNat
    · rw [if_pos q, if_pos (by omega)]
    · rw [if_neg q, if_neg (by omega)]
  have := map_range_set (f := fun v : Nat => seenG (ls.take k) (v : Int)) (g := fun v : Nat => seenG (ls.take k ++ [ls.getD k default]) (v : Int)) (n := 13) (k := (varOf (ls.getD k default)).toNat) (fun j _ => by
    rw [e j, e (varOf (ls.getD k default)).toNat, if_pos rfl])
  rw [e, if_pos rfl] at this
  exact this
theorem rowS_srt {L : List Int} (h : apt L) : rowS L = rowS (srtS L) := by
  unfold rowS
  exact List.map_congr_left fun v _ => seen_perm srtS_perm.symm (apt_perm srtS_perm h)
def insI (M : List Int) (i j : Nat) : Prop := ∀ p q : Nat, p < q → q ≤ i → q ≠ j → varOf (M.getD p default) < varOf (M.getD q default)
def ordI (M : List Int) (i : Nat) : Prop := ∀ p q : Nat, p < q → q < i → varOf (M.getD p default) < varOf (M.getD q default)
theorem ins_start {M : List Int} {i : Nat} (h : ordI M i) : insI M i i := fun p q h1 h2 h3 => h p q h1 (by omega)
theorem ins_end {M : List Int} {i j : Nat} (h : insI M i j) (hj : j ≤ i) (h2 : j = 0 ∨ varOf (M.getD (j - 1) default) < varOf (M.getD j default)) : ordI M (i + 1) := fun p q h3 h4 => by
  by_cases e : q = j
  · subst e
    rcases h2 with h2 | h2
    · omega
    · by_cases e2 : p = q - 1
      · subst e2; exact h2
      · have := h p (q - 1) (by omega) (by omega) (by omega); omega
  · exact h p q h3 (by omega) e
def swpL (M : List Int) (j : Nat) : List Int := (M.set j (M.getD (j - 1) default)).set (j - 1) (M.getD j default)
theorem swp_at {M : List Int} {j : Nat} (h0 : 0 < j) (hj : j < M.length) (p : Nat) : (swpL M j).getD p default = if p = j - 1 then M.getD j default else if p = j then M.getD (j - 1) default else M.getD p default := by
  unfold swpL
  simp only [List.getD_eq_getElem?_getD, List.getElem?_set, List.length_set]
  by_cases e1 : p = j - 1
  · subst e1; rw [if_pos rfl, if_pos rfl, if_pos (by omega)]; rfl
  · rw [if_neg (Ne.symm e1), if_neg e1]
    by_cases e2 : p = j
    · subst e2; rw [if_pos rfl, if_pos rfl, if_pos hj]; rfl
    · rw [if_neg (Ne.symm e2), if_neg e2]
theorem swp_len {M : List Int} {j : Nat} : (swpL M j).length = M.length := by unfold swpL; simp
theorem swp_perm {M : List Int} {j : Nat} (h0 : 0 < j) (hj : j < M.length) : (swpL M j).Perm M := by
  obtain ⟨a, x, y, b, rfl, hl⟩ : ∃ a x y b, M = a ++ x :: y :: b ∧ a.length = j - 1 := by
    refine ⟨M.take (j - 1), M.getD (j - 1) default, M.getD j default, M.drop (j + 1), ?_, by simp; omega⟩
    have h1 := qjz (d := default) (l := M) (k := j - 1) (by omega)
    have h2 := qjz (d := default) (l := M) (k := j) hj
    rw [show j - 1 + 1 = j by omega, h2] at h1
    rw [← h1, List.take_append_drop]
  have e : swpL (a ++ x :: y :: b) j = a ++ y :: x :: b := by
    apply List.ext_getElem?
    intro i
    have hs := swp_at (M := a ++ x :: y :: b) h0 hj i
    by_cases hi : i < (a ++ x :: y :: b).length
    · have e1 : (swpL (a ++ x :: y :: b) j)[i]? = some ((swpL (a ++ x :: y :: b) j).getD i default) := by
        rw [List.getD_eq_getElem?_getD, List.getElem?_eq_getElem (by rw [swp_len]; exact hi)]; rfl
      have e2 : (a ++ y :: x :: b)[i]? = some ((a ++ y :: x :: b).getD i default) := by
        rw [List.getD_eq_getElem?_getD, List.getElem?_eq_getElem (by simp at hi ⊢; omega)]; rfl
      rw [e1, e2, hs]
      congr 1
      simp only [List.getD_eq_getElem?_getD]
      by_cases c1 : i = j - 1
      · rw [if_pos c1, c1, ← hl, List.getElem?_append_right (by omega), List.getElem?_append_right (by omega), show j - a.length = 1 by omega, Nat.sub_self]; rfl
      · rw [if_neg c1]
        by_cases c2 : i = j
        · rw [if_pos c2, c2, List.getElem?_append_right (by omega), List.getElem?_append_right (by omega), show j - 1 - a.length = 0 by omega, show j - a.length = 1 by omega]; rfl
        · rw [if_neg c2]
          by_cases c3 : i < a.length
          · rw [List.getElem?_append_left c3, List.getElem?_append_left c3]
          · rw [List.getElem?_append_right (by omega), List.getElem?_append_right (by omega)]
            obtain ⟨m, hm⟩ : ∃ m, i - a.length = m + 2 := ⟨i - a.length - 2, by omega⟩
            rw [hm]; rfl
    · rw [List.getElem?_eq_none (by rw [swp_len]; omega), List.getElem?_eq_none (by simp at hi ⊢; omega)]
  rw [e]
  exact List.Perm.append_left a (List.Perm.swap x y b)
theorem ins_step {M : List Int} {i j : Nat} (h : insI M i j) (h0 : 0 < j) (hj : j ≤ i) (hi : i < M.length) (hlt : varOf (M.getD j default) < varOf (M.getD (j - 1) default)) : insI (swpL M j) i (j - 1) := fun p q h1 h2 h3 => by
  rw [swp_at h0 (by omega), swp_at h0 (by omega), if_neg h3]
  by_cases c2 : q = j
  · rw [if_pos c2]
    by_cases c1 : p = j - 1
    · rw [if_pos c1]; exact hlt
    · rw [if_neg c1, if_neg (by omega)]; exact h p (j - 1) (by omega) (by omega) (by omega)
  · rw [if_neg c2]
    by_cases c1 : p = j - 1
    · rw [if_pos c1]; exact h j q (by omega) h2 c2
    · rw [if_neg c1]
      by_cases c3 : p = j
      · rw [if_pos c3]; exact h (j - 1) q (by omega) h2 c2
      · rw [if_neg c3]; exact h p q h1 h2 c2
theorem ord_pair {M : List Int} (h : ordI M M.length) : M.Pairwise (fun a b => varOf a < varOf b) := by
  rw [List.pairwise_iff_getElem]
  intro i j hi hj hij
  have := h i j hij hj
  simpa [List.getD_eq_getElem?_getD, List.getElem?_eq_getElem hi, List.getElem?_eq_getElem hj] using this
theorem ord_one {M : List Int} : ordI M 1 := fun p q h1 h2 => by omega
theorem ord_done {L M : List Int} (hp : M.Perm L) (hL : apt L) (h : ordI M M.length) : M = srtS L := sorted_unique (hp.trans srtS_perm.symm) (ord_pair h) (srtS_sorted hL.2)
theorem perm_ne {L M : List Int} (hp : M.Perm L) (hL : apt L) {i j : Nat} (hi : i < M.length) (hj : j < M.length) (hij : i ≠ j) : varOf (M.getD i default) ≠ varOf (M.getD j default) := by
  have h := (apt_perm hp hL).2
  rw [List.pairwise_iff_getElem] at h
  simp only [List.getD_eq_getElem?_getD, List.getElem?_eq_getElem hi, List.getElem?_eq_getElem hj, Option.getD_some]
  rcases Nat.lt_or_gt_of_ne hij with q | q
  · exact h i j hi hj q
  · exact Ne.symm (h j i hj hi q)
theorem swp_row {M : List Int} {j : Nat} : ((M.map dI).set j (dI (M.getD (j - 1) default))).set (j - 1) (dI (M.getD j default)) = (swpL M j).map dI := by
  unfold swpL; rw [List.map_set, List.map_set]
end Go.Ab
namespace Go.Ab
theorem srt_end {L M : List Int} {i : Nat} (hp : M.Perm L) (h : apt L) (ho : ordI M i) (hi : M.length ≤ i) : M = srtS L := ord_done hp h (fun p q h1 h2 => ho p q h1 (by omega))
end Go.Ab
/- A search that is split by cubes: its merged proof is accepted. -/
set_option autoImplicit false
set_option linter.unusedSimpArgs false
set_option linter.unusedVariables false
namespace Go.Ab
def cub1 (o : List (List Int)) (v : Int) : List (List Int) := o.flatMap fun c => [c ++ [v], c ++ [-v]]
def cubV (vs : List Int) : List (List Int) := vs.foldl cub1 [[]]
theorem cub_next {vs : List Int} {k : Nat} (h : k < vs.length) : cubV (vs.take (k + 1)) = cub1 (cubV (vs.take k)) (vs.getD k default) := by unfold cubV; rw [qjj (d := default) h, List.foldl_append]; rfl
theorem cub1_next {o : List (List Int)} {v : Int} {k : Nat} (h : k < o.length) : cub1 (o.take (k + 1)) v = cub1 (o.take k) v ++ [o.getD k default ++ [v], o.getD k default ++ [-v]] := by unfold cub1; rw [qjj (d := default) h, List.flatMap_append]; simp
theorem cub1_len {v : Int} : ∀ {o : List (List Int)}, (cub1 o v).length = 2 * o.length
  | [] => rfl
  | c :: r => by
    have ih := cub1_len (v := v) (o := r)
    show ([c ++ [v], c ++ [-v]] ++ cub1 r v).length = _
    rw [List.length_append, ih]; simp; omega
theorem cub_take_len {vs : List Int} : ∀ {k : Nat}, k ≤ vs.length → (cubV (vs.take k)).length = 2 ^ k
  | 0, _ => by simp [cubV]
  | k + 1, h => by rw [cub_next (by omega), cub1_len, cub_take_len (by omega), Nat.pow_succ]; omega
theorem cub_len {vs : List Int} (h : vs.length ≤ 4) : (cubV vs).length ≤ 16 := by
  have := cub_take_len (vs := vs) (Nat.le_refl _)
  rw [List.take_length] at this
  rw [this]
  exact Nat.le_trans (Nat.pow_le_pow_right (by decide) h) (by decide)
theorem cub1_mem {o : List (List Int)} {v : Int} {d : List Int} : d ∈ cub1 o v ↔ ∃ c ∈ o, d = c ++ [v] ∨ d = c ++ [-v] := by
  unfold cub1
  rw [List.mem_flatMap]
  constructor
  · rintro ⟨c, hc, hd⟩; exact ⟨c, hc, by simpa using hd⟩
  · rintro ⟨c, hc, hd⟩; exact ⟨c, hc, by simpa using hd⟩
theorem vars_lt : ∀ {vs : List Int} {p : Int}, varsFrom p vs = true → (∀ v ∈ vs, p < v) ∧ vs.Pairwise (fun a b => a < b)
  | [], _, _ => ⟨(fun v h => by cases h), List.Pairwise.nil⟩
  | v :: r, p, h => by
    by_cases hg : p < v ∧ 1 ≤ v ∧ v ≤ 12
    · rw [qxb hg.1 hg.2.1 hg.2.2] at h
      obtain ⟨h1, h2⟩ := vars_lt h
      refine ⟨fun x hx => ?_, List.pairwise_cons.2 ⟨h1, h2⟩⟩
      rcases List.mem_cons.1 hx with e | e
      · subst e; exact hg.1
      · have := h1 x e; omega
    · rw [varsFrom_bad hg] at h; cases h
theorem varsFrom_lt {vs : List Int} {p : Int} (h : varsFrom p vs = true) {i k : Nat} (hi : i < k) (hk : k < vs.length) : vs.getD i default < vs.getD k default := by
  have := List.pairwise_iff_getElem.1 (vars_lt h).2 i k (by omega) hk hi
  simpa [List.getD_eq_getElem?_getD, List.getElem?_eq_getElem hk, List.getElem?_eq_getElem (show i < vs.length by omega)] using this
theorem cub_asc {vs : List Int} (hv : varsFrom 0 vs = true) : ∀ {k : Nat}, k ≤ vs.length → ∀ c ∈ cubV (vs.take k), asc c ∧ c.length = k ∧ ∀ x ∈ c, ∃ i, i < k ∧ varOf x = vs.getD i default
  | 0, _, c, hc => by
    have : c = [] := by simpa [cubV] using hc
    subst this
    exact ⟨rfl, rfl, fun x hx => by cases hx⟩
  | k + 1, hk, c, hc => by
    rw [cub_next (by omega)] at hc
    obtain ⟨d, hd, he⟩ := cub1_mem.1 hc
    obtain ⟨h1, h2, h3⟩ := cub_asc hv (k := k) (by omega) d hd
    have hr := varsFrom_all hv (vs.getD k default) (qju (by omega))
    have hvo : varOf (vs.getD k default) = vs.getD k default := by unfold varOf; omega
    have hlit : litOk (vs.getD k default) = true := litOk_iff.2 (by omega)
    have hlt : ∀ x ∈ d, varOf x < varOf (vs.getD k default) := fun x hx => by
      obtain ⟨i, hi, e⟩ := h3 x hx
      rw [e, hvo]
      exact varsFrom_lt hv hi (by omega)
    have ha := asc_snoc h1 hlit hlt
    have key : ∀ y, y = vs.getD k default ∨ y = -(vs.getD k default) → ∀ x ∈ d ++ [y], ∃ i, i < k + 1 ∧ varOf x = vs.getD i default := fun y hy x hx => by
      rcases List.mem_append.1 hx with q | q
      · obtain ⟨i, hi, e⟩ := h3 x q; exact ⟨i, by omega, e⟩
      · have : x = y := by simpa using q
        subst this
        refine ⟨k, by omega, ?_⟩
        rcases hy with e | e
        · rw [e, hvo]
        · rw [e, varOf_neg, hvo]
    rcases he with e | e
    · subst e; exact ⟨ha, by simp [h2], key _ (.inl rfl)⟩
    · subst e; exact ⟨asc_opp ha, by simp [h2], key _ (.inr rfl)⟩
theorem cub_some {vs : List Int} (hv : varsFrom 0 vs = true) (bs : List Bool) : ∀ {k : Nat}, k ≤ vs.length → ∃ c ∈ cubV (vs.take k), ∀ x ∈ c, litV bs x = true
  | 0, _ => ⟨[], by simp [cubV], fun x hx => by cases hx⟩
  | k + 1, hk => by
    obtain ⟨c, hc, h⟩ := cub_some hv bs (k := k) (by omega)
    have hr := varsFrom_all hv (vs.getD k default) (qju (by omega))
    rw [cub_next (by omega)]
    have key : ∀ y, litV bs y = true → ∀ x ∈ c ++ [y], litV bs x = true := fun y hy x hx => by
      rcases List.mem_append.1 hx with q | q
      · exact h x q
      · have : x = y := by simpa using q
        rw [this]; exact hy
    cases hl : litV bs (vs.getD k default)
    · have : litV bs (-(vs.getD k default)) = true := by rw [litV_opp (by omega), hl]; rfl
      exact ⟨_, cub1_mem.2 ⟨c, hc, .inr rfl⟩, key _ this⟩
    · exact ⟨_, cub1_mem.2 ⟨c, hc, .inl rfl⟩, key _ hl⟩
theorem impC_nil {c : Con} {q : List Int} : impC c q = [] ↔ ∀ t ∈ c.1, stV q t.2 ≠ 0 ∨ t.1 ≤ slV c q := by
  unfold impC impF
  rw [List.map_eq_nil_iff, List.filter_eq_nil_iff]
  constructor
  · intro h t ht
    have := h t ht
    rw [decide_eq_true_eq] at this
    omega
  · intro h t ht
    rw [decide_eq_true_eq]
    have := h t ht
    omega
def uniC (x : Int) : Con := ([(1, x)], 1)
def cuL (l : List Con) (c : List Int) : List Con := l ++ c.map uniC
def litsC (K : Con) : List Int := K.1.map (·.2)
def lifC (c : List Int) (K : Con) : Con := ((srtS (negL c ++ litsC K)).map oneL, 1)
theorem lits_cle {D : List Int} : litsC (cle D) = negL D := by unfold litsC cle; rw [List.map_map]; simp [oneL, Function.comp_def]
theorem lif_cle {c D : List Int} : lifC c (cle D) = cle (srtS (c ++ D)) := by
  unfold lifC
  rw [lits_cle, show negL c ++ negL D = negL (c ++ D) by unfold negL; rw [List.map_append], srtS_neg]; rfl
def under (c : List Int) (K : Con) : Prop := ∃ D, K = cle D ∧ apt (c ++ D) ∧ asc D
theorem uni_ok {x : Int} (h : litOk x = true) : cOk (uniC x) = true := by
  refine cOk_mk (ts := [(1, x)]) ?_ (by decide) (by decide)
  have := litOk_iff.1 h
  rw [qj2 (t := (1, x)) h (by show (0 : Int) < varOf x; unfold varOf; omega) (Int.le_refl 1) (show (1 : Int) ≤ 1000 by decide)]; rfl
theorem uni_fix {x : Int} {q : List Int} (h : litOk x = true) (hq : paOk q = true) : (0 ≤ slV (uniC x) q ∧ impC (uniC x) q = []) ↔ stV q x = 1 := by
  have e : uniC x = cle [-x] := by unfold uniC cle negL oneL; simp
  have hs : slV (uniC x) q = (if 0 ≤ stV q x then 1 else 0) - 1 := by rw [slV_F]; unfold uniC; simp [sumF]
  have hr := stV_rng hq x
  constructor
  · rintro ⟨h1, h2⟩
    have ha : asc ([] ++ [-x]) := by
      show okFrom 0 [oneL (-x)] = true
      have hl : litOk (-x) = true := litOk_opp h
      have := litOk_iff.1 h
      rw [qj2 (t := oneL (-x)) hl (by show (0 : Int) < varOf (-x); rw [varOf_neg]; unfold varOf; omega) (Int.le_refl 1) (show (1 : Int) ≤ 1000 by decide)]; rfl
    have := cle_last (D := []) (v := -x) ha hq (fun d hd => by cases hd) (by rw [← show uniC x = cle ([] ++ [-x]) from e]; exact h1) (by rw [← show uniC x = cle ([] ++ [-x]) from e]; exact h2)
    rw [stV_neg (litOk_iff.1 h).1] at this; omega
  · intro h1
    refine ⟨by rw [hs, if_pos (by omega)]; omega, ?_⟩
    rw [impC_nil]
    intro t ht
    have : t = (1, x) := by simpa [uniC] using ht
    subst this
    exact .inl (by show stV q x ≠ 0; omega)
def cla (A : List Int) : Con := (A.map oneL, 1)
def fixq (K : Con) (q : List Int) : Prop := 0 ≤ slV K q ∧ impC K q = []
def nfL (q : List Int) (A : List Int) : Int := sumF (fun t => if 0 ≤ stV q t.2 then t.1 else 0) (A.map oneL)
theorem sumF_perm {f : Term → Int} {a b : List Term} (h : a.Perm b) : sumF f a = sumF f b := by
  induction h with
  | nil => rfl
  | cons x _ ih => simp only [sumF]; rw [ih]
  | swap x y l => simp only [sumF]; omega
  | trans _ _ ih1 ih2 => rw [ih1, ih2]
theorem cla_sl {A q : List Int} : slV (cla A) q = nfL q A - 1 := slV_F
theorem nf_app {q A B : List Int} : nfL q (A ++ B) = nfL q A + nfL q B := by unfold nfL; rw [List.map_append, sumF_app]
theorem nf_perm {q A B : List Int} (h : A.Perm B) : nfL q A = nfL q B := sumF_perm (h.map oneL)
theorem nf_false {q F : List Int} (h : ∀ x ∈ F, stV q x = -1) : nfL q F = 0 := sumF_zero fun t ht => by
  obtain ⟨x, hx, rfl⟩ := List.mem_map.1 ht
  have := h x hx
  rw [if_neg (by show ¬ 0 ≤ stV q x; omega)]
theorem fix_drop {q A F E : List Int} (hp : A.Perm (F ++ E)) (hF : ∀ x ∈ F, stV q x = -1) (h : fixq (cla A) q) : fixq (cla E) q := by
  have hs : slV (cla A) q = slV (cla E) q := by rw [cla_sl, cla_sl, nf_perm hp, nf_app, nf_false hF]; omega
  refine ⟨by rw [← hs]; exact h.1, impC_nil.2 fun t ht => ?_⟩
  obtain ⟨x, hx, rfl⟩ := List.mem_map.1 ht
  have := impC_nil.1 h.2 (oneL x) (List.mem_map.2 ⟨x, hp.mem_iff.2 (by simp [hx]), rfl⟩)
  rw [hs] at this
  exact this
theorem cla_neg {q A : List Int} (hq : paOk q = true) (h : asc A) (h1 : 0 ≤ slV (negC (cla A)) q) (h2 : impC (negC (cla A)) q = []) : ∀ x ∈ A, stV q x = -1 := by
  have e : cla A = ((A.map oneL).map oneT, 1) := by unfold cla; rw [List.map_map]; rfl
  rw [e] at h1 h2
  intro x hx
  exact neg_clause hq (by rw [List.map_map]; exact h) h1 h2 (oneL x) (List.mem_map.2 ⟨x, hx, rfl⟩)
theorem neg_fix {q A : List Int} (h : asc A) (hq : ∀ x ∈ A, stV q x = -1) : fixq (negC (cla A)) q := by
  have hst : ∀ x ∈ A, stV q (-x) = 1 := fun x hx => by rw [stV_neg (litOk_iff.1 (asc_lit h x hx)).1, hq x hx]; rfl
  have hs : slV (negC (cla A)) q = totV (cla A).1 - (negC (cla A)).2 := by
    rw [slV_F, totV_F]
    congr 1
    show sumF _ (((A.map oneL)).map negT) = sumF _ (A.map oneL)
    have : ∀ B : List Int, (∀ x ∈ B, stV q (-x) = 1) → sumF (fun t => if 0 ≤ stV q t.2 then t.1 else 0) ((B.map oneL).map negT) = sumF (fun t => t.1) (B.map oneL) := by
      intro B
      induction B with
      | nil => intro _; rfl
      | cons x r ih =>
        intro hB
        have h1 := hB x (by simp)
        rw [List.map_cons, List.map_cons, sumF, sumF, if_pos (by show 0 ≤ stV q (-x); rw [h1]; decide)]
        rw [ih (fun y hy => hB y (by simp [hy]))]; rfl
    exact this A hst
  have hb : (negC (cla A)).2 ≤ totV (cla A).1 := by
    show max 0 (totV (cla A).1 - 1 + 1) ≤ totV (cla A).1
    have : 0 ≤ totV (cla A).1 := by
      rw [totV_F]
      have : ∀ B : List Int, 0 ≤ sumF (fun t => t.1) (B.map oneL) := by
        intro B
        induction B with
        | nil => exact Int.le_refl 0
        | cons x r ih => simp only [List.map_cons, sumF, oneL] at ih ⊢; omega
      exact this A
    omega
  refine ⟨by rw [hs]; omega, impC_nil.2 fun t ht => .inl ?_⟩
  obtain ⟨u, hu, rfl⟩ := List.mem_map.1 ht
  obtain ⟨x, hx, rfl⟩ := List.mem_map.1 hu
  show stV q (-x) ≠ 0
  rw [hst x hx]; decide
theorem lif_cla {c D : List Int} : lifC c (cle D) = cla (srtS (negL c ++ negL D)) := by unfold lifC cla; rw [lits_cle]
theorem lif_ok {c : List Int} {K : Con} (h : under c K) : cOk (lifC c K) = true := by
  obtain ⟨D, rfl, h1, _⟩ := h
  rw [lif_cle]; exact cle_ok (apt_asc h1)
theorem rup_lift {l T S : List Con} {c D : List Int} (hl : (l ++ T).all cOk = true) (hc : ∀ x ∈ c, litOk x = true) (hD : apt (c ++ D)) (hA : asc D) (hS : ∀ K ∈ S, under c K ∧ lifC c K ∈ T) (hr : rupV (cuL l c ++ S) (cle D) = true) : rupV (l ++ T) (lifC c (cle D)) = true := by
  cases hq : rupV (l ++ T) (lifC c (cle D))
  · exfalso
    have haE : asc (srtS (negL c ++ negL D)) := by
      rw [show negL c ++ negL D = negL (c ++ D) by unfold negL; rw [List.map_append], srtS_neg]
      exact asc_negL (apt_asc hD)
    obtain ⟨q, q1, q2, q3, q4⟩ := rup_no hl (lif_ok ⟨D, rfl, hD, hA⟩) hq
    rw [lif_cla] at q3 q4
    have hlit := cla_neg q1 haE q3 q4
    have hcf : ∀ x ∈ negL c, stV q x = -1 := fun x hx => hlit x (srtS_mem.2 (by simp [hx]))
    have hDf : ∀ x ∈ negL D, stV q x = -1 := fun x hx => hlit x (srtS_mem.2 (by simp [hx]))
    have hct : ∀ x ∈ c, stV q x = 1 := fun x hx => by
      have h1 := hcf (-x) (List.mem_map.2 ⟨x, hx, rfl⟩)
      have h2 := stV_neg (p := q) (litOk_iff.1 (hc x hx)).1
      omega
    have hfx : fixP (cuL l c ++ S ++ [negC (cle D)]) q := by
      intro K hK
      rcases List.mem_append.1 hK with hK | hK
      · rcases List.mem_append.1 hK with hK | hK
        · unfold cuL at hK
          rcases List.mem_append.1 hK with hK | hK
          · exact q2 K (by simp [hK])
          · obtain ⟨x, hx, rfl⟩ := List.mem_map.1 hK
            exact (uni_fix (hc x hx) q1).2 (hct x hx)
        · obtain ⟨⟨D', rfl, h1, _⟩, h2⟩ := hS K hK
          have h3 := q2 _ (List.mem_append_right l h2)
          rw [lif_cla] at h3
          exact fix_drop srtS_perm hcf h3
      · have : K = negC (cle D) := by simpa using hK
        subst this
        exact neg_fix (asc_negL hA) hDf
    have hall : (cuL l c ++ S ++ [negC (cle D)]).all cOk = true := by
      rw [List.all_append, List.all_append]
      rw [List.all_append, Bool.and_eq_true] at hl
      have a1 : (cuL l c).all cOk = true := by
        unfold cuL
        rw [List.all_append, hl.1, Bool.true_and, List.all_eq_true]
        intro K hK
        obtain ⟨x, hx, rfl⟩ := List.mem_map.1 hK
        exact uni_ok (hc x hx)
      have a2 : S.all cOk = true := List.all_eq_true.2 fun K hK => by
        obtain ⟨⟨D', rfl, _, h1⟩, _⟩ := hS K hK
        exact cle_ok h1
      rw [a1, a2]; simp [negC_ok (cle_ok hA)]
    have := (prop_below hall q1 hfx (Nat.le_refl _) zero_ok leP_zero).1
    unfold rupV at hr
    rw [decide_eq_true_eq] at hr
    omega
  · rfl
def chnR : List Con → List Con → Prop
  | _, [] => True
  | L, K :: r => cOk K = true ∧ rupV L K = true ∧ chnR (L ++ [K]) r
theorem chnR_app : ∀ {a b L : List Con}, chnR L (a ++ b) ↔ chnR L a ∧ chnR (L ++ a) b
  | [], b, L => by simp [chnR]
  | K :: a, b, L => by
    rw [List.cons_append, chnR, chnR, chnR_app (a := a), show L ++ K :: a = L ++ [K] ++ a by simp]
    constructor
    · rintro ⟨h1, h2, h3, h4⟩; exact ⟨⟨h1, h2, h3⟩, h4⟩
    · rintro ⟨⟨h1, h2, h3⟩, h4⟩; exact ⟨h1, h2, h3, h4⟩
theorem chnR_of {L S : List Con} (ho : S.all cOk = true) (h : ∀ k, k < S.length → rupV (L ++ S.take k) (S.getD k default) = true) : ∀ k, k ≤ S.length → chnR L (S.take k)
  | 0, _ => by simp [chnR]
  | k + 1, hk => by
    rw [qjj (d := default) (by omega), chnR_app]
    exact ⟨chnR_of ho h k (by omega), List.all_eq_true.1 ho _ (qju (by omega)), h k (by omega), trivial⟩
theorem chnR_all : ∀ {S L : List Con}, chnR L S → S.all cOk = true
  | [], _, _ => rfl
  | K :: r, L, h => by rw [List.all_cons, h.1, chnR_all h.2.2]; rfl
theorem kep_all {l : List Con} : ∀ {n : Nat}, n ≤ l.length → kepN (l, List.replicate l.length false) n = l.take n
  | 0, _ => rfl
  | n + 1, h => by
    have hg : (List.replicate l.length false).getD n default = false := by
      rw [List.getD_eq_getElem?_getD, List.getElem?_replicate]; split <;> rfl
    rw [kepN_n hg, kep_all (by omega), qjj (d := default) (by omega)]
theorem kep_run0 {l : List Con} : kepV (run0 l) = l := by
  show kepN (l, List.replicate l.length false) l.length = l
  rw [kep_all (Nat.le_refl _), List.take_length]
theorem rup_step {L : List Con} {K : Con} : stpO (run0 L) (rupS K) = (cOk K && rupV L K) := by
  have h1 : shpV (rupS K) = true := by simp [shpV, rupS]
  have h2 : refO (run0 L) (rupS K) = true := by simp [refO, rupS, refK]
  have h3 : drvO (run0 L) (rupS K) = (cOk K && rupV (kepV (run0 L)) K) := by simp [drvO, rupS]
  unfold stpO
  rw [h1, h2, h3, kep_run0]
  simp [rupS]
theorem rup_stepD {L : List Con} {K : Con} : stpD (run0 L) (rupS K) = run0 (L ++ [K]) := by
  have : stpD (run0 L) (rupS K) = (L ++ [K], List.replicate L.length false ++ [false]) := by simp [stpD, rupS, run0, drvC]
  rw [this]
  unfold run0
  rw [List.length_append, ← List.replicate_append_replicate]; rfl
theorem runS_cons {D : Db} {s : Stp} {r : List Stp} : runS D (s :: r) = (stpV D s).bind fun E => runS E r := by
  unfold runS
  rw [List.foldl_cons]
  show r.foldl _ ((some D).bind fun D => stpV D s) = _
  rw [Option.bind_some]
  cases h : stpV D s
  · rw [foldl_none]; rfl
  · rfl
theorem run_rups : ∀ {S L : List Con}, chnR L S → runS (run0 L) (S.map rupS) = some (run0 (L ++ S))
  | [], L, _ => by simp [runS]
  | K :: r, L, h => by
    have h1 := rup_step (L := L) (K := K)
    rw [h.1, h.2.1] at h1
    rw [List.map_cons, runS_cons, stpV_y h1, rup_stepD]
    show runS (run0 (L ++ [K])) (r.map rupS) = _
    rw [run_rups h.2.2, List.append_assoc]; rfl
theorem run_rups' : ∀ {S L : List Con} {E : Db}, runS (run0 L) (S.map rupS) = some E → chnR L S ∧ E = run0 (L ++ S)
  | [], L, E, h => by
    have : E = run0 L := by simpa [runS] using h.symm
    exact ⟨trivial, by simpa using this⟩
  | K :: r, L, E, h => by
    rw [List.map_cons, runS_cons] at h
    cases hq : stpO (run0 L) (rupS K)
    · rw [stpV_n hq] at h; cases h
    · rw [stpV_y hq, rup_stepD] at h
      rw [rup_step, Bool.and_eq_true] at hq
      obtain ⟨h1, h2⟩ := run_rups' (S := r) (L := L ++ [K]) h
      exact ⟨⟨hq.1, hq.2, h1⟩, by rw [h2, List.append_assoc]; rfl⟩
theorem fal_run0 {L : List Con} : falV (run0 L) = L.any falC := by
  rw [Bool.eq_iff_iff, List.any_eq_true]
  unfold falV
  rw [List.any_eq_true]
  have hg : ∀ i, (run0 L).2.getD i default = false := fun i => by
    show (List.replicate L.length false).getD i default = false
    rw [List.getD_eq_getElem?_getD, List.getElem?_replicate]; split <;> rfl
  constructor
  · rintro ⟨i, hi, hf⟩
    unfold falN at hf
    rw [hg, Bool.and_eq_true] at hf
    have : i < L.length := by simpa [run0] using hi
    exact ⟨_, qju (d := default) this, hf.2⟩
  · rintro ⟨K, hK, hf⟩
    obtain ⟨i, hi, rfl⟩ := List.mem_iff_getElem.1 hK
    refine ⟨i, by simpa [run0] using hi, ?_⟩
    unfold falN
    rw [hg]
    show (true && falC (L.getD i default)) = true
    rw [List.getD_eq_getElem?_getD, List.getElem?_eq_getElem hi]
    simpa using hf
theorem cr_rups {l S : List Con} (h : pOk l = true) (hn : S.length ≤ 1000) : crV l (S.map rupS) = true ↔ chnR l S ∧ (l ++ S).any falC = true := by
  have e : runV l (S.map rupS) = runS (run0 l) (S.map rupS) := by
    unfold runV
    rw [h, List.length_map, decide_eq_true hn]; rfl
  unfold crV
  rw [e]
  constructor
  · intro hc
    cases hq : runS (run0 l) (S.map rupS) with
    | none => rw [hq] at hc; cases hc
    | some E =>
      rw [hq] at hc
      obtain ⟨h1, h2⟩ := run_rups' hq
      subst h2
      exact ⟨h1, by rw [← fal_run0]; exact hc⟩
  · rintro ⟨h1, h2⟩
    rw [run_rups h1]
    show falV (run0 (l ++ S)) = true
    rw [fal_run0]; exact h2
theorem cle_fal : falC (cle []) = true := rfl
theorem sv_chn {l : List Con} {fu : Int} (h : svC l fu = 2) : pOk l = true ∧ chnR l (svS l fu) ∧ cle [] ∈ svS l fu ∧ (svS l fu).length ≤ 1000 := by
  have ho : svOk l fu = true := by
    cases hq : svOk l fu
    · have := (sv_bad hq).1; omega
    · rfl
  have g := sv_good ho
  have hc := (sv_ok ho).1
  have e : svS l fu = (svR l fu).1 := by unfold svS; rw [if_pos h]
  rw [e]
  have ho2 := g.ok
  rw [List.all_append, Bool.and_eq_true] at ho2
  have h1 := chnR_of ho2.2 (fun k hk => g.rup k (by simp) hk) _ (Nat.le_refl _)
  rw [List.take_length] at h1
  exact ⟨(svOk_parts ho).1, h1, g.uns (by rw [← hc]; exact h), g.len⟩
end Go.Ab
/- Facts for the walks of proofs that are run. -/
set_option autoImplicit false
namespace Go.Ab
theorem liv_y {D : Db} {i : Int} {b : Bool} (h : 0 ≤ i ∧ i < (D.1.length : Int)) (hb : b = !D.2.getD i.toNat default) : livV D i = b := by
  unfold livV; rw [decide_eq_true h.1, decide_eq_true h.2, hb]; rfl
theorem liv_n {D : Db} {i : Int} (h : ¬ (0 ≤ i ∧ i < (D.1.length : Int))) : livV D i = false := by
  unfold livV
  by_cases h1 : 0 ≤ i
  · rw [decide_eq_false (show ¬ i < (D.1.length : Int) from fun q => h ⟨h1, q⟩), Bool.and_false, Bool.false_and]
  · rw [decide_eq_false h1]; rfl
theorem netV_next {ts : List Term} {k : Nat} (h : k < ts.length) (v : Int) : netV (ts.take (k + 1)) v = netV (ts.take k) v + netA v (ts.getD k default) := by
  unfold netV; rw [qjj (d := default) h, List.foldl_append]; rfl
theorem netB_next {ts : List Term} {b : Int} {k : Nat} (h : k < ts.length) : netB (ts.take (k + 1)) b = if (ts.getD k default).2 < 0 then netB (ts.take k) b - (ts.getD k default).1 else netB (ts.take k) b := by
  unfold netB; rw [qjj (d := default) h, List.foldl_append]; rfl
abbrev fitT (ts : List Term) : Prop := ts.length ≤ 80 ∧ ∀ t ∈ ts, litOk t.2 = true ∧ -30000 ≤ t.1 ∧ t.1 ≤ 30000
theorem fit_at {ts : List Term} (h : fitT ts) {k : Nat} (hk : k < ts.length) : litOk (ts.getD k default).2 = true ∧ -30000 ≤ (ts.getD k default).1 ∧ (ts.getD k default).1 ≤ 30000 := h.2 _ (qju hk)
theorem netA_rng {v : Int} {t : Term} (h : -30000 ≤ t.1 ∧ t.1 ≤ 30000) : -30000 ≤ netA v t ∧ netA v t ≤ 30000 := by unfold netA; (repeat' split) <;> omega
theorem netV_rng {ts : List Term} (h : fitT ts) (v : Int) : ∀ {k : Nat}, k ≤ ts.length → -30000 * (k : Int) ≤ netV (ts.take k) v ∧ netV (ts.take k) v ≤ 30000 * (k : Int)
  | 0, _ => by simp [netV]
  | k + 1, hk => by
    have ih := netV_rng h v (k := k) (by omega)
    have := netA_rng (v := v) (fit_at h (k := k) (by omega)).2
    rw [netV_next (by omega)]; omega
theorem netB_rng {ts : List Term} (h : fitT ts) {b : Int} : ∀ {k : Nat}, k ≤ ts.length → b - 30000 * (k : Int) ≤ netB (ts.take k) b ∧ netB (ts.take k) b ≤ b + 30000 * (k : Int)
  | 0, _ => by simp [netB]
  | k + 1, hk => by
    have ih := netB_rng h (b := b) (k := k) (by omega)
    have := (fit_at h (k := k) (by omega)).2
    rw [netB_next (by omega)]; split <;> omega
def netL (ts : List Term) : List Int := (List.range 13).map fun (v : Nat) => netV ts (v : Int)
theorem netL_len {ts : List Term} : (netL ts).length = 13 := by simp [netL]
theorem netA_at {t : Term} (h : litOk t.2 = true) {v : Nat} (hv : v < 13) : netA (v : Int) t = if v = (varOf t.2).toNat then (if 0 < t.2 then t.1 else -t.1) else 0 := by
  have := litOk_iff.1 h
  unfold netA varOf
  by_cases h1 : 0 < t.2
  · by_cases e : t.2 = (v : Int)
    · rw [if_pos e, if_pos (by omega), if_pos h1]
    · rw [if_neg e, if_neg (by omega), if_neg (by omega)]
  · by_cases e : t.2 = -(v : Int)
    · rw [if_neg (by omega), if_pos e, if_pos (by omega), if_neg h1]
    · rw [if_neg (by omega), if_neg e, if_neg (by omega)]
theorem netL_set {ts : List Term} (h : fitT ts) {k : Nat} (hk : k < ts.length) {x : Int} (hx : x = netV (ts.take k) (varOf (ts.getD k default).2) + (if 0 < (ts.getD k default).2 then (ts.getD k default).1 else -(ts.getD k default).1)) : (netL (ts.take k)).set (varOf (ts.getD k default).2).toNat x = netL (ts.take (k + 1)) := by
  have hl := (fit_at h hk).1
  have hl2 := litOk_iff.1 hl
  have hv : varOf (ts.getD k default).2 = max (ts.getD k default).2 (-(ts.getD k default).2) := rfl
  unfold netL
  have := map_range_set (f := fun v : Nat => netV (ts.take k) (v : Int)) (g := fun v : Nat => netV (ts.take (k + 1)) (v : Int)) (n := 13) (k := (varOf (ts.getD k default).2).toNat) (fun j hj => by
    by_cases hj13 : j < 13
    · rw [netV_next hk, netA_at hl hj13]
      by_cases e : j = (varOf (ts.getD k default).2).toNat
      · rw [if_pos e, if_pos e, netV_next hk, netA_at hl (by omega), if_pos rfl, e]
      · rw [if_neg e, if_neg e, Int.add_zero]
    · rw [netV_next hk, if_neg (by omega)]
      unfold netA; rw [if_neg (by omega), if_neg (by omega), Int.add_zero])
  rw [← this]
  congr 1
  rw [netV_next hk, netA_at hl (by omega), if_pos rfl, hx]
  congr 2; omega
def netR (ts : List Term) : List V := (netL ts).map fun x => V.p (.int .i64 x)
theorem netR_nil : netR [] = [.p (.int .i64 0), .p (.int .i64 0), .p (.int .i64 0), .p (.int .i64 0), .p (.int .i64 0), .p (.int .i64 0), .p (.int .i64 0), .p (.int .i64 0), .p (.int .i64 0), .p (.int .i64 0), .p (.int .i64 0), .p (.int .i64 0), .p (.int .i64 0)] := rfl
theorem netR_len {ts : List Term} : (netR ts).length = 13 := by unfold netR; rw [List.length_map, netL_len]
theorem netR_get {ts : List Term} {v : Nat} (h : v < 13) : (netR ts)[v]? = some (.p (.int .i64 (netV ts (v : Int)))) := by
  unfold netR netL
  rw [List.getElem?_map, List.getElem?_map, List.getElem?_range h]; rfl
theorem netR_at {ts : List Term} {i : Int} {o : Nat} (h : 0 ≤ i ∧ i < 13) (ho : o = 0 + i.toNat * 1) : (netR ts)[o]? = some (.p (.int .i64 (netV ts i))) := by
  subst ho
  rw [Nat.zero_add, Nat.mul_one, netR_get (by omega), Int.toNat_of_nonneg h.1]
theorem netR_pos {ts : List Term} (h : fitT ts) {k : Nat} (hk : k < ts.length) (h0 : ¬ (ts.getD k default).2 < 0) : (netR (ts.take k)).set (0 + (ts.getD k default).2.toNat * 1) (.p (.int .i64 (netV (ts.take k) (ts.getD k default).2 + (ts.getD k default).1))) = netR (ts.take (k + 1)) := by
  have hl := litOk_iff.1 (fit_at h hk).1
  have hv : varOf (ts.getD k default).2 = (ts.getD k default).2 := by unfold varOf; omega
  unfold netR
  rw [← netL_set h hk (x := netV (ts.take k) (ts.getD k default).2 + (ts.getD k default).1) (by rw [hv, if_pos (by omega)]), hv, List.map_set, Nat.zero_add, Nat.mul_one]
theorem netR_neg {ts : List Term} (h : fitT ts) {k : Nat} (hk : k < ts.length) (h0 : (ts.getD k default).2 < 0) : (netR (ts.take k)).set (0 + (-(ts.getD k default).2).toNat * 1) (.p (.int .i64 (netV (ts.take k) (-(ts.getD k default).2) - (ts.getD k default).1))) = netR (ts.take (k + 1)) := by
  have hl := litOk_iff.1 (fit_at h hk).1
  have hv : varOf (ts.getD k default).2 = -(ts.getD k default).2 := by unfold varOf; omega
  unfold netR
  rw [← netL_set h hk (x := netV (ts.take k) (-(ts.getD k default).2) - (ts.getD k default).1) (by rw [hv, if_neg (by omega)]; omega), hv, List.map_set, Nat.zero_add, Nat.mul_one]
theorem nrm1_len {f : Int → Int} {v : Int} : (nrm1 f v).length ≤ 1 := by unfold nrm1; (repeat' split) <;> simp
theorem nrmT_len {f : Int → Int} : ∀ {n : Nat}, (nrmT f n).length ≤ n
  | 0 => Nat.le_refl _
  | n + 1 => by
    have ih := nrmT_len (f := f) (n := n)
    have := nrm1_len (f := f) (v := (n : Int))
    rw [nrmT, List.length_append]; omega
theorem nrmT_p {f : Int → Int} {n : Nat} (h : 0 < f (n : Int)) : nrmT f (n + 1) = nrmT f n ++ [(f (n : Int), (n : Int))] := by rw [nrmT, nrm1, if_pos h]
theorem nrmT_m {f : Int → Int} {n : Nat} (h : f (n : Int) < 0) : nrmT f (n + 1) = nrmT f n ++ [(-f (n : Int), -(n : Int))] := by rw [nrmT, nrm1, if_neg (by omega), if_pos h]
theorem nrmT_z {f : Int → Int} {n : Nat} (h : ¬ 0 < f (n : Int)) (h2 : ¬ f (n : Int) < 0) : nrmT f (n + 1) = nrmT f n := by rw [nrmT, nrm1, if_neg h, if_neg h2, List.append_nil]
theorem nrmB_m {f : Int → Int} {b : Int} {n : Nat} (h : f (n : Int) < 0) : nrmB f b (n + 1) = nrmB f b n - f (n : Int) := by rw [nrmB]; omega
theorem nrmB_z {f : Int → Int} {b : Int} {n : Nat} (h : ¬ f (n : Int) < 0) : nrmB f b (n + 1) = nrmB f b n := by rw [nrmB]; omega
theorem nrmB_rng {f : Int → Int} {b M : Int} (hf : ∀ v, -M ≤ f v ∧ f v ≤ M) : ∀ {n : Nat}, b ≤ nrmB f b n ∧ nrmB f b n ≤ b + M * (n : Int)
  | 0 => by simp [nrmB]
  | n + 1 => by
    have ih := nrmB_rng (b := b) hf (n := n)
    have h := hf (n : Int)
    rw [nrmB]
    have : M * ((n + 1 : Nat) : Int) = M * (n : Int) + M := by rw [Int.natCast_add, Int.mul_add]; simp
    omega
theorem netV_all {ts : List Term} (h : fitT ts) (v : Int) : -2400000 ≤ netV ts v ∧ netV ts v ≤ 2400000 := by
  have h1 := netV_rng h v (Nat.le_refl _)
  rw [List.take_length] at h1
  have := h.1; omega
theorem netB_all {ts : List Term} (h : fitT ts) (b : Int) : b - 2400000 ≤ netB ts b ∧ netB ts b ≤ b + 2400000 := by
  have h1 := netB_rng h (b := b) (Nat.le_refl _)
  rw [List.take_length] at h1
  have := h.1; omega
theorem nrmB_all {ts : List Term} (h : fitT ts) {b : Int} {n : Nat} (hn : n ≤ 13) : b ≤ nrmB (netV ts) b n ∧ nrmB (netV ts) b n ≤ b + 40000000 := by
  have := nrmB_rng (b := b) (netV_all h) (n := n)
  omega
theorem fit_cons {a b : Con} (ha : cOk a = true) (hb : cOk b = true) : fitT (a.1 ++ b.1) := by
  have h1 := qz2 ha
  have h2 := qz2 hb
  refine ⟨by rw [List.length_append]; omega, fun t ht => ?_⟩
  have key : ∀ {c : Con}, cOk c = true → t ∈ c.1 → litOk t.2 = true ∧ -30000 ≤ t.1 ∧ t.1 ≤ 30000 := fun hc hm => by
    have := qzz (cOk_ok hc) t hm
    exact ⟨this.1, by omega, by omega⟩
  rcases List.mem_append.1 ht with q | q
  · exact key ha q
  · exact key hb q
def catE (a b : List Term) (k : Nat) : List Term := if k = 0 then a else b
def catN (a b : List Term) : Nat → List Term
  | 0 => []
  | 1 => a
  | _ => a ++ b
theorem cat_hk {a b : List Term} {k : Nat} (h : k < 2) : [[V.sl (a.map dT)], [V.sl (b.map dT)]][k]? = some [V.sl ((catE a b k).map dT)] := by
  match k, h with
  | 0, _ => rfl
  | 1, _ => rfl
theorem cat_next {a b : List Term} {k : Nat} (h : k < 2) : catN a b (k + 1) = catN a b k ++ catE a b k := by
  match k, h with
  | 0, _ => simp [catN, catE]
  | 1, _ => simp [catN, catE]
theorem cat_len {a b : List Term} {k : Nat} (h : k < 2) : (catN a b (k + 1)).length = (catN a b k).length + (catE a b k).length := by rw [cat_next h, List.length_append]
theorem catN_le {a b : List Term} {k : Nat} : (catN a b k).length ≤ a.length + b.length := by
  match k with
  | 0 => simp [catN]
  | 1 => simp [catN]
  | k + 2 => simp [catN]
theorem len_dT {l : List Term} : ∀ x ∈ l.map dT, x.length = 2 := by
  intro x hx
  obtain ⟨t, _, rfl⟩ := List.mem_map.1 hx
  rfl
end Go.Ab
namespace Go.Ab
theorem boxEq1 {v e : Nat} {a b : List V} (h : a = b) : (some (v, Obj.box e a) : Option (Nat × Obj)) = some (v, .box e b) := by rw [h]
end Go.Ab
namespace Go.Ab
theorem netR_gi {ts : List Term} {j : Nat} (h : j < 13) : (netR ts)[((j : Nat) : Int).toNat]? = some (.p (.int .i64 (netV ts (j : Int)))) := by
  rw [Int.toNat_natCast]; exact netR_get h
end Go.Ab
/- Steps of proofs, told for the walks. -/
set_option autoImplicit false
set_option linter.unusedSimpArgs false
namespace Go.Ab
def stpF (D : Db) (s : Stp) : Db := if shpV s && refO D s then stpD D s else D
theorem stpF_n {D : Db} {s : Stp} (h : (shpV s && refO D s) = false) : stpO D s = false ∧ stpF D s = D := by
  unfold stpO stpF
  rw [← Bool.and_assoc, h]
  exact ⟨rfl, rfl⟩
theorem stpF_y {D : Db} {s : Stp} (h : shpV s = true) (h2 : refO D s = true) : stpF D s = stpD D s := by unfold stpF; rw [h, h2]; rfl
theorem stpF_o {D : Db} {s : Stp} (h : stpO D s = true) : stpF D s = stpD D s := by
  unfold stpO at h
  simp only [Bool.and_eq_true] at h
  exact stpF_y h.1 h.2.1
theorem stpO_8 {D : Db} {s : Stp} (h : shpV s = true) (h2 : refO D s = true) (h8 : s.1 = 8) : stpO D s = true ∧ stpF D s = (D.1, D.2.set s.2.1.toNat true) := by
  rw [stpF_y h h2]
  unfold stpO stpD
  rw [h, h2, decide_eq_true h8, if_pos h8]; exact ⟨rfl, rfl⟩
theorem stpO_a {D : Db} {s : Stp} (h : shpV s = true) (h2 : refO D s = true) (h8 : ¬ s.1 = 8) : stpO D s = drvO D s ∧ stpF D s = (D.1 ++ [drvC D s], D.2 ++ [false]) := by
  rw [stpF_y h h2]
  unfold stpO stpD
  rw [h, h2, decide_eq_false h8, if_neg h8]; exact ⟨rfl, rfl⟩
theorem liv_rng {D : Db} {i : Int} (h : livV D i = true) : 0 ≤ i ∧ i < (D.1.length : Int) := by
  unfold livV at h
  simp only [Bool.and_eq_true, decide_eq_true_eq] at h
  exact h.1
abbrev atI (D : Db) (i : Int) : Con := D.1.getD i.toNat default
section
variable {D : Db} {s : Stp}
theorem drv_1 (h : s.1 = 1) : drvC D s = addC (atI D s.2.1) (atI D s.2.2.1) ∧ drvO D s = addO (atI D s.2.1) (atI D s.2.2.1) := by unfold drvC drvO; rw [if_pos h, if_pos h]; exact ⟨rfl, rfl⟩
theorem drv_2 (h : s.1 = 2) : drvC D s = chR (mulK s.2.2.1) (atI D s.2.1) s.2.2.1 ∧ drvO D s = chB (mulK s.2.2.1) (atI D s.2.1) s.2.2.1 := by unfold drvC drvO; rw [h]; exact ⟨rfl, rfl⟩
theorem drv_3 (h : s.1 = 3) : drvC D s = divR (atI D s.2.1) s.2.2.1 ∧ drvO D s = kOk (atI D s.2.1) s.2.2.1 := by unfold drvC drvO; rw [h]; exact ⟨rfl, rfl⟩
theorem drv_4 (h : s.1 = 4) (hc : cOk (atI D s.2.1) = true) : drvC D s = stC (atI D s.2.1) ∧ drvO D s = true := by
  unfold drvC drvO; rw [h]
  refine ⟨?_, hc⟩
  show (if cOk (atI D s.2.1) = true then stC (atI D s.2.1) else ([], 0)) = _
  rw [if_pos hc]
theorem drv_5 (h : s.1 = 5) : drvC D s = weakC (atI D s.2.1) s.2.2.1 ∧ drvO D s = wOk (atI D s.2.1) s.2.2.1 := by unfold drvC drvO; rw [h]; exact ⟨rfl, rfl⟩
theorem drv_6 (h : s.1 = 6) : drvC D s = axC s.2.1 ∧ drvO D s = litOk s.2.1 := by unfold drvC drvO; rw [h]; exact ⟨rfl, rfl⟩
theorem drv_7 (h : s.1 = 7) : drvC D s = s.2.2.2 ∧ drvO D s = (cOk s.2.2.2 && rupV (kepV D) s.2.2.2) := by unfold drvC drvO; rw [h]; exact ⟨rfl, rfl⟩
theorem shp_cases (h : shpV s = true) : s.1 = 1 ∨ s.1 = 2 ∨ s.1 = 3 ∨ s.1 = 4 ∨ s.1 = 5 ∨ s.1 = 6 ∨ s.1 = 7 ∨ s.1 = 8 := by
  unfold shpV at h
  (repeat' split at h) <;> first | omega | cases h
theorem chR_div {c : Con} {k : Int} : chR (divK k) c k = divR c k ∧ chB (divK k) c k = kOk c k := by
  unfold chR chB divR
  cases h : kOk c k
  · exact ⟨rfl, rfl⟩
  · have h2 : cOk c = true ∧ 1 ≤ k := by
      unfold kOk at h
      simp only [Bool.and_eq_true, decide_eq_true_eq] at h
      exact ⟨h.1, h.2.1⟩
    have h3 := div_ok h2.1 h2.2
    rw [if_pos rfl, if_pos rfl, vC_ok h3, h3]; exact ⟨rfl, rfl⟩
def invD (D : Db) (n : Nat) : Prop := D.1.all cOk = true ∧ D.2.length = D.1.length ∧ D.1.length ≤ n
theorem invD_at (h : D.1.all cOk = true) {i : Int} (hl : livV D i = true) : cOk (atI D i) = true := by
  have := liv_rng hl
  exact List.all_eq_true.1 h _ (qju (by omega))
theorem weak_cok {c : Con} {v : Int} (h : wOk c v = true) : cOk (weakC c v) = true := by
  have hc : cOk c = true := by unfold wOk at h; simp only [Bool.and_eq_true] at h; exact h.1
  have hb := qzv hc
  have hw := weakB_rng (v := v) (b := c.2) (ts := c.1) (cOk_coefs hc)
  unfold weakC
  rw [if_pos h]
  exact cOk_mk (okFrom_filter (cOk_ok hc)) (by omega) (by omega)
theorem ax_cok {a : Int} (h : litOk a = true) : cOk (axC a) = true := by
  unfold axC
  rw [if_pos h]
  refine cOk_mk (ts := [(1, a)]) ?_ (by decide) (by decide)
  have := litOk_iff.1 h
  rw [qj2 (t := (1, a)) h (by show (0 : Int) < varOf a; unfold varOf; omega) (Int.le_refl 1) (show (1 : Int) ≤ 1000 by decide)]; rfl
theorem drv_cok (hD : D.1.all cOk = true) (hs : shpV s = true) (hr : refO D s = true) (h8 : ¬ s.1 = 8) (h : drvO D s = true) : cOk (drvC D s) = true := by
  have hA : 0 < (refK s.1).1 → livV D s.2.1 = true := fun q => by unfold refO at hr; simp only [Bool.and_eq_true, Bool.or_eq_true, decide_eq_true_eq] at hr; exact hr.1.resolve_left (fun n => n q)
  rcases shp_cases hs with k | k | k | k | k | k | k | k
  · rw [(drv_1 k).2] at h; rw [(drv_1 k).1]; unfold addC addO at *; rw [vC_ok h]; exact h
  · rw [(drv_2 k).2] at h; rw [(drv_2 k).1]
    unfold chR chB at *
    rw [Bool.and_eq_true] at h
    rw [if_pos h.1, vC_ok h.2]; exact h.2
  · rw [(drv_3 k).2] at h; rw [(drv_3 k).1]
    unfold divR
    rw [if_pos h]
    unfold kOk at h
    simp only [Bool.and_eq_true, decide_eq_true_eq] at h
    exact div_ok h.1 h.2.1
  · have hc := invD_at hD (hA (by rw [k]; decide))
    rw [(drv_4 k hc).1]; exact st_ok hc
  · rw [(drv_5 k).2] at h; rw [(drv_5 k).1]; exact weak_cok h
  · rw [(drv_6 k).2] at h; rw [(drv_6 k).1]; exact ax_cok h
  · rw [(drv_7 k).2, Bool.and_eq_true] at h; rw [(drv_7 k).1]; exact h.1
  · exact absurd k h8
theorem stp_inv {n : Nat} (h : invD D n) (ho : stpO D s = true) : invD (stpD D s) (n + 1) := by
  obtain ⟨h1, h2, h3⟩ := h
  unfold stpO at ho
  simp only [Bool.and_eq_true] at ho
  unfold stpD
  by_cases h8 : s.1 = 8
  · rw [if_pos h8]; exact ⟨h1, by dsimp only; rw [List.length_set]; exact h2, by dsimp only; omega⟩
  · rw [if_neg h8]
    have hd : drvO D s = true := by
      have := ho.2.2
      rw [decide_eq_false h8, Bool.false_or] at this; exact this
    have := drv_cok h1 ho.1 ho.2.1 h8 hd
    exact ⟨by dsimp only; rw [List.all_append, h1]; simp [this], by dsimp only; rw [List.length_append, List.length_append, h2]; rfl, by dsimp only; rw [List.length_append]; simp; omega⟩
end
theorem inv_run0 {l : List Con} (h : pOk l = true) : invD (run0 l) 400 := ⟨pOk_all h, by simp [run0], pOk_len h⟩
theorem runV_y {l : List Con} {ss : List Stp} (h : pOk l = true) (h2 : ss.length ≤ 1000) : runV l ss = runS (run0 l) ss := by unfold runV; rw [h, decide_eq_true h2]; rfl
theorem runV_n {l : List Con} {ss : List Stp} (h : pOk l = false ∨ ¬ ss.length ≤ 1000) : runV l ss = none := by
  unfold runV
  rcases h with h | h
  · rw [h]; rfl
  · rw [decide_eq_false h, Bool.and_false]; rfl
theorem runV_parts {l : List Con} {ss : List Stp} {E : Db} (h : runV l ss = some E) : pOk l = true ∧ ss.length ≤ 1000 ∧ runS (run0 l) ss = some E := by
  cases hq : pOk l
  · rw [runV_n (.inl hq)] at h; cases h
  · by_cases h2 : ss.length ≤ 1000
    · rw [runV_y hq h2] at h; exact ⟨rfl, h2, h⟩
    · rw [runV_n (.inr h2)] at h; cases h
def runI (l : List Con) (ss : List Stp) (k : Nat) (D : Db) : Prop := k ≤ ss.length ∧ runS (run0 l) (ss.take k) = some D ∧ invD D (400 + k)
theorem runI_0 {l : List Con} {ss : List Stp} (h : pOk l = true) : runI l ss 0 (run0 l) := ⟨Nat.zero_le _, rfl, inv_run0 h⟩
theorem runI_next {l : List Con} {ss : List Stp} {k : Nat} {D : Db} (h : runI l ss k D) (hk : k < ss.length) (ho : stpO D (ss.getD k default) = true) : runI l ss (k + 1) (stpD D (ss.getD k default)) := by
  obtain ⟨h1, h2, h3⟩ := h
  exact ⟨hk, by rw [runS_next hk h2, stpV_y ho], stp_inv h3 ho⟩
theorem runI_stop {l : List Con} {ss : List Stp} {k : Nat} {D : Db} (h : runI l ss k D) (hk : k < ss.length) (ho : stpO D (ss.getD k default) = false) : runS (run0 l) ss = none := by
  obtain ⟨h1, h2, h3⟩ := h
  exact runS_stop (k := k + 1) (by rw [runS_next hk h2, stpV_n ho])
theorem runI_end {l : List Con} {ss : List Stp} {k : Nat} {D : Db} (h : runI l ss k D) (hk : ss.length ≤ k) : runS (run0 l) ss = some D := by
  have := h.2.1
  rwa [List.take_of_length_le hk] at this
def falI (D : Db) : Int := idxF (falN D) (List.range D.1.length) 0
theorem rangeD {n k : Nat} (h : k < n) : (List.range n).getD k default = k := by
  rw [List.getD_eq_getElem?_getD, List.getElem?_range h]; rfl
theorem falI_start {D : Db} : falI D = idxF (falN D) ((List.range D.1.length).drop 0) ((0 : Nat) : Int) := rfl
theorem falI_hit {D : Db} {k : Nat} (h : k < D.1.length) (hf : falI D = idxF (falN D) ((List.range D.1.length).drop k) (k : Int)) (hp : falN D k = true) : falI D = (k : Int) := by
  rw [hf, idxF_hit (d := default) (by simpa using h) (by rw [rangeD h]; exact hp)]
theorem falI_skip {D : Db} {k : Nat} (h : k < D.1.length) (hf : falI D = idxF (falN D) ((List.range D.1.length).drop k) (k : Int)) (hp : falN D k = false) : falI D = idxF (falN D) ((List.range D.1.length).drop (k + 1)) ((k + 1 : Nat) : Int) := by
  rw [hf, idxF_skip (d := default) (by simpa using h) (by rw [rangeD h]; exact hp)]
theorem falI_end {D : Db} {k : Nat} (h : D.1.length ≤ k) (hf : falI D = idxF (falN D) ((List.range D.1.length).drop k) (k : Int)) : falI D = -1 := by
  rw [hf, idxF_end (by simpa using h)]
theorem falI_fal {D : Db} : decide (0 ≤ falI D) = falV D := idxF_any (Int.le_refl 0)
theorem falN_y {D : Db} {k : Nat} (h : D.2.getD k default = false) (h2 : falC (D.1.getD k default) = true) : falN D k = true := by unfold falN; rw [h, h2]; rfl
theorem falN_n {D : Db} {k : Nat} (h : D.2.getD k default = true ∨ falC (D.1.getD k default) = false) : falN D k = false := by
  unfold falN
  rcases h with h | h
  · rw [h]; rfl
  · rw [h, Bool.and_false]
end Go.Ab
namespace Go.Ab
theorem crV_y {l : List Con} {ss : List Stp} {E : Db} (h : runV l ss = some E) : crV l ss = falV E := by unfold crV; rw [h]
theorem crV_n {l : List Con} {ss : List Stp} (h : runV l ss = none) : crV l ss = false := by unfold crV; rw [h]
theorem runI_all {l : List Con} {ss : List Stp} (hp : pOk l = true) {E : Db} (h : runS (run0 l) ss = some E) : ∀ k, k ≤ ss.length → ∃ D, runI l ss k D
  | 0, _ => ⟨_, runI_0 hp⟩
  | k + 1, hk => by
    obtain ⟨D, hD⟩ := runI_all hp h k (by omega)
    cases ho : stpO D (ss.getD k default)
    · rw [runI_stop hD (by omega) ho] at h; cases h
    · exact ⟨_, runI_next hD (by omega) ho⟩
theorem runV_inv {l : List Con} {ss : List Stp} {E : Db} (h : runV l ss = some E) : invD E 1400 := by
  obtain ⟨h1, h2, h3⟩ := runV_parts h
  obtain ⟨D, hD⟩ := runI_all h1 h3 _ (Nat.le_refl _)
  have h4 := runI_end hD (Nat.le_refl _)
  rw [h3] at h4
  obtain rfl : E = D := by injection h4
  exact ⟨hD.2.2.1, hD.2.2.2.1, by have := hD.2.2.2.2; omega⟩
end Go.Ab
namespace Go.Ab
def drvX (D : Db) (s : Stp) : Con := if refO D s then drvC D s else ([], 0)
def drvY (D : Db) (s : Stp) : Bool := refO D s && drvO D s
section
variable {D : Db} {s : Stp}
end
end Go.Ab

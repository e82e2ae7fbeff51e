/- Models told as problems. -/
import Derived.Test.YtoodaakcfelaaaaGreatDmod2
import Derived.Test.YtoodaakcfelaaaaGreatPf2
set_option linter.unusedSimpArgs false
set_option linter.unusedVariables false
namespace Go.Ab
def bvI (s : List Int) (c : Nat) (x : Int) : Int := 1 + x + szSum (s.take c)
def boxN (s : List Int) (c j : Nat) : List Int := (List.range j).map (fun x => bvI s c ((x : Nat) : Int))
def szN (s : List Int) (c : Nat) : Nat := (s.getD c default + 1).toNat
def boxV (s : List Int) (c : Nat) : List Int := boxN s c (szN s c)
def amoC (vs : List Int) : Con := (vs.map (fun v => ((1 : Int), -v)), (vs.length : Int) - 1)
def clsC (L : List Int) : Con := ((srtS L).map oneL, 1)
def viN (r : Rl) (i : Nat) : Nat := (r.2.1.getD i default).toNat
def linI (s : List Int) (r : Rl) (i j : Nat) : List Term := (List.range j).map (fun x => (r.2.2.1.getD i default * ((x : Nat) : Int), bvI s (viN r i) ((x : Nat) : Int)))
def linT (s : List Int) (r : Rl) (n : Nat) : List Term := (List.range n).flatMap (fun i => linI s r i (szN s (viN r i)))
def difV (s : List Int) (r : Rl) (x : Nat) (k : Nat) : List Int := (List.range k).flatMap (fun i => if (x : Int) ≤ s.getD (viN r i) default then [bvI s (viN r i) x] else [])
def dif1 (s : List Int) (r : Rl) (x : Nat) : List Con := if 1 < (difV s r x r.2.1.length).length then [amoC (srtS (difV s r x r.2.1.length))] else []
def difL (s : List Int) (r : Rl) (n : Nat) : List Con := (List.range n).flatMap (dif1 s r)
def szR (s : List Int) (r : Rl) : List Int := valsC r.2.1 s
def notL (s : List Int) (r : Rl) (x : List Int) (k : Nat) : List Int := (List.range k).map (fun i => -(bvI s (viN r i) (x.getD i default)))
def tab1 (s : List Int) (r : Rl) (x : List Int) : List Con := if holdB r x then [] else [clsC (notL s r x r.2.1.length)]
def enN (sz : List Int) : Nat → List Int → List (List Int)
  | 0, _ => []
  | n + 1, c => c :: (if (nxt sz c c.length).2 then enN sz n (nxt sz c c.length).1 else [])
def enA (sz : List Int) (c : List Int) : List (List Int) := enN sz (prS sz - vlS sz c) c
def tabL (s : List Int) (r : Rl) : List Con := (enA (szR s r) (List.replicate (szR s r).length 0)).flatMap (tab1 s r)
def encR (s : List Int) (r : Rl) : List Con := if r.1 = 1 then [vC (nrmC (linT s r r.2.1.length) r.2.2.2.1)] else if r.1 = 2 then difL s r 4 else tabL s r
def encB (s : List Int) (n : Nat) : List Con := (List.range n).flatMap (fun c => [clsC (boxV s c), amoC (boxV s c)])
def encM (m : Md) (k : Nat) : List Con := encB m.1 m.1.length ++ (m.2.take k).flatMap (encR m.1)
def emOk (m : Md) : Bool := mOk m && decide ((encM m m.2.length).length ≤ 400)
def emL (m : Md) : List Con := if emOk m then encM m m.2.length else []
theorem fm_snoc {α : Type} {f : Nat → List α} {n : Nat} : (List.range (n + 1)).flatMap f = (List.range n).flatMap f ++ f n := by
  rw [List.range_succ, List.flatMap_append]; simp
theorem boxN_next {s : List Int} {c j : Nat} : boxN s c (j + 1) = boxN s c j ++ [bvI s c j] := by unfold boxN; rw [List.range_succ, List.map_append]; rfl
theorem boxN_len {s : List Int} {c j : Nat} : (boxN s c j).length = j := by simp [boxN]
theorem linI_next {s : List Int} {r : Rl} {i j : Nat} : linI s r i (j + 1) = linI s r i j ++ [(r.2.2.1.getD i default * ((j : Nat) : Int), bvI s (viN r i) j)] := by unfold linI; rw [List.range_succ, List.map_append]; rfl
theorem qj0 {s : List Int} {r : Rl} {i j : Nat} : (linI s r i j).length = j := by simp [linI]
theorem linT_next {s : List Int} {r : Rl} {n : Nat} : linT s r (n + 1) = linT s r n ++ linI s r n (szN s (viN r n)) := fm_snoc
theorem difV_yes {s : List Int} {r : Rl} {x k : Nat} (h : (x : Int) ≤ s.getD (viN r k) default) : difV s r x (k + 1) = difV s r x k ++ [bvI s (viN r k) x] := by unfold difV; rw [fm_snoc, if_pos h]
theorem difV_no {s : List Int} {r : Rl} {x k : Nat} (h : ¬ (x : Int) ≤ s.getD (viN r k) default) : difV s r x (k + 1) = difV s r x k := by unfold difV; rw [fm_snoc, if_neg h, List.append_nil]
theorem difV_len {s : List Int} {r : Rl} {x : Nat} : ∀ {k : Nat}, (difV s r x k).length ≤ k
  | 0 => by simp [difV]
  | k + 1 => by
    have ih := difV_len (s := s) (r := r) (x := x) (k := k)
    by_cases h : (x : Int) ≤ s.getD (viN r k) default
    · rw [difV_yes h]; simp; omega
    · rw [difV_no h]; omega
theorem difL_yes {s : List Int} {r : Rl} {n : Nat} (h : 1 < (difV s r n r.2.1.length).length) : difL s r (n + 1) = difL s r n ++ [amoC (srtS (difV s r n r.2.1.length))] := by unfold difL; rw [fm_snoc, dif1, if_pos h]
theorem difL_no {s : List Int} {r : Rl} {n : Nat} (h : ¬ 1 < (difV s r n r.2.1.length).length) : difL s r (n + 1) = difL s r n := by unfold difL; rw [fm_snoc, dif1, if_neg h, List.append_nil]
theorem notL_next {s : List Int} {r : Rl} {x : List Int} {k : Nat} : notL s r x (k + 1) = notL s r x k ++ [-(bvI s (viN r k) (x.getD k default))] := by unfold notL; rw [List.range_succ, List.map_append]; rfl
theorem notL_len {s : List Int} {r : Rl} {x : List Int} {k : Nat} : (notL s r x k).length = k := by simp [notL]
theorem encB_next {s : List Int} {n : Nat} : encB s (n + 1) = encB s n ++ [clsC (boxV s n), amoC (boxV s n)] := fm_snoc
theorem encM_next {m : Md} {k : Nat} (h : k < m.2.length) : encM m (k + 1) = encM m k ++ encR m.1 (m.2.getD k default) := by
  unfold encM
  rw [qjn (d := default) h, List.flatMap_append, List.append_assoc]; simp
theorem szR_next {s : List Int} {r : Rl} {k : Nat} (h : k < r.2.1.length) : valsC (r.2.1.take (k + 1)) s = valsC (r.2.1.take k) s ++ [s.getD (viN r k) default] := by
  unfold valsC viN
  rw [qjn (d := default) h, List.map_append]; rfl
theorem qj1 {s : List Int} {r : Rl} : (szR s r).length = r.2.1.length := qjc
theorem szR_at {s : List Int} {r : Rl} {k : Nat} (h : k < r.2.1.length) : (szR s r).getD k default = s.getD (viN r k) default := vals_at h
theorem szSum_step {s : List Int} (h : ∀ k, k < s.length → 0 ≤ s.getD k default) : ∀ {b : Nat}, b ≤ s.length → ∀ {a : Nat}, a ≤ b → szSum (s.take a) + ((b : Int) - (a : Int)) ≤ szSum (s.take b)
  | 0, _, a, ha => by obtain rfl : a = 0 := by omega
                      simp
  | b + 1, hb, a, ha => by
    rw [szSum_next (by omega)]
    have h0 := h b (by omega)
    by_cases e : a = b + 1
    · subst e; rw [szSum_next (by omega)]; omega
    · have ih := szSum_step h (b := b) (by omega) (a := a) (by omega)
      omega
theorem mOk_tot {m : Md} (h : mOk m = true) : szSum m.1 ≤ 12 := by
  unfold mOk szsOk at h
  simp only [Bool.and_eq_true, decide_eq_true_eq] at h
  exact h.1.2.2
theorem sz_upto {m : Md} (h : mOk m = true) {c : Nat} (hc : c < m.1.length) : 0 ≤ szSum (m.1.take c) ∧ szSum (m.1.take c) + (m.1.getD c default + 1) ≤ 12 := by
  have hp := sz_pos h
  have h1 := szSum_step hp (b := c) (by omega) (a := 0) (by omega)
  have h2 := szSum_step hp (b := m.1.length) (Nat.le_refl _) (a := c + 1) (by omega)
  rw [szSum_next hc, List.take_length] at h2
  have h3 := mOk_tot h
  simp [szSum] at h1
  unfold szSum at *
  omega
theorem bv_rng {m : Md} (h : mOk m = true) {c : Nat} (hc : c < m.1.length) {x : Int} (hx : 0 ≤ x ∧ x ≤ m.1.getD c default) : 1 ≤ bvI m.1 c x ∧ bvI m.1 c x ≤ 12 := by
  have := sz_upto h hc
  unfold bvI; omega
theorem bv_lt {m : Md} (h : mOk m = true) {c d : Nat} (hc : c < d) (hd : d < m.1.length) {x y : Int} (hx : x ≤ m.1.getD c default) (hy : 0 ≤ y) : bvI m.1 c x < bvI m.1 d y := by
  have h2 := szSum_step (sz_pos h) (b := d) (by omega) (a := c + 1) (by omega)
  rw [szSum_next (by omega)] at h2
  unfold bvI; omega
theorem bv_inj {m : Md} (h : mOk m = true) {c d : Nat} (hc : c < m.1.length) (hd : d < m.1.length) {x y : Int} (hx : 0 ≤ x ∧ x ≤ m.1.getD c default) (hy : 0 ≤ y ∧ y ≤ m.1.getD d default) (e : bvI m.1 c x = bvI m.1 d y) : c = d ∧ x = y := by
  rcases Nat.lt_trichotomy c d with q | q | q
  · have := bv_lt h q hd hx.2 hy.1; omega
  · subst q; unfold bvI at e; exact ⟨rfl, by omega⟩
  · have := bv_lt h q hc hy.2 hx.1; omega
theorem lit_pos {n : Int} (h : 1 ≤ n ∧ n ≤ 12) : litOk n = true ∧ varOf n = n := by
  refine ⟨litOk_iff.2 (by omega), ?_⟩
  unfold varOf; omega
theorem szN_eq {m : Md} (h : mOk m = true) {c : Nat} (hc : c < m.1.length) : ((szN m.1 c : Nat) : Int) = m.1.getD c default + 1 := by
  have := (qzx h).2 c hc
  unfold szN; omega
theorem boxV_mem {m : Md} (h : mOk m = true) {c : Nat} (hc : c < m.1.length) {l : Int} (hl : l ∈ boxV m.1 c) : ∃ x : Int, (0 ≤ x ∧ x ≤ m.1.getD c default) ∧ l = bvI m.1 c x := by
  unfold boxV boxN at hl
  obtain ⟨x, hx, rfl⟩ := List.mem_map.1 hl
  rw [List.mem_range] at hx
  have := szN_eq h hc
  exact ⟨x, by omega, rfl⟩
theorem boxV_apt {m : Md} (h : mOk m = true) {c : Nat} (hc : c < m.1.length) : apt (boxV m.1 c) := by
  refine ⟨fun l hl => ?_, ?_⟩
  · obtain ⟨x, hx, rfl⟩ := boxV_mem h hc hl
    exact (lit_pos (bv_rng h hc hx)).1
  · unfold boxV boxN
    rw [List.pairwise_map]
    refine List.Pairwise.imp_of_mem ?_ List.pairwise_lt_range
    intro a b ha hb hab
    rw [List.mem_range] at ha hb
    have hn := szN_eq h hc
    rw [(lit_pos (bv_rng h hc (by omega))).2, (lit_pos (bv_rng h hc (by omega))).2]
    unfold bvI; omega
theorem boxV_asc {m : Md} (h : mOk m = true) {c : Nat} (hc : c < m.1.length) : asc (boxV m.1 c) := by
  refine asc_of (fun l hl => ?_) ?_
  · obtain ⟨x, hx, rfl⟩ := boxV_mem h hc hl
    have h1 := bv_rng h hc hx
    rw [(lit_pos h1).2]; exact ⟨(lit_pos h1).1, by omega⟩
  · unfold boxV boxN
    rw [List.pairwise_map]
    refine List.Pairwise.imp_of_mem ?_ List.pairwise_lt_range
    intro a b ha hb hab
    rw [List.mem_range] at ha hb
    have hn := szN_eq h hc
    rw [(lit_pos (bv_rng h hc (by omega))).2, (lit_pos (bv_rng h hc (by omega))).2]
    unfold bvI; omega
theorem boxV_len {m : Md} (h : mOk m = true) {c : Nat} (hc : c < m.1.length) : (boxV m.1 c).length ≤ 4 ∧ 1 ≤ (boxV m.1 c).length := by
  have h1 := szN_eq h hc
  have h2 := (qzx h).2 c hc
  unfold boxV; rw [boxN_len]; omega
theorem vi_at {m : Md} {r : Rl} (hr : rOk m.1.length r = true) {i : Nat} (hi : i < r.2.1.length) : viN r i < m.1.length ∧ ((viN r i : Nat) : Int) = r.2.1.getD i default := by
  have := rOk_vs hr i hi
  unfold viN; omega
theorem vi_ne {m : Md} {r : Rl} (hr : rOk m.1.length r = true) {i j : Nat} (hi : i < r.2.1.length) (hj : j < i) : viN r j ≠ viN r i := by
  have := vs_ne hr hi hj
  unfold vrN at this; exact this
theorem rl_len {m : Md} {r : Rl} (hr : rOk m.1.length r = true) (hm : mOk m = true) : r.2.1.length ≤ 5 := by
  have h1 := (qzx hm).1
  have := vs_count (n := m.1.length) (k := r.2.1.length) (f := viN r) (fun i hi => (vi_at hr hi).1) (fun i j hi hj => vi_ne hr hi hj)
  omega
theorem difV_mem {s : List Int} {r : Rl} {x : Nat} {l : Int} : ∀ {k : Nat}, l ∈ difV s r x k → ∃ i, i < k ∧ (x : Int) ≤ s.getD (viN r i) default ∧ l = bvI s (viN r i) x := by
  intro k h
  unfold difV at h
  obtain ⟨i, hi, hl⟩ := List.mem_flatMap.1 h
  rw [List.mem_range] at hi
  by_cases q : (x : Int) ≤ s.getD (viN r i) default
  · rw [if_pos q] at hl; exact ⟨i, hi, q, by simpa using hl⟩
  · rw [if_neg q] at hl; cases hl
theorem apt_snoc {L : List Int} {l : Int} (h : apt L) (hl : litOk l = true) (hn : ∀ a ∈ L, varOf a ≠ varOf l) : apt (L ++ [l]) := by
  refine ⟨fun x hx => ?_, ?_⟩
  · rcases List.mem_append.1 hx with q | q
    · exact h.1 x q
    · rw [List.mem_singleton.1 q]; exact hl
  · rw [List.pairwise_append]
    exact ⟨h.2, List.pairwise_singleton _ _, fun a ha b hb => by rw [List.mem_singleton.1 hb]; exact hn a ha⟩
theorem apt_nil : apt [] := ⟨(fun _ h => nomatch h), List.Pairwise.nil⟩
theorem difV_apt {m : Md} (hm : mOk m = true) {r : Rl} (hr : rOk m.1.length r = true) {x : Nat} : ∀ {k : Nat}, k ≤ r.2.1.length → apt (difV m.1 r x k)
  | 0, _ => apt_nil
  | k + 1, hk => by
    have ih := difV_apt hm hr (x := x) (k := k) (by omega)
    by_cases h : (x : Int) ≤ m.1.getD (viN r k) default
    · rw [difV_yes h]
      have hv := vi_at hr (i := k) (by omega)
      have h1 := lit_pos (bv_rng hm hv.1 (x := x) ⟨by omega, h⟩)
      refine apt_snoc ih h1.1 fun a ha e => ?_
      obtain ⟨i, hi, hx, rfl⟩ := difV_mem ha
      have hw := vi_at hr (i := i) (by omega)
      rw [h1.2, (lit_pos (bv_rng hm hw.1 (x := x) ⟨by omega, hx⟩)).2] at e
      exact vi_ne hr (i := k) (j := i) (by omega) hi (bv_inj hm hw.1 hv.1 ⟨by omega, hx⟩ ⟨by omega, h⟩ e).1
    · rw [difV_no h]; exact ih
theorem difV_pos {m : Md} (hm : mOk m = true) {r : Rl} (hr : rOk m.1.length r = true) {x k : Nat} (hk : k ≤ r.2.1.length) {l : Int} (hl : l ∈ difV m.1 r x k) : 1 ≤ l ∧ l ≤ 12 := by
  obtain ⟨i, hi, hx, rfl⟩ := difV_mem hl
  exact bv_rng hm (vi_at hr (i := i) (by omega)).1 ⟨by omega, hx⟩
def tupI (s : List Int) (r : Rl) (x : List Int) : Prop := x.length = r.2.1.length ∧ ∀ i, i < r.2.1.length → 0 ≤ x.getD i default ∧ x.getD i default ≤ s.getD (viN r i) default
theorem tup_cv {s : List Int} {r : Rl} {x : List Int} (h : cvL (szR s r) x = true) : tupI s r x := by
  obtain ⟨h1, h2⟩ := cv_at h
  rw [qj1] at h1
  exact ⟨h1, fun i hi => by have := h2 i (by omega); rw [szR_at hi] at this; exact this⟩
theorem notL_apt {m : Md} (hm : mOk m = true) {r : Rl} (hr : rOk m.1.length r = true) {x : List Int} (hx : tupI m.1 r x) : ∀ {k : Nat}, k ≤ r.2.1.length → apt (notL m.1 r x k)
  | 0, _ => apt_nil
  | k + 1, hk => by
    have ih := notL_apt hm hr hx (k := k) (by omega)
    have hv := vi_at hr (i := k) (by omega)
    have hb := bv_rng hm hv.1 (hx.2 k (by omega))
    rw [notL_next]
    refine apt_snoc ih (litOk_iff.2 (by omega)) fun a ha e => ?_
    unfold notL at ha
    obtain ⟨i, hi, rfl⟩ := List.mem_map.1 ha
    rw [List.mem_range] at hi
    have hw := vi_at hr (i := i) (by omega)
    have hb2 := bv_rng hm hw.1 (hx.2 i (by omega))
    unfold varOf at e
    exact vi_ne hr (i := k) (j := i) (by omega) hi (bv_inj hm hw.1 hv.1 (hx.2 i (by omega)) (hx.2 k (by omega)) (by omega)).1
theorem en_next {sz c : List Int} (hc : cvL sz c = true) : enA sz c = c :: (if (nxt sz c c.length).2 then enA sz (nxt sz c c.length).1 else []) ∧ cvL sz (nxt sz c c.length).1 = true ∧
    ((nxt sz c c.length).2 = true → prS sz - vlS sz (nxt sz c c.length).1 < prS sz - vlS sz c) := by
  obtain ⟨h1, h2⟩ := cv_at hc
  obtain ⟨⟨a1, a2⟩, a3, a4, a5⟩ := nxt_val h1 h2
  refine ⟨?_, cv_next hc, fun h => by rw [a4 h]; omega⟩
  unfold enA
  rw [show prS sz - vlS sz c = (prS sz - vlS sz c - 1) + 1 by omega, enN]
  cases hb : (nxt sz c c.length).2 with
  | true => rw [if_pos rfl, if_pos rfl, a4 hb]; congr 1
  | false => rfl
theorem en_all {sz : List Int} : ∀ {n : Nat} {c : List Int}, cvL sz c = true → n = prS sz - vlS sz c → (enA sz c).length ≤ n ∧ (∀ x ∈ enA sz c, cvL sz x = true) ∧ ∀ x, cvL sz x = true → vlS sz c ≤ vlS sz x → x ∈ enA sz c
  | 0, c, hc, hn => by have := vl_lt hc; omega
  | n + 1, c, hc, hn => by
    obtain ⟨h1, h2⟩ := cv_at hc
    obtain ⟨_, a3, a4, a5⟩ := nxt_val h1 h2
    obtain ⟨e1, e2, e3⟩ := en_next hc
    rw [e1]
    cases hb : (nxt sz c c.length).2 with
    | true =>
      obtain ⟨b1, b2, b3⟩ := en_all (n := n) e2 (by rw [a4 hb]; omega)
      refine ⟨by simp; omega, fun x hx => ?_, fun x hx hv => ?_⟩
      · rw [if_pos rfl] at hx
        rcases List.mem_cons.1 hx with q | q
        · rw [q]; exact hc
        · exact b2 x q
      · rw [if_pos rfl]
        by_cases q : vlS sz c = vlS sz x
        · rw [vl_inj hc hx q]; exact List.mem_cons_self
        · exact List.mem_cons_of_mem _ (b3 x hx (by rw [a4 hb]; omega))
    | false =>
      refine ⟨by simp, fun x hx => ?_, fun x hx hv => ?_⟩
      · rw [if_neg (by decide)] at hx
        rw [List.mem_singleton.1 hx]; exact hc
      · rw [if_neg (by decide)]
        have := vl_lt hx
        have := (a5 hb).1
        rw [vl_inj hc hx (by omega)]; exact List.mem_cons_self
theorem szR_cv {m : Md} (hm : mOk m = true) {r : Rl} (hr : rOk m.1.length r = true) : cvL (szR m.1 r) (List.replicate (szR m.1 r).length 0) = true :=
  cv_zero fun k hk => by
    rw [qj1] at hk
    rw [szR_at hk]; exact ((qzx hm).2 _ (vi_at hr hk).1).1
end Go.Ab
namespace Go.Ab
theorem getD_takeL {α : Type} {d : α} {l : List α} {k n : Nat} (h : k < n) : (l.take n).getD k d = l.getD k d := by
  rw [List.getD_eq_getElem?_getD, List.getElem?_take, if_pos h, List.getD_eq_getElem?_getD]
theorem srt_var {L M : List Int} (hp : M.Perm L) (h : ∀ v ∈ L, 1 ≤ v ∧ v ≤ 12) {j : Nat} : j < M.length → varOf (M.getD j default) = M.getD j default := fun hj =>
  (lit_pos (h _ (hp.mem_iff.1 (qzo hj)))).2
end Go.Ab
namespace Go.Ab
theorem prS_le : ∀ {s : List Int}, (∀ k, k < s.length → s.getD k default ≤ 3) → prS s ≤ 4 ^ s.length
  | [], _ => by simp [prS]
  | a :: s, h => by
    have h0 := h 0 (by simp)
    have ih := prS_le (s := s) (fun k hk => by have := h (k + 1) (by simp; omega); simpa using this)
    have h1 : (a + 1).toNat ≤ 4 := by simp at h0; omega
    show (a + 1).toNat * prS s ≤ 4 ^ (s.length + 1)
    rw [Nat.pow_succ, Nat.mul_comm]
    exact Nat.mul_le_mul ih h1
theorem szR_pr {m : Md} (hm : mOk m = true) {r : Rl} (hr : rOk m.1.length r = true) : prS (szR m.1 r) ≤ 1024 := by
  have h1 := prS_le (s := szR m.1 r) (fun k hk => by rw [qj1] at hk; rw [szR_at hk]; exact ((qzx hm).2 _ (vi_at hr hk).1).2)
  rw [qj1] at h1
  have h2 := Nat.pow_le_pow_right (n := 4) (by decide) (rl_len hr hm)
  have h3 : (4 : Nat) ^ 5 = 1024 := by decide
  omega
theorem tab1_len {s : List Int} {r : Rl} {x : List Int} : (tab1 s r x).length ≤ 1 := by unfold tab1; split <;> simp
def tabI (s : List Int) (r : Rl) (c : List Int) (o : List Con) : Prop := cvL (szR s r) c = true ∧ o.length ≤ vlS (szR s r) c ∧ o ++ (enA (szR s r) c).flatMap (tab1 s r) = tabL s r
theorem tab_start {m : Md} (hm : mOk m = true) {r : Rl} (hr : rOk m.1.length r = true) : tabI m.1 r (List.replicate (szR m.1 r).length 0) [] := ⟨szR_cv hm hr, Nat.zero_le _, rfl⟩
theorem tab_next {s : List Int} {r : Rl} {c : List Int} {o : List Con} (h : tabI s r c o) :
    cvL (szR s r) (nxt (szR s r) c c.length).1 = true ∧ (if (nxt (szR s r) c c.length).2 = true then tabI s r (nxt (szR s r) c c.length).1 (o ++ tab1 s r c) else o ++ tab1 s r c = tabL s r) ∧
    ((nxt (szR s r) c c.length).2 = true → prS (szR s r) - vlS (szR s r) (nxt (szR s r) c c.length).1 < prS (szR s r) - vlS (szR s r) c) := by
  obtain ⟨h1, h2, h3⟩ := h
  obtain ⟨e1, e2, e3⟩ := en_next h1
  refine ⟨e2, ?_, e3⟩
  rw [e1, List.flatMap_cons] at h3
  obtain ⟨a1, a2⟩ := cv_at h1
  obtain ⟨_, _, a4, _⟩ := nxt_val a1 a2
  have hl := tab1_len (s := s) (r := r) (x := c)
  cases hb : (nxt (szR s r) c c.length).2 with
  | true =>
    rw [hb, if_pos rfl] at h3
    rw [if_pos rfl]
    exact ⟨e2, by rw [a4 hb, List.length_append]; omega, by rw [List.append_assoc]; exact h3⟩
  | false =>
    rw [hb, if_neg (by decide)] at h3
    rw [if_neg (by decide)]
    simpa using h3
theorem tab_len {m : Md} (hm : mOk m = true) {r : Rl} (hr : rOk m.1.length r = true) {c : List Int} {o : List Con} (h : tabI m.1 r c o) : o.length ≤ 1024 := by
  have := vl_lt h.1
  have := szR_pr hm hr
  have := h.2.1
  omega
theorem tab1_y {s : List Int} {r : Rl} {x : List Int} (h : holdB r x = true) : tab1 s r x = [] := by unfold tab1; rw [if_pos h]
theorem tab1_n {s : List Int} {r : Rl} {x : List Int} (h : holdB r x = false) : tab1 s r x = [clsC (notL s r x r.2.1.length)] := by unfold tab1; rw [if_neg (by rw [h]; decide)]
theorem tup_3 {m : Md} (hm : mOk m = true) {r : Rl} (hr : rOk m.1.length r = true) {x : List Int} (h : tupI m.1 r x) : x.length = r.2.1.length ∧ ∀ k, k < x.length → 0 ≤ x.getD k default ∧ x.getD k default ≤ 3 :=
  ⟨h.1, fun k hk => by
    have h1 := h.2 k (by rw [← h.1]; exact hk)
    have h2 := (qzx hm).2 _ (vi_at hr (i := k) (by rw [← h.1]; exact hk)).1
    omega⟩
theorem lin_fit {m : Md} (hm : mOk m = true) {r : Rl} (hr : rOk m.1.length r = true) (h1 : r.1 = 1) : ∀ {n : Nat}, n ≤ r.2.1.length → (linT m.1 r n).length ≤ 4 * n ∧ ∀ t ∈ linT m.1 r n, (1 ≤ t.2 ∧ t.2 ≤ 12) ∧ -27 ≤ t.1 ∧ t.1 ≤ 27
  | 0, _ => by simp [linT]
  | n + 1, hn => by
    obtain ⟨ih1, ih2⟩ := lin_fit hm hr h1 (n := n) (by omega)
    have hv := vi_at hr (i := n) (by omega)
    have hz := szN_eq hm hv.1
    have hs := (qzx hm).2 _ hv.1
    have hl := rOk_lin hr h1
    have hc := hl.2.2 n (by omega)
    rw [linT_next]
    refine ⟨by rw [List.length_append, qj0]; omega, fun t ht => ?_⟩
    rcases List.mem_append.1 ht with q | q
    · exact ih2 t q
    · unfold linI at q
      obtain ⟨x, hx, rfl⟩ := List.mem_map.1 q
      rw [List.mem_range] at hx
      refine ⟨bv_rng hm hv.1 (by omega), ?_⟩
      have := mulR39 hc (show (0 : Int) ≤ (x : Int) ∧ (x : Int) ≤ 3 by omega)
      dsimp only; omega
end Go.Ab
namespace Go.Ab
theorem sz_le3 {m : Md} (hm : mOk m = true) {r : Rl} (hr : rOk m.1.length r = true) {i : Nat} (hi : i < (szR m.1 r).length) : (szR m.1 r).getD i default ≤ 3 := by
  rw [qj1] at hi
  rw [szR_at hi]; exact ((qzx hm).2 _ (vi_at hr hi).1).2
end Go.Ab
namespace Go.Ab
theorem dif1_len {s : List Int} {r : Rl} {x : Nat} : (dif1 s r x).length ≤ 1 := by unfold dif1; split <;> simp
theorem difL_len {s : List Int} {r : Rl} : ∀ {n : Nat}, (difL s r n).length ≤ n
  | 0 => by simp [difL]
  | n + 1 => by
    have ih := difL_len (s := s) (r := r) (n := n)
    have h := dif1_len (s := s) (r := r) (x := n)
    unfold difL at ih ⊢
    rw [fm_snoc, List.length_append]; omega
theorem lin_fitT {m : Md} (hm : mOk m = true) {r : Rl} (hr : rOk m.1.length r = true) (h1 : r.1 = 1) : fitT (linT m.1 r r.2.1.length) := by
  have h := lin_fit hm hr h1 (n := r.2.1.length) (Nat.le_refl _)
  have h5 := rl_len hr hm
  exact ⟨by omega, fun t ht => by have q := h.2 t ht; exact ⟨(lit_pos q.1).1, by omega, by omega⟩⟩
end Go.Ab
namespace Go.Ab
theorem boxV_pos {m : Md} (h : mOk m = true) {c : Nat} (hc : c < m.1.length) : ∀ v ∈ boxV m.1 c, 1 ≤ v ∧ v ≤ 12 := fun l hl => by
  obtain ⟨x, hx, rfl⟩ := boxV_mem h hc hl
  exact bv_rng h hc hx
theorem encB_len {s : List Int} : ∀ {n : Nat}, (encB s n).length = 2 * n
  | 0 => by simp [encB]
  | n + 1 => by rw [encB_next, List.length_append, encB_len]; simp; omega
theorem tabL_len {m : Md} (hm : mOk m = true) {r : Rl} (hr : rOk m.1.length r = true) : (tabL m.1 r).length ≤ prS (szR m.1 r) := by
  have h := (en_all (szR_cv hm hr) rfl).1
  rw [vl_zero] at h
  have : ∀ l : List (List Int), (l.flatMap (tab1 m.1 r)).length ≤ l.length := by
    intro l
    induction l with
    | nil => simp
    | cons a l ih => rw [List.flatMap_cons, List.length_append]; have := tab1_len (s := m.1) (r := r) (x := a); simp only [List.length_cons]; omega
  have h2 := this (enA (szR m.1 r) (List.replicate (szR m.1 r).length 0))
  unfold tabL; omega
theorem encR_len {m : Md} (hm : mOk m = true) {r : Rl} (hr : rOk m.1.length r = true) : (encR m.1 r).length ≤ 1024 := by
  unfold encR
  split
  · simp
  · split
    · have := difL_len (s := m.1) (r := r) (n := 4); omega
    · have := tabL_len hm hr; have := szR_pr hm hr; omega
theorem mOk_rl {m : Md} (h : mOk m = true) : m.2.length ≤ 8 := by
  unfold mOk at h
  simp only [Bool.and_eq_true, decide_eq_true_eq] at h
  exact h.2.1
theorem encM_0 {m : Md} {k : Nat} (h : m.1.length ≤ k ∧ k ≤ m.1.length) : encM m 0 = encB m.1 k := by
  obtain rfl : k = m.1.length := by omega
  simp [encM]
theorem encM_len {m : Md} (hm : mOk m = true) : ∀ {k : Nat}, k ≤ m.2.length → (encM m k).length ≤ 10 + 1024 * k
  | 0, _ => by
    have := (qzx hm).1
    rw [encM_0 ⟨Nat.le_refl _, Nat.le_refl _⟩, encB_len]; omega
  | k + 1, hk => by
    have ih := encM_len hm (k := k) (by omega)
    have h := encR_len hm (mOk_rule hm (k := k) (by omega))
    rw [encM_next (by omega), List.length_append]; omega
theorem emo_no {m : Md} (h : mOk m = false ∨ 400 < (encM m m.2.length).length) : emOk m = false := by
  unfold emOk
  rcases h with h | h
  · rw [h]; rfl
  · rw [decide_eq_false (by omega), Bool.and_false]
theorem emo_yes {m : Md} (h : mOk m = true) (h2 : (encM m m.2.length).length ≤ 400) : emOk m = true := by unfold emOk; rw [h, decide_eq_true h2]; rfl
theorem emo_bad {m : Md} (h : mOk m = false ∨ 400 < (encM m m.2.length).length) : emL m = [] := by unfold emL; rw [emo_no h]; rfl
theorem emo_good {m : Md} (h : mOk m = true) (h2 : (encM m m.2.length).length ≤ 400) : emL m = encM m m.2.length := by unfold emL; rw [if_pos (emo_yes h h2)]
end Go.Ab
/- A problem told by a model has the model's solutions. -/
set_option linter.unusedSimpArgs false
set_option linter.unusedVariables false
namespace Go.Ab
theorem bv_apt {m : Md} (hm : mOk m = true) {c : Nat} (hc : c < m.1.length) {x : Int} (hx : 0 ≤ x ∧ x ≤ m.1.getD c default) : apt [-(bvI m.1 c x)] := by
  have h := bv_rng hm hc hx
  exact ⟨fun y hy => by rw [List.mem_singleton.1 hy]; exact litOk_iff.2 (by omega), List.pairwise_singleton _ _⟩
theorem cls_ok {L : List Int} (h : apt L) : cOk (clsC L) = true := by
  unfold cOk clsC
  rw [show okFrom 0 ((srtS L).map oneL) = true from apt_asc h]; rfl
theorem sumV_cat {a b : List Term} {bs : List Bool} : sumV (a ++ b) bs = sumV a bs + sumV b bs := by
  induction a with
  | nil => simp [sumV]
  | cons t a ih => rw [List.cons_append, sumV_cons, sumV_cons, ih]; omega
theorem sum_one {bs : List Bool} : ∀ {L : List Int}, 1 ≤ sumV (L.map oneL) bs → ∃ l ∈ L, litV bs l = true
  | [], h => by simp [sumV] at h
  | a :: L, h => by
    rw [List.map_cons, sumV_cons] at h
    by_cases q : litV bs a = true
    · exact ⟨a, List.mem_cons_self, q⟩
    · have : term bs (oneL a) = 0 := if_neg q
      obtain ⟨l, h1, h2⟩ := sum_one (bs := bs) (L := L) (by omega)
      exact ⟨l, List.mem_cons_of_mem _ h1, h2⟩
theorem cls_true {L : List Int} {bs : List Bool} (h : holdsV (clsC L) bs = true) : ∃ l ∈ L, litV bs l = true := by
  unfold holdsV clsC at h
  obtain ⟨l, h1, h2⟩ := sum_one (of_decide_eq_true h)
  exact ⟨l, srtS_perm.mem_iff.1 h1, h2⟩
theorem amo_sum {bs : List Bool} : ∀ {vs : List Int}, (∀ v ∈ vs, v ≠ 0) → sumV (vs.map (fun v => ((1 : Int), -v))) bs + (((vs.filter (litV bs)).length : Nat) : Int) = (vs.length : Int)
  | [], _ => by simp [sumV]
  | a :: vs, h => by
    have ih := amo_sum (bs := bs) (vs := vs) (fun v hv => h v (List.mem_cons_of_mem _ hv))
    have ha := litV_opp (bs := bs) (m := a) (h a List.mem_cons_self)
    rw [List.map_cons, sumV_cons, List.filter_cons]
    have ht : term bs ((1 : Int), -a) = if litV bs a then 0 else 1 := by
      show (if litV bs (-a) then (1 : Int) else 0) = _
      rw [ha]; cases litV bs a <;> rfl
    rw [ht]
    cases litV bs a with
    | true => simp only [if_true, List.length_cons]; omega
    | false => simp only [Bool.false_eq_true, if_false, List.length_cons]; omega
theorem amo_one {vs : List Int} {bs : List Bool} (h0 : ∀ v ∈ vs, v ≠ 0) (h : holdsV (amoC vs) bs = true) {a b : Int} (ha : a ∈ vs) (hb : b ∈ vs) (la : litV bs a = true) (lb : litV bs b = true) : a = b := by
  unfold holdsV amoC at h
  have h1 := of_decide_eq_true h
  have h2 := amo_sum (bs := bs) h0
  dsimp only at h1
  have h3 : (vs.filter (litV bs)).length ≤ 1 := by omega
  have ma : a ∈ vs.filter (litV bs) := List.mem_filter.2 ⟨ha, la⟩
  have mb : b ∈ vs.filter (litV bs) := List.mem_filter.2 ⟨hb, lb⟩
  generalize vs.filter (litV bs) = q at h3 ma mb
  match q, h3 with
  | [], _ => cases ma
  | [x], _ => rw [List.mem_singleton.1 ma, List.mem_singleton.1 mb]
  | x :: y :: r, h3 => simp at h3
def sgS (bs : List Bool) (f : Int → Int) : Nat → Int
  | 0 => 0
  | n + 1 => sgS bs f n + (if litV bs (n : Int) then f n else 0)
theorem nrm_sum {bs : List Bool} {f : Int → Int} {b : Int} (h0 : f 0 = 0) : ∀ {n : Nat}, sumV (nrmT f n) bs + b = sgS bs f n + nrmB f b n
  | 0 => by simp [nrmT, nrmB, sgS, sumV]
  | n + 1 => by
    have ih := nrm_sum (bs := bs) (b := b) h0 (n := n)
    have he : sumV [] bs = 0 := rfl
    rw [nrmT, sumV_cat, sgS, nrmB, nrm1]
    by_cases h1 : 0 < f n
    · rw [if_pos h1, sumV_cons, he]
      have : term bs (f n, (n : Int)) = if litV bs (n : Int) then f n else 0 := rfl
      rw [this]; omega
    · by_cases h2 : f n < 0
      · have hn : (n : Int) ≠ 0 := fun e => by rw [e, h0] at h2; omega
        rw [if_neg h1, if_pos h2, sumV_cons, he]
        have : term bs (-f n, -(n : Int)) = if litV bs (n : Int) then 0 else -f n := by
          show (if litV bs (-(n : Int)) then -f n else 0) = _
          rw [litV_opp hn]; cases litV bs (n : Int) <;> rfl
        rw [this]
        cases litV bs (n : Int) with
        | true => simp only [if_true]; omega
        | false => simp only [Bool.false_eq_true, if_false]; omega
      · rw [if_neg h1, if_neg h2, he]
        have h3 : f n = 0 := by omega
        rw [h3]; simp; omega
theorem fold_add {α : Type} {g : α → Int} : ∀ {l : List α} {a : Int}, l.foldl (fun s t => s + g t) a = a + l.foldl (fun s t => s + g t) 0
  | [], a => by simp
  | t :: l, a => by
    rw [List.foldl_cons, List.foldl_cons, fold_add (l := l) (a := a + g t), fold_add (l := l) (a := 0 + g t)]; omega
theorem netV_cons {t : Term} {ts : List Term} {v : Int} : netV (t :: ts) v = netA v t + netV ts v := by
  unfold netV
  rw [List.foldl_cons, fold_add]; omega
theorem sgS_add {bs : List Bool} {f g : Int → Int} : ∀ {n : Nat}, sgS bs (fun v => f v + g v) n = sgS bs f n + sgS bs g n
  | 0 => rfl
  | n + 1 => by
    rw [sgS, sgS, sgS, sgS_add]
    cases litV bs (n : Int) <;> simp <;> omega
theorem sg_one {bs : List Bool} {t : Term} (h : 1 ≤ t.2) : ∀ {n : Nat}, sgS bs (fun v => netA v t) n = if t.2 < n then term bs t else 0
  | 0 => by rw [if_neg (by omega)]; rfl
  | n + 1 => by
    have hA : netA (n : Int) t = if t.2 = (n : Int) then t.1 else 0 := by
      unfold netA
      by_cases e : t.2 = (n : Int)
      · rw [if_pos e, if_pos e]
      · rw [if_neg e, if_neg e, if_neg (by omega)]
    have ih := sg_one (bs := bs) h (n := n)
    show sgS bs (fun v => netA v t) n + (if litV bs (n : Int) then netA (n : Int) t else 0) = _
    rw [ih, hA]
    by_cases e : t.2 = (n : Int)
    · have h1 : ¬ t.2 < (n : Int) := by omega
      have h2 : t.2 < ((n + 1 : Nat) : Int) := by omega
      simp only [if_pos e, if_neg h1, if_pos h2]
      unfold term; rw [e]; omega
    · by_cases q : t.2 < (n : Int)
      · have h2 : t.2 < ((n + 1 : Nat) : Int) := by omega
        simp only [if_neg e, if_pos q, if_pos h2, ite_self]; omega
      · have h2 : ¬ t.2 < ((n + 1 : Nat) : Int) := by omega
        simp only [if_neg e, if_neg q, if_neg h2, ite_self]; omega
theorem net_sum {bs : List Bool} : ∀ {ts : List Term}, (∀ t ∈ ts, 1 ≤ t.2 ∧ t.2 ≤ 12) → sgS bs (netV ts) 13 = sumV ts bs
  | [], _ => by
    have : ∀ n, sgS bs (netV []) n = 0 := fun n => by
      induction n with
      | zero => rfl
      | succ n ih => rw [sgS, ih]; simp [netV]
    exact this 13
  | t :: ts, h => by
    have ht := h t List.mem_cons_self
    rw [show netV (t :: ts) = fun v => netA v t + netV ts v from funext fun v => netV_cons, sgS_add, sg_one ht.1, if_pos (by omega), net_sum (fun x hx => h x (List.mem_cons_of_mem _ hx)), sumV_cons]
theorem netB_pos {b : Int} : ∀ {ts : List Term}, (∀ t ∈ ts, 1 ≤ t.2) → netB ts b = b
  | [], _ => rfl
  | t :: ts, h => by
    have h1 := h t List.mem_cons_self
    have ih := netB_pos (b := b) (ts := ts) (fun x hx => h x (List.mem_cons_of_mem _ hx))
    unfold netB at ih ⊢
    rw [List.foldl_cons, if_neg (by omega)]; exact ih
theorem netV_z {ts : List Term} (h : ∀ t ∈ ts, 1 ≤ t.2) : netV ts 0 = 0 := by
  induction ts with
  | nil => rfl
  | cons t ts ih =>
    have h1 := h t List.mem_cons_self
    rw [netV_cons, ih (fun x hx => h x (List.mem_cons_of_mem _ hx)), netA, if_neg (by omega), if_neg (by omega)]; rfl
theorem nrm_true {ts : List Term} {b : Int} {bs : List Bool} (h : ∀ t ∈ ts, 1 ≤ t.2 ∧ t.2 ≤ 12) (hh : holdsV (nrmC ts b) bs = true) : b ≤ sumV ts bs := by
  unfold holdsV nrmC at hh
  have h1 := of_decide_eq_true hh
  have h2 := nrm_sum (bs := bs) (f := netV ts) (b := netB ts b) (netV_z fun t ht => (h t ht).1) (n := 13)
  rw [net_sum h] at h2
  rw [netB_pos fun t ht => (h t ht).1] at h1 h2
  dsimp only at h1
  omega
theorem netV_bd {ts : List Term} (h : ∀ t ∈ ts, -27 ≤ t.1 ∧ t.1 ≤ 27) {v : Int} : -27 * (ts.length : Int) ≤ netV ts v ∧ netV ts v ≤ 27 * (ts.length : Int) := by
  induction ts with
  | nil => simp [netV]
  | cons t ts ih =>
    have ih := ih (fun x hx => h x (List.mem_cons_of_mem _ hx))
    have h1 := h t List.mem_cons_self
    have h2 : -27 ≤ netA v t ∧ netA v t ≤ 27 := by
      unfold netA; split
      · exact h1
      · split <;> omega
    rw [netV_cons, List.length_cons]; omega
theorem ok_of : ∀ {ts : List Term} {p : Int}, (∀ t ∈ ts, litOk t.2 = true ∧ p < varOf t.2 ∧ 1 ≤ t.1 ∧ t.1 ≤ 1000) → ts.Pairwise (fun a b => varOf a.2 < varOf b.2) → okFrom p ts = true
  | [], _, _, _ => rfl
  | t :: ts, p, h, hp => by
    have h1 := h t List.mem_cons_self
    rw [List.pairwise_cons] at hp
    rw [okFrom_good h1.1 h1.2.1 h1.2.2.1 h1.2.2.2]
    exact ok_of (fun x hx => by have q := h x (List.mem_cons_of_mem _ hx); exact ⟨q.1, hp.1 x hx, q.2.2⟩) hp.2
theorem nrm1_all {f : Int → Int} (hf : ∀ v, -1000 ≤ f v ∧ f v ≤ 1000) {n : Nat} (h : n ≤ 12) (h0 : f 0 = 0) : ∀ t ∈ nrm1 f (n : Int), litOk t.2 = true ∧ varOf t.2 = n ∧ 0 < n ∧ 1 ≤ t.1 ∧ t.1 ≤ 1000 := by
  intro t ht
  have hn := hf n
  have h3 : n = 0 → f n = 0 := fun e => by rw [e]; exact h0
  unfold nrm1 at ht
  by_cases h1 : 0 < f n
  · rw [if_pos h1] at ht
    rw [List.mem_singleton.1 ht]
    have : n ≠ 0 := fun e => by have := h3 e; omega
    refine ⟨litOk_iff.2 (by dsimp only; omega), by unfold varOf; dsimp only; omega, by omega, by dsimp only; omega, by dsimp only; omega⟩
  · rw [if_neg h1] at ht
    by_cases h2 : f n < 0
    · rw [if_pos h2] at ht
      rw [List.mem_singleton.1 ht]
      have : n ≠ 0 := fun e => by have := h3 e; omega
      refine ⟨litOk_iff.2 (by dsimp only; omega), by unfold varOf; dsimp only; omega, by omega, by dsimp only; omega, by dsimp only; omega⟩
    · rw [if_neg h2] at ht; cases ht
theorem nrmT_all {f : Int → Int} (hf : ∀ v, -1000 ≤ f v ∧ f v ≤ 1000) (h0 : f 0 = 0) : ∀ {n : Nat}, n ≤ 13 → (∀ t ∈ nrmT f n, litOk t.2 = true ∧ 0 < varOf t.2 ∧ varOf t.2 < n ∧ 1 ≤ t.1 ∧ t.1 ≤ 1000) ∧ (nrmT f n).Pairwise (fun a b => varOf a.2 < varOf b.2)
  | 0, _ => ⟨(fun t ht => nomatch ht), List.Pairwise.nil⟩
  | n + 1, hn => by
    obtain ⟨i1, i2⟩ := nrmT_all hf h0 (n := n) (by omega)
    have hq := nrm1_all hf (n := n) (by omega) h0
    rw [nrmT]
    refine ⟨fun t ht => ?_, ?_⟩
    · rcases List.mem_append.1 ht with q | q
      · have := i1 t q; exact ⟨this.1, this.2.1, by omega, this.2.2.2⟩
      · have := hq t q; exact ⟨this.1, by omega, by omega, this.2.2.2⟩
    · rw [List.pairwise_append]
      refine ⟨i2, ?_, fun a ha b hb => by have := i1 a ha; have := hq b hb; omega⟩
      unfold nrm1
      split
      · exact List.pairwise_singleton _ _
      · split
        · exact List.pairwise_singleton _ _
        · exact List.Pairwise.nil
theorem nrmC_ok {ts : List Term} {b : Int} (hb : -1000 ≤ b ∧ b ≤ 1000) (hl : ts.length ≤ 20) (h : ∀ t ∈ ts, (1 ≤ t.2 ∧ t.2 ≤ 12) ∧ -27 ≤ t.1 ∧ t.1 ≤ 27) : cOk (nrmC ts b) = true := by
  have hf : ∀ v, -540 ≤ netV ts v ∧ netV ts v ≤ 540 := fun v => by
    have := netV_bd (ts := ts) (fun t ht => (h t ht).2) (v := v); omega
  have hz := netV_z (ts := ts) (fun t ht => (h t ht).1.1)
  have h1 := nrmT_all (f := netV ts) (fun v => by have := hf v; omega) hz (n := 13) (Nat.le_refl _)
  have h2 := nrmB_rng (f := netV ts) (b := netB ts b) hf (n := 13)
  rw [netB_pos (fun t ht => (h t ht).1.1)] at h2
  unfold cOk nrmC
  rw [netB_pos (fun t ht => (h t ht).1.1), ok_of (fun t ht => by have := h1.1 t ht; exact ⟨this.1, this.2.1, this.2.2.2⟩) h1.2, Bool.true_and]
  exact decide_eq_true (by dsimp only; omega)
end Go.Ab
/- Decoding a solution of a model's problem. -/
set_option linter.unusedSimpArgs false
set_option linter.unusedVariables false
namespace Go.Ab
def decN (s : List Int) (bs : List Bool) (c : Nat) : Nat := ((List.range (szN s c)).find? (fun x => litV bs (bvI s c ((x : Nat) : Int)))).getD 0
def decC (s : List Int) (bs : List Bool) : List Int := (List.range s.length).map (fun c => ((decN s bs c : Nat) : Int))
theorem decC_len {s : List Int} {bs : List Bool} : (decC s bs).length = s.length := by simp [decC]
theorem decC_at {s : List Int} {bs : List Bool} {c : Nat} (hc : c < s.length) : (decC s bs).getD c default = ((decN s bs c : Nat) : Int) := by
  unfold decC
  rw [List.getD_eq_getElem?_getD, List.getElem?_map, List.getElem?_range hc]; rfl
theorem sat_mem {l : List Con} {bs : List Bool} (h : satV l bs = true) {c : Con} (hc : c ∈ l) : holdsV c bs = true := List.all_eq_true.1 h c hc
theorem encB_mem {s : List Int} {n c : Nat} (hc : c < n) : clsC (boxV s c) ∈ encB s n ∧ amoC (boxV s c) ∈ encB s n :=
  ⟨List.mem_flatMap.2 ⟨c, List.mem_range.2 hc, by simp⟩, List.mem_flatMap.2 ⟨c, List.mem_range.2 hc, by simp⟩⟩
theorem encM_box {m : Md} {k c : Nat} (hc : c < m.1.length) : clsC (boxV m.1 c) ∈ encM m k ∧ amoC (boxV m.1 c) ∈ encM m k :=
  ⟨List.mem_append_left _ (encB_mem hc).1, List.mem_append_left _ (encB_mem hc).2⟩
theorem encM_rule {m : Md} {r : Rl} (hr : r ∈ m.2) {c : Con} (hc : c ∈ encR m.1 r) : c ∈ encM m m.2.length := by
  refine List.mem_append_right _ ?_
  rw [List.take_length]
  exact List.mem_flatMap.2 ⟨r, hr, hc⟩
theorem dec_spec {m : Md} (hm : mOk m = true) {bs : List Bool} (h : satV (encM m m.2.length) bs = true) {c : Nat} (hc : c < m.1.length) :
    (decN m.1 bs c : Int) ≤ m.1.getD c default ∧ litV bs (bvI m.1 c ((decN m.1 bs c : Nat) : Int)) = true ∧ ∀ y : Nat, (y : Int) ≤ m.1.getD c default → litV bs (bvI m.1 c ((y : Nat) : Int)) = true → y = decN m.1 bs c := by
  have hz := szN_eq hm hc
  obtain ⟨l, hl, hv⟩ := cls_true (sat_mem h (encM_box (k := m.2.length) hc).1)
  have hone := fun {a b : Int} => amo_one (a := a) (b := b) (fun v hv => by have := boxV_pos hm hc v hv; omega) (sat_mem h (encM_box (k := m.2.length) hc).2)
  have hin : ∀ y : Nat, (y : Int) ≤ m.1.getD c default → bvI m.1 c ((y : Nat) : Int) ∈ boxV m.1 c := fun y hy => List.mem_map.2 ⟨y, List.mem_range.2 (by omega), rfl⟩
  have hsome : ∃ x, (List.range (szN m.1 c)).find? (fun x => litV bs (bvI m.1 c ((x : Nat) : Int))) = some x := by
    cases hf : (List.range (szN m.1 c)).find? (fun x => litV bs (bvI m.1 c ((x : Nat) : Int))) with
    | some x => exact ⟨x, rfl⟩
    | none =>
      exfalso
      obtain ⟨x, hx, rfl⟩ := List.mem_map.1 hl
      have := List.find?_eq_none.1 hf x hx
      exact this hv
  obtain ⟨x, hx⟩ := hsome
  have hd : decN m.1 bs c = x := by unfold decN; rw [hx]; rfl
  have h1 := List.find?_some hx
  have h2 := List.mem_range.1 (List.mem_of_find?_eq_some hx)
  rw [hd]
  refine ⟨by omega, h1, fun y hy hl2 => ?_⟩
  have := hone (hin y hy) (hin x (by omega)) hl2 h1
  unfold bvI at this
  omega
theorem dec_cv {m : Md} (hm : mOk m = true) {bs : List Bool} (h : satV (encM m m.2.length) bs = true) : cvL m.1 (decC m.1 bs) = true := by
  refine cv_yes decC_len (List.all_eq_true.2 fun i hi => decide_eq_true ?_)
  rw [List.mem_range, decC_len] at hi
  rw [decC_at hi]
  exact ⟨by omega, (dec_spec hm h hi).1⟩
theorem vals_dec {m : Md} {r : Rl} (hr : rOk m.1.length r = true) {bs : List Bool} {i : Nat} (hi : i < r.2.1.length) : (valsC r.2.1 (decC m.1 bs)).getD i default = ((decN m.1 bs (viN r i) : Nat) : Int) := by
  rw [vals_at hi]
  exact decC_at (vi_at hr hi).1
theorem lin1_sum {m : Md} (hm : mOk m = true) {bs : List Bool} (h : satV (encM m m.2.length) bs = true) {r : Rl} (hr : rOk m.1.length r = true) {i : Nat} (hi : i < r.2.1.length) : ∀ {j : Nat}, j ≤ szN m.1 (viN r i) →
    sumV (linI m.1 r i j) bs = if decN m.1 bs (viN r i) < j then r.2.2.1.getD i default * ((decN m.1 bs (viN r i) : Nat) : Int) else 0
  | 0, _ => by rw [if_neg (by omega)]; rfl
  | j + 1, hj => by
    have hv := vi_at hr hi
    have hz := szN_eq hm hv.1
    have hd := dec_spec hm h hv.1
    rw [linI_next, sumV_cat, lin1_sum hm h hr hi (j := j) (by omega), sumV_cons, show sumV [] bs = 0 from rfl]
    have ht : term bs (r.2.2.1.getD i default * ((j : Nat) : Int), bvI m.1 (viN r i) j) = if litV bs (bvI m.1 (viN r i) ((j : Nat) : Int)) then r.2.2.1.getD i default * ((j : Nat) : Int) else 0 := rfl
    rw [ht]
    by_cases e : j = decN m.1 bs (viN r i)
    · subst e
      rw [if_neg (by omega), if_pos hd.2.1, if_pos (by omega)]; omega
    · have hn : ¬ litV bs (bvI m.1 (viN r i) ((j : Nat) : Int)) = true := fun q => e (hd.2.2 j (by omega) q)
      rw [if_neg hn]
      by_cases q : decN m.1 bs (viN r i) < j
      · rw [if_pos q, if_pos (by omega)]; omega
      · rw [if_neg q, if_neg (by omega)]; rfl
theorem lin_sum {m : Md} (hm : mOk m = true) {bs : List Bool} (h : satV (encM m m.2.length) bs = true) {r : Rl} (hr : rOk m.1.length r = true) : ∀ {n : Nat}, n ≤ r.2.1.length → sumV (linT m.1 r n) bs = dotC r.2.2.1 (valsC r.2.1 (decC m.1 bs)) n
  | 0, _ => rfl
  | n + 1, hn => by
    have hv := vi_at hr (i := n) (by omega)
    have hz := szN_eq hm hv.1
    have hd := dec_spec hm h hv.1
    rw [linT_next, sumV_cat, lin_sum hm h hr (n := n) (by omega), lin1_sum hm h hr (by omega) (Nat.le_refl _), if_pos (by omega), dot_next, vals_dec hr (by omega)]
theorem mem_nth {α : Type} [Inhabited α] {l : List α} {a : α} (h : a ∈ l) : ∃ i, i < l.length ∧ l.getD i default = a := by
  obtain ⟨i, hi, rfl⟩ := List.getElem_of_mem h
  exact ⟨i, hi, by rw [List.getD_eq_getElem?_getD, List.getElem?_eq_getElem hi]; rfl⟩
theorem difV_at {s : List Int} {r : Rl} {x k i : Nat} (hi : i < k) (h : (x : Int) ≤ s.getD (viN r i) default) : bvI s (viN r i) x ∈ difV s r x k := by
  unfold difV
  exact List.mem_flatMap.2 ⟨i, List.mem_range.2 hi, by rw [if_pos h]; simp⟩
theorem two_len {α : Type} {l : List α} {a b : α} (ha : a ∈ l) (hb : b ∈ l) (h : a ≠ b) : 1 < l.length := by
  match l with
  | [] => cases ha
  | [x] => exact absurd ((List.mem_singleton.1 ha).trans (List.mem_singleton.1 hb).symm) h
  | x :: y :: r => simp
theorem dec_rule {m : Md} (hm : mOk m = true) {bs : List Bool} (h : satV (encM m m.2.length) bs = true) {r : Rl} (hm2 : r ∈ m.2) : holdB r (valsC r.2.1 (decC m.1 bs)) = true := by
  have hr := mOk_mem hm hm2
  have hall : ∀ c ∈ encR m.1 r, holdsV c bs = true := fun c hc => sat_mem h (encM_rule hm2 hc)
  by_cases h1 : r.1 = 1
  · have hl := rOk_lin hr h1
    have h5 := rl_len hr hm
    have hf := lin_fit hm hr h1 (n := r.2.1.length) (Nat.le_refl _)
    have hok := nrmC_ok (ts := linT m.1 r r.2.1.length) hl.2.1 (by omega) hf.2
    have h2 := hall (vC (nrmC (linT m.1 r r.2.1.length) r.2.2.2.1)) (by unfold encR; rw [if_pos h1]; exact List.mem_cons_self)
    rw [vC_ok hok] at h2
    have h3 := nrm_true (fun t ht => (hf.2 t ht).1) h2
    rw [lin_sum hm h hr (Nat.le_refl _)] at h3
    rw [hold_1 h1, qjc]
    exact decide_eq_true h3
  · by_cases h2 : r.1 = 2
    · rw [hold_2 h2, qjc]
      unfold distB
      refine List.all_eq_true.2 fun i hi => ?_
      rw [List.mem_range] at hi
      rw [Bool.not_eq_true', decide_eq_false_iff_not]
      intro hmem
      obtain ⟨j, hj, e⟩ := mem_nth hmem
      rw [List.length_take, qjc] at hj
      rw [getD_takeL (by omega), vals_dec hr (by omega), vals_dec hr hi] at e
      have hvi := vi_at hr hi
      have hvj := vi_at hr (i := j) (by omega)
      have hdi := dec_spec hm h hvi.1
      have hdj := dec_spec hm h hvj.1
      have hij := vi_ne hr hi (j := j) (by omega)
      have e2 : decN m.1 bs (viN r j) = decN m.1 bs (viN r i) := by omega
      have hs3 := (qzx hm).2 _ hvi.1
      have ma := difV_at (s := m.1) (r := r) (x := decN m.1 bs (viN r i)) (k := r.2.1.length) hi hdi.1
      have mb := difV_at (s := m.1) (r := r) (x := decN m.1 bs (viN r i)) (k := r.2.1.length) (i := j) (by omega) (by rw [← e2]; exact hdj.1)
      have hne : bvI m.1 (viN r i) ((decN m.1 bs (viN r i) : Nat) : Int) ≠ bvI m.1 (viN r j) ((decN m.1 bs (viN r i) : Nat) : Int) := fun q =>
        hij (bv_inj hm hvi.1 hvj.1 ⟨by omega, hdi.1⟩ ⟨by omega, by rw [← e2]; exact hdj.1⟩ q).1.symm
      have hlen := two_len ma mb hne
      have hc := hall (amoC (srtS (difV m.1 r (decN m.1 bs (viN r i)) r.2.1.length))) (by
        unfold encR difL
        rw [if_neg h1, if_pos h2]
        refine List.mem_flatMap.2 ⟨decN m.1 bs (viN r i), List.mem_range.2 (by omega), ?_⟩
        unfold dif1; rw [if_pos hlen]; exact List.mem_cons_self)
      exact hne (amo_one (fun v hv => by have := difV_pos hm hr (Nat.le_refl _) (srtS_perm.mem_iff.1 hv); omega) hc (srtS_perm.mem_iff.2 ma) (srtS_perm.mem_iff.2 mb) hdi.2.1 (by rw [← e2]; exact hdj.2.1))
    · rw [← Bool.not_eq_false]
      intro hf
      have hcv : cvL (szR m.1 r) (valsC r.2.1 (decC m.1 bs)) = true := by
        refine cv_yes (by rw [qjc, qj1]) (List.all_eq_true.2 fun i hi => decide_eq_true ?_)
        rw [List.mem_range, qjc] at hi
        rw [vals_dec hr hi, szR_at hi]
        exact ⟨by omega, (dec_spec hm h (vi_at hr hi).1).1⟩
      have hin := (en_all (szR_cv hm hr) rfl).2.2 _ hcv (by rw [vl_zero]; omega)
      have hc := hall (clsC (notL m.1 r (valsC r.2.1 (decC m.1 bs)) r.2.1.length)) (by
        unfold encR tabL
        rw [if_neg h1, if_neg h2]
        exact List.mem_flatMap.2 ⟨_, hin, by rw [tab1_n hf]; exact List.mem_cons_self⟩)
      obtain ⟨l, hl, hv⟩ := cls_true hc
      unfold notL at hl
      obtain ⟨i, hi, rfl⟩ := List.mem_map.1 hl
      rw [List.mem_range] at hi
      rw [vals_dec hr hi] at hv
      have hvi := vi_at hr hi
      have hd := dec_spec hm h hvi.1
      have hb := bv_rng hm hvi.1 (x := ((decN m.1 bs (viN r i) : Nat) : Int)) ⟨by omega, hd.1⟩
      rw [litV_opp (by omega), hd.2.1] at hv
      cases hv
theorem dec_sol {m : Md} (hm : mOk m = true) {bs : List Bool} (h : satV (encM m m.2.length) bs = true) : solB m (decC m.1 bs) = true := List.all_eq_true.2 fun r hr => dec_rule hm h hr
theorem dec_keep {m : Md} (hm : mOk m = true) {bs : List Bool} (h : satV (encM m m.2.length) bs = true) {v k : Nat} (hv : v < m.1.length) (hk : (k : Int) ≤ m.1.getD v default) (hl : litV bs (bvI m.1 v ((k : Nat) : Int)) = true) : cel (fmD m (fullD m)) v k = true := by
  have hc := dec_cv hm h
  have h1 := fm_ci (dm_full hm) (dec_sol hm h) (full_in hm hc)
  have h2 := inB_iff.1 (ci_in h1).2.2 v (by rw [decC_len]; exact hv)
  rw [decC_at hv, ← (dec_spec hm h hv).2.2 k hk hl] at h2
  exact h2
end Go.Ab
/- Filtering can be proved: the plain law. -/
set_option linter.unusedSimpArgs false
set_option linter.unusedVariables false
namespace Go.Ab
def totZ (s : List Int) : Nat := (s.map (fun a => (a + 1).toNat)).sum
theorem cube_le {n : Nat} (h : n ≤ 4) : n ^ 3 ≤ 3 ^ n := by
  rcases (by omega : n = 0 ∨ n = 1 ∨ n = 2 ∨ n = 3 ∨ n = 4) with h | h | h | h | h <;> subst h <;> decide
theorem prS_cube : ∀ {s : List Int}, (∀ k, k < s.length → s.getD k default ≤ 3) → prS s ^ 3 ≤ 3 ^ totZ s
  | [], _ => by decide
  | a :: s, h => by
    have h0 : a ≤ 3 := h 0 (by simp)
    have ih := prS_cube (s := s) (fun k hk => by have := h (k + 1) (by simp; omega); simpa using this)
    have h1 := cube_le (n := (a + 1).toNat) (by omega)
    show ((a + 1).toNat * prS s) ^ 3 ≤ 3 ^ ((a + 1).toNat + totZ s)
    rw [Nat.mul_pow, Nat.pow_add]
    exact Nat.mul_le_mul h1 ih
theorem cube_81 {n : Nat} (h : n ^ 3 ≤ 3 ^ 12) : n ≤ 81 := by
  rcases Nat.lt_or_ge 81 n with q | q
  · have := Nat.pow_le_pow_left (show 82 ≤ n by omega) 3
    have e1 : (82 : Nat) ^ 3 = 551368 := by decide
    have e2 : (3 : Nat) ^ 12 = 531441 := by decide
    omega
  · exact q
def allB (s : List Int) (r : Rl) (n : Nat) : List Int := (List.range n).flatMap (fun i => boxV s (viN r i))
theorem apt_cat {a b : List Int} (ha : apt a) (hb : apt b) (h : ∀ x ∈ a, ∀ y ∈ b, varOf x ≠ varOf y) : apt (a ++ b) :=
  ⟨fun x hx => (List.mem_append.1 hx).elim (ha.1 x) (hb.1 x), List.pairwise_append.2 ⟨ha.2, hb.2, h⟩⟩
theorem allB_apt {m : Md} (hm : mOk m = true) {r : Rl} (hr : rOk m.1.length r = true) : ∀ {n : Nat}, n ≤ r.2.1.length → apt (allB m.1 r n)
  | 0, _ => apt_nil
  | n + 1, hn => by
    have hv := vi_at hr (i := n) (by omega)
    unfold allB
    rw [fm_snoc]
    refine apt_cat (allB_apt hm hr (n := n) (by omega)) (boxV_apt hm hv.1) fun x hx y hy e => ?_
    obtain ⟨i, hi, hx⟩ := List.mem_flatMap.1 hx
    rw [List.mem_range] at hi
    have hw := vi_at hr (i := i) (by omega)
    obtain ⟨p, hp, rfl⟩ := boxV_mem hm hw.1 hx
    obtain ⟨q, hq, rfl⟩ := boxV_mem hm hv.1 hy
    rw [(lit_pos (bv_rng hm hw.1 hp)).2, (lit_pos (bv_rng hm hv.1 hq)).2] at e
    exact vi_ne hr (i := n) (j := i) (by omega) hi (bv_inj hm hw.1 hv.1 hp hq e).1
theorem totZ_all {s : List Int} {r : Rl} : ∀ {n : Nat}, n ≤ r.2.1.length → totZ (valsC (r.2.1.take n) s) = (allB s r n).length
  | 0, _ => rfl
  | n + 1, hn => by
    have ih := totZ_all (s := s) (r := r) (n := n) (by omega)
    unfold allB at ih ⊢
    rw [szR_next (by omega), fm_snoc, List.length_append, ← ih]
    unfold totZ
    rw [List.map_append, List.sum_append]
    unfold boxV; rw [boxN_len]; simp [szN]
theorem szR_81 {m : Md} (hm : mOk m = true) {r : Rl} (hr : rOk m.1.length r = true) : prS (szR m.1 r) ≤ 81 := by
  have h1 := prS_cube (s := szR m.1 r) (fun k hk => sz_le3 hm hr hk)
  have h2 := apt_len (allB_apt hm hr (Nat.le_refl _))
  rw [← totZ_all (Nat.le_refl _), List.take_length] at h2
  refine cube_81 (Nat.le_trans h1 (Nat.pow_le_pow_right (by decide) h2))
theorem encR_81 {m : Md} (hm : mOk m = true) {r : Rl} (hr : rOk m.1.length r = true) : (encR m.1 r).length ≤ 81 := by
  unfold encR
  split
  · simp
  · split
    · have := difL_len (s := m.1) (r := r) (n := 4); omega
    · have := tabL_len hm hr; have := szR_81 hm hr; omega
theorem encM_81 {m : Md} (hm : mOk m = true) : ∀ {k : Nat}, k ≤ m.2.length → (encM m k).length ≤ 10 + 81 * k
  | 0, _ => by
    have := (qzx hm).1
    rw [encM_0 ⟨Nat.le_refl _, Nat.le_refl _⟩, encB_len]; omega
  | k + 1, hk => by
    have ih := encM_81 hm (k := k) (by omega)
    have h := encR_81 hm (mOk_rule hm (k := k) (by omega))
    rw [encM_next (by omega), List.length_append]; omega
theorem amo_ok {vs : List Int} (h : asc vs) (hl : 1 ≤ vs.length) : cOk (amoC vs) = true := by
  have h2 := asc_len h
  unfold cOk amoC
  have h3 : vs.map (fun v => ((1 : Int), -v)) = (negL vs).map oneL := by unfold negL; rw [List.map_map]; rfl
  rw [h3, asc_neg h, Bool.true_and]
  exact decide_eq_true (by dsimp only; omega)
theorem encR_ok {m : Md} (hm : mOk m = true) {r : Rl} (hr : rOk m.1.length r = true) : ∀ c ∈ encR m.1 r, cOk c = true := by
  intro c hc
  unfold encR at hc
  by_cases h1 : r.1 = 1
  · rw [if_pos h1] at hc
    have hl := rOk_lin hr h1
    have h5 := rl_len hr hm
    have hf := lin_fit hm hr h1 (n := r.2.1.length) (Nat.le_refl _)
    have hok := nrmC_ok (ts := linT m.1 r r.2.1.length) hl.2.1 (by omega) hf.2
    rw [List.mem_singleton.1 hc, vC_ok hok]; exact hok
  · rw [if_neg h1] at hc
    by_cases h2 : r.1 = 2
    · rw [if_pos h2] at hc
      obtain ⟨x, _, hx⟩ := List.mem_flatMap.1 hc
      unfold dif1 at hx
      split at hx
      · rw [List.mem_singleton.1 hx]
        exact amo_ok (apt_asc (difV_apt hm hr (Nat.le_refl _))) (by rw [qjx]; omega)
      · cases hx
    · rw [if_neg h2] at hc
      obtain ⟨x, hx, hc⟩ := List.mem_flatMap.1 hc
      unfold tab1 at hc
      split at hc
      · cases hc
      · rw [List.mem_singleton.1 hc]
        exact cls_ok (notL_apt hm hr (tup_cv ((en_all (szR_cv hm hr) rfl).2.1 x hx)) (Nat.le_refl _))
theorem encM_ok {m : Md} (hm : mOk m = true) : (encM m m.2.length).all cOk = true := by
  refine List.all_eq_true.2 fun c hc => ?_
  rcases List.mem_append.1 hc with q | q
  · obtain ⟨i, hi, h⟩ := List.mem_flatMap.1 q
    rw [List.mem_range] at hi
    rcases List.mem_cons.1 h with e | e
    · rw [e]; exact cls_ok (boxV_apt hm hi)
    · rw [List.mem_singleton.1 e]; exact amo_ok (boxV_asc hm hi) (boxV_len hm hi).2
  · rw [List.take_length] at q
    obtain ⟨r, hr, h⟩ := List.mem_flatMap.1 q
    exact encR_ok hm (mOk_mem hm hr) c h
theorem neg_one {l : Int} {bs : List Bool} (hl : l ≠ 0) (h : holdsV (negC (clsC [-l])) bs = true) : litV bs l = true := by
  have e : negC (clsC [-l]) = ([((1 : Int), l)], 1) := by
    unfold negC clsC
    have : srtS [-l] = [-l] := rfl
    rw [this]
    simp [oneL, negT, totV]; rfl
  rw [e] at h
  unfold holdsV at h
  have h1 := of_decide_eq_true h
  rw [sumV_cons, show sumV [] bs = 0 from rfl] at h1
  by_cases q : litV bs l = true
  · exact q
  · have : term bs ((1 : Int), l) = 0 := if_neg q
    dsimp only at h1; omega
theorem fp_law {m : Md} (hm : mOk m = true) (h4 : m.2.length ≤ 4) (hok : emOk m = true) {v k : Nat} (hv : v < m.1.length) (hk : (k : Int) ≤ m.1.getD v default) :
    (emL m).length < 400 ∧ (cel (fmD m (fullD m)) v k = true ∨ svC (emL m ++ [negC (clsC [-(bvI m.1 v ((k : Nat) : Int))])]) 2000 = 0 ∨
      (svC (emL m ++ [negC (clsC [-(bvI m.1 v ((k : Nat) : Int))])]) 2000 = 2 ∧ 0 < (svS (emL m ++ [negC (clsC [-(bvI m.1 v ((k : Nat) : Int))])]) 2000).length)) := by
  have he : emL m = encM m m.2.length := if_pos hok
  have hlen := encM_81 hm (k := m.2.length) (Nat.le_refl _)
  rw [he]
  refine ⟨by omega, ?_⟩
  have hb := bv_rng hm hv (x := ((k : Nat) : Int)) ⟨by omega, hk⟩
  have hsv : svOk (encM m m.2.length ++ [negC (clsC [-(bvI m.1 v ((k : Nat) : Int))])]) 2000 = true := by
    unfold svOk
    rw [pOk_of (by rw [List.all_append, encM_ok hm]; simp [negC_ok (cls_ok (bv_apt hm hv (x := ((k : Nat) : Int)) ⟨by omega, hk⟩))]) (by rw [List.length_append]; simp; omega)]
    rfl
  rcases svC_cases hsv with h | h | h
  · exact .inr (.inl h)
  · refine .inl ?_
    have hs := (sv_sat h).2
    unfold satV at hs
    rw [List.all_append, Bool.and_eq_true] at hs
    exact dec_keep hm hs.1 hv hk (neg_one (by omega) (List.all_eq_true.1 hs.2 _ List.mem_cons_self))
  · refine .inr (.inr ⟨h, ?_⟩)
    exact List.length_pos_of_mem (sv_chn h).2.2.1
end Go.Ab

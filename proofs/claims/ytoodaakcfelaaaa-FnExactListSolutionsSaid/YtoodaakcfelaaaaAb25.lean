/- Rows with rows of their own, over the abstract state. -/
import Derived.Test.YtoodaakcfelaaaaAb13
import Derived.Test.YtoodaakcfelaaaaVals
import Derived.MapKept
import Derived.KernelRfl
set_option linter.unusedSimpArgs false
set_option linter.unusedVariables false
namespace Go.Ab
section
variable {C : Ctx}
theorem HR.chg {w w' : World} {hp hp' : Heap} {g g' : Gh} (T N : Nat → Prop) (h : HR C w hp g)
    (hos : w'.os = w.os) (htp : w'.tape = w.tape) (hout : w'.output = w.output) (hsz : w.heap.size ≤ w'.heap.size)
    (hT : ∀ b, T b → ∃ i io, look hp i = some io ∧ b ∈ g.fp i)
    (hheap : ∀ b, b < w.heap.size → ¬ T b → w'.heap[b]? = w.heap[b]?)
    (hcur : ∀ i, g.cur i ≤ g'.cur i) (hsame : ∀ i, g.cur i = g'.cur i → g'.val i = g.val i ∧ g'.blk i = g.blk i ∧ g'.sz i = g.sz i)
    (hold : ∀ i io, look hp' i = some io → ¬ N i → look hp i = some io ∧ g'.cur i = g.cur i ∧ g'.fp i = g.fp i ∧ ∀ b ∈ g.fp i, ¬ T b)
    (hnew : ∀ i io, look hp' i = some io → N i → g'.cur i = io.1 ∧ ∀ b ∈ g'.fp i, b < w'.heap.size ∧ (T b ∨ w.heap.size ≤ b))
    (hdis : ∀ i j io jo, N i → N j → look hp' i = some io → look hp' j = some jo → i ≠ j → ∀ b, b ∈ g'.fp i → b ∉ g'.fp j)
    (ho : Fits g (XX C hp g w) w g' (XX C hp' g' w') w' → ∀ i ver o, N i → look hp' i = some (ver, o) → OR g' (XX C hp' g' w') w' i o) :
    HR C w' hp' g' ∧ Fits g (XX C hp g w) w g' (XX C hp' g' w') w' := by
  classical
  have hTn : ∀ b, XX C hp g w b → ¬ T b := fun b hb ht => let ⟨i, io, h1, h2⟩ := hT b ht; hb.2 i io h1 h2
  have hTs : ∀ b, T b → b < w.heap.size := fun b ht => let ⟨i, io, h1, h2⟩ := hT b ht; (h.blk i io b h1 h2).1
  have hX : ∀ b, XX C hp g w b → XX C hp' g' w' b := by
    intro b hb0
    have hlt := XX.lt h hb0
    have hnT := hTn b hb0
    obtain ⟨hb, hb2⟩ := hb0
    refine ⟨hb.imp id (fun hb => ⟨hb.1, by omega⟩), fun i io hi hin => ?_⟩
    by_cases hN : N i
    · rcases ((hnew i io hi hN).2 b hin).2 with k | k
      · exact hnT k
      · omega
    · obtain ⟨k1, _, k3, _⟩ := hold i io hi hN
      rw [k3] at hin; exact hb2 i io k1 hin
  have hF : Fits g (XX C hp g w) w g' (XX C hp' g' w') w' := ⟨hcur, fun i e => (hsame i e).1, fun i e => (hsame i e).2.1, fun i e => (hsame i e).2.2, hX, fun b hb => hheap b (XX.lt h hb) (hTn b hb)⟩
  refine ⟨⟨⟨hos.trans h.ext.os, htp.trans h.ext.tape, hout.trans h.ext.output, Nat.le_trans h.ext.size hsz, ?_⟩, h.wf, ?_, ?_, ?_, ?_, ?_⟩, hF⟩
  · intro b hb hA
    refine (hheap b (Nat.lt_of_lt_of_le hb h.ext.size) (fun ht => ?_)).trans (h.ext.old b hb hA)
    obtain ⟨i, io, h1, h2⟩ := hT b ht
    rcases (h.blk i io b h1 h2).2 with q | q
    · omega
    · exact hA q
  · intro i
    have h1 := h.lnk i
    have h2 := hcur i
    refine ⟨Nat.le_trans h1.1 h2, fun e => ?_⟩
    obtain ⟨k1, k2, k4⟩ := h1.2 (by omega)
    obtain ⟨q1, q2, q3⟩ := hsame i (by omega)
    exact ⟨q1.trans k1, q2.trans k2, q3.trans k4⟩
  · intro i j io jo hi hj hne b hb hin
    by_cases hNi : N i <;> by_cases hNj : N j
    · exact hdis i j io jo hNi hNj hi hj hne b hb hin
    · obtain ⟨k1, _, k3, k4⟩ := hold j jo hj hNj
      rw [k3] at hin
      rcases ((hnew i io hi hNi).2 b hb).2 with q | q
      · exact k4 b hin q
      · have := (h.blk j jo b k1 hin).1; omega
    · obtain ⟨k1, _, k3, k4⟩ := hold i io hi hNi
      rw [k3] at hb
      rcases ((hnew j jo hj hNj).2 b hin).2 with q | q
      · exact k4 b hb q
      · have := (h.blk i io b k1 hb).1; omega
    · obtain ⟨k1, _, k3, _⟩ := hold i io hi hNi
      obtain ⟨q1, _, q3, _⟩ := hold j jo hj hNj
      rw [k3] at hb; rw [q3] at hin
      exact h.dis i j io jo k1 q1 hne b hb hin
  · intro i ver o hi
    by_cases hN : N i
    · exact (hnew i _ hi hN).1
    · obtain ⟨k1, k2, _⟩ := hold i _ hi hN
      rw [k2]; exact h.cur i ver o k1
  · intro i io b hi hb
    by_cases hN : N i
    · obtain ⟨q1, q2⟩ := (hnew i io hi hN).2 b hb
      refine ⟨q1, ?_⟩
      rcases q2 with q | q
      · obtain ⟨j, jo, k1, k2⟩ := hT b q
        exact (h.blk j jo b k1 k2).2
      · exact .inl (Nat.le_trans h.ext.size q)
    · obtain ⟨k1, _, k3, _⟩ := hold i io hi hN
      rw [k3] at hb
      exact ⟨Nat.lt_of_lt_of_le (h.blk i io b k1 hb).1 hsz, (h.blk i io b k1 hb).2⟩
  · intro i ver o hi
    by_cases hN : N i
    · exact ho hF i ver o hN hi
    · obtain ⟨k1, k2, k3, k4⟩ := hold i _ hi hN
      exact (h.obj i ver o k1).fits hF k2.symm k3 (fun b hb => hheap b (h.blk i _ b k1 hb).1 (k4 b hb))
def Gh.setfp (g : Gh) (i : Nat) (F : List Nat) : Gh := { g with fp := fun j => if j = i then F else g.fp j }
def objOf : DTy → List (List V) → Obj
  | .mk e s [], es => .row e s es
  | .mk e s (x :: r), es => .deep (.mk e s (x :: r)) es none
theorem set_perm {α : Type} : ∀ {l : List (List α)} {j : Nat} {F G : List α}, l[j]? = some F → List.Perm ((l.set j G).flatten ++ F) (l.flatten ++ G)
  | [], j, F, G, h => by simp at h
  | x :: l, 0, F, G, h => by
    simp at h; subst h
    simp only [List.set_cons_zero, List.flatten_cons, List.append_assoc]
    refine (List.perm_append_comm).trans ?_
    simp only [List.append_assoc]
    exact (List.perm_append_comm).trans (by simp [List.append_assoc]; exact (List.Perm.append_left _ List.perm_append_comm))
  | x :: l, j + 1, F, G, h => by
    have := set_perm (l := l) (j := j) (F := F) (G := G) (by simpa using h)
    simp only [List.set_cons_succ, List.flatten_cons, List.append_assoc]
    exact this.append_left x
theorem DR.up {X : Nat → Prop} {w : World} : ∀ {n : Nat} {t : DTy} {F : List Nat} {es : List (List V)} {u : Value}, DR X w n t F es u → DR X w (n + 1) t F es u
  | 0, _, _, _, _, h => h.elim
  | n + 1, t, F, es, u, h => by
    obtain ⟨h0, h⟩ := h
    refine ⟨h0, ?_⟩
    rcases h with h | ⟨b, c, cur, fps, h1, h2, h3, h4, h5, h6, h7, h8⟩
    · exact .inl h
    · refine .inr ⟨b, c, cur, fps, h1, h2, h3, h4, h5, h6, h7, fun j v hj => ?_⟩
      obtain ⟨u, F, k1, k2, k3⟩ := h8 j v hj
      refine ⟨u, F, k1, k2, k3.imp id fun k => ⟨k.1, ?_⟩⟩
      exact k.2.fits (fun _ h => h) (fun _ _ => rfl) (fun t es u h => DR.up h)
theorem DR.le {X : Nat → Prop} {w : World} {n m : Nat} (hnm : n ≤ m) {t : DTy} {F : List Nat} {es : List (List V)} {u : Value} (h : DR X w n t F es u) : DR X w m t F es u := by
  induction hnm with
  | refl => exact h
  | step _ ih => exact ih.up
theorem DB.le {X : Nat → Prop} {w : World} {n m : Nat} (hnm : n ≤ m) {t : DTy} {sk : Option Nat} {F : List Nat} {es : List (List V)} {u : Value} (h : DB (DR X w n) X w t sk F es u) : DB (DR X w m) X w t sk F es u := by
  obtain ⟨h0, h⟩ := h
  refine ⟨h0, ?_⟩
  rcases h with h | ⟨b, c, cur, fps, h1, h2, h3, h4, h5, h6, h7⟩
  · exact .inl h
  · exact .inr ⟨b, c, cur, fps, h1, h2, h3, h4, h5, h6, h7.fits (fun _ h => h) (fun _ _ => rfl) (fun t F es u _ h => DR.le hnm h)⟩
theorem row_DR {g : Gh} {X : Nat → Prop} {w : World} {i e s : Nat} {es : List (List V)} (h : OR g X w i (.row e s es)) : DR X w 1 (.mk e s []) (g.fp i) es (g.val i) ∧ (g.fp i).Nodup := by
  obtain ⟨h0, h1, h2⟩ := h
  rcases h2 with ⟨h2, h3, h4⟩ | ⟨b, c, cur, h2, h3, h4, h5, h6, h7, h8, h9⟩
  · rw [h4]; exact ⟨⟨h1, .inl ⟨h2, h3, rfl⟩⟩, List.nodup_nil⟩
  · rw [h4]
    refine ⟨⟨h1, .inr ⟨b, c, cur, List.replicate es.flatten.length [], h2, by simp, h5, h6, h7, h8, by simp, fun j v hj => ?_⟩⟩, by simp⟩
    obtain ⟨u, k1, k2⟩ := h9 j v hj
    have hjl := (List.getElem?_eq_some_iff.1 hj).1
    exact ⟨u, [], k1, by rw [List.getElem?_replicate, if_pos hjl], .inr ⟨by simp, ⟨rfl, k2⟩⟩⟩
theorem OR_obj {g : Gh} {X : Nat → Prop} {w : World} {i : Nat} {t : DTy} {es : List (List V)} (h : OR g X w i (objOf t es)) : ∃ n, DR X w n t (g.fp i) es (g.val i) ∧ (g.fp i).Nodup := by
  obtain ⟨e, s, subs⟩ := t
  cases subs with
  | nil => exact ⟨1, row_DR h⟩
  | cons x r => obtain ⟨h0, h1, ⟨n, h2⟩, h3⟩ := h; exact ⟨n + 1, h2, h1⟩
theorem obj_OR {g : Gh} {X : Nat → Prop} {w : World} {i : Nat} {t : DTy} {es : List (List V)} {n : Nat} (h : DR X w n t (g.fp i) es (g.val i)) (hn : (g.fp i).Nodup) (hs : g.sz i = t.s) (hb : ∀ b o k c, g.val i = .slice (some ⟨b, o, none⟩) k c → g.blk i = some b) : OR g X w i (objOf t es) := by
  cases n with
  | zero => exact h.elim
  | succ n =>
    obtain ⟨e, s, subs⟩ := t
    cases subs with
    | cons x r => exact ⟨hs, hn, ⟨n, h⟩, hb, fun k f d ver e => by cases e⟩
    | nil =>
      obtain ⟨h0, h⟩ := h
      refine ⟨hs, h0, ?_⟩
      rcases h with ⟨h1, h2, h3⟩ | ⟨b, c, cur, fps, h1, h2, h3, h4, h5, h6, h7, h8⟩
      · exact .inl ⟨h1, h2, h3⟩
      · have hfe : fps.flatten = [] := by
          rw [List.flatten_eq_nil_iff]
          intro F hF
          obtain ⟨j, hj⟩ := List.mem_iff_getElem?.1 hF
          have hjl : j < es.flatten.length := by rw [← h7]; exact (List.getElem?_eq_some_iff.1 hj).1
          obtain ⟨u, F', k1, k2, k3⟩ := h8 j es.flatten[j] (List.getElem?_eq_getElem hjl)
          rw [hj] at k2; obtain rfl := Option.some.inj k2
          rcases k3 with k3 | ⟨_, k3, _⟩
          · exact k3.2
          · exact k3
        rw [hfe] at h2
        refine .inr ⟨b, c, cur, h1, hb b 0 _ c h1, h2, h3, h4, h5, h6, fun j v hj => ?_⟩
        obtain ⟨u, F', k1, k2, k3⟩ := h8 j v hj
        rcases k3 with ⟨k3, _⟩ | ⟨_, _, k3⟩
        · cases k3
        · exact ⟨u, k1, k3⟩
theorem DB.one {R : DTy → List Nat → List (List V) → Value → Prop} {X : Nat → Prop} {w : World} {t : DTy} {sk : Option Nat} {F : List Nat} {es : List (List V)} {u : Value} (h : DB R X w t sk F es u) : u.oneCell' = true := by
  rcases h.2 with ⟨_, h, _⟩ | ⟨b, c, cur, fps, h, _⟩ <;> rw [h] <;> rfl
theorem DR.one {X : Nat → Prop} {w : World} {n : Nat} {t : DTy} {F : List Nat} {es : List (List V)} {u : Value} (h : DR X w n t F es u) : u.oneCell' = true := by
  cases n with
  | zero => exact h.elim
  | succ n => exact DB.one h
theorem mod_at {k f s : Nat} (h : f < s) : (k * s + f) % s = f := by
  rw [Nat.mul_comm, Nat.mul_add_mod]; exact Nat.mod_eq_of_lt h
theorem set_flat1 {sz : Nat} {es : List (List V)} (h : ∀ x ∈ es, x.length = sz) {k f : Nat} {xs : List V} (hk : es[k]? = some xs) (hf : f < sz) (v : V) (j : Nat) :
    (es.set k (xs.set f v)).flatten[j]? = if j = k * sz + f then some v else es.flatten[j]? := by
  have hkl : k < es.length := (List.getElem?_eq_some_iff.1 hk).1
  have hxl : xs.length = sz := h xs (List.mem_iff_getElem?.2 ⟨k, hk⟩)
  rw [set_flat h hkl (by simpa using hxl)]
  by_cases e1 : j = k * sz + f
  · subst e1
    rw [if_neg (by omega), if_pos (by omega), if_pos rfl, show k * sz + f - k * sz = f from by omega, List.getElem?_set, if_pos rfl, if_pos (by omega)]
  · rw [if_neg e1]
    split
    · rfl
    · split
      · rw [List.getElem?_set, if_neg (by omega)]
        have := qj3 h (k := k) (f := j - k * sz) hk (by omega)
        rw [show k * sz + (j - k * sz) = j from by omega] at this
        exact this.symm
      · rfl
theorem qju {hp : Heap} {i : Nat} {x : Option (Nat × Obj)} {j : Nat} : look ((i, x) :: hp) j = if j = i then x else look hp j := by
  simp only [look]
  by_cases e : i = j
  · subst e; simp
  · rw [qjx e, cond_false, if_neg (fun h => e h.symm)]
structure Dd (C : Ctx) (w : World) (hp : Heap) (g : Gh) (id : Nat) (t : DTy) (es : List (List V)) (h : Option (Nat × Nat × Nat × Nat)) (n b c : Nat) (cur : Array Value) (fps : List (List Nat)) : Prop where
  len : ∀ x ∈ es, x.length = t.s
  val : g.val id = .slice (some ⟨b, 0, none⟩) es.length c
  blk : g.blk id = some b
  sz : g.sz id = t.s
  fp : g.fp id = b :: fps.flatten
  nd : (b :: fps.flatten).Nodup
  heap : w.heap[b]? = some (.cells cur t.e (0, 0))
  le : es.length ≤ c
  max : c ≤ maxLen
  size : cur.size = c * t.s
  dc : DC (DR (XX C hp g w) w n) (XX C hp g w) w t (h.map (fun x => x.1 * t.s + x.2.1)) es cur fps
  hole : ∀ k f d ver, h = some (k, f, d, ver) → k < es.length ∧ f < t.s ∧ (t.sub f).isSome = true ∧ ver ≤ g.cur d ∧ (ver = g.cur d → cur[k * t.s + f]? = some (g.val d))
theorem HR.dd {w : World} {hp : Heap} {g : Gh} {id ver : Nat} {t : DTy} {es : List (List V)} {hh : Option (Nat × Nat × Nat × Nat)} (H : HR C w hp g) (ho : look hp id = some (ver, .deep t es hh)) (hk : 0 < es.length) : ∃ n b c cur fps, Dd C w hp g id t es hh n b c cur fps := by
  obtain ⟨h0, h1, ⟨n, h2, h2'⟩, h3, h4⟩ := H.obj id ver _ ho
  rcases h2' with ⟨rfl, _⟩ | ⟨b, c, cur, fps, k1, k2, k3, k4, k5, k6, k7⟩
  · simp at hk
  · refine ⟨n, b, c, cur, fps, h2, k1, h3 b 0 _ c k1, h0, k2, by rw [← k2]; exact h1, k3, k4, k5, k6, k7, fun k f d vd e => ?_⟩
    obtain ⟨q1, q2, q3, q4, q5⟩ := h4 k f d vd e
    exact ⟨q1, q2, q3, q4, fun ev => by rw [← cellOf k3]; exact q5 ev b _ c k1⟩
theorem Dd.or {w : World} {hp : Heap} {g g' : Gh} {w' : World} {hp' : Heap} {id : Nat} {t : DTy} {es es' : List (List V)} {hh : Option (Nat × Nat × Nat × Nat)} {n b c : Nat} {cur : Array Value} {fps : List (List Nat)}
    (len : ∀ x ∈ es', x.length = t.s) (val : g'.val id = .slice (some ⟨b, 0, none⟩) es'.length c) (blk : g'.blk id = some b) (sz : g'.sz id = t.s) (fp : g'.fp id = b :: fps.flatten) (nd : (b :: fps.flatten).Nodup) (heap : w'.heap[b]? = some (.cells cur t.e (0, 0)))
    (le : es'.length ≤ c) (max : c ≤ maxLen) (size : cur.size = c * t.s) (dc : DC (DR (XX C hp' g' w') w' n) (XX C hp' g' w') w' t (hh.map (fun x => x.1 * t.s + x.2.1)) es' cur fps)
    (hole : ∀ k f d ver, hh = some (k, f, d, ver) → k < es'.length ∧ f < t.s ∧ (t.sub f).isSome = true ∧ ver ≤ g'.cur d ∧ (ver = g'.cur d → cur[k * t.s + f]? = some (g'.val d))) : OR g' (XX C hp' g' w') w' id (.deep t es' hh) := by
  refine ⟨sz, by rw [fp]; exact nd, ⟨n, len, .inr ⟨b, c, cur, fps, val, fp, heap, le, max, size, dc⟩⟩, fun b' o k c' e => ?_, fun k f d ver e => ?_⟩
  · rw [val] at e; simp at e; rw [blk, e.1.1]
  · obtain ⟨q1, q2, q3, q4, q5⟩ := hole k f d ver e
    refine ⟨q1, q2, q3, q4, fun ev b' n' c' e2 => ?_⟩
    rw [val] at e2; simp at e2
    rw [← e2.1, cellOf heap]; exact q5 ev
theorem flat_lt {es : List (List V)} {sz : Nat} (h : ∀ x ∈ es, x.length = sz) {k f : Nat} (hk : k < es.length) (hf : f < sz) : k * sz + f < es.flatten.length := by
  rw [qq1 h]
  have := Nat.mul_le_mul_right sz (show k + 1 ≤ es.length from hk)
  rw [Nat.succ_mul] at this; omega
theorem HR.out {w : World} {hp : Heap} {g : Gh} {id d ver : Nat} {t t' : DTy} {es : List (List V)} {k f : Nat} {xs : List V} {es' : List (List V)} (H : HR C w hp g) (hne : d ≠ id) (ho : look hp id = some (ver, .deep t es none)) (hk : es[k]? = some xs) (hf : xs[f]? = some (.sl es')) (ht : t.sub f = some t') :
    ∃ b u g', g.blk id = some b ∧ g.sz id = t.s ∧ w.cell? ⟨b, k * t.s + f, none⟩ = some u ∧ u.oneCell' = true ∧ g'.cur d = g.cur d + 1 ∧ g'.val d = u ∧ (∀ j, j ≠ d → g'.cur j = g.cur j) ∧
      HR C w ((d, some (g.cur d + 1, objOf t' es')) :: (id, some (ver, .deep t es (some (k, f, d, g.cur d + 1)))) :: hp) g' ∧ Fits g (XX C hp g w) w g' (XX C ((d, some (g.cur d + 1, objOf t' es')) :: (id, some (ver, .deep t es (some (k, f, d, g.cur d + 1)))) :: hp) g' w) w := by
  have hkl : k < es.length := (List.getElem?_eq_some_iff.1 hk).1
  obtain ⟨n, b, c, cur, fps, D⟩ := H.dd ho (by omega)
  have hxl : xs.length = t.s := D.len xs (List.mem_iff_getElem?.2 ⟨k, hk⟩)
  have hfl : f < t.s := by rw [← hxl]; exact (List.getElem?_eq_some_iff.1 hf).1
  have hj : es.flatten[k * t.s + f]? = some (.sl es') := (qj3 D.len hk hfl).trans hf
  obtain ⟨u, F, h1, h2, h3⟩ := D.dc.2 _ _ hj
  rcases h3 with ⟨h3, _⟩ | ⟨_, h3⟩
  · cases h3
  simp only [CellD, mod_at hfl, ht] at h3
  obtain ⟨es'', e1, h3⟩ := h3
  simp only [V.sl.injEq] at e1; subst e1
  have hperm := set_perm (G := ([] : List Nat)) h2
  rw [List.append_nil] at hperm
  have hnd : (b :: ((fps.set (k * t.s + f) []).flatten ++ F)).Nodup := (List.Perm.nodup_iff (hperm.cons b)).2 D.nd
  have hF : ∀ x ∈ F, x ∈ g.fp id := fun x hx => by rw [D.fp]; exact List.mem_cons_of_mem _ (hperm.mem_iff.1 (List.mem_append_right _ hx))
  have hS : ∀ x ∈ (fps.set (k * t.s + f) []).flatten, x ∈ g.fp id := fun x hx => by rw [D.fp]; exact List.mem_cons_of_mem _ (hperm.mem_iff.1 (List.mem_append_left _ hx))
  have hus : ∃ ad m c', u = .slice ad m c' ∧ ∀ b' o, ad = some ⟨b', o, none⟩ → o = 0 ∧ F.head? = some b' := by
    cases n with
    | zero => exact h3.elim
    | succ n =>
      rcases h3.2 with ⟨_, q, _⟩ | ⟨b', c', cur', fps', q1, q2, _⟩
      · exact ⟨none, 0, 0, q, fun b' o e => by cases e⟩
      · exact ⟨_, _, c', q1, fun b2 o e => by simp at e; rw [q2]; simp [e]⟩
  obtain ⟨ad, m, c', hu, hu2⟩ := hus
  let ub : Option Nat := F.head?
  let g' : Gh := (g.upd d (g.cur d + 1) u ub F t'.s).setfp id (b :: (fps.set (k * t.s + f) []).flatten)
  have gd : g'.cur d = g.cur d + 1 ∧ g'.val d = u ∧ g'.blk d = ub ∧ g'.fp d = F ∧ g'.sz d = t'.s := by simp [g', Gh.upd, Gh.setfp, hne]
  have gi : g'.cur id = g.cur id ∧ g'.val id = g.val id ∧ g'.blk id = g.blk id ∧ g'.fp id = b :: (fps.set (k * t.s + f) []).flatten ∧ g'.sz id = g.sz id := by simp [g', Gh.upd, Gh.setfp, Ne.symm hne]
  have go : ∀ j, j ≠ d → j ≠ id → g'.cur j = g.cur j ∧ g'.val j = g.val j ∧ g'.blk j = g.blk j ∧ g'.fp j = g.fp j ∧ g'.sz j = g.sz j := fun j h1 h2 => by simp [g', Gh.upd, Gh.setfp, h1, h2]
  have hcd : ∀ j, j ≠ d → g'.cur j = g.cur j := fun j hj => by
    by_cases e : j = id
    · subst e; exact gi.1
    · exact (go j hj e).1
  refine ⟨b, u, g', D.blk, D.sz, by rw [cellOf D.heap]; exact h1, h3.one, gd.1, gd.2.1, hcd, ?_⟩
  have hlk : ∀ {j : Nat} {io : Nat × Obj}, look ((d, some (g.cur d + 1, objOf t' es')) :: (id, some (ver, .deep t es (some (k, f, d, g.cur d + 1)))) :: hp) j = some io → (j = d ∧ io = (g.cur d + 1, objOf t' es')) ∨ (j ≠ d ∧ j = id ∧ io = (ver, .deep t es (some (k, f, d, g.cur d + 1)))) ∨ (j ≠ d ∧ j ≠ id ∧ look hp j = some io) := by
    intro j io hio
    rw [qju] at hio
    by_cases e1 : j = d
    · rw [if_pos e1] at hio; exact .inl ⟨e1, (Option.some.inj hio).symm⟩
    · rw [if_neg e1, qju] at hio
      by_cases e2 : j = id
      · rw [if_pos e2] at hio; exact .inr (.inl ⟨e1, e2, (Option.some.inj hio).symm⟩)
      · rw [if_neg e2] at hio; exact .inr (.inr ⟨e1, e2, hio⟩)
  refine H.chg (fun x => x ∈ g.fp id) (fun j => j = d ∨ j = id) rfl rfl rfl (Nat.le_refl _) (fun x hx => ⟨id, _, ho, hx⟩) (fun _ _ _ => rfl) (fun j => ?_) (fun j e => ?_) (fun j io hj hN => ?_) (fun j io hj hN => ?_) (fun i j io jo hNi hNj hi hj hij x hx => ?_) (fun hf j vj o hN hj => ?_)
  · by_cases e : j = d
    · subst e; rw [gd.1]; omega
    · rw [hcd j e]; exact Nat.le_refl _
  · by_cases e1 : j = d
    · subst e1; rw [gd.1] at e; omega
    · by_cases e2 : j = id
      · subst e2; exact ⟨gi.2.1, gi.2.2.1, gi.2.2.2.2⟩
      · obtain ⟨_, a1, a2, _, a3⟩ := go j e1 e2; exact ⟨a1, a2, a3⟩
  · have hN' : j ≠ d ∧ j ≠ id := ⟨fun e => hN (.inl e), fun e => hN (.inr e)⟩
    rcases hlk hj with ⟨e, _⟩ | ⟨_, e, _⟩ | ⟨_, _, e⟩
    · exact absurd e hN'.1
    · exact absurd e hN'.2
    · exact ⟨e, (go j hN'.1 hN'.2).1, (go j hN'.1 hN'.2).2.2.2.1, fun x hx hx2 => H.dis j id _ _ e ho hN'.2 x hx hx2⟩
  · rcases hlk hj with ⟨rfl, rfl⟩ | ⟨_, rfl, rfl⟩ | ⟨e1, e2, _⟩
    · refine ⟨gd.1, fun x hx => ?_⟩
      rw [gd.2.2.2.1] at hx
      exact ⟨(H.blk id _ x ho (hF x hx)).1, .inl (hF x hx)⟩
    · refine ⟨gi.1.trans (H.cur _ _ _ ho), fun x hx => ?_⟩
      rw [gi.2.2.2.1] at hx
      have : x ∈ g.fp j := by
        rcases List.mem_cons.1 hx with rfl | hx
        · rw [D.fp]; simp
        · exact hS x hx
      exact ⟨(H.blk j _ x ho this).1, .inl this⟩
    · exact absurd hN (by simp [e1, e2])
  · have key : ∀ x, x ∈ F → x ∉ b :: (fps.set (k * t.s + f) []).flatten := by
      intro x hx hx2
      rw [← List.cons_append, List.nodup_append] at hnd
      exact hnd.2.2 x hx2 x hx rfl
    rcases hlk hi with ⟨rfl, _⟩ | ⟨q0, rfl, _⟩ | ⟨e1, e2, _⟩
    · rcases hlk hj with ⟨rfl, _⟩ | ⟨_, rfl, _⟩ | ⟨e1, e2, _⟩
      · exact absurd rfl hij
      · rw [gd.2.2.2.1] at hx; rw [gi.2.2.2.1]; exact key x hx
      · exact absurd hNj (by simp [e1, e2])
    · rcases hlk hj with ⟨rfl, _⟩ | ⟨_, e, _⟩ | ⟨e1, e2, _⟩
      · rw [gi.2.2.2.1] at hx; rw [gd.2.2.2.1]; exact fun h => key x h hx
      · exact absurd e.symm hij
      · exact absurd hNj (by simp [e1, e2])
    · exact absurd hNi (by simp [e1, e2])
  · rcases hlk hj with ⟨rfl, e⟩ | ⟨_, rfl, e⟩ | ⟨e1, e2, _⟩
    · simp only [Prod.mk.injEq] at e; obtain ⟨_, rfl⟩ := e
      refine obj_OR (n := n) ?_ (by rw [gd.2.2.2.1]; rw [← List.cons_append, List.nodup_append] at hnd; exact hnd.2.1) gd.2.2.2.2 (fun b' o m c' e => ?_)
      · rw [gd.2.2.2.1, gd.2.1]; exact h3.fits hf.set hf.heap (fun _ _ => rfl)
      · rw [gd.2.1, hu] at e; simp at e
        rw [gd.2.2.1]; exact (hu2 b' o e.1).2
    · simp only [Prod.mk.injEq] at e; obtain ⟨_, rfl⟩ := e
      refine Dd.or (w := w) (hp := hp) (g := g) (n := n) (b := b) (c := c) (cur := cur) (fps := fps.set (k * t.s + f) []) (es := es) D.len (gi.2.1.trans D.val) (gi.2.2.1.trans D.blk) (gi.2.2.2.2.trans D.sz) gi.2.2.2.1 ?_ D.heap D.le D.max D.size ⟨by simpa using D.dc.1, fun i v hv => ?_⟩ (fun k' f' d' vd' e => ?_)
      · rw [← List.cons_append, List.nodup_append] at hnd; exact hnd.1
      · obtain ⟨u', F', a1, a2, a3⟩ := D.dc.2 i v hv
        by_cases e : k * t.s + f = i
        · subst e
          have hlt : k * t.s + f < fps.length := (List.getElem?_eq_some_iff.1 h2).1
          exact ⟨u', [], a1, by simp [hlt], .inl ⟨rfl, rfl⟩⟩
        · refine ⟨u', F', a1, by rw [List.getElem?_set_ne e]; exact a2, .inr ⟨by simpa using e, ?_⟩⟩
          rcases a3 with ⟨a3, _⟩ | ⟨_, a3⟩
          · cases a3
          · exact a3.fits hf.set hf.heap (fun t es u h => h.fits hf.set hf.heap (fun _ _ => rfl))
      · simp at e; obtain ⟨rfl, rfl, rfl, rfl⟩ := e
        exact ⟨hkl, hfl, by rw [ht]; rfl, by rw [gd.1]; exact Nat.le_refl _, fun _ => by rw [gd.2.1]; exact h1⟩
    · exact absurd hN (by simp [e1, e2])
theorem HR.back {w : World} {hp : Heap} {g : Gh} {id d ver vd : Nat} {t t' : DTy} {es : List (List V)} {k f : Nat} {xs : List V} {es' : List (List V)} (H : HR C w hp g) (hne : d ≠ id) (ho : look hp id = some (ver, .deep t es (some (k, f, d, vd)))) (hd : look hp d = some (vd, objOf t' es')) (ht : t.sub f = some t') (hk : es[k]? = some xs) :
    ∃ g', HR C w ((id, some (ver, .deep t (es.set k (xs.set f (.sl es'))) none)) :: (d, none) :: hp) g' ∧ Fits g (XX C hp g w) w g' (XX C ((id, some (ver, .deep t (es.set k (xs.set f (.sl es'))) none)) :: (d, none) :: hp) g' w) w ∧ (∀ j, g'.cur j = g.cur j) := by
  have hkl : k < es.length := (List.getElem?_eq_some_iff.1 hk).1
  obtain ⟨n, b, c, cur, fps, D⟩ := H.dd ho (by omega)
  obtain ⟨_, hfl, _, _, hcell⟩ := D.hole k f d vd rfl
  have hcd := H.cur d vd _ hd
  have hcell := hcell hcd.symm
  have hxl : xs.length = t.s := D.len xs (List.mem_iff_getElem?.2 ⟨k, hk⟩)
  have hjl : k * t.s + f < es.flatten.length := flat_lt D.len hkl hfl
  obtain ⟨u, F0, h1, h2, h3⟩ := D.dc.2 _ _ (List.getElem?_eq_getElem hjl)
  have hF0 : F0 = [] := by
    rcases h3 with ⟨_, h3⟩ | ⟨h3, _⟩
    · exact h3
    · exact absurd rfl h3
  subst hF0
  obtain ⟨m, hdr, hdn⟩ := OR_obj (H.obj d vd _ hd)
  have hperm := set_perm (G := g.fp d) h2
  rw [List.append_nil] at hperm
  have hdis : ∀ x, x ∈ g.fp d → x ∉ g.fp id := fun x hx => H.dis d id _ _ hd ho hne x hx
  have hnd : (b :: (fps.set (k * t.s + f) (g.fp d)).flatten).Nodup := by
    rw [List.Perm.nodup_iff (hperm.cons b), ← List.cons_append, List.nodup_append]
    exact ⟨D.nd, hdn, fun x hx y hy e => by subst e; exact hdis x hy (by rw [D.fp]; exact hx)⟩
  have hmem : ∀ x, x ∈ b :: (fps.set (k * t.s + f) (g.fp d)).flatten → x ∈ g.fp id ∨ x ∈ g.fp d := fun x hx => by
    have := (hperm.cons b).mem_iff.1 hx
    rw [← List.cons_append, List.mem_append] at this
    rw [D.fp]; exact this
  let g' : Gh := g.setfp id (b :: (fps.set (k * t.s + f) (g.fp d)).flatten)
  have gi : g'.fp id = b :: (fps.set (k * t.s + f) (g.fp d)).flatten := by simp [g', Gh.setfp]
  have go : ∀ j, j ≠ id → g'.fp j = g.fp j := fun j h => by simp [g', Gh.setfp, h]
  refine ⟨g', ?_⟩
  have hlk : ∀ {j : Nat} {io : Nat × Obj}, look ((id, some (ver, .deep t (es.set k (xs.set f (.sl es'))) none)) :: (d, none) :: hp) j = some io → (j = id ∧ io = (ver, .deep t (es.set k (xs.set f (.sl es'))) none)) ∨ (j ≠ id ∧ j ≠ d ∧ look hp j = some io) := by
    intro j io hio
    rw [qju] at hio
    by_cases e1 : j = id
    · rw [if_pos e1] at hio; exact .inl ⟨e1, (Option.some.inj hio).symm⟩
    · rw [if_neg e1, qju] at hio
      by_cases e2 : j = d
      · rw [if_pos e2] at hio; cases hio
      · rw [if_neg e2] at hio; exact .inr ⟨e1, e2, hio⟩
  suffices hh : HR C w ((id, some (ver, .deep t (es.set k (xs.set f (.sl es'))) none)) :: (d, none) :: hp) g' ∧ Fits g (XX C hp g w) w g' (XX C ((id, some (ver, .deep t (es.set k (xs.set f (.sl es'))) none)) :: (d, none) :: hp) g' w) w from ⟨hh.1, hh.2, fun _ => rfl⟩
  refine H.chg (fun x => x ∈ g.fp id ∨ x ∈ g.fp d) (fun j => j = id) rfl rfl rfl (Nat.le_refl _) (fun x hx => hx.elim (fun hx => ⟨id, _, ho, hx⟩) (fun hx => ⟨d, _, hd, hx⟩)) (fun _ _ _ => rfl) (fun j => Nat.le_refl _) (fun j e => ⟨rfl, rfl, rfl⟩) (fun j io hj hN => ?_) (fun j io hj hN => ?_) (fun i j io jo hNi hNj hi hj hij x hx => absurd (hNi.trans hNj.symm) hij) (fun hf j vj o hN hj => ?_)
  · rcases hlk hj with ⟨e, _⟩ | ⟨e1, e2, e3⟩
    · exact absurd e hN
    · refine ⟨e3, rfl, go j e1, fun x hx hx2 => ?_⟩
      rcases hx2 with hx2 | hx2
      · exact H.dis j id _ _ e3 ho e1 x hx hx2
      · exact H.dis j d _ _ e3 hd e2 x hx hx2
  · rcases hlk hj with ⟨rfl, rfl⟩ | ⟨e1, _⟩
    · refine ⟨H.cur _ _ _ ho, fun x hx => ?_⟩
      rw [gi] at hx
      have := hmem x hx
      exact ⟨this.elim (fun h => (H.blk _ _ x ho h).1) (fun h => (H.blk _ _ x hd h).1), .inl this⟩
    · exact absurd hN e1
  · rcases hlk hj with ⟨rfl, e⟩ | ⟨e1, _⟩
    · simp only [Prod.mk.injEq] at e; obtain ⟨_, rfl⟩ := e
      refine Dd.or (w := w) (hp := hp) (g := g) (n := max n m) (b := b) (c := c) (cur := cur) (fps := fps.set (k * t.s + f) (g.fp d)) (es := es) (set_lens D.len k _ (by simpa using hxl)) (D.val.trans (by simp)) D.blk D.sz gi hnd D.heap (by simpa using D.le) D.max D.size ⟨?_, fun i v hv => ?_⟩ (fun k' f' d' vd' e => by cases e)
      · rw [List.length_set, D.dc.1, qq1 D.len, qq1 (set_lens D.len k _ (by simpa using hxl)), List.length_set]
      · rw [set_flat1 D.len hk hfl] at hv
        by_cases e : i = k * t.s + f
        · subst e
          rw [if_pos rfl] at hv; simp at hv; subst hv
          have hlt : k * t.s + f < fps.length := (List.getElem?_eq_some_iff.1 h2).1
          refine ⟨g.val d, g.fp d, hcell, by simp [hlt], .inr ⟨by simp, ?_⟩⟩
          simp only [CellD, mod_at hfl, ht]
          exact ⟨es', rfl, (hdr.le (Nat.le_max_right n m)).fits hf.set hf.heap (fun _ _ => rfl)⟩
        · rw [if_neg e] at hv
          obtain ⟨u', F', a1, a2, a3⟩ := D.dc.2 i v hv
          refine ⟨u', F', a1, by rw [List.getElem?_set_ne (Ne.symm e)]; exact a2, .inr ⟨by simp, ?_⟩⟩
          rcases a3 with ⟨a3, _⟩ | ⟨_, a3⟩
          · simp at a3; exact absurd a3.symm e
          · exact a3.fits hf.set hf.heap (fun t es u h => (h.le (Nat.le_max_left n m)).fits hf.set hf.heap (fun _ _ => rfl))
    · exact absurd hN e1
theorem HR.putDeep {w : World} {hp : Heap} {g : Gh} {id ver : Nat} {t : DTy} {es : List (List V)} {hh : Option (Nat × Nat × Nat × Nat)} {k f : Nat} {xs : List V} {v : V} {u : Value} {n b c : Nat} {cur : Array Value} {fps : List (List Nat)} (H : HR C w hp g) (ho : look hp id = some (ver, .deep t es hh)) (D : Dd C w hp g id t es hh n b c cur fps)
    (hk : es[k]? = some xs) (hfl : f < t.s) (ht : t.sub f = none) (hv : SR (XX C hp g w) w v u) :
    HR C (w.setRow b (cur.setIfInBounds (k * t.s + f) u)) ((id, some (ver, .deep t (es.set k (xs.set f v)) hh)) :: hp) g ∧ Fits g (XX C hp g w) w g (XX C ((id, some (ver, .deep t (es.set k (xs.set f v)) hh)) :: hp) g (w.setRow b (cur.setIfInBounds (k * t.s + f) u))) (w.setRow b (cur.setIfInBounds (k * t.s + f) u)) := by
  have hkl : k < es.length := (List.getElem?_eq_some_iff.1 hk).1
  have hxl : xs.length = t.s := D.len xs (List.mem_iff_getElem?.2 ⟨k, hk⟩)
  have hbf : b ∈ g.fp id := by rw [D.fp]; simp
  have hlk : ∀ {j : Nat} {io : Nat × Obj}, look ((id, some (ver, .deep t (es.set k (xs.set f v)) hh)) :: hp) j = some io → (j = id ∧ io = (ver, .deep t (es.set k (xs.set f v)) hh)) ∨ (j ≠ id ∧ look hp j = some io) := by
    intro j io hio
    rw [qju] at hio
    by_cases e1 : j = id
    · rw [if_pos e1] at hio; exact .inl ⟨e1, (Option.some.inj hio).symm⟩
    · rw [if_neg e1] at hio; exact .inr ⟨e1, hio⟩
  have hjc : k * t.s + f < cur.size := by
    have := Nat.mul_le_mul_right t.s (show k + 1 ≤ c from Nat.lt_of_lt_of_le hkl D.le)
    rw [Nat.succ_mul] at this
    rw [D.size]; omega
  have hset : ∀ x, x ≠ b → (w.setRow b (cur.setIfInBounds (k * t.s + f) u)).heap[x]? = w.heap[x]? := fun x hx => setRow_other w b x _ hx
  have hnb : ∀ x, x ∈ fps.flatten → x ≠ b := fun x hx e => by subst e; exact (List.nodup_cons.1 D.nd).1 hx
  refine H.chg (fun x => x ∈ g.fp id) (fun j => j = id) rfl rfl rfl (by simp [World.setRow]) (fun x hx => ⟨id, _, ho, hx⟩) (fun x hx hn => hset x (fun e => hn (by rw [e]; exact hbf))) (fun j => Nat.le_refl _) (fun j e => ⟨rfl, rfl, rfl⟩) (fun j io hj hN => ?_) (fun j io hj hN => ?_) (fun i j io jo hNi hNj hi hj hij x hx => absurd (hNi.trans hNj.symm) hij) (fun hf j vj o hN hj => ?_)
  · rcases hlk hj with ⟨e, _⟩ | ⟨e1, e3⟩
    · exact absurd e hN
    · exact ⟨e3, rfl, rfl, fun x hx hx2 => H.dis j id _ _ e3 ho e1 x hx hx2⟩
  · rcases hlk hj with ⟨rfl, rfl⟩ | ⟨e1, _⟩
    · refine ⟨H.cur _ _ _ ho, fun x hx => ?_⟩
      have := (H.blk _ _ x ho hx).1
      exact ⟨by simpa [World.setRow] using this, .inl hx⟩
    · exact absurd hN e1
  · rcases hlk hj with ⟨rfl, e⟩ | ⟨e1, _⟩
    · simp only [Prod.mk.injEq] at e; obtain ⟨_, rfl⟩ := e
      refine Dd.or (w := w) (hp := hp) (g := g) (n := n) (b := b) (c := c) (cur := cur.setIfInBounds (k * t.s + f) u) (fps := fps) (es := es) (set_lens D.len k _ (by simpa using hxl)) (D.val.trans (by simp)) D.blk D.sz D.fp D.nd (setRow_heap w b cur _ t.e _ D.heap) (by simpa using D.le) D.max (by simpa using D.size) ⟨?_, fun i v' hv' => ?_⟩ (fun k' f' d' vd' e => ?_)
      · rw [D.dc.1, qq1 D.len, qq1 (set_lens D.len k _ (by simpa using hxl)), List.length_set]
      · rw [set_flat1 D.len hk hfl] at hv'
        by_cases e : i = k * t.s + f
        · subst e
          rw [if_pos rfl] at hv'; simp at hv'; subst hv'
          have hjl := flat_lt D.len hkl hfl
          obtain ⟨u0, F0, a1, a2, a3⟩ := D.dc.2 _ _ (List.getElem?_eq_getElem hjl)
          refine ⟨u, [], by simp [hjc], ?_, .inr ⟨?_, ?_⟩⟩
          · rcases a3 with ⟨_, a3⟩ | ⟨_, a3⟩
            · rw [a3] at a2; exact a2
            · simp only [CellD, mod_at hfl, ht] at a3
              rw [a3.1] at a2; exact a2
          · intro e
            cases hh with
            | none => simp at e
            | some x =>
              obtain ⟨k', f', d', vd'⟩ := x
              simp at e
              obtain ⟨q1, q2, q3, _⟩ := D.hole k' f' d' vd' rfl
              have : f' = f := by
                have h1 := mod_at (k := k') q2
                rw [e, mod_at hfl] at h1; exact h1.symm
              subst this
              rw [ht] at q3; cases q3
          · simp only [CellD, mod_at hfl, ht]
            exact ⟨trivial, hv.fits hf.set hf.heap⟩
        · rw [if_neg e] at hv'
          obtain ⟨u', F', a1, a2, a3⟩ := D.dc.2 i v' hv'
          refine ⟨u', F', by rw [Array.getElem?_setIfInBounds, if_neg (Ne.symm e)]; exact a1, a2, a3.imp id fun k => ⟨k.1, ?_⟩⟩
          exact k.2.fits hf.set hf.heap (fun t es u h => h.fits hf.set hf.heap (fun x hx => hset x (hnb x (mem_fps a2 hx))))
      · obtain ⟨q1, q2, q3, q4, q5⟩ := D.hole k' f' d' vd' e
        refine ⟨by simpa using q1, q2, q3, q4, fun ev => ?_⟩
        rw [Array.getElem?_setIfInBounds, if_neg ?_]
        · exact q5 ev
        · intro e'
          have : f' = f := by
            have h1 := mod_at (k := k') q2
            rw [← e', mod_at hfl] at h1; exact h1.symm
          subst this
          rw [ht] at q3; cases q3
    · exact absurd hN e1
theorem HR.newDeep {w w1 : World} {hp hp' : Heap} {g : Gh} {i : Nat} {t : DTy} {es : List (List V)} {cur : Array Value} {c n : Nat} {fps : List (List Nat)} (T : Nat → Prop) (H : HR C w hp g) (h1 : w1.heap = w.heap) (h2 : w1.os = w.os) (h3 : w1.tape = w.tape) (h4 : w1.output = w.output)
    (hT : ∀ b, T b → ∃ j io, look hp j = some io ∧ b ∈ g.fp j) (hlk : ∀ j io, look hp' j = some io → j ≠ i → look hp j = some io ∧ ∀ b ∈ g.fp j, ¬ T b) (hi : look hp' i = some (g.cur i + 1, .deep t es none))
    (hfp : ∀ b ∈ fps.flatten, T b) (hnd : fps.flatten.Nodup) (hlen : ∀ x ∈ es, x.length = t.s) (hle : es.length ≤ c) (hmax : c ≤ maxLen) (hsize : cur.size = c * t.s) (hdc : DC (DR (XX C hp g w) w n) (XX C hp g w) w t none es cur fps) :
    HR C (w1.alloc (.cells cur t.e)) hp' (g.upd i (g.cur i + 1) (.slice (some ⟨w.heap.size, 0, none⟩) es.length c) (some w.heap.size) (w.heap.size :: fps.flatten) t.s) ∧
      Fits g (XX C hp g w) w (g.upd i (g.cur i + 1) (.slice (some ⟨w.heap.size, 0, none⟩) es.length c) (some w.heap.size) (w.heap.size :: fps.flatten) t.s) (XX C hp' (g.upd i (g.cur i + 1) (.slice (some ⟨w.heap.size, 0, none⟩) es.length c) (some w.heap.size) (w.heap.size :: fps.flatten) t.s) (w1.alloc (.cells cur t.e))) (w1.alloc (.cells cur t.e)) := by
  have hh : (w1.alloc (.cells cur t.e)).heap = w.heap.push (.cells cur t.e) := by rw [← h1]; rfl
  have hTs : ∀ b, T b → b < w.heap.size := fun b ht => let ⟨j, io, q1, q2⟩ := hT b ht; (H.blk j io b q1 q2).1
  have hold : ∀ b, b < w.heap.size → (w1.alloc (.cells cur t.e)).heap[b]? = w.heap[b]? := fun b hb => by rw [hh, Array.getElem?_push, if_neg (by omega)]
  generalize hG : g.upd i (g.cur i + 1) (.slice (some ⟨w.heap.size, 0, none⟩) es.length c) (some w.heap.size) (w.heap.size :: fps.flatten) t.s = G
  have gi : G.cur i = g.cur i + 1 ∧ G.val i = .slice (some ⟨w.heap.size, 0, none⟩) es.length c ∧ G.blk i = some w.heap.size ∧ G.fp i = w.heap.size :: fps.flatten ∧ G.sz i = t.s := by subst hG; simp [Gh.upd]
  have go : ∀ j, j ≠ i → G.cur j = g.cur j ∧ G.val j = g.val j ∧ G.blk j = g.blk j ∧ G.fp j = g.fp j ∧ G.sz j = g.sz j := by intro j hj; subst hG; exact Gh.upd_other j hj
  refine H.chg T (fun j => j = i) h2 h3 h4 (by rw [hh]; simp) hT (fun b hb _ => hold b hb) (fun j => ?_) (fun j e => ?_) (fun j io hj hN => ?_) (fun j io hj hN => ?_) (fun i' j io jo hNi hNj hi hj hij x hx => absurd (hNi.trans hNj.symm) hij) (fun hf j vj o hN hj => ?_)
  · by_cases e : j = i
    · subst e; rw [gi.1]; omega
    · rw [(go j e).1]; exact Nat.le_refl _
  · by_cases e1 : j = i
    · subst e1; rw [gi.1] at e; omega
    · obtain ⟨_, a1, a2, _, a3⟩ := go j e1; exact ⟨a1, a2, a3⟩
  · obtain ⟨a1, a2⟩ := hlk j io hj hN
    exact ⟨a1, (go j hN).1, (go j hN).2.2.2.1, a2⟩
  · subst hN
    rw [hi] at hj; obtain rfl := Option.some.inj hj
    refine ⟨gi.1, fun x hx => ?_⟩
    rw [gi.2.2.2.1] at hx
    rcases List.mem_cons.1 hx with rfl | hx
    · exact ⟨by rw [hh]; simp, .inr (Nat.le_refl _)⟩
    · have := hTs x (hfp x hx)
      exact ⟨by rw [hh]; simp; omega, .inl (hfp x hx)⟩
  · subst hN
    rw [hi] at hj; simp at hj; obtain ⟨_, rfl⟩ := hj
    refine Dd.or (w := w) (hp := hp) (g := g) (n := n) (b := w.heap.size) (c := c) (cur := cur) (fps := fps) (es := es) hlen gi.2.1 gi.2.2.1 gi.2.2.2.2 gi.2.2.2.1 (List.nodup_cons.2 ⟨fun hx => ?_, hnd⟩) (by rw [hh]; simp) hle hmax hsize ?_ (fun k' f' d' vd' e => by cases e)
    · have := hTs _ (hfp _ hx); omega
    · exact hdc.fits hf.set hf.heap (fun t F es u hs h => h.fits hf.set hf.heap (fun b hb => hold b (hTs b (hfp b (hs b hb)))))
theorem HR.wrDeep {w : World} {hp hp' : Heap} {g : Gh} {i : Nat} {ver v0 : Nat} {ob : Obj} {t : DTy} {es : List (List V)} {cur0 cur : Array Value} {b c n : Nat} {fps : List (List Nat)} (T : Nat → Prop) (H : HR C w hp g) (hib : b ∈ g.fp i) (ho : look hp i = some (v0, ob)) (hc0 : w.heap[b]? = some (.cells cur0 t.e (0, 0))) (hver : g.cur i ≤ ver)
    (hval : ver = g.cur i → g.val i = .slice (some ⟨b, 0, none⟩) es.length c) (hblk : g.blk i = some b) (hsz : g.sz i = t.s)
    (hT : ∀ b, T b → ∃ j io, look hp j = some io ∧ b ∈ g.fp j) (hTi : ∀ x ∈ g.fp i, T x) (hlk : ∀ j io, look hp' j = some io → j ≠ i → look hp j = some io ∧ ∀ b ∈ g.fp j, ¬ T b) (hi : look hp' i = some (ver, .deep t es none))
    (hfp : ∀ b ∈ fps.flatten, T b) (hnd : (b :: fps.flatten).Nodup) (hlen : ∀ x ∈ es, x.length = t.s) (hle : es.length ≤ c) (hmax : c ≤ maxLen) (hsize : cur.size = c * t.s) (hdc : DC (DR (XX C hp g w) w n) (XX C hp g w) w t none es cur fps) :
    HR C (w.setRow b cur) hp' (g.upd i ver (.slice (some ⟨b, 0, none⟩) es.length c) (some b) (b :: fps.flatten) t.s) ∧
      Fits g (XX C hp g w) w (g.upd i ver (.slice (some ⟨b, 0, none⟩) es.length c) (some b) (b :: fps.flatten) t.s) (XX C hp' (g.upd i ver (.slice (some ⟨b, 0, none⟩) es.length c) (some b) (b :: fps.flatten) t.s) (w.setRow b cur)) (w.setRow b cur) := by
  have hTs : ∀ b, T b → b < w.heap.size := fun b ht => let ⟨j, io, q1, q2⟩ := hT b ht; (H.blk j io b q1 q2).1
  have hset : ∀ x, x ≠ b → (w.setRow b cur).heap[x]? = w.heap[x]? := fun x hx => setRow_other w b x _ hx
  have hss : (w.setRow b cur).heap.size = w.heap.size := by simp [World.setRow]
  have hnb : ∀ x, x ∈ fps.flatten → x ≠ b := fun x hx e => by subst e; exact (List.nodup_cons.1 hnd).1 hx
  generalize hG : g.upd i ver (.slice (some ⟨b, 0, none⟩) es.length c) (some b) (b :: fps.flatten) t.s = G
  have gi : G.cur i = ver ∧ G.val i = .slice (some ⟨b, 0, none⟩) es.length c ∧ G.blk i = some b ∧ G.fp i = b :: fps.flatten ∧ G.sz i = t.s := by subst hG; simp [Gh.upd]
  have go : ∀ j, j ≠ i → G.cur j = g.cur j ∧ G.val j = g.val j ∧ G.blk j = g.blk j ∧ G.fp j = g.fp j ∧ G.sz j = g.sz j := by intro j hj; subst hG; exact Gh.upd_other j hj
  refine H.chg T (fun j => j = i) rfl rfl rfl (by rw [hss]; exact Nat.le_refl _) hT (fun x hx hn => hset x (fun e => hn (by rw [e]; exact hTi b hib))) (fun j => ?_) (fun j e => ?_) (fun j io hj hN => ?_) (fun j io hj hN => ?_) (fun i' j io jo hNi hNj hi hj hij x hx => absurd (hNi.trans hNj.symm) hij) (fun hf j vj o hN hj => ?_)
  · by_cases e : j = i
    · subst e; rw [gi.1]; exact hver
    · rw [(go j e).1]; exact Nat.le_refl _
  · by_cases e1 : j = i
    · subst e1; rw [gi.1] at e; exact ⟨gi.2.1.trans (hval e.symm).symm, gi.2.2.1.trans hblk.symm, gi.2.2.2.2.trans hsz.symm⟩
    · obtain ⟨_, a1, a2, _, a3⟩ := go j e1; exact ⟨a1, a2, a3⟩
  · obtain ⟨a1, a2⟩ := hlk j io hj hN
    exact ⟨a1, (go j hN).1, (go j hN).2.2.2.1, a2⟩
  · subst hN
    rw [hi] at hj; obtain rfl := Option.some.inj hj
    refine ⟨gi.1, fun x hx => ?_⟩
    rw [gi.2.2.2.1] at hx
    have : T x := by
      rcases List.mem_cons.1 hx with rfl | hx
      · exact hTi _ hib
      · exact hfp x hx
    exact ⟨by rw [hss]; exact hTs x this, .inl this⟩
  · subst hN
    rw [hi] at hj; simp at hj; obtain ⟨_, rfl⟩ := hj
    refine Dd.or (w := w) (hp := hp) (g := g) (n := n) (b := b) (c := c) (cur := cur) (fps := fps) (es := es) hlen gi.2.1 gi.2.2.1 gi.2.2.2.2 gi.2.2.2.1 hnd (setRow_heap w b cur0 _ t.e _ hc0) hle hmax hsize ?_ (fun k' f' d' vd' e => by cases e)
    exact hdc.fits hf.set hf.heap (fun t F es u hs h => h.fits hf.set hf.heap (fun x hx => hset x (hnb x (hs x hx))))
theorem CellD.mod {R : DTy → List Nat → List (List V) → Value → Prop} {X : Nat → Prop} {w : World} {t : DTy} {j j' : Nat} {v : V} {u : Value} {F : List Nat} (h : CellD R X w t j v u F) (e : j % t.s = j' % t.s) : CellD R X w t j' v u F := by
  unfold CellD at *; rw [← e]; exact h
theorem DC.append {R : DTy → List Nat → List (List V) → Value → Prop} {X : Nat → Prop} {w : World} {t : DTy} {es es2 : List (List V)} {cur cur1 cur2 : Array Value} {fps fps2 : List (List Nat)} (hl : ∀ x ∈ es, x.length = t.s) (h1 : DC R X w t none es cur1 fps) (h2 : DC R X w t none es2 cur2 fps2)
    (e1 : ∀ j, j < es.flatten.length → cur[j]? = cur1[j]?) (e2 : ∀ j, j < es2.flatten.length → cur[es.flatten.length + j]? = cur2[j]?) : DC R X w t none (es ++ es2) cur (fps ++ fps2) := by
  have hfl := qq1 hl
  refine ⟨by simp [h1.1, h2.1], fun j v hj => ?_⟩
  rw [List.flatten_append] at hj
  by_cases e : j < es.flatten.length
  · rw [List.getElem?_append_left e] at hj
    obtain ⟨u, F, a1, a2, a3⟩ := h1.2 j v hj
    exact ⟨u, F, by rw [e1 j e]; exact a1, by rw [List.getElem?_append_left (by rw [h1.1]; exact e)]; exact a2, a3⟩
  · rw [List.getElem?_append_right (by omega)] at hj
    obtain ⟨u, F, a1, a2, a3⟩ := h2.2 _ v hj
    have hlt := (List.getElem?_eq_some_iff.1 hj).1
    refine ⟨u, F, ?_, ?_, a3.imp (fun k => by cases k.1) (fun k => ⟨by simp, k.2.mod ?_⟩)⟩
    · rw [← a1, ← e2 _ hlt]; congr 1; omega
    · rw [List.getElem?_append_right (by rw [h1.1]; omega), h1.1]; exact a2
    · rw [hfl]
      have : j = es.length * t.s + (j - es.length * t.s) := by omega
      conv => rhs; rw [this]
      rw [Nat.mul_comm, Nat.mul_add_mod]
def Eat (hp : Heap) (t : DTy) : Nat → List V → List V → List Nat → Prop
  | f, y :: ys, z :: zs, rs => match t.sub f with
    | none => z = y ∧ lf y = true ∧ shl y = true ∧ Eat hp t (f + 1) ys zs rs
    | some t' => (∃ r vr es' rs', y = .own r vr ∧ look hp r = some (vr, objOf t' es') ∧ z = .sl es' ∧ rs = r :: rs' ∧ Eat hp t (f + 1) ys zs rs') ∨ (y = .p (.slice none 0 0) ∧ z = .sl [] ∧ Eat hp t (f + 1) ys zs rs)
  | _, [], [], rs => rs = []
  | _, _, _, _ => False
theorem Eat.cells {w : World} {hp : Heap} {g : Gh} (H : HR C w hp g) {t : DTy} : ∀ {ys zs : List V} {rs : List Nat} {us : List Value} {f : Nat}, Eat hp t f ys zs rs → f + ys.length ≤ t.s → us.length = ys.length →
    (∀ (i : Nat) (v : V) (u : Value), ys[i]? = some v → us[i]? = some u → VR g (XX C hp g w) w v u) →
    ∃ (n : Nat) (Fs : List (List Nat)), Fs.length = ys.length ∧ zs.length = ys.length ∧ Fs.flatten = rs.flatMap g.fp ∧ (∀ u ∈ us, u.oneCell' = true) ∧ ∀ (i : Nat) (z : V), zs[i]? = some z → ∃ u F, us[i]? = some u ∧ Fs[i]? = some F ∧ CellD (DR (XX C hp g w) w n) (XX C hp g w) w t (f + i) z u F
  | [], [], rs, us, f, h, _, hl, _ => by
    simp only [Eat] at h; subst h
    exact ⟨0, [], rfl, rfl, rfl, fun u hu => by rw [List.length_nil] at hl; rw [List.length_eq_zero_iff.1 hl] at hu; simp at hu, fun i z hz => by simp at hz⟩
  | [], z :: zs, _, _, _, h, _, _, _ => by simp [Eat] at h
  | y :: ys, [], _, _, _, h, _, _, _ => by simp [Eat] at h
  | y :: ys, z :: zs, rs, [], f, h, _, hl, _ => by simp at hl
  | y :: ys, z :: zs, rs, u :: us, f, h, hf, hl, hv => by
    simp only [List.length_cons] at hf hl
    have hu0 := hv 0 y u rfl rfl
    have hv' : ∀ (i : Nat) (v : V) (u : Value), ys[i]? = some v → us[i]? = some u → VR g (XX C hp g w) w v u := fun i v u' h1 h2 => hv (i + 1) v u' (by simpa using h1) (by simpa using h2)
    have hfs : f % t.s = f := Nat.mod_eq_of_lt (by omega)
    have put : ∀ {n : Nat} {Fs : List (List Nat)} {F : List Nat} {m : Nat}, (∀ (i : Nat) (z : V), zs[i]? = some z → ∃ u F, us[i]? = some u ∧ Fs[i]? = some F ∧ CellD (DR (XX C hp g w) w n) (XX C hp g w) w t (f + 1 + i) z u F) → CellD (DR (XX C hp g w) w m) (XX C hp g w) w t f z u F →
        ∀ (i : Nat) (z' : V), (z :: zs)[i]? = some z' → ∃ u' F', (u :: us)[i]? = some u' ∧ (F :: Fs)[i]? = some F' ∧ CellD (DR (XX C hp g w) w (max n m)) (XX C hp g w) w t (f + i) z' u' F' := by
      intro n Fs F m h1 h2 i z' hz
      cases i with
      | zero =>
        simp at hz; subst hz
        exact ⟨u, F, rfl, rfl, h2.fits (fun _ h => h) (fun _ _ => rfl) (fun t es u h => h.le (Nat.le_max_right n m))⟩
      | succ i =>
        obtain ⟨u', F', a1, a2, a3⟩ := h1 i z' (by simpa using hz)
        exact ⟨u', F', by simpa using a1, by simpa using a2, by rw [show f + (i + 1) = f + 1 + i from by omega]; exact a3.fits (fun _ h => h) (fun _ _ => rfl) (fun t es u h => h.le (Nat.le_max_left n m))⟩
    simp only [Eat] at h
    cases ht : t.sub f with
    | none =>
      rw [ht] at h
      obtain ⟨rfl, h1, h2, h3⟩ := h
      obtain ⟨n, Fs, k1, k2, k3, k4, k5⟩ := Eat.cells H h3 (by omega) (by omega) hv'
      refine ⟨max n 0, [] :: Fs, by simp [k1], by simp [k2], by simp [k3], fun x hx => ?_, put (m := 0) k5 ?_⟩
      · rcases List.mem_cons.1 hx with rfl | hx
        · exact hu0.one h1
        · exact k4 x hx
      · simp only [CellD, hfs, ht]; exact ⟨trivial, hu0.shr h2⟩
    | some t' =>
      rw [ht] at h
      rcases h with ⟨r, vr, es', rs', rfl, h1, rfl, rfl, h3⟩ | ⟨rfl, rfl, h3⟩
      · obtain ⟨n, Fs, k1, k2, k3, k4, k5⟩ := Eat.cells H h3 (by omega) (by omega) hv'
        obtain ⟨m, hd, _⟩ := OR_obj (H.obj r vr _ h1)
        have hc := H.cur r vr _ h1
        have hu : u = g.val r := by
          cases hu0 with
          | sh h => cases h
          | own _ _ _ _ _ h => exact h hc.symm
        refine ⟨max n m, g.fp r :: Fs, by simp [k1], by simp [k2], by simp [k3], fun x hx => ?_, put (m := m) k5 ?_⟩
        · rcases List.mem_cons.1 hx with rfl | hx
          · rw [hu]; exact hd.one
          · exact k4 x hx
        · simp only [CellD, hfs, ht]; exact ⟨es', rfl, hu ▸ hd⟩
      · obtain ⟨n, Fs, k1, k2, k3, k4, k5⟩ := Eat.cells H h3 (by omega) (by omega) hv'
        have hu := hu0.plain
        refine ⟨max n 1, [] :: Fs, by simp [k1], by simp [k2], by simp [k3], fun x hx => ?_, put (m := 1) k5 ?_⟩
        · rcases List.mem_cons.1 hx with rfl | hx
          · rw [hu]; rfl
          · exact k4 x hx
        · simp only [CellD, hfs, ht]; exact ⟨[], rfl, fun x hx => by simp at hx, .inl ⟨rfl, hu, rfl⟩⟩
theorem Eat.live {hp : Heap} {t : DTy} : ∀ {ys zs : List V} {rs : List Nat} {f : Nat}, Eat hp t f ys zs rs → ∀ r ∈ rs, ∃ vr t' es', look hp r = some (vr, objOf t' es')
  | [], [], rs, f, h, r, hr => by simp only [Eat] at h; subst h; simp at hr
  | [], z :: zs, _, _, h, _, _ => by simp [Eat] at h
  | y :: ys, [], _, _, h, _, _ => by simp [Eat] at h
  | y :: ys, z :: zs, rs, f, h, r, hr => by
    simp only [Eat] at h
    cases ht : t.sub f with
    | none => rw [ht] at h; exact Eat.live h.2.2.2 r hr
    | some t' =>
      rw [ht] at h
      rcases h with ⟨r', vr, es', rs', rfl, h1, rfl, rfl, h3⟩ | ⟨rfl, rfl, h3⟩
      · rcases List.mem_cons.1 hr with rfl | hr
        · exact ⟨vr, t', es', h1⟩
        · exact Eat.live h3 r hr
      · exact Eat.live h3 r hr
theorem eat_nodup {w : World} {hp : Heap} {g : Gh} (H : HR C w hp g) : ∀ {rs : List Nat}, (∀ r ∈ rs, ∃ vr t' es', look hp r = some (vr, objOf t' es')) → rs.Nodup → (rs.flatMap g.fp).Nodup
  | [], _, _ => by simp
  | r :: rs, hl, hn => by
    rw [List.nodup_cons] at hn
    obtain ⟨vr, t', es', h1⟩ := hl r (by simp)
    obtain ⟨m, _, hd⟩ := OR_obj (H.obj r vr _ h1)
    rw [List.flatMap_cons, List.nodup_append]
    refine ⟨hd, eat_nodup H (fun r hr => hl r (by simp [hr])) hn.2, fun x hx y hy e => ?_⟩
    subst e
    obtain ⟨r', hr', hx'⟩ := List.mem_flatMap.1 hy
    obtain ⟨vr', t'', es'', h2⟩ := hl r' (by simp [hr'])
    exact H.dis r r' _ _ h1 h2 (fun e => hn.1 (by rw [e]; exact hr')) x hx hx'
theorem look_drops {hp : Heap} : ∀ {rs : List Nat} {j : Nat}, look (rs.map (fun r => (r, none)) ++ hp) j = if j ∈ rs then none else look hp j
  | [], j => by simp
  | r :: rs, j => by
    simp only [List.map_cons, List.cons_append]
    rw [qju, look_drops]
    by_cases e : j = r
    · simp [e]
    · simp [e]
theorem HR.oneDeep {w : World} {hp : Heap} {g : Gh} {d : Nat} {t : DTy} {ys zs : List V} {rs : List Nat} {us : Array Value} (H : HR C w hp g) (he : Eat hp t 0 ys zs rs) (hrs : rs.Nodup) (hyl : ys.length = t.s) (hul : us.size = ys.length) (hv : ∀ (i : Nat) (v : V) (u : Value), ys[i]? = some v → us[i]? = some u → VR g (XX C hp g w) w v u) :
    ∃ g', HR C (w.alloc (.cells us t.e)) ((d, some (g.cur d + 1, .deep t [zs] none)) :: (rs.map (fun r => (r, none)) ++ hp)) g' ∧ Fits g (XX C hp g w) w g' (XX C ((d, some (g.cur d + 1, .deep t [zs] none)) :: (rs.map (fun r => (r, none)) ++ hp)) g' (w.alloc (.cells us t.e))) (w.alloc (.cells us t.e)) ∧
      g'.cur d = g.cur d + 1 ∧ g'.val d = .slice (some ⟨w.heap.size, 0, none⟩) 1 1 ∧ (∀ j, j ≠ d → g'.cur j = g.cur j) := by
  obtain ⟨n, Fs, k1, k2, k3, k4, k5⟩ := he.cells H (by omega) (us := us.toList) (by simpa using hul) (fun i v u h1 h2 => hv i v u h1 (by simpa using h2))
  have hlive := he.live
  have hnd := eat_nodup H hlive hrs
  have hgo := H.newDeep (w1 := w) (hp' := (d, some (g.cur d + 1, .deep t [zs] none)) :: (rs.map (fun r => (r, none)) ++ hp)) (i := d) (t := t) (es := [zs]) (cur := us) (c := 1) (n := n) (fps := Fs) (fun b => b ∈ rs.flatMap g.fp) rfl rfl rfl rfl
    (fun b hb => let ⟨r, hr, hb'⟩ := List.mem_flatMap.1 hb; let ⟨vr, t', es', h1⟩ := hlive r hr; ⟨r, _, h1, hb'⟩)
    (fun j io hj hne => by
      rw [qju, if_neg hne, look_drops] at hj
      split at hj
      · cases hj
      · rename_i hjr
        refine ⟨hj, fun b hb hb2 => ?_⟩
        obtain ⟨r, hr, hb'⟩ := List.mem_flatMap.1 hb2
        obtain ⟨vr, t', es', h1⟩ := hlive r hr
        exact H.dis j r _ _ hj h1 (fun e => hjr (by rw [e]; exact hr)) b hb hb')
    (by rw [qju, if_pos rfl]) (fun b hb => by rw [← k3]; exact hb) (by rw [k3]; exact hnd) (by simp; omega) (Nat.le_refl _) (by unfold maxLen; omega) (by omega)
    ⟨by simp [k1, k2], fun j v hj => by
      simp only [List.flatten_cons, List.flatten_nil, List.append_nil] at hj
      obtain ⟨u, F, a1, a2, a3⟩ := k5 j v hj
      exact ⟨u, F, by simpa using a1, a2, .inr ⟨by simp, by simpa using a3⟩⟩⟩
  exact ⟨_, hgo.1, hgo.2, by simp [Gh.upd], by simp [Gh.upd], fun j hj => by simp [Gh.upd, hj]⟩
theorem HR.elDeep {w : World} {hp : Heap} {g : Gh} {id ver : Nat} {t : DTy} {es : List (List V)} {k n0 b c : Nat} {cur : Array Value} {fps : List (List Nat)} {ys zs : List V} {rs : List Nat} {us : List Value} {hh : Option (Nat × Nat × Nat × Nat)} (H : HR C w hp g) (ho : look hp id = some (ver, .deep t es hh)) (hhk : ∀ k' f' d' v', hh = some (k', f', d', v') → k' = k) (D : Dd C w hp g id t es hh n0 b c cur fps) (hk : k < es.length)
    (he : Eat hp t 0 ys zs rs) (hrs : rs.Nodup) (hid : id ∉ rs) (hyl : ys.length = t.s) (hul : us.length = ys.length) (hv : ∀ (i : Nat) (v : V) (u : Value), ys[i]? = some v → us[i]? = some u → VR g (XX C hp g w) w v u) :
    ∃ g', HR C (w.setRow b (cur.toList.take (k * t.s) ++ us ++ cur.toList.drop (k * t.s + us.length)).toArray) ((id, some (ver, .deep t (es.set k zs) none)) :: (rs.map (fun r => (r, none)) ++ hp)) g' ∧
      Fits g (XX C hp g w) w g' (XX C ((id, some (ver, .deep t (es.set k zs) none)) :: (rs.map (fun r => (r, none)) ++ hp)) g' (w.setRow b (cur.toList.take (k * t.s) ++ us ++ cur.toList.drop (k * t.s + us.length)).toArray)) (w.setRow b (cur.toList.take (k * t.s) ++ us ++ cur.toList.drop (k * t.s + us.length)).toArray) ∧ (∀ j, g'.cur j = g.cur j) ∧ ∀ u ∈ us, u.oneCell' = true := by
  obtain ⟨n, Fs, k1, k2, k3, k4, k5⟩ := he.cells H (by omega) hul hv
  have hlive := he.live
  have hnd := eat_nodup H hlive hrs
  have hcd := H.cur id ver _ ho
  have hsk : ∀ j, hh.map (fun x => x.1 * t.s + x.2.1) = some j → k * t.s ≤ j ∧ j < k * t.s + t.s := by
    intro j e
    cases hh with
    | none => simp at e
    | some x =>
      obtain ⟨k', f', d', v'⟩ := x
      obtain rfl := hhk k' f' d' v' rfl
      have := (D.hole _ f' d' v' rfl).2.1
      simp at e; omega
  have hfl := qq1 D.len
  have hks : k * t.s + t.s ≤ es.length * t.s := by
    have := Nat.mul_le_mul_right t.s (show k + 1 ≤ es.length from hk)
    rwa [Nat.succ_mul] at this
  have hcs : es.length * t.s ≤ c * t.s := Nat.mul_le_mul_right _ D.le
  have hfpl : fps.length = es.length * t.s := by rw [D.dc.1, hfl]
  have hzl : zs.length = t.s := by omega
  have hlenS := set_lens D.len k zs hzl
  have hsub : List.Sublist ((fps.take (k * t.s)).flatten ++ (fps.drop (k * t.s + t.s)).flatten) fps.flatten := by
    have e1 : fps = fps.take (k * t.s) ++ fps.drop (k * t.s) := (List.take_append_drop _ _).symm
    have e2 : fps.flatten = (fps.take (k * t.s)).flatten ++ (fps.drop (k * t.s)).flatten := by rw [← List.flatten_append, List.take_append_drop]
    rw [e2]
    refine List.Sublist.append_left ?_ _
    rw [← List.drop_drop]
    have e3 : (fps.drop (k * t.s)).flatten = ((fps.drop (k * t.s)).take t.s).flatten ++ ((fps.drop (k * t.s)).drop t.s).flatten := by rw [← List.flatten_append, List.take_append_drop]
    rw [e3]; exact List.sublist_append_right _ _
  have hperm : List.Perm (fps.take (k * t.s) ++ Fs ++ fps.drop (k * t.s + t.s)).flatten (((fps.take (k * t.s)).flatten ++ (fps.drop (k * t.s + t.s)).flatten) ++ Fs.flatten) := by
    simp only [List.flatten_append, List.append_assoc]
    exact List.Perm.append_left _ List.perm_append_comm
  have hmem : ∀ x, x ∈ (fps.take (k * t.s) ++ Fs ++ fps.drop (k * t.s + t.s)).flatten → x ∈ fps.flatten ∨ x ∈ rs.flatMap g.fp := fun x hx => by
    have := hperm.mem_iff.1 hx
    rw [List.mem_append, k3] at this
    exact this.imp (fun h => hsub.subset h) (fun h => h)
  have hapart : ∀ x, x ∈ g.fp id → x ∉ rs.flatMap g.fp := fun x hx hx2 => by
    obtain ⟨r, hr, hb'⟩ := List.mem_flatMap.1 hx2
    obtain ⟨vr, t', es', h1⟩ := hlive r hr
    exact H.dis id r _ _ ho h1 (fun e => hid (by rw [e]; exact hr)) x hx hb'
  have hndA : (b :: (fps.take (k * t.s) ++ Fs ++ fps.drop (k * t.s + t.s)).flatten).Nodup := by
    have hD := List.nodup_cons.1 D.nd
    refine List.nodup_cons.2 ⟨fun hx => ?_, ?_⟩
    · rcases hmem b hx with h | h
      · exact hD.1 h
      · exact hapart b (by rw [D.fp]; simp) h
    · rw [List.Perm.nodup_iff hperm, List.nodup_append, k3]
      exact ⟨hD.2.sublist hsub, hnd, fun x hx y hy e => by subst e; exact hapart x (by rw [D.fp]; exact List.mem_cons_of_mem _ (hsub.subset hx)) hy⟩
  have hus : us.length = t.s := by omega
  have hcl : cur.toList.length = c * t.s := by rw [Array.length_toList]; exact D.size
  have hgo := H.wrDeep (hp' := (id, some (ver, .deep t (es.set k zs) none)) :: (rs.map (fun r => (r, none)) ++ hp)) (i := id) (ver := ver) (t := t) (es := es.set k zs) (cur0 := cur) (cur := (cur.toList.take (k * t.s) ++ us ++ cur.toList.drop (k * t.s + us.length)).toArray) (b := b) (c := c) (n := max n0 n) (fps := fps.take (k * t.s) ++ Fs ++ fps.drop (k * t.s + t.s)) (fun x => x ∈ g.fp id ∨ x ∈ rs.flatMap g.fp)
    (by rw [D.fp]; simp) ho D.heap (by omega) (fun _ => by rw [D.val]; simp) D.blk D.sz
    (fun x hx => hx.elim (fun hx => ⟨id, _, ho, hx⟩) (fun hx => let ⟨r, hr, hb'⟩ := List.mem_flatMap.1 hx; let ⟨vr, t', es', h1⟩ := hlive r hr; ⟨r, _, h1, hb'⟩)) (fun x hx => .inl hx)
    (fun j io hj hne => by
      rw [qju, if_neg hne, look_drops] at hj
      split at hj
      · cases hj
      · rename_i hjr
        refine ⟨hj, fun x hx hx2 => ?_⟩
        rcases hx2 with hx2 | hx2
        · exact H.dis j id _ _ hj ho hne x hx hx2
        · obtain ⟨r, hr, hb'⟩ := List.mem_flatMap.1 hx2
          obtain ⟨vr, t', es', h1⟩ := hlive r hr
          exact H.dis j r _ _ hj h1 (fun e => hjr (by rw [e]; exact hr)) x hx hb')
    (by rw [qju, if_pos rfl]) (fun x hx => (hmem x hx).imp (fun h => by rw [D.fp]; exact List.mem_cons_of_mem _ h) (fun h => h)) hndA hlenS (by simpa using D.le) D.max (by simp only [List.size_toArray, List.length_append, List.length_take, List.length_drop, hcl, hus]; omega)
    ⟨by simp only [List.length_append, List.length_take, List.length_drop, k1, hfpl, qq1 hlenS, List.length_set]; omega, fun j v hj => by
      rw [set_flat D.len hk hzl] at hj
      rw [show fps.drop (k * t.s + t.s) = fps.drop (k * t.s + Fs.length) from by rw [k1, hyl]]
      rw [List.getElem?_toArray, get_seg (by rw [hcl, hus]; omega), get_seg (by rw [hfpl, k1, hyl]; omega), hus, k1, hyl]
      by_cases e1 : j < k * t.s
      · rw [if_pos e1] at hj ⊢
        rw [if_pos e1]
        obtain ⟨u, F, a1, a2, a3⟩ := D.dc.2 j v hj
        exact ⟨u, F, by simpa using a1, a2, a3.imp (fun k => absurd (hsk j k.1) (by omega)) (fun k => ⟨by simp, k.2.fits (fun _ h => h) (fun _ _ => rfl) (fun t es u h => h.le (Nat.le_max_left n0 n))⟩)⟩
      · rw [if_neg e1] at hj ⊢
        rw [if_neg e1]
        by_cases e2 : j < k * t.s + t.s
        · rw [if_pos e2] at hj ⊢
          rw [if_pos e2]
          obtain ⟨u, F, a1, a2, a3⟩ := k5 _ v hj
          refine ⟨u, F, a1, a2, .inr ⟨by simp, ?_⟩⟩
          refine CellD.mod (j := 0 + (j - k * t.s)) (a3.fits (fun _ h => h) (fun _ _ => rfl) (fun t es u h => h.le (Nat.le_max_right n0 n))) ?_
          have : j = k * t.s + (j - k * t.s) := by omega
          conv => rhs; rw [this]
          rw [mod_at (by omega), Nat.zero_add]; exact Nat.mod_eq_of_lt (by omega)
        · rw [if_neg e2] at hj ⊢
          rw [if_neg e2]
          obtain ⟨u, F, a1, a2, a3⟩ := D.dc.2 j v hj
          exact ⟨u, F, by simpa using a1, a2, a3.imp (fun k => absurd (hsk j k.1) (by omega)) (fun k => ⟨by simp, k.2.fits (fun _ h => h) (fun _ _ => rfl) (fun t es u h => h.le (Nat.le_max_left n0 n))⟩)⟩⟩
  refine ⟨_, hgo.1, hgo.2, fun j => ?_, k4⟩
  simp only [Gh.upd]
  split
  · rename_i e; subst e; exact hcd.symm
  · rfl
end
end Go.Ab
/- The operations on rows with rows of their own. -/
set_option linter.unusedSimpArgs false
set_option linter.unusedVariables false
namespace Go.Ab
section
variable {C : Ctx}
theorem appDeep {tt e' bytes : TypeId} {z : Value} {hp : Heap} {g : Gh} {w : World} {id id2 ver0 ver2 : Nat} {t : DTy} {es es2 : List (List V)} (H : HR C w hp g) (hne : id ≠ id2) (ht : SlT C.P tt t.e t.s) (hz : ElT C.P t.e t.s bytes z) (hzsz : z.cells.size = t.s)
    (ho : look hp id = some (ver0, .deep t es none)) (ho2 : look hp id2 = some (ver2, .deep t es2 none)) (hl2 : es2.flatten.all lf = true) (h2 : 0 < es2.length) (hm : es.length + es2.length ≤ maxLen) (hb : (es.length + es2.length) * bytes ≤ 140737488355328) :
    ∃ u' w' g', (Builtin.append_ #[tt, tt] e' #[g.val id, g.val id2]).run C.P w = .ok u' w' ∧ HR C w' ((id, some (g.cur id + 1, .deep t (es ++ es2) none)) :: (id2, none) :: hp) g' ∧ Fits g (XX C hp g w) w g' (XX C ((id, some (g.cur id + 1, .deep t (es ++ es2) none)) :: (id2, none) :: hp) g' w') w' ∧
      g'.cur id = g.cur id + 1 ∧ g'.val id = u' ∧ u'.oneCell' = true ∧ (∀ j, j ≠ id → g'.cur j = g.cur j) := by
  obtain ⟨n2, b2, c2, cur2, fps2, D2⟩ := H.dd ho2 h2
  obtain ⟨ii, hi1, hi2, hi3, hi4⟩ := info_parts hz
  obtain ⟨ht1, ht2⟩ := ht
  have hmm := hm
  unfold maxLen at hmm
  have hf2 := qq1 D2.len
  have hcl2 : cur2.toList.length = c2 * t.s := by rw [Array.length_toList]; exact D2.size
  have hle2 : es2.length * t.s ≤ c2 * t.s := Nat.mul_le_mul_right _ D2.le
  let cs : List Value := cur2.toList.take (es2.length * t.s)
  have hcs : cs.length = es2.length * t.s := by simp only [cs, List.length_take, hcl2]; omega
  have hcsat : ∀ j, j < es2.flatten.length → cs[j]? = cur2[j]? := fun j hj => by
    simp only [cs]; rw [List.getElem?_take, if_pos (by omega)]; simp
  have hcell : ∀ (j : Nat) (v : Value), cs[j]? = some v → w.cell? ((⟨b2, 0, none⟩ : Addr).add j) = some v := fun j v hv => by
    rw [qz2, Nat.zero_add, cellOf D2.heap]
    have hj : j < es2.flatten.length := by rw [hf2, ← hcs]; exact (List.getElem?_eq_some_iff.1 hv).1
    rw [← hcsat j hj]; exact hv
  have hone : ∀ u ∈ cs, u.oneCell' = true := by
    intro u hu
    obtain ⟨j, hj⟩ := List.mem_iff_getElem?.1 hu
    have hjl : j < es2.flatten.length := by rw [hf2, ← hcs]; exact (List.getElem?_eq_some_iff.1 hj).1
    obtain ⟨u', F, a1, _, a3⟩ := D2.dc.2 j es2.flatten[j] (List.getElem?_eq_getElem hjl)
    rw [hcsat j hjl, a1] at hj; obtain rfl := Option.some.inj hj
    rcases a3 with ⟨a3, _⟩ | ⟨_, a3⟩
    · cases a3
    · cases e : t.sub (j % t.s) with
      | some t' => simp only [CellD, e] at a3; obtain ⟨_, _, a4⟩ := a3; exact a4.one
      | none => simp only [CellD, e] at a3; exact a3.2.one (List.all_eq_true.1 hl2 _ (List.getElem_mem hjl))
  obtain ⟨h0, h1, ⟨n1, hl1, hd⟩, h3, _⟩ := H.obj id ver0 _ ho
  have hlenA : ∀ x ∈ es ++ es2, x.length = t.s := fun x hx => (List.mem_append.1 hx).elim (hl1 x) (D2.len x)
  have hdd : ∀ x ∈ g.fp id, x ∉ g.fp id2 := fun x hx => H.dis id id2 _ _ ho ho2 hne x hx
  have hnd2 := List.nodup_cons.1 D2.nd
  have hf2sub : ∀ x ∈ fps2.flatten, x ∈ g.fp id2 := fun x hx => by rw [D2.fp]; exact List.mem_cons_of_mem _ hx
  have hTl : ∀ b, (b ∈ g.fp id ∨ b ∈ g.fp id2) → ∃ j io, look hp j = some io ∧ b ∈ g.fp j := fun x hx => hx.elim (fun hx => ⟨id, _, ho, hx⟩) (fun hx => ⟨id2, _, ho2, hx⟩)
  have hlk : ∀ j io, look ((id, some (g.cur id + 1, .deep t (es ++ es2) none)) :: (id2, none) :: hp) j = some io → j ≠ id → look hp j = some io ∧ ∀ b ∈ g.fp j, ¬ (b ∈ g.fp id ∨ b ∈ g.fp id2) := by
    intro j io hj hji
    rw [qju, if_neg hji, qju] at hj
    split at hj
    · cases hj
    · rename_i hj2
      exact ⟨hj, fun b hb hb2 => hb2.elim (fun h => H.dis j id _ _ hj ho hji b hb h) (fun h => H.dis j id2 _ _ hj ho2 hj2 b hb h)⟩
  have hi : look ((id, some (g.cur id + 1, Obj.deep t (es ++ es2) none)) :: (id2, none) :: hp) id = some (g.cur id + 1, .deep t (es ++ es2) none) := by rw [qju, if_pos rfl]
  have fin : ∀ {w' : World} {u' : Value} {ver : Nat} {bl : Option Nat} {F : List Nat}, ver = g.cur id + 1 → u'.oneCell' = true → (g.upd id ver u' bl F t.s).cur id = g.cur id + 1 ∧ (g.upd id ver u' bl F t.s).val id = u' ∧ u'.oneCell' = true ∧ (∀ j, j ≠ id → (g.upd id ver u' bl F t.s).cur j = g.cur j) := by
    intro w' u' ver bl F e e2; subst e
    exact ⟨by simp [Gh.upd], by simp [Gh.upd], e2, fun j hj => by simp [Gh.upd, hj]⟩
  rcases hd with ⟨rfl, q1, q2⟩ | ⟨b, c, cur, fps, q1, q2, q3, q4, q5, q6, q7⟩
  · have hrun := run_append_nil (P := C.P) w tt e' t.e ii z ht1 hi1 hi2 ⟨b2, 0, none⟩ es2.length c2 cs (by rw [hi3]; exact hcs) hcell h2 (by simp at hmm; omega) (by rw [hi4]; simp at hb; omega)
    have hcap := grownCap_ge w es2.length 0 t.e
    have hgo := H.newDeep (w1 := w.drew) (hp' := (id, some (g.cur id + 1, .deep t ([] ++ es2) none)) :: (id2, none) :: hp) (i := id) (t := t) (es := [] ++ es2) (cur := cs.toArray ++ Builtin.zeroCells z.cells (grownCap w es2.length 0 t.e - es2.length)) (c := grownCap w es2.length 0 t.e) (n := n2) (fps := fps2) (fun x => x ∈ g.fp id ∨ x ∈ g.fp id2) rfl rfl rfl rfl hTl hlk hi (fun x hx => .inr (hf2sub x hx)) hnd2.2 hlenA (by simpa using hcap) (grownCap_le_maxLen w _ _ t.e (by simpa using hm)) (by
        simp only [Array.size_append, List.size_toArray, size_zeroCells, hcs, hzsz, ← Nat.add_mul]; congr 1; omega)
      ⟨by simpa using D2.dc.1, fun j v hj => by
        simp only [List.nil_append] at hj
        obtain ⟨u, F, a1, a2, a3⟩ := D2.dc.2 j v hj
        have hjl : j < es2.flatten.length := (List.getElem?_eq_some_iff.1 hj).1
        refine ⟨u, F, ?_, a2, a3⟩
        rw [Array.getElem?_append_left (by rw [List.size_toArray, hcs, ← hf2]; exact hjl), List.getElem?_toArray, hcsat j hjl]; exact a1⟩
    simp only [List.nil_append] at hgo ⊢
    exact ⟨_, _, _, by rw [q1, D2.val]; exact hrun, hgo.1, hgo.2, fin (w' := w) rfl rfl⟩
  · have hf1 := qq1 hl1
    have hcl : cur.toList.length = c * t.s := by rw [Array.length_toList]; exact q6
    have hle : es.length * t.s ≤ c * t.s := Nat.mul_le_mul_right _ q4
    have h1' := h1
    rw [q2] at h1'
    have hnd1 := List.nodup_cons.1 h1'
    have hsub1 : ∀ x ∈ fps.flatten, x ∈ g.fp id := fun x hx => by rw [q2]; exact List.mem_cons_of_mem _ hx
    have hndA : (fps ++ fps2).flatten.Nodup := by
      rw [List.flatten_append, List.nodup_append]
      exact ⟨hnd1.2, hnd2.2, fun x hx y hy e => by subst e; exact hdd x (hsub1 x hx) (hf2sub x hy)⟩
    have hsubA : ∀ x ∈ (fps ++ fps2).flatten, x ∈ g.fp id ∨ x ∈ g.fp id2 := fun x hx => by
      rw [List.flatten_append, List.mem_append] at hx
      exact hx.imp (hsub1 x) (hf2sub x)
    have q7' : DC (DR (XX C hp g w) w (max n1 n2)) (XX C hp g w) w t none es cur fps := DC.fits (fun _ h => h) (fun _ _ => rfl) (fun t F es u _ h => DR.le (Nat.le_max_left _ _) h) q7
    have d2' : DC (DR (XX C hp g w) w (max n1 n2)) (XX C hp g w) w t none es2 cur2 fps2 := DC.fits (fun _ h => h) (fun _ _ => rfl) (fun t F es u _ h => DR.le (Nat.le_max_right _ _) h) D2.dc
    by_cases hroom : es.length + es2.length ≤ c
    · have hfit : es.length * t.s + cs.length ≤ cur.size := by rw [hcs, q6, ← Nat.add_mul]; exact Nat.mul_le_mul_right _ hroom
      have hrun := run_append_room (P := C.P) w tt e' t.e ii ht1 hi1 b es.length c cur q3 ⟨b2, 0, none⟩ es2.length c2 cs (by rw [hi3]; exact hcs) hcell hone hroom (by rw [hi3]; exact hfit)
      rw [hi3] at hrun
      have hgo := H.wrDeep (hp' := (id, some (g.cur id + 1, .deep t (es ++ es2) none)) :: (id2, none) :: hp) (i := id) (ver := g.cur id + 1) (t := t) (es := es ++ es2) (cur0 := cur) (cur := (cur.toList.take (es.length * t.s) ++ cs ++ cur.toList.drop (es.length * t.s + cs.length)).toArray) (b := b) (c := c) (n := max n1 n2) (fps := fps ++ fps2) (fun x => x ∈ g.fp id ∨ x ∈ g.fp id2)
        (by rw [q2]; simp) ho q3 (by omega) (fun e => by omega) (h3 b 0 _ c q1) h0 hTl (fun x hx => .inl hx) hlk hi hsubA (List.nodup_cons.2 ⟨fun hx => by
          rw [List.flatten_append, List.mem_append] at hx
          rcases hx with hx | hx
          · exact hnd1.1 hx
          · exact hdd b (by rw [q2]; simp) (hf2sub b hx), hndA⟩) hlenA (by simpa using hroom) q5 (by simp only [List.size_toArray, List.length_append, List.length_take, List.length_drop, hcl]; omega)
        (DC.append hl1 q7' d2' (fun j hj => by rw [List.getElem?_toArray, get_seg (by omega), if_pos (by omega)]; simp) (fun j hj => by
          rw [List.getElem?_toArray, get_seg (by omega), if_neg (by omega), if_pos (by omega), show es.flatten.length + j - es.length * t.s = j from by omega]; exact hcsat j hj))
      have e1 : (es ++ es2).length = es.length + es2.length := by simp
      rw [e1] at hgo
      exact ⟨_, _, _, by rw [q1, D2.val]; exact hrun, hgo.1, hgo.2, fin (w' := w) rfl rfl⟩
    · have hol : (cur.toList.take es.flatten.length).length = es.flatten.length := by rw [List.length_take, hcl]; omega
      have hrun := run_append_grow (P := C.P) w tt e' t.e ii z ht1 hi1 hi2 ⟨b, 0, none⟩ es.length c (cur.toList.take es.flatten.length) (by rw [hi3, hol, hf1])
        (fun j v hv => by
          rw [qz2, Nat.zero_add, cellOf q3]
          rw [List.getElem?_take] at hv
          split at hv
          · simpa using hv
          · cases hv) ⟨b2, 0, none⟩ es2.length c2 cs (by rw [hi3]; exact hcs) hcell (by omega) (by omega) (growslice_fits (by omega) (by rw [hi4]; exact hb))
      have hcap := grownCap_ge w (es.length + es2.length) c t.e
      have hgo := H.newDeep (w1 := w.drew) (hp' := (id, some (g.cur id + 1, .deep t (es ++ es2) none)) :: (id2, none) :: hp) (i := id) (t := t) (es := es ++ es2) (cur := (cur.toList.take es.flatten.length).toArray ++ cs.toArray ++ Builtin.zeroCells z.cells (grownCap w (es.length + es2.length) c t.e - (es.length + es2.length))) (c := grownCap w (es.length + es2.length) c t.e) (n := max n1 n2) (fps := fps ++ fps2) (fun x => x ∈ g.fp id ∨ x ∈ g.fp id2) rfl rfl rfl rfl hTl hlk hi hsubA hndA hlenA (by simpa using hcap) (grownCap_le_maxLen w _ _ t.e hm) (by
          simp only [Array.size_append, List.size_toArray, size_zeroCells, hcs, hzsz, hol]
          rw [hf1, ← Nat.add_mul, ← Nat.add_mul]; congr 1; omega)
        (DC.append hl1 q7' d2' (fun j hj => by
          rw [Array.getElem?_append_left (by rw [Array.size_append, List.size_toArray, List.size_toArray, hol]; omega), Array.getElem?_append_left (by rw [List.size_toArray, hol]; exact hj), List.getElem?_toArray, List.getElem?_take, if_pos hj]; simp) (fun j hj => by
          rw [Array.getElem?_append_left (by rw [Array.size_append, List.size_toArray, List.size_toArray, hol, hcs]; omega), Array.getElem?_append_right (by rw [List.size_toArray, hol]; omega), List.getElem?_toArray, List.size_toArray, hol, show es.flatten.length + j - es.flatten.length = j from by omega]; exact hcsat j hj))
      have e1 : (es ++ es2).length = es.length + es2.length := by simp
      rw [e1] at hgo
      exact ⟨_, _, _, by rw [q1, D2.val]; exact hrun, hgo.1, hgo.2, fin (w' := w) rfl rfl⟩
end
section
variable {C : Ctx} {all : Array Oper} {s : St} {d : Nat} {ty : TypeId} {pos : String} {aft : Array Edge}
theorem Rel.ownv {a : Act} {w : World} {g : Gh} {x : Operand} {id ver : Nat} {o : Obj} (hr : Rel C a w s g) (hx : Ab.ev s.sl x = .own id ver) (ho : look s.hp id = some (ver, o)) : a.eval x = g.val id ∧ g.cur id = ver := by
  have h1 := hr.hr.cur id ver _ ho
  have h3 := hr.ev x
  rw [hx] at h3
  refine ⟨?_, h1⟩
  generalize a.eval x = u at h3
  cases h3 with
  | sh h => cases h
  | own _ _ _ _ _ h => exact h h1.symm
theorem OR.dshape {g : Gh} {X : Nat → Prop} {w : World} {id : Nat} {t : DTy} {es : List (List V)} {h : Option (Nat × Nat × Nat × Nat)} (H : OR g X w id (.deep t es h)) : ∃ ad c, g.val id = .slice ad es.length c := by
  obtain ⟨_, _, ⟨n, _, h2⟩, _⟩ := H
  rcases h2 with ⟨rfl, h, _⟩ | ⟨b, c, cur, fps, h, _⟩
  · exact ⟨none, 0, h⟩
  · exact ⟨_, c, h⟩
theorem j_len_deep {tt e : TypeId} {x : Operand} {id ver : Nat} {t : DTy} {es : List (List V)} {h : Option (Nat × Nat × Nat × Nat)} (ht : C.P.underlying tt = some (.slice e)) (hx : Ab.ev s.sl x = .own id ver) (ho : look s.hp id = some (ver, .deep t es h)) :
    OpJ C all ⟨some d, .call { callee := .builtin .len, args := #[x], argTypes := #[tt] }, ty, pos, aft, none⟩ s [id] (EV d (.p (.int .i64 es.length))) :=
  qzj (fun s' hs a w g hr => have hx := (hs.e (x := x) (by simp [Op.operands, Call.operands])).trans hx; have ho := (hs.hp id (by simp)).trans ho; by
    obtain ⟨e1, _⟩ := hr.ownv hx ho
    obtain ⟨ad, c, e3⟩ := (hr.hr.obj id ver _ ho).dshape
    exact ⟨.int .i64 es.length, by simp [execOp, resolve, invoke, builtin, e1, e3, run_len_slice ht], .sh (.p _)⟩)
theorem j_elem_deep {tt e sz : Nat} {x y : Operand} {id ver : Nat} {t : DTy} {es : List (List V)} {h : Option (Nat × Nat × Nat × Nat)} {k : IntKind} {i : Int} (ht : SlT C.P tt e sz) (hx : Ab.ev s.sl x = .own id ver) (ho : look s.hp id = some (ver, .deep t es h)) (hsz : t.s = sz) (hy : Ab.ev s.sl y = .p (.int k i)) (h0 : 0 ≤ i) (hi : i.toNat < es.length) :
    OpJ C all ⟨some d, .indexAddr tt x y, ty, pos, aft, none⟩ s [id] (EV d (.pel id ver i.toNat 0)) :=
  qzj (fun s' hs a w g hr => have hx := (hs.e (x := x) (by simp [Op.operands])).trans hx; have hy := (hs.e (x := y) (by simp [Op.operands])).trans hy; have ho := (hs.hp id (by simp)).trans ho; by
    obtain ⟨e1, e4⟩ := hr.ownv hx ho
    obtain ⟨n, b, c, cur, fps, D⟩ := hr.hr.dd ho (by omega)
    refine ⟨_, ?_, .pel id ver i.toNat 0 _ rfl (by omega) (fun _ => ⟨b, D.blk, rfl⟩)⟩
    simp only [execOp, e1, D.val, hr.evp hy, Sem.run_bind, run_indexAt ht ⟨b, 0, none⟩ es.length c k i h0 (by omega) w, Result.andThen_ok, Sem.run_pure, qz2, Nat.add_zero, Nat.zero_add, D.sz, hsz])
theorem j_out {tt : TypeId} {x : Operand} {id ver0 ver k f : Nat} {t t' : DTy} {es es' : List (List V)} {xs : List V} {O : Obj} (ht : LeafT C.P tt) (hne : d ≠ id) (hx : Ab.ev s.sl x = .pel id ver0 k f) (ho : look s.hp id = some (ver0, .deep t es none)) (hsub : t.sub f = some t') (hk : es[k]? = some xs) (hf : xs[f]? = some (.sl es')) (hO : objOf t' es' = O) :
    OpJ C all ⟨some d, .load tt x, ty, pos, aft, none⟩ s [id] ⟨some d, .own d ver, [(d, some (ver, O)), (id, some (ver0, .deep t es (some (k, f, d, ver))))], [(d, ver)]⟩ := by
  subst hO
  exact j_step (hp' := [(d, some (ver, objOf t' es')), (id, some (ver0, .deep t es (some (k, f, d, ver))))]) (bp := [(d, ver)]) fun s' hs a w g hr hbp => by
    obtain rfl := qxb hbp
    have hx := (hs.e (x := x) (by simp [Op.operands])).trans hx
    have ho := (hs.hp id (by simp)).trans ho
    obtain ⟨b, h4, h5⟩ := hr.pel hx ho
    obtain ⟨b', u, g', q1, q2, q3, q4, q5, q6, q7, q8, q9⟩ := hr.hr.out hne ho hk hf hsub
    rw [q1] at h4; obtain rfl : b' = b := by simpa using h4
    rw [q2] at h5
    refine ⟨u, w, g', ?_, q8, q9, .own d _ _ q4 (by omega) (fun _ => q6.symm), fun j hj => q7 j (hj _ (List.mem_singleton.2 rfl))⟩
    simp only [execOp, h5, Sem.run_bind, run_loadAt_leaf ht ⟨b', k * t.s + f, none⟩ u w q3, Result.andThen_ok, Sem.run_pure]
theorem Rel.back {a : Act} {w : World} {g : Gh} {id d ver vd : Nat} {t t' : DTy} {es : List (List V)} {k f : Nat} {xs : List V} {es' es2 : List (List V)} {O : Obj} (hr : Rel C a w s g) (hne : d ≠ id) (ho : look s.hp id = some (ver, .deep t es (some (k, f, d, vd)))) (hd : look s.hp d = some (vd, O)) (hO : objOf t' es' = O) (ht : t.sub f = some t') (hk : es[k]? = some xs) (he : es.set k (xs.set f (.sl es')) = es2) :
    ∃ g', Rel C a w ⟨s.sl, (id, some (ver, .deep t es2 none)) :: (d, none) :: s.hp⟩ g' := by
  subst hO; subst he
  obtain ⟨g', h1, h2, _⟩ := hr.hr.back hne ho hd ht hk
  exact ⟨g', hr.mem h1 h2⟩
theorem a_back {c : Code} {Q : Exit → St → Prop} (id d : Nat) {ver vd : Nat} {t t' : DTy} {es : List (List V)} {k f : Nat} {xs : List V} {es' es2 : List (List V)} {O : Obj} (hne : d ≠ id) (ho : look s.hp id = some (ver, .deep t es (some (k, f, d, vd)))) (hd : look s.hp d = some (vd, O)) (hO : objOf t' es' = O) (ht : t.sub f = some t') (hk : es[k]? = some xs) (he : es.set k (xs.set f (.sl es')) = es2)
    (h : AWp C c Q ⟨s.sl, (id, some (ver, .deep t es2 none)) :: (d, none) :: s.hp⟩) : AWp C c Q s :=
  a_rel (fun a w g hr => hr.back hne ho hd hO ht hk he) h
theorem op_back {l : List Oper} {K : St → Prop} (id d : Nat) {ver vd : Nat} {t t' : DTy} {es : List (List V)} {k f : Nat} {xs : List V} {es' es2 : List (List V)} {O : Obj} (hne : d ≠ id) (ho : look s.hp id = some (ver, .deep t es (some (k, f, d, vd)))) (hd : look s.hp d = some (vd, O)) (hO : objOf t' es' = O) (ht : t.sub f = some t') (hk : es[k]? = some xs) (he : es.set k (xs.set f (.sl es')) = es2)
    (h : AOps C all l K ⟨s.sl, (id, some (ver, .deep t es2 none)) :: (d, none) :: s.hp⟩) : AOps C all l K s :=
  op_rel (fun a w g hr => hr.back hne ho hd hO ht hk he) h
theorem j_store_deep {tt : TypeId} {x y : Operand} {id ver k f : Nat} {t : DTy} {es : List (List V)} {h : Option (Nat × Nat × Nat × Nat)} {xs : List V} {v : V} (ht : LeafT C.P tt) (hx : Ab.ev s.sl x = .pel id ver k f) (ho : look s.hp id = some (ver, .deep t es h)) (hsub : t.sub f = none) (hk : es[k]? = some xs) (hf : f < xs.length) (hy : Ab.ev s.sl y = v) (hl : lf v = true) (hsh : shl v = true) :
    OpJ C all ⟨none, .store tt x y, ty, pos, aft, none⟩ s [id] (ES id ver (.deep t (es.set k (xs.set f v)) h)) :=
  j_eff (hp' := [(id, some (ver, .deep t (es.set k (xs.set f v)) h))]) fun s' hs a w g hr => by
    have hx := (hs.e (x := x) (by simp [Op.operands])).trans hx
    have hy := (hs.e (x := y) (by simp [Op.operands])).trans hy
    have ho := (hs.hp id (by simp)).trans ho
    obtain ⟨b, h4, h5⟩ := hr.pel hx ho
    have hkl : k < es.length := (List.getElem?_eq_some_iff.1 hk).1
    obtain ⟨n, b', c, cur, fps, D⟩ := hr.hr.dd ho (by omega)
    rw [D.blk] at h4; obtain rfl : b' = b := by simpa using h4
    have hxl : xs.length = t.s := D.len xs (List.mem_iff_getElem?.2 ⟨k, hk⟩)
    have hfl : f < t.s := by omega
    have hv := hr.ev y
    rw [hy] at hv
    rw [D.sz] at h5
    have hks : k * t.s + t.s ≤ c * t.s := by
      have := Nat.mul_le_mul_right t.s (show k + 1 ≤ c from Nat.lt_of_lt_of_le hkl D.le)
      rwa [Nat.succ_mul] at this
    have hrun := qz6 (P := C.P) (u := a.eval y) ht D.heap (by rw [D.size]; omega : k * t.s + f < cur.size) (hv.one hl)
    obtain ⟨q1, q2⟩ := hr.hr.putDeep ho D hk hfl hsub (hv.shr hsh)
    refine ⟨_, g, ?_, q1, q2, fun _ => rfl⟩
    simp only [execOp, h5, Sem.run_bind, hrun, Result.andThen_ok, Sem.run_pure]
theorem Eat.agree {hp hp' : Heap} {t : DTy} : ∀ {ys zs : List V} {rs : List Nat} {f : Nat}, (∀ r ∈ rs, look hp' r = look hp r) → Eat hp t f ys zs rs → Eat hp' t f ys zs rs
  | [], [], rs, f, _, h => by simpa only [Eat] using h
  | [], z :: zs, _, _, _, h => by simp [Eat] at h
  | y :: ys, [], _, _, _, h => by simp [Eat] at h
  | y :: ys, z :: zs, rs, f, hl, h => by
    simp only [Eat] at h ⊢
    cases ht : t.sub f with
    | none => rw [ht] at h; exact ⟨h.1, h.2.1, h.2.2.1, Eat.agree hl h.2.2.2⟩
    | some t' =>
      rw [ht] at h
      rcases h with ⟨r, vr, es', rs', e1, h1, e2, rfl, h3⟩ | ⟨e1, e2, h3⟩
      · exact .inl ⟨r, vr, es', rs', e1, (hl r (by simp)).trans h1, e2, rfl, Eat.agree (fun r hr => hl r (by simp [hr])) h3⟩
      · exact .inr ⟨e1, e2, Eat.agree hl h3⟩
theorem nodup_of : ∀ {l : List Nat}, nodupB l = true → l.Nodup
  | [], _ => List.nodup_nil
  | x :: l, h => by
    simp only [nodupB, Bool.and_eq_true, Bool.not_eq_true'] at h
    exact List.nodup_cons.2 ⟨fun hx => by rw [memN_iff.2 hx] at h; simp at h, nodup_of h.2⟩
theorem j_storea_deep {tt n : TypeId} {x y : Operand} {id ver k : Nat} {t : DTy} {es : List (List V)} {ys zs : List V} {rs : List Nat} {hp1 : Heap} (ht : AggT C.P tt n) (hx : Ab.ev s.sl x = .pel id ver k 0) (ho : look s.hp id = some (ver, .deep t es none)) (hn : t.s = n) (hk : k < es.length) (hy : Ab.ev s.sl y = .agg ys) (hyl : ys.length = n) (he : Eat s.hp t 0 ys zs rs) (hrs : nodupB (id :: rs) = true)
    (hh : (id, some (ver, .deep t (es.set k zs) none)) :: rs.map (fun r => (r, none)) = hp1) :
    OpJ C all ⟨none, .store tt x y, ty, pos, aft, none⟩ s (id :: rs) ⟨none, .any, hp1, []⟩ := by
  subst hh
  exact j_eff (hp' := (id, some (ver, .deep t (es.set k zs) none)) :: rs.map (fun r => (r, none))) fun s' hs a w g hr => by
    have hx := (hs.e (x := x) (by simp [Op.operands])).trans hx
    have hy := (hs.e (x := y) (by simp [Op.operands])).trans hy
    have ho := (hs.hp id (by simp)).trans ho
    have he := he.agree (hp' := s'.hp) (fun r hr => hs.hp r (by simp [hr]))
    obtain ⟨b, h4, h5⟩ := hr.pel hx ho
    obtain ⟨n0, b', c, cur, fps, D⟩ := hr.hr.dd ho (by omega)
    rw [D.blk] at h4; obtain rfl : b' = b := by simpa using h4
    obtain ⟨us, h12, h13, h14⟩ := hr.agg hy
    have hnd := List.nodup_cons.1 (nodup_of hrs)
    obtain ⟨g', q1, q2, q3, q4⟩ := hr.hr.elDeep (us := us.toList) ho (fun _ _ _ _ e => by cases e) D hk he hnd.2 hnd.1 (by omega) (by simpa using h13) (fun i v u h1 h2 => h14 i v u h1 (by simpa using h2))
    rw [D.sz] at h5
    simp only [Nat.add_zero] at h5
    have hks : k * t.s + t.s ≤ c * t.s := by
      have := Nat.mul_le_mul_right t.s (show k + 1 ≤ c from Nat.lt_of_lt_of_le hk D.le)
      rwa [Nat.succ_mul] at this
    have hrun := run_storeAt_agg (P := C.P) (us := us) (o := k * t.s) ht D.heap (by omega) (by rw [D.size]; omega) q4
    rw [Array.length_toList] at q1 q2
    exact ⟨_, g', by simp only [execOp, h5, h12, Sem.run_bind, hrun, Result.andThen_ok, Sem.run_pure], q1, q2, q3⟩
theorem j_buildSlice_deep {tt e sz bytes ver : Nat} {z : Value} {x : Operand} {t : DTy} {ys zs : List V} {rs : List Nat} {hp1 : Heap} (ht : SlT C.P tt e sz) (hz : ElT C.P e sz bytes z) (hzsz : z.cells.size = sz) (hte : t.e = e) (hts : t.s = sz) (hsz0 : 0 < sz) (hsz1 : sz ≤ 1000) (hy : leaves (Ab.ev s.sl x) = ys) (hlf : ys.all lf = true) (hyl : ys.length = sz) (he : Eat s.hp t 0 ys zs rs) (hrs : nodupB rs = true)
    (hh : (d, some (ver, .deep t [zs] none)) :: rs.map (fun r => (r, none)) = hp1) :
    OpJ C all ⟨some d, .buildSlice tt 1 #[(0, x)], ty, pos, aft, none⟩ s rs ⟨some d, .own d ver, hp1, [(d, ver)]⟩ := by
  subst hh
  exact j_step (hp' := (d, some (ver, .deep t [zs] none)) :: rs.map (fun r => (r, none))) (bp := [(d, ver)]) fun s' hs a w g hr hbp => by
    obtain rfl := qxb hbp
    have hev := hs.e (x := x) (by simp [Op.operands])
    have he := he.agree (hp' := s'.hp) (fun r hr => hs.hp r hr)
    have hv := hr.ev x
    rw [hev] at hv
    have hlv := hv.leaves (by rw [hy]; exact hlf)
    rw [hy] at hlv
    obtain ⟨ht1, ht2⟩ := ht
    obtain ⟨g', q1, q2, q3, q4, q5⟩ := hr.hr.oneDeep (d := d) he (nodup_of hrs) (by omega) hlv.len (fun i v u h1 h2 => hlv.el i v u h1 h2)
    have hcsz : (a.eval x).cells.size = sz := by rw [hlv.len, hyl]
    refine ⟨.slice (some ⟨w.heap.size, 0, none⟩) 1 1, _, g', ?_, q1, q2, .own d _ _ rfl (by omega) (fun _ => q4.symm), fun j hj => q5 j (hj _ (List.mem_singleton.2 rfl))⟩
    have hne : ¬ 1 * sz = 0 := by omega
    have hnn : ¬ 1 * sz > 2 ^ 24 := by omega
    have hz0 : ((Array.range (1 * sz)).map (z.cells[· % z.cells.size]!)).size = sz := by simp
    have hfs := fill_step (a.eval x).cells.toList 0 ((Array.range (1 * sz)).map (z.cells[· % z.cells.size]!)) 0 (by rw [hz0]; simp; omega)
    have hzip : ∀ (f : Array Value → Value × Nat → Array Value) (c0 : Array Value), (a.eval x).cells.zipIdx.foldl f c0 = ((a.eval x).cells.toList.zipIdx 0).foldl f c0 := by
      intro f c0
      rw [← Array.foldl_toList, Array.toList_zipIdx]
    have hfill : Instr.fill (fun i => some (i * sz, sz)) ((Array.range (1 * sz)).map (z.cells[· % z.cells.size]!)) [(0, a.eval x)] = some (a.eval x).cells := by
      have hcond : ¬ (decide ((a.eval x).cells.size ≠ sz) || decide (0 * sz + (a.eval x).cells.size > ((Array.range (1 * sz)).map (z.cells[· % z.cells.size]!)).size)) = true := by
        rw [hz0, hcsz]; simp
      simp only [Instr.fill]
      rw [if_neg hcond]
      congr 1
      apply Array.ext'
      rw [hzip, Nat.zero_mul, hfs]
      simp only [Nat.zero_add, List.take_zero, List.nil_append]
      rw [List.drop_eq_nil_of_le (by rw [Array.length_toList, hz0, Array.length_toList]; omega), List.append_nil]
    subst hte
    simp only [execOp, Instr.buildSlice, Sem.run_bind, run_underlying ht1, Result.andThen_ok, qzt ht2, if_neg hnn, Sem.run_pure, if_neg hne, run_zeroValue hz, newRow, run_newObj]
    simp only [List.map_toArray, List.map_cons, List.map_nil]
    rw [hfill]
    simp only [Sem.run_bind, run_newObj, Result.andThen_ok, Sem.run_pure]
    rfl
theorem j_append_deep {tt e sz bytes : TypeId} {z : Value} {x y : Operand} {id ver0 id2 ver2 ver : Nat} {t : DTy} {es es2 : List (List V)} (hne : id ≠ id2) (ht : SlT C.P tt e sz) (hz : ElT C.P e sz bytes z) (hzsz : z.cells.size = sz) (hte : t.e = e) (hts : t.s = sz) (hx : Ab.ev s.sl x = .own id ver0) (ho : look s.hp id = some (ver0, .deep t es none))
    (hy : Ab.ev s.sl y = .own id2 ver2) (ho2 : look s.hp id2 = some (ver2, .deep t es2 none)) (hl2 : es2.flatten.all lf = true) (h2 : 0 < es2.length) (hm : es.length + es2.length ≤ maxLen) (hb : (es.length + es2.length) * bytes ≤ 140737488355328) :
    OpJ C all ⟨some d, .call { callee := .builtin .append, args := #[x, y], argTypes := #[tt, tt] }, ty, pos, aft, none⟩ s [id, id2] ⟨some d, .own id ver, [(id, some (ver, .deep t (es ++ es2) none)), (id2, none)], [(id, ver)]⟩ := by
  subst hte; subst hts
  exact j_step (hp' := [(id, some (ver, .deep t (es ++ es2) none)), (id2, none)]) (bp := [(id, ver)]) fun s' hs a w g hr hbp => by
    obtain rfl := qxb hbp
    have hx := (hs.e (x := x) (by simp [Op.operands, Call.operands])).trans hx
    have hy := (hs.e (x := y) (by simp [Op.operands, Call.operands])).trans hy
    have ho := (hs.hp id (by simp)).trans ho
    have ho2 := (hs.hp id2 (by simp)).trans ho2
    obtain ⟨e1, _⟩ := hr.ownv hx ho
    obtain ⟨e2, _⟩ := hr.ownv hy ho2
    obtain ⟨u', w', g', h1, h2, h3, h4, h5, h6, h7⟩ := appDeep (e' := ty) hr.hr hne ht hz hzsz ho ho2 hl2 h2 hm hb
    refine ⟨u', w', g', ?_, h2, h3, .own id _ _ h6 (by omega) (fun _ => h5.symm), fun j hj => h7 j (hj _ (List.mem_singleton.2 rfl))⟩
    simp [execOp, resolve, invoke, builtin, e1, e2, h1]
theorem Rel.todeep {a : Act} {w : World} {g : Gh} {id ver n : Nat} {t : DTy} {zs zs' : List V} (hr : Rel C a w s g) (ho : look s.hp id = some (ver, .row t.e t.s (List.replicate n zs))) (he : Eat s.hp t 0 zs zs' []) :
    Rel C a w ⟨s.sl, (id, some (ver, .deep t (List.replicate n zs') none)) :: s.hp⟩ g := by
  have H := hr.hr
  suffices hh : HR C w ((id, some (ver, .deep t (List.replicate n zs') none)) :: s.hp) g ∧ Fits g (XX C s.hp g w) w g (XX C ((id, some (ver, .deep t (List.replicate n zs') none)) :: s.hp) g w) w from hr.mem hh.1 hh.2
  have hlk : ∀ {j : Nat} {io : Nat × Obj}, look ((id, some (ver, .deep t (List.replicate n zs') none)) :: s.hp) j = some io → (j = id ∧ io = (ver, .deep t (List.replicate n zs') none)) ∨ (j ≠ id ∧ look s.hp j = some io) := by
    intro j io hio
    rw [qju] at hio
    by_cases e1 : j = id
    · rw [if_pos e1] at hio; exact .inl ⟨e1, (Option.some.inj hio).symm⟩
    · rw [if_neg e1] at hio; exact .inr ⟨e1, hio⟩
  refine H.chg (fun x => x ∈ g.fp id) (fun j => j = id) rfl rfl rfl (Nat.le_refl _) (fun x hx => ⟨id, _, ho, hx⟩) (fun _ _ _ => rfl) (fun j => Nat.le_refl _) (fun j e => ⟨rfl, rfl, rfl⟩) (fun j io hj hN => ?_) (fun j io hj hN => ?_) (fun i j io jo hNi hNj hi hj hij x hx => absurd (hNi.trans hNj.symm) hij) (fun hf j vj o hN hj => ?_)
  · rcases hlk hj with ⟨e, _⟩ | ⟨e1, e3⟩
    · exact absurd e hN
    · exact ⟨e3, rfl, rfl, fun x hx hx2 => H.dis j id _ _ e3 ho e1 x hx hx2⟩
  · rcases hlk hj with ⟨rfl, rfl⟩ | ⟨e1, _⟩
    · exact ⟨H.cur _ _ _ ho, fun x hx => ⟨(H.blk _ _ x ho hx).1, .inl hx⟩⟩
    · exact absurd hN e1
  · rcases hlk hj with ⟨rfl, e⟩ | ⟨e1, _⟩
    · simp only [Prod.mk.injEq] at e; obtain ⟨_, rfl⟩ := e
      obtain ⟨h0, h1, h2⟩ := H.obj j ver _ ho
      have hzl : 0 < n → zs.length = t.s := fun hn => h1 zs (by simp; omega)
      have hzz : ∀ {ys zs : List V} {f : Nat}, Eat s.hp t f ys zs [] → zs.length = ys.length := by
        intro ys
        induction ys with
        | nil => intro zs f h; cases zs with
          | nil => rfl
          | cons z zs => simp [Eat] at h
        | cons y ys ih => intro zs f h; cases zs with
          | nil => simp [Eat] at h
          | cons z zs =>
            simp only [Eat] at h
            cases ht : t.sub f with
            | none => rw [ht] at h; simp [ih h.2.2.2]
            | some t' =>
              rw [ht] at h
              rcases h with ⟨r, vr, es', rs', e1, h1, e2, e3, h3⟩ | ⟨e1, e2, h3⟩
              · cases e3
              · simp [ih h3]
      have hzat : ∀ {ys zs : List V} {f i : Nat} {z : V}, Eat s.hp t f ys zs [] → zs[i]? = some z → ∃ y, ys[i]? = some y ∧ match t.sub (f + i) with | none => z = y ∧ shl y = true | some _ => y = .p (.slice none 0 0) ∧ z = .sl [] := by
        intro ys
        induction ys with
        | nil => intro zs f i z h hi; cases zs with
          | nil => simp at hi
          | cons z zs => simp [Eat] at h
        | cons y ys ih => intro zs f i z h hi; cases zs with
          | nil => simp at hi
          | cons z' zs =>
            simp only [Eat] at h
            cases i with
            | zero =>
              simp at hi; subst hi
              refine ⟨y, rfl, ?_⟩
              rw [Nat.add_zero]
              cases ht : t.sub f with
              | none => rw [ht] at h; exact ⟨h.1, h.2.2.1⟩
              | some t' =>
                rw [ht] at h
                rcases h with ⟨r, vr, es', rs', e1, h1, e2, e3, h3⟩ | ⟨e1, e2, h3⟩
                · cases e3
                · exact ⟨e1, e2⟩
            | succ i =>
              have h' : Eat s.hp t (f + 1) ys zs [] := by
                cases ht : t.sub f with
                | none => rw [ht] at h; exact h.2.2.2
                | some t' =>
                  rw [ht] at h
                  rcases h with ⟨r, vr, es', rs', e1, h1, e2, e3, h3⟩ | ⟨e1, e2, h3⟩
                  · cases e3
                  · exact h3
              have := ih h' (by simpa using hi)
              rw [show f + 1 + i = f + (i + 1) from by omega] at this
              simpa using this
      have hlen' : ∀ x ∈ List.replicate n zs', x.length = t.s := fun x hx => by
        obtain ⟨hn, rfl⟩ := List.mem_replicate.1 hx
        rw [hzz he]; exact hzl (by omega)
      rcases h2 with ⟨h2, h3, h4⟩ | ⟨b, c, cur, h2, h3, h4, h5, h6, h7, h8, h9⟩
      · have hn : n = 0 := by cases n with
          | zero => rfl
          | succ n => simp [List.replicate_succ] at h2
        subst hn
        refine ⟨h0, by rw [h4]; exact List.nodup_nil, ⟨0, by simp, .inl ⟨rfl, h3, h4⟩⟩, fun b o k c e => by rw [h3] at e; simp at e, fun k f d vd e => by cases e⟩
      · simp only [List.length_replicate] at h2 h6
        refine Dd.or (w := w) (hp := s.hp) (g := g) (n := 1) (b := b) (c := c) (cur := cur) (fps := List.replicate (List.replicate n zs').flatten.length []) (es := []) hlen' (by rw [h2]; simp) h3 h0 (by rw [h4]; simp) (by simp) h5 (by simpa using h6) h7 h8 ⟨by simp, fun j v hj => ?_⟩ (fun k' f' d' vd' e => by cases e)
        have hjl := (List.getElem?_eq_some_iff.1 hj).1
        rw [qq1 hlen', List.length_replicate] at hjl
        have hs : 0 < t.s := Nat.pos_of_ne_zero fun e => by rw [e] at hjl; simp at hjl
        have hq : j / t.s < n := (Nat.div_lt_iff_lt_mul hs).2 hjl
        have hm : j % t.s < t.s := Nat.mod_lt _ hs
        have hjd : j / t.s * t.s + j % t.s = j := by rw [Nat.mul_comm]; exact Nat.div_add_mod j t.s
        have e1 := qj3 hlen' (k := j / t.s) (f := j % t.s) (x := zs') (by rw [List.getElem?_replicate, if_pos hq]) hm
        rw [hjd, hj] at e1
        obtain ⟨y, k1, k2⟩ := hzat he e1.symm
        have e2 := qj3 h1 (k := j / t.s) (f := j % t.s) (x := zs) (by rw [List.getElem?_replicate, if_pos hq]) hm
        rw [hjd, k1] at e2
        obtain ⟨u, a1, a2⟩ := h9 j y e2
        refine ⟨u, [], a1, by rw [List.getElem?_replicate, if_pos (by rw [qq1 hlen', List.length_replicate]; exact hjl)], .inr ⟨by simp, ?_⟩⟩
        rw [Nat.zero_add] at k2
        cases ht : t.sub (j % t.s) with
        | none =>
          rw [ht] at k2
          simp only [CellD, ht]; rw [k2.1]; exact ⟨trivial, a2.fits hf.set hf.heap⟩
        | some t' =>
          rw [ht] at k2
          simp only [CellD, ht]
          rw [k2.1] at a2
          have : u = .slice none 0 0 := by cases a2; rfl
          exact ⟨[], k2.2, fun x hx => by simp at hx, .inl ⟨rfl, this, rfl⟩⟩
    · exact absurd hN e1
theorem qzx {c : Code} {Q : Exit → St → Prop} (id n : Nat) {ver e sz : Nat} (t : DTy) {zs zs' : List V} {es es' : List (List V)} (ho : look s.hp id = some (ver, .row e sz es)) (hte : t.e = e) (hts : t.s = sz) (hes : es = List.replicate n zs) (he : Eat s.hp t 0 zs zs' []) (hes' : List.replicate n zs' = es') (h : AWp C c Q ⟨s.sl, (id, some (ver, .deep t es' none)) :: s.hp⟩) : AWp C c Q s := by
  subst hte; subst hts; subst hes; subst hes'
  exact a_rel (fun a w g hr => ⟨g, hr.todeep ho he⟩) h
theorem op_todeep {l : List Oper} {K : St → Prop} (id n : Nat) {ver e sz : Nat} (t : DTy) {zs zs' : List V} {es es' : List (List V)} (ho : look s.hp id = some (ver, .row e sz es)) (hte : t.e = e) (hts : t.s = sz) (hes : es = List.replicate n zs) (he : Eat s.hp t 0 zs zs' []) (hes' : List.replicate n zs' = es') (h : AOps C all l K ⟨s.sl, (id, some (ver, .deep t es' none)) :: s.hp⟩) : AOps C all l K s := by
  subst hte; subst hts; subst hes; subst hes'
  exact op_rel (fun a w g hr => ⟨g, hr.todeep ho he⟩) h
def slOf : Obj → Option (List (List V))
  | .row _ _ es => some es
  | .deep _ es none => some es
  | _ => none
theorem obj_sl {w : World} {hp hp' : Heap} {g : Gh} {id ver : Nat} {o : Obj} {es : List (List V)} (h : HR C w hp g) (ho : look hp id = some (ver, o)) (hs : slOf o = some es) (hX : ∀ b, XX C hp g w b → XX C hp' g w b) (hb : ∀ b ∈ g.fp id, XX C hp' g w b) : SR (XX C hp' g w) w (.sl es) (g.val id) := by
  cases o with
  | row e sz es' => simp [slOf] at hs; subst hs; exact row_sl h ho hX hb
  | box e xs => simp [slOf] at hs
  | map kvs => simp [slOf] at hs
  | gone => simp [slOf] at hs
  | deep t es' hh =>
    cases hh with
    | some x => simp [slOf] at hs
    | none => simp [slOf] at hs; subst hs; exact deep_sl h ho hX hb
theorem Rel.freeze3 {a : Act} {w : World} {g : Gh} (hr : Rel C a w s g) {t id ver : Nat} {o : Obj} {es : List (List V)} (hA : ∀ b ∈ g.fp id, ¬ C.A b) (ht : get s.sl t = .own id ver) (ho : look s.hp id = some (ver, o)) (hs : slOf o = some es) :
    Rel C a w ⟨(t, .sl es) :: s.sl, (id, none) :: s.hp⟩ g := by
  have hk := drop_look (hp := s.hp) (id := id)
  have hX : ∀ b, XX C s.hp g w b → XX C ((id, none) :: s.hp) g w b := fun b hb => hb.mono hk
  have hb := drop_XX hr.hr ho (fun b hb => ((hr.hr.blk id _ b ho hb).2).resolve_right (hA b hb))
  refine ⟨hr.size, hr.defers, hr.hr.weaken hk, fun t' => ?_⟩
  simp only [get]
  by_cases e : t = t'
  · subst e
    simp only [Nat.beq_refl, cond_true]
    obtain ⟨h1, _⟩ := hr.ownv (x := .tmp t) ht ho
    have : a.tmps.getD t undef = g.val id := h1
    rw [this]
    exact .sh (obj_sl hr.hr ho hs hX hb)
  · rw [qjx e]
    exact (hr.slots t').fits ⟨fun _ => Nat.le_refl _, fun _ _ => rfl, fun _ _ => rfl, fun _ _ => rfl, hX, fun _ _ => rfl⟩
end
section
variable {P : Program} {n : Nat} {w0 : World} {ins : List Obj} {g0 : Gh} {X : Nat → Prop} {sl : Slots} {hp : Heap} {all : Array Oper}
theorem op_freezeG {l : List Oper} {K : St → Prop} {id ver : Nat} {o : Obj} {es : List (List V)} (t : Nat) (hk : Keep hp 0 ins) (hid : Nat.ble ins.length id = true) (ht : get sl t = .own id ver) (ho : look hp id = some (ver, o)) (hs : slOf o = some es) (h : AOps (fnCtx P n w0 ins g0 X) all l K ⟨(t, .sl es) :: sl, (id, none) :: hp⟩) : AOps (fnCtx P n w0 ins g0 X) all l K ⟨sl, hp⟩ :=
  fun hb Q hQ a w g hr => h hb Q hQ a w g (hr.freeze3 (s := ⟨sl, hp⟩) (keep_A hk (Nat.le_of_ble_eq_true hid) hr.hr ho) ht ho hs)
end
end Go.Ab
/- Rows with rows of their own, in the form in which walks use them. -/
set_option linter.unusedSimpArgs false
set_option linter.unusedVariables false
namespace Go.Ab
section
variable {hp : Heap} {t t' : DTy} {f r vr : Nat} {y : V} {ys zs : List V} {rs : List Nat} {es' : List (List V)} {O : Obj}
theorem qzv : Eat hp t f [] [] [] := rfl
theorem eat_leaf (h : t.sub f = none) (h1 : lf y = true) (h2 : shl y = true) (hr : Eat hp t (f + 1) ys zs rs) : Eat hp t f (y :: ys) (y :: zs) rs := by
  simp only [Eat, h]; exact ⟨trivial, h1, h2, hr⟩
theorem eat_own (h : t.sub f = some t') (ho : look hp r = some (vr, O)) (hO : objOf t' es' = O) (hr : Eat hp t (f + 1) ys zs rs) : Eat hp t f (.own r vr :: ys) (.sl es' :: zs) (r :: rs) := by
  subst hO
  simp only [Eat, h]; exact .inl ⟨r, vr, es', rs, rfl, ho, rfl, rfl, hr⟩
theorem eat_nils (h : t.sub f = some t') (hr : Eat hp t (f + 1) ys zs rs) : Eat hp t f (.p (.slice none 0 0) :: ys) (.sl [] :: zs) rs := by
  simp only [Eat, h]; exact .inr ⟨by trivial, by trivial, hr⟩
end
theorem qzf {hp : Heap} {π : List (Nat × Nat)} {id ver : Nat} {t : DTy} {es : List (List V)} (h : memN id (π.map (·.1)) = false) (ho : look hp id = some (ver, .deep t es none)) : view hp π (.own id ver) = .sl es := by
  simp only [view, h, ho, cond_false, Nat.beq_refl, cond_true]
theorem deepEq {v : Nat} {t : DTy} {es es' : List (List V)} (h : es = es') : (some (v, Obj.deep t es none) : Option (Nat × Obj)) = some (v, .deep t es' none) := by rw [h]
section
variable {C : Ctx} {all : Array Oper} {s : St} {d : Nat} {ty : TypeId} {pos : String} {aft : Array Edge}
theorem qz4 {α : Type} {f : α → List V} {l : List α} {tt e : TypeId} {x : Operand} {id ver : Nat} {t : DTy} {h : Option (Nat × Nat × Nat × Nat)} (ht : C.P.underlying tt = some (.slice e)) (hx : Ab.ev s.sl x = .own id ver) (ho : look s.hp id = some (ver, .deep t (l.map f) h)) :
    OpJ C all ⟨some d, .call { callee := .builtin .len, args := #[x], argTypes := #[tt] }, ty, pos, aft, none⟩ s [id] (EV d (.p (.int .i64 l.length))) := by
  have := j_len_deep (all := all) (d := d) (ty := ty) (pos := pos) (aft := aft) ht hx ho
  rwa [List.length_map] at this
theorem qzg {tt e sz : Nat} {x y : Operand} {id ver : Nat} {t : DTy} {es : List (List V)} {h : Option (Nat × Nat × Nat × Nat)} {k : IntKind} {i : Int} {n : Nat} (ht : SlT C.P tt e sz) (hx : Ab.ev s.sl x = .own id ver) (ho : look s.hp id = some (ver, .deep t es h)) (hsz : t.s = sz) (hy : Ab.ev s.sl y = .p (.int k i)) (hn : i = (n : Int)) (hi : n < es.length) :
    OpJ C all ⟨some d, .indexAddr tt x y, ty, pos, aft, none⟩ s [id] (EV d (.pel id ver n 0)) := by
  subst hn
  exact j_elem_deep ht hx ho hsz hy (Int.natCast_nonneg n) hi
end
section
variable {C : Ctx} {all : Array Oper} {sl : Slots} {hp : Heap} {d : Nat} {o : Oper} {ids : List Nat} {l : List Oper} {K : St → Prop} {l0 : List Oper} {vf : Nat → Nat} {acc : List Rec}
theorem op_s1' {hp1 : Heap} (hJ : OpJ C all o ⟨sl, hp⟩ ids ⟨none, .any, hp1, []⟩) (h : AOps C all l K ⟨sl, hp1 ++ hp⟩) : AOps C all (o :: l) K ⟨sl, hp⟩ := op_cons0 rfl hJ h
end
abbrev conT (eC eT : Nat) : DTy := .mk eC 2 [(0, .mk eT 2 [])]
theorem flatten_pair {α β : Type} {f : α → β} {g : α → β} : ∀ {l : List α} {j : Nat} {v : β}, (l.map (fun a => [f a, g a])).flatten[j]? = some v → ∃ a, a ∈ l ∧ ((j % 2 = 0 ∧ v = f a) ∨ (j % 2 = 1 ∧ v = g a))
  | [], j, v, h => by simp at h
  | a :: l, 0, v, h => by simp at h; exact ⟨a, by simp, .inl ⟨rfl, h.symm⟩⟩
  | a :: l, 1, v, h => by simp at h; exact ⟨a, by simp, .inr ⟨rfl, h.symm⟩⟩
  | a :: l, j + 2, v, h => by
    obtain ⟨b, hb, h2⟩ := flatten_pair (l := l) (j := j) (v := v) (by simpa using h)
    exact ⟨b, by simp [hb], by rw [Nat.add_mod_right]; exact h2⟩
theorem plD_terms {eT : Nat} {ts : List Term} : PlD 1 (.mk eT 2 []) (ts.map dT) := by
  intro j v hj
  obtain ⟨a, _, h⟩ := flatten_pair (f := fun t : Term => V.p (.int .i64 t.1)) (g := fun t => .p (.int .i64 t.2)) hj
  show plV v = true
  rcases h with ⟨_, rfl⟩ | ⟨_, rfl⟩ <;> rfl
theorem plD_con {eC eT : Nat} {l : List Con} : PlD 2 (conT eC eT) (l.map dC) := by
  intro j v hj
  obtain ⟨a, _, h⟩ := flatten_pair (f := fun c : Con => V.sl (c.1.map dT)) (g := fun c => .p (.int .i64 c.2)) hj
  show match (conT eC eT).sub (j % 2) with | none => plV v = true | some t' => ∀ es', v = .sl es' → PlD 1 t' es'
  rcases h with ⟨h, rfl⟩ | ⟨h, rfl⟩ <;> rw [h]
  · intro es' he
    obtain rfl := V.sl.inj he
    exact plD_terms
  · rfl
theorem pl_conD {eC eT : Nat} {l : List Con} {hh : Option (Nat × Nat × Nat × Nat)} : plO (.deep (conT eC eT) (l.map dC) hh) := ⟨2, plD_con⟩
theorem qj0 {eC eT : Nat} {l : List Con} {hh : Option (Nat × Nat × Nat × Nat)} : ∀ o ∈ ([] : List Obj) ++ [.deep (conT eC eT) (l.map dC) hh], plO o := by
  intro o ho
  simp only [List.nil_append, List.mem_singleton] at ho
  subst ho; exact pl_conD
end Go.Ab
/- Maps from numbers, over the abstract state. -/
set_option linter.unusedSimpArgs false
set_option linter.unusedVariables false
namespace Go.Ab
def mapK (ks : List Int) : List (Value × Value) := ks.map (fun k => (.int .i64 k, .bool true))
def insK (ks : List Int) (n : Int) : List Int := if n ∈ ks then ks else ks ++ [n]
section
variable {C : Ctx}
end
section
variable {C : Ctx} {all : Array Oper} {s : St} {d : Nat} {ty : TypeId} {pos : String} {aft : Array Edge}
end
end Go.Ab
/- Calls from which two objects come back. -/
set_option linter.unusedSimpArgs false
set_option linter.unusedVariables false
namespace Go.Ab
section
variable {C : Ctx} {all : Array Oper} {sl : Slots} {hp : Heap} {d : Nat} {ty : TypeId} {pos : String} {aft : Array Edge} {l : List Oper} {K : St → Prop}
theorem ren2 {π : List (Nat × Nat)} {vers : Nat → Nat} {d : Nat} : π ++ svOf d vers 2 = π ++ [(d, vers d), (100000 + d, vers (100000 + d))] := by simp [svOf, List.range_succ]
theorem op_callE2 {f : FuncId} {xs : List Operand} {ats : Array TypeId} {args : List V} {ins : List Obj} {ι : Type} {R : ι → Prop} {r0 : ι → V} {v : ι → Nat → Nat → V} {ins1 : ι → List Obj} {o0 o1 : ι → Obj} {hp1 : ι → Nat → Nat → Heap} (π : List (Nat × Nat)) (vw : Bool) (hE : Ent' C.P f)
    (hF : Fn C.P f args ins (fun r i n => ∃ x, R x ∧ r = r0 x ∧ i = ins1 x ∧ n = [o0 x, o1 x]))
    (hargs : ArgsOk hp π ins.length vw (xs.map (Ab.ev sl)) args) (hπ : ObjsOk ins.length π hp π ins) (hπn : nodupB (π.map (·.1)) = true) (hπn2 : nodupB ((π ++ [((d, 0) : Nat × Nat), (100000 + d, 0)]).map (fun x => x.1)) = true)
    (hr0 : ∀ x, okV (ins.length + 2) (r0 x) = true) (hr1 : ∀ x, (ins1 x ++ [o0 x, o1 x]).all (okO (ins.length + 2)) = true) (hpl : vw = false ∨ ∀ x, plV (r0 x) = true ∧ ∀ o ∈ ins1 x ++ [o0 x, o1 x], plO o) (hv : ∀ x ver ver2, ren (π ++ [(d, ver), (100000 + d, ver2)]) (r0 x) = v x ver ver2) (hh : ∀ x ver ver2, ents (π ++ [(d, ver), (100000 + d, ver2)]) (π ++ [(d, ver), (100000 + d, ver2)]) (ins1 x ++ [o0 x, o1 x]) = hp1 x ver ver2)
    (h : ∀ x, R x → ∀ ver ver2, AOps C all l K ⟨(d, v x ver ver2) :: sl, hp1 x ver ver2 ++ hp⟩) :
    AOps C all (⟨some d, .call { callee := .value (.func f), args := xs.toArray, argTypes := ats }, ty, pos, aft, none⟩ :: l) K ⟨sl, hp⟩ := by
  refine op_call π vw hE hF hargs hπ hπn ?_
  rintro r ins' new ⟨x, hx, rfl, rfl, rfl⟩
  refine ⟨hr0 x, fun o ho => List.all_eq_true.1 (hr1 x) o ho, fun vers => ?_, hpl.imp id (fun k => k x), fun vers => ?_⟩
  · show nodupB ((π ++ svOf d vers 2).map (·.1)) = true
    rw [ren2]; simpa using hπn2
  · have := h x hx (vers d) (vers (100000 + d))
    rw [← hv x (vers d) (vers (100000 + d)), ← hh x (vers d) (vers (100000 + d))] at this
    show AOps C all l K ⟨(d, ren (π ++ svOf d vers 2) (r0 x)) :: sl, ents (π ++ svOf d vers 2) (π ++ svOf d vers 2) (ins1 x ++ [o0 x, o1 x]) ++ hp⟩
    rw [ren2]; exact this
theorem op_call2 {f : FuncId} {xs : List Operand} {ats : Array TypeId} {args : List V} {ins : List Obj} {r0 : V} {v : Nat → Nat → V} {ins1 : List Obj} {o0 o1 : Obj} {hp1 : Nat → Nat → Heap} (π : List (Nat × Nat)) (vw : Bool) (hE : Ent' C.P f)
    (hF : Fn C.P f args ins (fun r i n => r = r0 ∧ i = ins1 ∧ n = [o0, o1]))
    (hargs : ArgsOk hp π ins.length vw (xs.map (Ab.ev sl)) args) (hπ : ObjsOk ins.length π hp π ins) (hπn : nodupB (π.map (·.1)) = true) (hπn2 : nodupB ((π ++ [((d, 0) : Nat × Nat), (100000 + d, 0)]).map (fun x => x.1)) = true)
    (hr0 : okV (ins.length + 2) r0 = true) (hr1 : (ins1 ++ [o0, o1]).all (okO (ins.length + 2)) = true) (hpl : vw = false ∨ (plV r0 = true ∧ ∀ o ∈ ins1 ++ [o0, o1], plO o)) (hv : ∀ ver ver2, ren (π ++ [(d, ver), (100000 + d, ver2)]) r0 = v ver ver2) (hh : ∀ ver ver2, ents (π ++ [(d, ver), (100000 + d, ver2)]) (π ++ [(d, ver), (100000 + d, ver2)]) (ins1 ++ [o0, o1]) = hp1 ver ver2)
    (h : ∀ ver ver2, AOps C all l K ⟨(d, v ver ver2) :: sl, hp1 ver ver2 ++ hp⟩) :
    AOps C all (⟨some d, .call { callee := .value (.func f), args := xs.toArray, argTypes := ats }, ty, pos, aft, none⟩ :: l) K ⟨sl, hp⟩ :=
  op_callE2 (ι := Unit) (R := fun _ => True) (r0 := fun _ => r0) (v := fun _ => v) (ins1 := fun _ => ins1) (o0 := fun _ => o0) (o1 := fun _ => o1) (hp1 := fun _ => hp1) π vw hE (Fn.mono hF fun _ _ _ h => ⟨(), trivial, h⟩) hargs hπ hπn hπn2 (fun _ => hr0) (fun _ => hr1) (hpl.imp id fun k _ => k) (fun _ => hv) (fun _ => hh) (fun _ _ => h)
end
theorem pl_two {a b : Obj} (ha : plO a) (hb : plO b) : ∀ o ∈ ([] : List Obj) ++ [a, b], plO o := by
  intro o ho
  simp only [List.nil_append, List.mem_cons, List.not_mem_nil, or_false] at ho
  rcases ho with rfl | rfl
  · exact ha
  · exact hb
end Go.Ab
/- Rows with rows of their own, let go inside a struct or a variable. -/
set_option linter.unusedSimpArgs false
set_option linter.unusedVariables false
namespace Go.Ab
section
variable {C : Ctx} {s : St}
end
section
variable {P : Program} {n : Nat} {w0 : World} {ins : List Obj} {g0 : Gh} {X : Nat → Prop} {sl : Slots} {hp : Heap} {c : Code} {Q : Exit → St → Prop} {all : Array Oper}
end
end Go.Ab
namespace Go.Ab
section
variable {C : Ctx} {Q : Exit → St → Prop} {c : Code} {sl : Slots} {hp : Heap}
theorem a_deep {ver : Nat} {t : DTy} {es es' : List (List V)} (id : Nat) (ho : look hp id = some (ver, .deep t es none)) (he : es = es') (h : AWp C c Q ⟨sl, (id, some (ver, .deep t es' none)) :: hp⟩) : AWp C c Q ⟨sl, hp⟩ := by
  subst he
  refine a_ent ⟨sl, (id, some (ver, .deep t es none)) :: hp⟩ ⟨fun _ _ => rfl, fun p hp' => ?_⟩ h
  show look hp p.1 = look ((id, some (ver, .deep t es none)) :: hp) p.1
  rw [qju]
  split
  · rename_i e; rw [e]; exact ho
  · rfl
end
section
variable {C : Ctx} {all : Array Oper} {sl : Slots} {hp : Heap} {d : Nat} {ty : TypeId} {pos : String} {aft : Array Edge} {l : List Oper} {K : St → Prop}
theorem ren3 {π : List (Nat × Nat)} {vers : Nat → Nat} {d : Nat} : π ++ svOf d vers 3 = π ++ [(d, vers d), (100000 + d, vers (100000 + d)), (200000 + d, vers (200000 + d))] := by simp [svOf, List.range_succ]
theorem op_call3 {f : FuncId} {xs : List Operand} {ats : Array TypeId} {args : List V} {ins : List Obj} {r0 : V} {v : Nat → Nat → Nat → V} {ins1 : List Obj} {o0 o1 o2 : Obj} {hp1 : Nat → Nat → Nat → Heap} (π : List (Nat × Nat)) (vw : Bool) (hE : Ent' C.P f)
    (hF : Fn C.P f args ins (fun r i n => r = r0 ∧ i = ins1 ∧ n = [o0, o1, o2]))
    (hargs : ArgsOk hp π ins.length vw (xs.map (Ab.ev sl)) args) (hπ : ObjsOk ins.length π hp π ins) (hπn : nodupB (π.map (·.1)) = true) (hπn2 : nodupB ((π ++ [((d, 0) : Nat × Nat), (100000 + d, 0), (200000 + d, 0)]).map (fun x => x.1)) = true)
    (hr0 : okV (ins.length + 3) r0 = true) (hr1 : (ins1 ++ [o0, o1, o2]).all (okO (ins.length + 3)) = true) (hpl : vw = false ∨ (plV r0 = true ∧ ∀ o ∈ ins1 ++ [o0, o1, o2], plO o)) (hv : ∀ ver ver2 ver3, ren (π ++ [(d, ver), (100000 + d, ver2), (200000 + d, ver3)]) r0 = v ver ver2 ver3) (hh : ∀ ver ver2 ver3, ents (π ++ [(d, ver), (100000 + d, ver2), (200000 + d, ver3)]) (π ++ [(d, ver), (100000 + d, ver2), (200000 + d, ver3)]) (ins1 ++ [o0, o1, o2]) = hp1 ver ver2 ver3)
    (h : ∀ ver ver2 ver3, AOps C all l K ⟨(d, v ver ver2 ver3) :: sl, hp1 ver ver2 ver3 ++ hp⟩) :
    AOps C all (⟨some d, .call { callee := .value (.func f), args := xs.toArray, argTypes := ats }, ty, pos, aft, none⟩ :: l) K ⟨sl, hp⟩ := by
  refine op_call π vw hE hF hargs hπ hπn ?_
  rintro r ins' new ⟨rfl, rfl, rfl⟩
  refine ⟨hr0, fun o ho => List.all_eq_true.1 hr1 o ho, fun vers => ?_, hpl, fun vers => ?_⟩
  · show nodupB ((π ++ svOf d vers 3).map (·.1)) = true
    rw [ren3]; simpa using hπn2
  · have := h (vers d) (vers (100000 + d)) (vers (200000 + d))
    rw [← hv (vers d) (vers (100000 + d)) (vers (200000 + d)), ← hh (vers d) (vers (100000 + d)) (vers (200000 + d))] at this
    show AOps C all l K ⟨(d, ren (π ++ svOf d vers 3) r) :: sl, ents (π ++ svOf d vers 3) (π ++ svOf d vers 3) (ins' ++ [o0, o1, o2]) ++ hp⟩
    rw [ren3]; exact this
end
end Go.Ab
/- Slices held against nil: a nil slice is nil, a slice with elements is not. -/
namespace Go.Ab
theorem nq : (∀ b : Bool, ((!b) = true) = (b = false)) ∧ (∀ b : Bool, ((!b) = false) = (b = true)) ∧ (∀ b : Bool, (!!b) = b) ∧
    (∀ {α : Type} [BEq α] [LawfulBEq α] (a b : α), ((a != b) = true) = (a ≠ b)) ∧ (∀ {α : Type} [BEq α] [LawfulBEq α] (a b : α), ((a != b) = false) = (a = b)) ∧
    (∀ {α : Type} [BEq α] [LawfulBEq α] (a b : α), ((a == b) = false) = (a ≠ b)) ∧ (∀ {α : Type} [BEq α] [LawfulBEq α] (a b : α), ((a == b) = true) = (a = b)) ∧
    (∀ {α : Type} (a b : α), (a ≠ b) = ¬ a = b) ∧ (∀ (p : Prop) [Decidable p], (decide p = true) = p) ∧ (∀ (p : Prop) [Decidable p], (decide p = false) = ¬ p) ∧ (∀ p : Prop, (¬ ¬ p) = p) :=
  ⟨fun b => by simp, fun b => by simp, fun b => by simp, fun a b => by simp, fun a b => by simp, fun a b => by simp, fun a b => by simp, fun a b => rfl, fun p _ => by simp, fun p _ => by simp, fun p => by simp⟩
theorem nr : (∀ {α β : Type} (f : α → β) (l : List α), (l.map f).length = l.length) ∧ (∀ {α : Type} (n : Nat) (l : List α), (l.take n).length = min n l.length) ∧ (∀ n : Nat, ((n : Int)).toNat = n) :=
  ⟨fun _ _ => List.length_map .., fun _ _ => List.length_take .., fun n => Int.toNat_natCast n⟩
theorem nl : (∀ {α : Type} (a b : List α), (a ++ b).length = a.length + b.length) ∧ (∀ {α : Type} (a : α) (l : List α), (a :: l).length = l.length + 1) ∧ (∀ {α : Type}, ([] : List α).length = 0) ∧ (∀ {α : Type} (l : List α) (i : Nat) (a : α), (l.set i a).length = l.length) :=
  ⟨fun _ _ => List.length_append .., fun _ _ => List.length_cons .., List.length_nil, fun _ _ _ => List.length_set ..⟩
section
variable {C : Ctx} {all : Array Oper} {s : St} {d : Nat} {ty : TypeId} {pos : String} {aft : Array Edge} {xt yt e : Nat} {x : Operand} {es : List (List V)}
end
end Go.Ab
namespace Go.Ab
section
variable {C : Ctx} {all : Array Oper} {s : St} {d : Nat} {ty : TypeId} {pos : String} {aft : Array Edge}
end
end Go.Ab
/- Objects that go on under another name, so that a contract may hand them over: what they were is gone. -/
set_option linter.unusedSimpArgs false
set_option linter.unusedVariables false
namespace Go.Ab
def movO : Obj → Bool
  | .row _ _ _ => true
  | .deep _ _ none => true
  | _ => false
theorem OR.move {g g' : Gh} {X X' : Nat → Prop} {w : World} {i i' : Nat} {o : Obj} (h : OR g X w i o) (hm : movO o = true) (h1 : g'.val i' = g.val i) (h2 : g'.blk i' = g.blk i) (h3 : g'.fp i' = g.fp i) (h4 : g'.sz i' = g.sz i) (hX : ∀ b, X b → X' b) : OR g' X' w i' o := by
  cases o with
  | row e s es =>
    obtain ⟨p0, p1, p2⟩ := h
    refine ⟨h4.trans p0, p1, ?_⟩
    rcases p2 with ⟨p3, p4, p5⟩ | ⟨b, c, cur, p3, p4, p5, p6, p7, p8, p9, p10⟩
    · exact .inl ⟨p3, h1.trans p4, h3.trans p5⟩
    · exact .inr ⟨b, c, cur, h1.trans p3, h2.trans p4, h3.trans p5, p6, p7, p8, p9, fun j v hj => let ⟨u, a1, a2⟩ := p10 j v hj; ⟨u, a1, a2.fits hX (fun _ _ => rfl)⟩⟩
  | deep t es hh =>
    cases hh with
    | none => exact h.deepTo h1 h2 h3 h4 hX
    | some x => simp [movO] at hm
  | _ => simp [movO] at hm
section
variable {C : Ctx}
theorem HR.giveG {w : World} {hp : Heap} {g : Gh} {i ver : Nat} {o : Obj} (h : HR C w hp g) (ho : look hp i = some (ver, o)) (hm : movO o = true) (j : Nat) (hj : j ≠ i) :
    HR C w ((j, some (g.cur j + 1, o)) :: (i, some (ver, .gone)) :: hp) ((g.upd j (g.cur j + 1) (g.val i) (g.blk i) (g.fp i) (g.sz i)).setfp i []) ∧
    Fits g (XX C hp g w) w ((g.upd j (g.cur j + 1) (g.val i) (g.blk i) (g.fp i) (g.sz i)).setfp i []) (XX C ((j, some (g.cur j + 1, o)) :: (i, some (ver, .gone)) :: hp) ((g.upd j (g.cur j + 1) (g.val i) (g.blk i) (g.fp i) (g.sz i)).setfp i []) w) w := by
  generalize hG : (g.upd j (g.cur j + 1) (g.val i) (g.blk i) (g.fp i) (g.sz i)).setfp i [] = G
  have gj : G.cur j = g.cur j + 1 ∧ G.val j = g.val i ∧ G.blk j = g.blk i ∧ G.fp j = g.fp i ∧ G.sz j = g.sz i := by subst hG; simp [Gh.upd, Gh.setfp, hj]
  have gi : G.fp i = [] := by subst hG; simp [Gh.setfp]
  have gk : ∀ k, k ≠ j → G.cur k = g.cur k ∧ G.val k = g.val k ∧ G.blk k = g.blk k ∧ G.sz k = g.sz k := by intro k hk; subst hG; simp [Gh.upd, Gh.setfp, hk]
  have gf : ∀ k, k ≠ j → k ≠ i → G.fp k = g.fp k := by intro k hk hk2; subst hG; simp [Gh.upd, Gh.setfp, hk, hk2]
  have hci := h.cur i ver o ho
  have lk : ∀ k io, look ((j, some (g.cur j + 1, o)) :: (i, some (ver, .gone)) :: hp) k = some io → (k = j ∧ io = (g.cur j + 1, o)) ∨ (k ≠ j ∧ k = i ∧ io = (ver, .gone)) ∨ (k ≠ j ∧ k ≠ i ∧ look hp k = some io) := by
    intro k io hk
    simp only [look] at hk
    by_cases e1 : j = k
    · subst e1; simp at hk; exact .inl ⟨rfl, hk.symm⟩
    · rw [qjx e1, cond_false] at hk
      by_cases e2 : i = k
      · subst e2; simp at hk; exact .inr (.inl ⟨fun h => e1 h.symm, rfl, hk.symm⟩)
      · rw [qjx e2, cond_false] at hk
        exact .inr (.inr ⟨fun h => e1 h.symm, fun h => e2 h.symm, hk⟩)
  have hX : ∀ b, XX C hp g w b → XX C ((j, some (g.cur j + 1, o)) :: (i, some (ver, .gone)) :: hp) G w b := by
    rintro b ⟨hb, hb2⟩
    refine ⟨hb, fun k io hk => ?_⟩
    rcases lk k io hk with ⟨rfl, _⟩ | ⟨_, rfl, _⟩ | ⟨h1, h2, h3⟩
    · rw [gj.2.2.2.1]; exact hb2 i _ ho
    · rw [gi]; simp
    · rw [gf k h1 h2]; exact hb2 k _ h3
  have hF : Fits g (XX C hp g w) w G (XX C ((j, some (g.cur j + 1, o)) :: (i, some (ver, .gone)) :: hp) G w) w := by
    have aux : ∀ k, k = j → g.cur k = G.cur k → False := by intro k hk e; subst hk; rw [gj.1] at e; omega
    refine ⟨fun k => ?_, fun k e => ?_, fun k e => ?_, fun k e => ?_, hX, fun _ _ => rfl⟩
    · by_cases hk : k = j
      · subst hk; rw [gj.1]; omega
      · rw [(gk k hk).1]; exact Nat.le_refl _
    all_goals by_cases hk : k = j
    all_goals first | exact (aux k hk e).elim | exact (gk k hk).2.1 | exact (gk k hk).2.2.1 | exact (gk k hk).2.2.2
  refine ⟨⟨h.ext, h.wf, fun k => ?_, fun a b io jo ha hb hne x hx => ?_, fun k v o' hk => ?_, fun k io x hk hx => ?_, fun k v o' hk => ?_⟩, hF⟩
  · have h0 := h.lnk k
    by_cases hk : k = j
    · subst hk; rw [gj.1]; exact ⟨by omega, fun e => by omega⟩
    · obtain ⟨a1, a2, a3, a4⟩ := gk k hk
      rw [a1, a2, a3, a4]; exact h0
  · rcases lk a io ha with ⟨rfl, _⟩ | ⟨_, rfl, _⟩ | ⟨h1, h2, h3⟩ <;> rcases lk b jo hb with ⟨rfl, _⟩ | ⟨_, rfl, _⟩ | ⟨k1, k2, k3⟩
    · exact absurd rfl hne
    · rw [gi]; simp
    · rw [gj.2.2.2.1] at hx; rw [gf b k1 k2]; exact h.dis i b _ _ ho k3 (Ne.symm k2) x hx
    · rw [gi] at hx; simp at hx
    · exact absurd rfl hne
    · rw [gi] at hx; simp at hx
    · rw [gf a h1 h2] at hx; rw [gj.2.2.2.1]; exact h.dis a i _ _ h3 ho h2 x hx
    · rw [gi]; simp
    · rw [gf a h1 h2] at hx; rw [gf b k1 k2]; exact h.dis a b _ _ h3 k3 hne x hx
  · rcases lk k _ hk with ⟨rfl, e⟩ | ⟨h1, rfl, e⟩ | ⟨h1, _, h3⟩
    · simp at e; rw [gj.1]; exact e.1.symm
    · simp at e; rw [(gk k h1).1, hci]; exact e.1.symm
    · rw [(gk k h1).1]; exact h.cur k v o' h3
  · rcases lk k _ hk with ⟨rfl, _⟩ | ⟨h1, rfl, _⟩ | ⟨h1, h2, h3⟩
    · rw [gj.2.2.2.1] at hx; exact h.blk i _ x ho hx
    · rw [gi] at hx; simp at hx
    · rw [gf k h1 h2] at hx; exact h.blk k _ x h3 hx
  · rcases lk k _ hk with ⟨rfl, e⟩ | ⟨h1, rfl, e⟩ | ⟨h1, h2, h3⟩
    · simp at e
      obtain ⟨_, rfl⟩ := e
      exact (h.obj i ver _ ho).move hm gj.2.1 gj.2.2.1 gj.2.2.2.1 gj.2.2.2.2 hX
    · simp at e
      obtain ⟨_, rfl⟩ := e
      exact gi
    · exact (h.obj k v o' h3).fits hF (gk k h1).1.symm (gf k h1 h2) (fun _ _ => rfl)
variable {s : St}
theorem Rel.giveG {a : Act} {w : World} {g : Gh} (hr : Rel C a w s g) {i ver : Nat} {o : Obj} (ho : look s.hp i = some (ver, o)) (hm : movO o = true) (j : Nat) (hj : j ≠ i) :
    ∃ g', Rel C a w ⟨s.sl, (j, some (g.cur j + 1, o)) :: (i, some (ver, .gone)) :: s.hp⟩ g' ∧ g'.val j = g.val i ∧ g'.cur j = g.cur j + 1 ∧ g'.val i = g.val i := by
  obtain ⟨h1, h2⟩ := hr.hr.giveG ho hm j hj
  exact ⟨_, hr.mem h1 h2, by simp [Gh.upd, Gh.setfp], by simp [Gh.upd, Gh.setfp], by simp [Gh.upd, Gh.setfp, Ne.symm hj]⟩
theorem own_live {a : Act} {w : World} {g : Gh} {X : Nat → Prop} {i ver : Nat} {u : Value} (h : VR g X w (.own i ver) u) (hc : g.cur i = ver) : u = g.val i ∧ u.oneCell' = true := by
  cases h with
  | sh h => cases h
  | own _ _ _ h0 _ h2 => exact ⟨h2 hc.symm, h0⟩
theorem Rel.mvB {a : Act} {w : World} {g : Gh} (hr : Rel C a w s g) {bo bv e f i ver : Nat} {xs : List V} {o : Obj} (hb : look s.hp bo = some (bv, .box e xs)) (hf : xs[f]? = some (.own i ver)) (ho : look s.hp i = some (ver, o)) (hm : movO o = true) (j : Nat) (hj : j ≠ i) (hjb : j ≠ bo) :
    ∃ v g', Rel C a w ⟨s.sl, (bo, some (bv, .box e (xs.set f (.own j v)))) :: (j, some (v, o)) :: (i, some (ver, .gone)) :: s.hp⟩ g' := by
  have hib : i ≠ bo := fun q => by subst q; rw [ho] at hb; simp at hb; rw [hb.2] at hm; simp [movO] at hm
  have hci := hr.hr.cur i ver _ ho
  obtain ⟨g', hr2, h1, h2, hvi⟩ := hr.giveG ho hm j hj
  -- the value that the field holds
  obtain ⟨b, cur, q1, q2, q3, q4, q5⟩ := hr.hr.obj bo bv _ hb
  obtain ⟨u, e1, e2⟩ := q5 f _ hf
  obtain ⟨e3, e4⟩ := own_live (a := a) e2 hci
  have hb2 : look ((j, some (g.cur j + 1, o)) :: (i, some (ver, .gone)) :: s.hp) bo = some (bv, .box e xs) := by
    simp only [look, qjx hjb, qjx hib, cond_false]; exact hb
  obtain ⟨b', cur', p1, p2, p3, p4, p5⟩ := hr2.hr.obj bo bv _ hb2
  have hbox := hr2.boxset (j := f) (v := .own j (g.cur j + 1)) hb2 (fun u' h9 => ?_)
  · exact ⟨_, _, hbox⟩
  · obtain ⟨v0, k1, k2⟩ := h9
    rw [hf] at k1
    obtain rfl := Option.some.inj k1
    have hci2 : g'.cur i = ver := hr2.hr.cur i ver .gone (by simp only [look, qjx hj, Nat.beq_refl, cond_false, cond_true])
    obtain ⟨k3, k4⟩ := own_live (a := a) k2 hci2
    exact .own j _ _ k4 (by omega) (fun _ => by rw [h1, k3, hvi])
theorem a_mvB {c : Code} {Q : Exit → St → Prop} {sl : Slots} {hp : Heap} {bv e i ver : Nat} {xs : List V} {o : Obj} (bo f j : Nat) (hj : j ≠ i) (hjb : j ≠ bo) (hb : look hp bo = some (bv, .box e xs)) (hf : xs[f]? = some (.own i ver)) (ho : look hp i = some (ver, o)) (hm : movO o = true)
    (h : ∀ v, AWp C c Q ⟨sl, (bo, some (bv, .box e (xs.set f (.own j v)))) :: (j, some (v, o)) :: (i, some (ver, .gone)) :: hp⟩) : AWp C c Q ⟨sl, hp⟩ :=
  fun a w _ hr => by obtain ⟨v, g', hr'⟩ := hr.mvB (s := ⟨sl, hp⟩) hb hf ho hm j hj hjb; exact h v a w _ hr'
end
end Go.Ab
namespace Go.Ab
section
variable {C : Ctx} {all : Array Oper} {s : St} {d : Nat} {ty : TypeId} {pos : String} {aft : Array Edge}
end
end Go.Ab
namespace Go.Ab
section
variable {C : Ctx} {s : St}
end
end Go.Ab
/- Calls with two or three new objects, in a region that draws its order. -/
set_option linter.unusedSimpArgs false
set_option linter.unusedVariables false
namespace Go.Ab
section
variable {C : Ctx} {all : Array Oper} {s : St} {d : Nat} {ty : TypeId} {pos : String} {aft : Array Edge}
theorem j_call3 {f : FuncId} {xs : List Operand} {ats : Array TypeId} {args : List V} {ins ins1 : List Obj} {r0 v : V} {o0 o1 o2 : Obj} {hp1 : Heap} {ver ver2 ver3 : Nat} (π : List (Nat × Nat)) (vw : Bool) (ids : List Nat) (hE : Ent' C.P f) (hF : Fn C.P f args ins (fun r i n => r = r0 ∧ i = ins1 ∧ n = [o0, o1, o2]))
    (hargs : ArgsOk s.hp π ins.length vw (xs.map (Ab.ev s.sl)) args) (hπ : ObjsOk ins.length π s.hp π ins) (hπn : nodupB ((π ++ [(d, ver), (100000 + d, ver2), (200000 + d, ver3)]).map (·.1)) = true) (hπn' : nodupB (π.map (·.1)) = true) (hids : (π.map (·.1)).all (fun i => memN i ids) = true) (hids2 : vw = true → (xs.map (Ab.ev s.sl)).all (fun v => (owns v).all (fun i => memN i ids)) = true)
    (hr0 : okV (ins.length + 3) r0 = true) (hr1 : ∀ o ∈ ins1 ++ [o0, o1, o2], okO (ins.length + 3) o = true) (hpl : vw = false ∨ (plV r0 = true ∧ ∀ o ∈ ins1 ++ [o0, o1, o2], plO o)) (hv : ren (π ++ [(d, ver), (100000 + d, ver2), (200000 + d, ver3)]) r0 = v) (hh : ents (π ++ [(d, ver), (100000 + d, ver2), (200000 + d, ver3)]) (π ++ [(d, ver), (100000 + d, ver2), (200000 + d, ver3)]) (ins1 ++ [o0, o1, o2]) = hp1) :
    OpJ C all ⟨some d, .call { callee := .value (.func f), args := xs.toArray, argTypes := ats }, ty, pos, aft, none⟩ s ids ⟨some d, v, hp1, [(d, ver), (100000 + d, ver2), (200000 + d, ver3)]⟩ := by
  intro s' hs hd a w g hr hbp K' Q hK
  have b1 : ver = g.cur d + 1 := hbp (d, ver) (by simp)
  have b2 : ver2 = g.cur (100000 + d) + 1 := hbp (100000 + d, ver2) (by simp)
  have b3 : ver3 = g.cur (200000 + d) + 1 := hbp (200000 + d, ver3) (by simp)
  subst b1 b2 b3
  have hev : xs.map (Ab.ev s'.sl) = xs.map (Ab.ev s.sl) := List.map_congr_left fun x hx => hs.e (by simp [Op.operands, Call.operands, hx])
  have hπi : ∀ x ∈ π, x.1 ∈ ids := fun x hx => memN_iff.1 (List.all_eq_true.1 hids x.1 (List.mem_map.2 ⟨x, hx, rfl⟩))
  have hargs' : ArgsOk s'.hp π ins.length vw (xs.map (Ab.ev s'.sl)) args := by
    rw [hev]
    exact args_agree hs (fun hw v hv i hi => memN_iff.1 (List.all_eq_true.1 (List.all_eq_true.1 (hids2 hw) v hv) i hi)) hargs
  have hsv : svOf d (fun i => g.cur i + 1) 3 = [(d, g.cur d + 1), (100000 + d, g.cur (100000 + d) + 1), (200000 + d, g.cur (200000 + d) + 1)] := by simp [svOf, List.range_succ, Nat.add_comm]
  have hc := call_core (d := d) (vals := (xs.map a.eval).toArray) hF hr (by simp) (evs_at hr xs) hargs' (keys_agree hs hπi hπi hπ) hπn' (fun r ins' new hp => by
    obtain ⟨rfl, rfl, rfl⟩ := hp
    simp only [List.length_cons, List.length_nil, Nat.zero_add, Nat.reduceAdd, hsv]
    exact ⟨hr0, hr1, hπn, hpl⟩)
  unfold opWp
  rw [if_pos (by simp [Region.wanted])]
  refine .inl ?_
  unfold Oper.wp
  rw [run_execCall hE, Oper.upon_enter]
  refine hc.mono ?_
  rintro e w' ⟨u, r, ins', new, G, rfl, ⟨rfl, rfl, rfl⟩, k1, k2, k3, k4⟩
  simp only [List.length_cons, List.length_nil, Nat.zero_add, Nat.reduceAdd, hsv, hh, hv] at k1 k2 k3 k4
  exact hK _ _ G ((hr.mem k1 k2).put (hd d rfl) k3) (fun j hj => k4 j fun x hx e => hj x hx e.symm)
end
section
variable {C : Ctx} {K : St → Prop} {l0 l : List Oper} {vf : Nat → Nat} {acc : List Rec} {sl : Slots} {hp : Heap} {o : Oper} {ids : List Nat} {d : Nat}
theorem d_n3' {i0 i1 i2 : Nat} {v : Nat → Nat → Nat → V} {hp1 : Nat → Nat → Nat → Heap} (hJ : ∀ ver ver2 ver3, OpJ C l0.toArray o ⟨sl, hp⟩ ids ⟨some d, v ver ver2 ver3, hp1 ver ver2 ver3, [(i0, ver), (i1, ver2), (i2, ver3)]⟩) (h : Drw C l0 vf K l ⟨(d, v (vf i0) (vf i1) (vf i2)) :: sl, hp1 (vf i0) (vf i1) (vf i2) ++ hp⟩ (acc ++ [⟨o.looksAt l0.toArray, ids, ⟨some d, v (vf i0) (vf i1) (vf i2), hp1 (vf i0) (vf i1) (vf i2), [(i0, vf i0), (i1, vf i1), (i2, vf i2)]⟩⟩])) : Drw C l0 vf K (o :: l) ⟨sl, hp⟩ acc :=
  d_cons (fun b hb => by simp only [List.mem_cons, List.not_mem_nil, or_false] at hb; rcases hb with rfl | rfl | rfl <;> rfl) (hJ _ _ _) h
end
end Go.Ab
namespace Go.Ab
section
variable {C : Ctx} {all : Array Oper} {s : St} {d : Nat} {ty : TypeId} {pos : String} {aft : Array Edge}
theorem j_boxaI {e : TypeId} {x : Operand} {xs : List V} {ver : Nat} (i : Nat) (hx : Ab.ev s.sl x = .agg xs) :
    OpJ C all ⟨some d, .box e x, ty, pos, aft, none⟩ s [] (EN d (.ptr i ver 0) i ver (.box e xs)) :=
  j_step (hp' := [(i, some (ver, .box e xs))]) (bp := [(i, ver)]) fun s' hs a w g hr hbp => by
    have hx := (hs.e (x := x) (by simp [Op.operands])).trans hx
    obtain ⟨cs, h1, h1', h1''⟩ := hr.agg hx
    obtain rfl := qxb hbp
    obtain ⟨h2, h3⟩ := hr.hr.new (i := i) (o := .box e xs) (cur := cs) (e := e) (w1 := w) rfl rfl rfl rfl .nilFunc 0 (fun g' X' w' hf _ e2 e3 _ e5 => box_or e2 e3 e5 h1' (fun j v' u hj hu => (h1'' j v' u hj hu).fits hf))
    refine ⟨_, _, _, ?_, h2, h3, .ptr i _ 0 _ rfl (by simp [Gh.upd]) (fun _ => ⟨w.heap.size, by simp [Gh.upd], rfl⟩), fun j hj => upd_cur j hj⟩
    simp [execOp, Instr.box, newVar, newRow, h1, Value.cells]
end
end Go.Ab
namespace Go.Ab
theorem op_eqnil_o {C : Ctx} {all : Array Oper} {l : List Oper} {K : St → Prop} {sl : Slots} {hp : Heap} {d xt yt e id ver e2 sz : Nat} {x : Operand} {ty : TypeId} {pos : String} {aft : Array Edge} {es : List (List V)} (ht : C.P.underlying xt = some (.slice e)) (hx : ev sl x = .own id ver) (ho : look hp id = some (ver, .row e2 sz es))
    (h : ∀ b : Bool, (b = true → es = []) → AOps C all l K ⟨(d, .p (.bool b)) :: sl, hp⟩) : AOps C all (⟨some d, .binOp .eql xt x (.const (.slice none 0 0)) yt, ty, pos, aft, none⟩ :: l) K ⟨sl, hp⟩ := by
  intro hd Q hQ a w g hr
  have hdd := okDst_head hd d rfl
  have hs : ∃ ad c, a.eval x = .slice ad es.length c ∧ (ad = none → es = []) := by
    obtain ⟨h1, h2, _⟩ := hr.row (x := x) hx ho
    rw [h1]
    obtain ⟨_, _, h3⟩ := h2
    rcases h3 with ⟨q1, q2, _⟩ | ⟨b, c, cur, q, _⟩
    · exact ⟨none, 0, by rw [q2, q1]; rfl, fun _ => q1⟩
    · exact ⟨_, c, q, fun h => by cases h⟩
  obtain ⟨ad, c, hu, hn⟩ := hs
  have key : ∃ b : Bool, (b = true → es = []) ∧ (Op.equal xt (a.eval x) (.slice none 0 0)).run C.P w = .ok b w ∧ (eqGuard .eql xt x (.const (.slice none 0 0)) (a.eval x) (.slice none 0 0)).run C.P w = .ok () w := by
    rw [hu]
    exact ⟨ad.isNone, fun h => hn (by cases ad with | none => rfl | some _ => cases h), run_equal_nil ht _ _ _ _, rfl⟩
  obtain ⟨b, h1, h2, h3⟩ := key
  refine wpList_plain rfl fun K' hK' => ?_
  have hrun : (execOp a.eval ⟨some d, .binOp .eql xt x (.const (.slice none 0 0)) yt, ty, pos, aft, none⟩).run C.P w = .ok (.value (.bool b)) w := by
    have e : (Go.binOp .eql xt (a.eval x) (.slice none 0 0)).run C.P w = .ok (.bool b) w := by
      rw [hu] at h2 ⊢
      simp only [Go.binOp, Sem.run_bind, h2, Result.andThen_ok, Sem.run_pure]
    simp only [execOp, Sem.run_bind, Act.eval] at *
    simp only [h3, e, Result.andThen_ok, Sem.run_pure, Sem.run_bind]
  unfold Oper.wp
  rw [hrun, Oper.upon_value]
  exact hK' _ _ (h b h1 (okDst_tail hd) Q hQ _ _ g (hr.put hdd (.sh (.p _))))
end Go.Ab
/- Arrays that are read by a number; what slices.Grow does to a nil slice. -/
set_option linter.unusedSimpArgs false
set_option linter.unusedVariables false
namespace Go.Ab
section
variable {C : Ctx} {all : Array Oper} {s : St} {d : Nat} {ty : TypeId} {pos : String} {aft : Array Edge}
end
end Go.Ab
/- The commonest steps under short names. -/
set_option linter.unusedSimpArgs false
set_option linter.unusedVariables false
namespace Go.Ab
section
variable {C : Ctx} {all : Array Oper} {l : List Oper} {K : St → Prop} {sl : Slots} {hp : Heap} {d : Nat} {ty : TypeId} {pos : String} {aft : Array Edge} {x : Operand} {v : V}
theorem om (hx : evO sl x = some v) (h : AOps C all l K ⟨(d, v) :: sl, hp⟩) : AOps C all (⟨some d, .move x, ty, pos, aft, none⟩ :: l) K ⟨sl, hp⟩ := qqa (qqn (evo hx)) h
theorem oa (hx : evO sl x = some v) (h : AOps C all l K ⟨(d, v) :: sl, hp⟩) : AOps C all (⟨some d, .assign x, ty, pos, aft, none⟩ :: l) K ⟨sl, hp⟩ := qqa (j_assign (evo hx)) h
theorem on {s : St} (h : K s) : AOps C all [] K s := op_nil h
end
theorem ar {C : Ctx} {s : St} {id : Nat} {l : List Oper} {Q : Exit → St → Prop} (h : AOps C l.toArray l (fun s => Q .normal s) s) (hb : okDst C.n l = true := by kernel_rfl) : AWp C (.region id l.toArray false) Q s := a_region hb h
theorem rs {C : Ctx} {s : St} {id : Nat} {l : List Oper} {y : Code} {Q : Exit → St → Prop} (h : AOps C l.toArray l (fun s => AWp C y Q s) s) (hb : okDst C.n l = true := by kernel_rfl) : AWp C (.seq (.region id l.toArray false) y) Q s := qqd (a_region hb h)
theorem ac {C : Ctx} {s : St} {Q : Exit → St → Prop} {c : Operand} {x y : Code} {b : Bool} (hc : ev s.sl c = .p (.bool b)) (ht : b = true → AWp C x Q s) (hf : b = false → AWp C y Q s) : AWp C (.cond c x y) Q s := a_cond hc ht hf
end Go.Ab
/- A row whose only element is the nil slice, seen as a row of one empty slice. -/
set_option linter.unusedSimpArgs false
set_option linter.unusedVariables false
namespace Go.Ab
theorem zz {p : Prop} (h : p := by first | omega | (simp only [nr, nl]; omega)) : p := h
theorem zr {p : Prop} (h : p := by first | omega | (simp only [nr]; omega)) : p := h
theorem nb {a b : Nat} (h : Nat.ble a b = true) : a ≤ b := Nat.le_of_ble_eq_true h
theorem qza {C : Ctx} {all : Array Oper} {s : St} {d : Nat} {ty : TypeId} {pos : String} {aft : Array Edge} {t e sz bytes : TypeId} {ver : Nat} {z : Value} {zs : List V} (ht : SlT C.P t e sz) (hz : ElT C.P e sz bytes z) (hzs : z.cells.toList.map V.p = zs) (hzl : zs.length = sz) (h0 : 0 < sz) : OpJ C all ⟨some d, .buildSlice t 0 #[], ty, pos, aft, none⟩ s [] (EN d (.own d ver) d ver (.row e sz [])) :=
  qqv (parts := []) (es := []) ht hz hzs hzl h0 (by simp) rfl rfl (by simp) rfl
end Go.Ab

/- The operations on rows with rows of their own. -/
import Derived.Test.YtdnlchflejoloaaAb14
set_option linter.unusedSimpArgs false
set_option linter.unusedVariables false
namespace Go.Ab
section
variable {C : Ctx}

theorem two_nodup {A B : List Nat} {b : Nat} (h1 : (b :: A).Nodup) (h2 : B.Nodup) (h : ∀ x ∈ b :: A, x ∉ B) : (b :: (A ++ B)).Nodup := by
  rw [← List.cons_append, List.nodup_append]
  exact ⟨h1, h2, fun x hx y hy e => by subst e; exact h x hx hy⟩

/-- Append: a row with rows of its own goes on, by the elements of another, which is gone. -/
theorem appDeep {tt e' bytes : TypeId} {z : Value} {hp : Heap} {g : Gh} {w : World} {id id2 ver0 ver2 : Nat} {t : DTy} {es es2 : List (List V)} (H : HR C w hp g) (hne : id ≠ id2) (ht : SlT C.P tt t.e t.s) (hz : ElT C.P t.e t.s bytes z) (hzsz : z.cells.size = t.s)
    (ho : look hp id = some (ver0, .deep t es none)) (ho2 : look hp id2 = some (ver2, .deep t es2 none)) (hl2 : es2.flatten.all lf = true) (h2 : 0 < es2.length) (hm : es.length + es2.length ≤ maxLen) (hb : (es.length + es2.length) * bytes ≤ 140737488355328) :
    ∃ u' w' g', (Builtin.append_ #[tt, tt] e' #[g.val id, g.val id2]).run C.P w = .ok u' w' ∧ HR C w' ((id, some (g.cur id + 1, .deep t (es ++ es2) none)) :: (id2, none) :: hp) g' ∧ Fits g (XX C hp g w) w g' (XX C ((id, some (g.cur id + 1, .deep t (es ++ es2) none)) :: (id2, none) :: hp) g' w') w' ∧
      g'.cur id = g.cur id + 1 ∧ g'.val id = u' ∧ u'.oneCell' = true ∧ (∀ j, j ≠ id → g'.cur j = g.cur j) := by
  obtain ⟨n2, b2, c2, cur2, fps2, D2⟩ := H.dd ho2 h2
  obtain ⟨ii, hi1, hi2, hi3, hi4⟩ := info_parts hz
  obtain ⟨ht1, ht2⟩ := ht
  have hmm := hm
  unfold maxLen at hmm
  have hf2 := flatten_len D2.len
  have hcl2 : cur2.toList.length = c2 * t.s := by rw [Array.length_toList]; exact D2.size
  have hle2 : es2.length * t.s ≤ c2 * t.s := Nat.mul_le_mul_right _ D2.le
  let cs : List Value := cur2.toList.take (es2.length * t.s)
  have hcs : cs.length = es2.length * t.s := by simp only [cs, List.length_take, hcl2]; omega
  have hcsat : ∀ j, j < es2.flatten.length → cs[j]? = cur2[j]? := fun j hj => by
    simp only [cs]; rw [List.getElem?_take, if_pos (by omega)]; simp
  have hcell : ∀ (j : Nat) (v : Value), cs[j]? = some v → w.cell? ((⟨b2, 0, none⟩ : Addr).add j) = some v := fun j v hv => by
    rw [add_lit, Nat.zero_add, cellOf D2.heap]
    have hj : j < es2.flatten.length := by rw [hf2, ← hcs]; exact (List.getElem?_eq_some_iff.1 hv).1
    rw [← hcsat j hj]; exact hv
  have hone : ∀ u ∈ cs, u.oneCell' = true := by
    intro u hu
    obtain ⟨j, hj⟩ := List.mem_iff_getElem?.1 hu
    have hjl : j < es2.flatten.length := by rw [hf2, ← hcs]; exact (List.getElem?_eq_some_iff.1 hj).1
    obtain ⟨u', F, a1, _, a3⟩ := D2.dc.2 j es2.flatten[j] (List.getElem?_eq_getElem hjl)
    rw [hcsat j hjl, a1] at hj; obtain rfl := Option.some.inj hj
    rcases a3 with ⟨a3, _⟩ | ⟨_, a3⟩
    · cases a3
    · cases e : t.sub (j % t.s) with
      | some t' => simp only [CellD, e] at a3; obtain ⟨_, _, a4⟩ := a3; exact a4.one
      | none => simp only [CellD, e] at a3; exact a3.2.one (List.all_eq_true.1 hl2 _ (List.getElem_mem hjl))
  obtain ⟨h0, h1, ⟨n1, hl1, hd⟩, h3, _⟩ := H.obj id ver0 _ ho
  have hlenA : ∀ x ∈ es ++ es2, x.length = t.s := fun x hx => (List.mem_append.1 hx).elim (hl1 x) (D2.len x)
  have hdd : ∀ x ∈ g.fp id, x ∉ g.fp id2 := fun x hx => H.dis id id2 _ _ ho ho2 hne x hx
  have hnd2 := List.nodup_cons.1 D2.nd
  have hf2sub : ∀ x ∈ fps2.flatten, x ∈ g.fp id2 := fun x hx => by rw [D2.fp]; exact List.mem_cons_of_mem _ hx
  have hTl : ∀ b, (b ∈ g.fp id ∨ b ∈ g.fp id2) → ∃ j io, look hp j = some io ∧ b ∈ g.fp j := fun x hx => hx.elim (fun hx => ⟨id, _, ho, hx⟩) (fun hx => ⟨id2, _, ho2, hx⟩)
  have hlk : ∀ j io, look ((id, some (g.cur id + 1, .deep t (es ++ es2) none)) :: (id2, none) :: hp) j = some io → j ≠ id → look hp j = some io ∧ ∀ b ∈ g.fp j, ¬ (b ∈ g.fp id ∨ b ∈ g.fp id2) := by
    intro j io hj hji
    rw [look_cons, if_neg hji, look_cons] at hj
    split at hj
    · cases hj
    · rename_i hj2
      exact ⟨hj, fun b hb hb2 => hb2.elim (fun h => H.dis j id _ _ hj ho hji b hb h) (fun h => H.dis j id2 _ _ hj ho2 hj2 b hb h)⟩
  have hi : look ((id, some (g.cur id + 1, Obj.deep t (es ++ es2) none)) :: (id2, none) :: hp) id = some (g.cur id + 1, .deep t (es ++ es2) none) := by rw [look_cons, if_pos rfl]
  have fin : ∀ {w' : World} {u' : Value} {ver : Nat} {bl : Option Nat} {F : List Nat}, ver = g.cur id + 1 → u'.oneCell' = true → (g.upd id ver u' bl F t.s).cur id = g.cur id + 1 ∧ (g.upd id ver u' bl F t.s).val id = u' ∧ u'.oneCell' = true ∧ (∀ j, j ≠ id → (g.upd id ver u' bl F t.s).cur j = g.cur j) := by
    intro w' u' ver bl F e e2; subst e
    exact ⟨by simp [Gh.upd], by simp [Gh.upd], e2, fun j hj => by simp [Gh.upd, hj]⟩
  rcases hd with ⟨rfl, q1, q2⟩ | ⟨b, c, cur, fps, q1, q2, q3, q4, q5, q6, q7⟩
  · have hrun := run_append_nil (P := C.P) w tt e' t.e ii z ht1 hi1 hi2 ⟨b2, 0, none⟩ es2.length c2 cs (by rw [hi3]; exact hcs) hcell h2 (by simp at hmm; omega) (by rw [hi4]; simp at hb; omega)
    have hcap := grownCap_ge w es2.length 0 t.e
    have hgo := H.newDeep (w1 := w.drew) (hp' := (id, some (g.cur id + 1, .deep t ([] ++ es2) none)) :: (id2, none) :: hp) (i := id) (t := t) (es := [] ++ es2) (cur := cs.toArray ++ Builtin.zeroCells z.cells (grownCap w es2.length 0 t.e - es2.length)) (c := grownCap w es2.length 0 t.e) (n := n2) (fps := fps2) (fun x => x ∈ g.fp id ∨ x ∈ g.fp id2) rfl rfl rfl rfl hTl hlk hi (fun x hx => .inr (hf2sub x hx)) hnd2.2 hlenA (by simpa using hcap) (grownCap_le_maxLen w _ _ t.e (by simpa using hm)) (by
        simp only [Array.size_append, List.size_toArray, size_zeroCells, hcs, hzsz, ← Nat.add_mul]; congr 1; omega)
      ⟨by simpa using D2.dc.1, fun j v hj => by
        simp only [List.nil_append] at hj
        obtain ⟨u, F, a1, a2, a3⟩ := D2.dc.2 j v hj
        have hjl : j < es2.flatten.length := (List.getElem?_eq_some_iff.1 hj).1
        refine ⟨u, F, ?_, a2, a3⟩
        rw [Array.getElem?_append_left (by rw [List.size_toArray, hcs, ← hf2]; exact hjl), List.getElem?_toArray, hcsat j hjl]; exact a1⟩
    simp only [List.nil_append] at hgo ⊢
    exact ⟨_, _, _, by rw [q1, D2.val]; exact hrun, hgo.1, hgo.2, fin (w' := w) rfl rfl⟩
  · have hf1 := flatten_len hl1
    have hcl : cur.toList.length = c * t.s := by rw [Array.length_toList]; exact q6
    have hle : es.length * t.s ≤ c * t.s := Nat.mul_le_mul_right _ q4
    have h1' := h1
    rw [q2] at h1'
    have hnd1 := List.nodup_cons.1 h1'
    have hsub1 : ∀ x ∈ fps.flatten, x ∈ g.fp id := fun x hx => by rw [q2]; exact List.mem_cons_of_mem _ hx
    have hndA : (fps ++ fps2).flatten.Nodup := by
      rw [List.flatten_append, List.nodup_append]
      exact ⟨hnd1.2, hnd2.2, fun x hx y hy e => by subst e; exact hdd x (hsub1 x hx) (hf2sub x hy)⟩
    have hsubA : ∀ x ∈ (fps ++ fps2).flatten, x ∈ g.fp id ∨ x ∈ g.fp id2 := fun x hx => by
      rw [List.flatten_append, List.mem_append] at hx
      exact hx.imp (hsub1 x) (hf2sub x)
    have q7' : DC (DR (XX C hp g w) w (max n1 n2)) (XX C hp g w) w t none es cur fps := DC.fits (fun _ h => h) (fun _ _ => rfl) (fun t F es u _ h => DR.le (Nat.le_max_left _ _) h) q7
    have d2' : DC (DR (XX C hp g w) w (max n1 n2)) (XX C hp g w) w t none es2 cur2 fps2 := DC.fits (fun _ h => h) (fun _ _ => rfl) (fun t F es u _ h => DR.le (Nat.le_max_right _ _) h) D2.dc
    by_cases hroom : es.length + es2.length ≤ c
    · have hfit : es.length * t.s + cs.length ≤ cur.size := by rw [hcs, q6, ← Nat.add_mul]; exact Nat.mul_le_mul_right _ hroom
      have hrun := run_append_room (P := C.P) w tt e' t.e ii ht1 hi1 b es.length c cur q3 ⟨b2, 0, none⟩ es2.length c2 cs (by rw [hi3]; exact hcs) hcell hone hroom (by rw [hi3]; exact hfit)
      rw [hi3] at hrun
      have hgo := H.wrDeep (hp' := (id, some (g.cur id + 1, .deep t (es ++ es2) none)) :: (id2, none) :: hp) (i := id) (ver := g.cur id + 1) (t := t) (es := es ++ es2) (cur0 := cur) (cur := (cur.toList.take (es.length * t.s) ++ cs ++ cur.toList.drop (es.length * t.s + cs.length)).toArray) (b := b) (c := c) (n := max n1 n2) (fps := fps ++ fps2) (fun x => x ∈ g.fp id ∨ x ∈ g.fp id2)
        (by rw [q2]; simp) ho q3 (by omega) (fun e => by omega) (h3 b 0 _ c q1) h0 hTl (fun x hx => .inl hx) hlk hi hsubA (List.nodup_cons.2 ⟨fun hx => by
          rw [List.flatten_append, List.mem_append] at hx
          rcases hx with hx | hx
          · exact hnd1.1 hx
          · exact hdd b (by rw [q2]; simp) (hf2sub b hx), hndA⟩) hlenA (by simpa using hroom) q5 (by simp only [List.size_toArray, List.length_append, List.length_take, List.length_drop, hcl]; omega)
        (DC.append hl1 q7' d2' (fun j hj => by rw [List.getElem?_toArray, get_seg (by omega), if_pos (by omega)]; simp) (fun j hj => by
          rw [List.getElem?_toArray, get_seg (by omega), if_neg (by omega), if_pos (by omega), show es.flatten.length + j - es.length * t.s = j from by omega]; exact hcsat j hj))
      have e1 : (es ++ es2).length = es.length + es2.length := by simp
      rw [e1] at hgo
      exact ⟨_, _, _, by rw [q1, D2.val]; exact hrun, hgo.1, hgo.2, fin (w' := w) rfl rfl⟩
    · have hol : (cur.toList.take es.flatten.length).length = es.flatten.length := by rw [List.length_take, hcl]; omega
      have hrun := run_append_grow (P := C.P) w tt e' t.e ii z ht1 hi1 hi2 ⟨b, 0, none⟩ es.length c (cur.toList.take es.flatten.length) (by rw [hi3, hol, hf1])
        (fun j v hv => by
          rw [add_lit, Nat.zero_add, cellOf q3]
          rw [List.getElem?_take] at hv
          split at hv
          · simpa using hv
          · cases hv) ⟨b2, 0, none⟩ es2.length c2 cs (by rw [hi3]; exact hcs) hcell (by omega) (by omega) (growslice_fits (by omega) (by rw [hi4]; exact hb))
      have hcap := grownCap_ge w (es.length + es2.length) c t.e
      have hgo := H.newDeep (w1 := w.drew) (hp' := (id, some (g.cur id + 1, .deep t (es ++ es2) none)) :: (id2, none) :: hp) (i := id) (t := t) (es := es ++ es2) (cur := (cur.toList.take es.flatten.length).toArray ++ cs.toArray ++ Builtin.zeroCells z.cells (grownCap w (es.length + es2.length) c t.e - (es.length + es2.length))) (c := grownCap w (es.length + es2.length) c t.e) (n := max n1 n2) (fps := fps ++ fps2) (fun x => x ∈ g.fp id ∨ x ∈ g.fp id2) rfl rfl rfl rfl hTl hlk hi hsubA hndA hlenA (by simpa using hcap) (grownCap_le_maxLen w _ _ t.e hm) (by
          simp only [Array.size_append, List.size_toArray, size_zeroCells, hcs, hzsz, hol]
          rw [hf1, ← Nat.add_mul, ← Nat.add_mul]; congr 1; omega)
        (DC.append hl1 q7' d2' (fun j hj => by
          rw [Array.getElem?_append_left (by rw [Array.size_append, List.size_toArray, List.size_toArray, hol]; omega), Array.getElem?_append_left (by rw [List.size_toArray, hol]; exact hj), List.getElem?_toArray, List.getElem?_take, if_pos hj]; simp) (fun j hj => by
          rw [Array.getElem?_append_left (by rw [Array.size_append, List.size_toArray, List.size_toArray, hol, hcs]; omega), Array.getElem?_append_right (by rw [List.size_toArray, hol]; omega), List.getElem?_toArray, List.size_toArray, hol, show es.flatten.length + j - es.flatten.length = j from by omega]; exact hcsat j hj))
      have e1 : (es ++ es2).length = es.length + es2.length := by simp
      rw [e1] at hgo
      exact ⟨_, _, _, by rw [q1, D2.val]; exact hrun, hgo.1, hgo.2, fin (w' := w) rfl rfl⟩
end
section
variable {C : Ctx} {all : Array Oper} {s : St} {d : Nat} {ty : TypeId} {pos : String} {aft : Array Edge}

theorem Rel.ownv {a : Act} {w : World} {g : Gh} {x : Operand} {id ver : Nat} {o : Obj} (hr : Rel C a w s g) (hx : Ab.ev s.sl x = .own id ver) (ho : look s.hp id = some (ver, o)) : a.eval x = g.val id ∧ g.cur id = ver := by
  have h1 := hr.hr.cur id ver _ ho
  have h3 := hr.ev x
  rw [hx] at h3
  refine ⟨?_, h1⟩
  generalize a.eval x = u at h3
  cases h3 with
  | sh h => cases h
  | own _ _ _ _ _ h => exact h h1.symm

theorem OR.dshape {g : Gh} {X : Nat → Prop} {w : World} {id : Nat} {t : DTy} {es : List (List V)} {h : Option (Nat × Nat × Nat × Nat)} (H : OR g X w id (.deep t es h)) : ∃ ad c, g.val id = .slice ad es.length c := by
  obtain ⟨_, _, ⟨n, _, h2⟩, _⟩ := H
  rcases h2 with ⟨rfl, h, _⟩ | ⟨b, c, cur, fps, h, _⟩
  · exact ⟨none, 0, h⟩
  · exact ⟨_, c, h⟩

theorem j_len_deep {tt e : TypeId} {x : Operand} {id ver : Nat} {t : DTy} {es : List (List V)} {h : Option (Nat × Nat × Nat × Nat)} (ht : C.P.underlying tt = some (.slice e)) (hx : Ab.ev s.sl x = .own id ver) (ho : look s.hp id = some (ver, .deep t es h)) :
    OpJ C all ⟨some d, .call { callee := .builtin .len, args := #[x], argTypes := #[tt] }, ty, pos, aft, none⟩ s [id] (EV d (.p (.int .i64 es.length))) :=
  j_pure (fun s' hs a w g hr => have hx := (hs.e (x := x) (by simp [Op.operands, Call.operands])).trans hx; have ho := (hs.hp id (by simp)).trans ho; by
    obtain ⟨e1, _⟩ := hr.ownv hx ho
    obtain ⟨ad, c, e3⟩ := (hr.hr.obj id ver _ ho).dshape
    exact ⟨.int .i64 es.length, by simp [execOp, resolve, invoke, builtin, e1, e3, run_len_slice ht], .sh (.p _)⟩)

/-- 'x[i]' as a place. -/
theorem j_elem_deep {tt e sz : Nat} {x y : Operand} {id ver : Nat} {t : DTy} {es : List (List V)} {h : Option (Nat × Nat × Nat × Nat)} {k : IntKind} {i : Int} (ht : SlT C.P tt e sz) (hx : Ab.ev s.sl x = .own id ver) (ho : look s.hp id = some (ver, .deep t es h)) (hsz : t.s = sz) (hy : Ab.ev s.sl y = .p (.int k i)) (h0 : 0 ≤ i) (hi : i.toNat < es.length) :
    OpJ C all ⟨some d, .indexAddr tt x y, ty, pos, aft, none⟩ s [id] (EV d (.pel id ver i.toNat 0)) :=
  j_pure (fun s' hs a w g hr => have hx := (hs.e (x := x) (by simp [Op.operands])).trans hx; have hy := (hs.e (x := y) (by simp [Op.operands])).trans hy; have ho := (hs.hp id (by simp)).trans ho; by
    obtain ⟨e1, e4⟩ := hr.ownv hx ho
    obtain ⟨n, b, c, cur, fps, D⟩ := hr.hr.dd ho (by omega)
    refine ⟨_, ?_, .pel id ver i.toNat 0 _ rfl (by omega) (fun _ => ⟨b, D.blk, rfl⟩)⟩
    simp only [execOp, e1, D.val, hr.evp hy, Sem.run_bind, run_indexAt ht ⟨b, 0, none⟩ es.length c k i h0 (by omega) w, Result.andThen_ok, Sem.run_pure, add_lit, Nat.add_zero, Nat.zero_add, D.sz, hsz])

/-- A cell that leads to no row of its own is read. -/
theorem j_load_deep {tt : TypeId} {x : Operand} {id ver k f : Nat} {t : DTy} {es : List (List V)} {h : Option (Nat × Nat × Nat × Nat)} {xs : List V} {v : V} (ht : LeafT C.P tt) (hx : Ab.ev s.sl x = .pel id ver k f) (ho : look s.hp id = some (ver, .deep t es h)) (hsub : t.sub f = none) (hk : es[k]? = some xs) (hf : xs[f]? = some v) :
    OpJ C all ⟨some d, .load tt x, ty, pos, aft, none⟩ s [id] (EV d (v)) :=
  j_pure (fun s' hs a w g hr => have hx := (hs.e (x := x) (by simp [Op.operands])).trans hx; have ho := (hs.hp id (by simp)).trans ho; by
    obtain ⟨b, h4, h5⟩ := hr.pel hx ho
    have hkl : k < es.length := (List.getElem?_eq_some_iff.1 hk).1
    obtain ⟨n, b', c, cur, fps, D⟩ := hr.hr.dd ho (by omega)
    rw [D.blk] at h4; obtain rfl : b' = b := by simpa using h4
    have hxl : xs.length = t.s := D.len xs (List.mem_iff_getElem?.2 ⟨k, hk⟩)
    have hfl : f < t.s := by rw [← hxl]; exact (List.getElem?_eq_some_iff.1 hf).1
    obtain ⟨u, F, a1, a2, a3⟩ := D.dc.2 _ v ((flatten_at D.len hk hfl).trans hf)
    rw [D.sz] at h5
    have hv : SR (XX C s'.hp g w) w v u := by
      rcases a3 with ⟨a3, _⟩ | ⟨_, a3⟩
      · cases h with
        | none => cases a3
        | some y =>
          obtain ⟨k', f', d', v'⟩ := y
          obtain ⟨_, q2, q3, _⟩ := D.hole k' f' d' v' rfl
          simp at a3
          have : f' = f := by
            have h1 := mod_at (k := k') q2
            rw [a3, mod_at hfl] at h1; exact h1.symm
          subst this
          rw [hsub] at q3; cases q3
      · simp only [CellD, mod_at hfl, hsub] at a3; exact a3.2
    refine ⟨u, ?_, .sh hv⟩
    simp only [execOp, h5, Sem.run_bind, run_loadAt_leaf ht ⟨b', k * t.s + f, none⟩ u w (by rw [cellOf D.heap]; exact a1), Result.andThen_ok, Sem.run_pure])

/-- A cell that leads to a row of its own is read: the row is brought out. -/
theorem j_out {tt : TypeId} {x : Operand} {id ver0 ver k f : Nat} {t t' : DTy} {es es' : List (List V)} {xs : List V} {O : Obj} (ht : LeafT C.P tt) (hne : d ≠ id) (hx : Ab.ev s.sl x = .pel id ver0 k f) (ho : look s.hp id = some (ver0, .deep t es none)) (hsub : t.sub f = some t') (hk : es[k]? = some xs) (hf : xs[f]? = some (.sl es')) (hO : objOf t' es' = O) :
    OpJ C all ⟨some d, .load tt x, ty, pos, aft, none⟩ s [id] ⟨some d, .own d ver, [(d, some (ver, O)), (id, some (ver0, .deep t es (some (k, f, d, ver))))], some (d, ver)⟩ := by
  subst hO
  exact j_step (hp' := [(d, some (ver, objOf t' es')), (id, some (ver0, .deep t es (some (k, f, d, ver))))]) (bp := some (d, ver)) fun s' hs a w g hr hbp => by
    obtain rfl := bump_eq hbp
    have hx := (hs.e (x := x) (by simp [Op.operands])).trans hx
    have ho := (hs.hp id (by simp)).trans ho
    obtain ⟨b, h4, h5⟩ := hr.pel hx ho
    obtain ⟨b', u, g', q1, q2, q3, q4, q5, q6, q7, q8, q9⟩ := hr.hr.out hne ho hk hf hsub
    rw [q1] at h4; obtain rfl : b' = b := by simpa using h4
    rw [q2] at h5
    refine ⟨u, w, g', ?_, q8, q9, .own d _ _ q4 (by omega) (fun _ => q6.symm), fun j hj => q7 j (hj _ rfl)⟩
    simp only [execOp, h5, Sem.run_bind, run_loadAt_leaf ht ⟨b', k * t.s + f, none⟩ u w q3, Result.andThen_ok, Sem.run_pure]

theorem Rel.back {a : Act} {w : World} {g : Gh} {id d ver vd : Nat} {t t' : DTy} {es : List (List V)} {k f : Nat} {xs : List V} {es' es2 : List (List V)} {O : Obj} (hr : Rel C a w s g) (hne : d ≠ id) (ho : look s.hp id = some (ver, .deep t es (some (k, f, d, vd)))) (hd : look s.hp d = some (vd, O)) (hO : objOf t' es' = O) (ht : t.sub f = some t') (hk : es[k]? = some xs) (he : es.set k (xs.set f (.sl es')) = es2) :
    ∃ g', Rel C a w ⟨s.sl, (id, some (ver, .deep t es2 none)) :: (d, none) :: s.hp⟩ g' := by
  subst hO; subst he
  obtain ⟨g', h1, h2, _⟩ := hr.hr.back hne ho hd ht hk
  exact ⟨g', hr.mem h1 h2⟩
theorem a_back {c : Code} {Q : Exit → St → Prop} (id d : Nat) {ver vd : Nat} {t t' : DTy} {es : List (List V)} {k f : Nat} {xs : List V} {es' es2 : List (List V)} {O : Obj} (hne : d ≠ id) (ho : look s.hp id = some (ver, .deep t es (some (k, f, d, vd)))) (hd : look s.hp d = some (vd, O)) (hO : objOf t' es' = O) (ht : t.sub f = some t') (hk : es[k]? = some xs) (he : es.set k (xs.set f (.sl es')) = es2)
    (h : AWp C c Q ⟨s.sl, (id, some (ver, .deep t es2 none)) :: (d, none) :: s.hp⟩) : AWp C c Q s :=
  a_rel (fun a w g hr => hr.back hne ho hd hO ht hk he) h
theorem op_back {l : List Oper} {K : St → Prop} (id d : Nat) {ver vd : Nat} {t t' : DTy} {es : List (List V)} {k f : Nat} {xs : List V} {es' es2 : List (List V)} {O : Obj} (hne : d ≠ id) (ho : look s.hp id = some (ver, .deep t es (some (k, f, d, vd)))) (hd : look s.hp d = some (vd, O)) (hO : objOf t' es' = O) (ht : t.sub f = some t') (hk : es[k]? = some xs) (he : es.set k (xs.set f (.sl es')) = es2)
    (h : AOps C all l K ⟨s.sl, (id, some (ver, .deep t es2 none)) :: (d, none) :: s.hp⟩) : AOps C all l K s :=
  op_rel (fun a w g hr => hr.back hne ho hd hO ht hk he) h

/-- A cell that leads to no row of its own is written. -/
theorem j_store_deep {tt : TypeId} {x y : Operand} {id ver k f : Nat} {t : DTy} {es : List (List V)} {h : Option (Nat × Nat × Nat × Nat)} {xs : List V} {v : V} (ht : LeafT C.P tt) (hx : Ab.ev s.sl x = .pel id ver k f) (ho : look s.hp id = some (ver, .deep t es h)) (hsub : t.sub f = none) (hk : es[k]? = some xs) (hf : f < xs.length) (hy : Ab.ev s.sl y = v) (hl : lf v = true) (hsh : shl v = true) :
    OpJ C all ⟨none, .store tt x y, ty, pos, aft, none⟩ s [id] (ES id ver (.deep t (es.set k (xs.set f v)) h)) :=
  j_eff (hp' := [(id, some (ver, .deep t (es.set k (xs.set f v)) h))]) fun s' hs a w g hr => by
    have hx := (hs.e (x := x) (by simp [Op.operands])).trans hx
    have hy := (hs.e (x := y) (by simp [Op.operands])).trans hy
    have ho := (hs.hp id (by simp)).trans ho
    obtain ⟨b, h4, h5⟩ := hr.pel hx ho
    have hkl : k < es.length := (List.getElem?_eq_some_iff.1 hk).1
    obtain ⟨n, b', c, cur, fps, D⟩ := hr.hr.dd ho (by omega)
    rw [D.blk] at h4; obtain rfl : b' = b := by simpa using h4
    have hxl : xs.length = t.s := D.len xs (List.mem_iff_getElem?.2 ⟨k, hk⟩)
    have hfl : f < t.s := by omega
    have hv := hr.ev y
    rw [hy] at hv
    rw [D.sz] at h5
    have hks : k * t.s + t.s ≤ c * t.s := by
      have := Nat.mul_le_mul_right t.s (show k + 1 ≤ c from Nat.lt_of_lt_of_le hkl D.le)
      rwa [Nat.succ_mul] at this
    have hrun := run_storeAt_leaf (P := C.P) (u := a.eval y) ht D.heap (by rw [D.size]; omega : k * t.s + f < cur.size) (hv.one hl)
    obtain ⟨q1, q2⟩ := hr.hr.putDeep ho D hk hfl hsub (hv.shr hsh)
    refine ⟨_, g, ?_, q1, q2, fun _ => rfl⟩
    simp only [execOp, h5, Sem.run_bind, hrun, Result.andThen_ok, Sem.run_pure]

theorem Eat.agree {hp hp' : Heap} {t : DTy} : ∀ {ys zs : List V} {rs : List Nat} {f : Nat}, (∀ r ∈ rs, look hp' r = look hp r) → Eat hp t f ys zs rs → Eat hp' t f ys zs rs
  | [], [], rs, f, _, h => by simpa only [Eat] using h
  | [], z :: zs, _, _, _, h => by simp [Eat] at h
  | y :: ys, [], _, _, _, h => by simp [Eat] at h
  | y :: ys, z :: zs, rs, f, hl, h => by
    simp only [Eat] at h ⊢
    cases ht : t.sub f with
    | none => rw [ht] at h; exact ⟨h.1, h.2.1, h.2.2.1, Eat.agree hl h.2.2.2⟩
    | some t' =>
      rw [ht] at h
      rcases h with ⟨r, vr, es', rs', e1, h1, e2, rfl, h3⟩ | ⟨e1, e2, h3⟩
      · exact .inl ⟨r, vr, es', rs', e1, (hl r (by simp)).trans h1, e2, rfl, Eat.agree (fun r hr => hl r (by simp [hr])) h3⟩
      · exact .inr ⟨e1, e2, Eat.agree hl h3⟩

theorem nodup_of : ∀ {l : List Nat}, nodupB l = true → l.Nodup
  | [], _ => List.nodup_nil
  | x :: l, h => by
    simp only [nodupB, Bool.and_eq_true, Bool.not_eq_true'] at h
    exact List.nodup_cons.2 ⟨fun hx => by rw [memN_iff.2 hx] at h; simp at h, nodup_of h.2⟩

/-- 'x[i] = v', v a struct: the rows that it leads to are taken over. -/
theorem j_storea_deep {tt n : TypeId} {x y : Operand} {id ver k : Nat} {t : DTy} {es : List (List V)} {ys zs : List V} {rs : List Nat} {hp1 : Heap} (ht : AggT C.P tt n) (hx : Ab.ev s.sl x = .pel id ver k 0) (ho : look s.hp id = some (ver, .deep t es none)) (hn : t.s = n) (hk : k < es.length) (hy : Ab.ev s.sl y = .agg ys) (hyl : ys.length = n) (he : Eat s.hp t 0 ys zs rs) (hrs : nodupB (id :: rs) = true)
    (hh : (id, some (ver, .deep t (es.set k zs) none)) :: rs.map (fun r => (r, none)) = hp1) :
    OpJ C all ⟨none, .store tt x y, ty, pos, aft, none⟩ s (id :: rs) ⟨none, .any, hp1, none⟩ := by
  subst hh
  exact j_eff (hp' := (id, some (ver, .deep t (es.set k zs) none)) :: rs.map (fun r => (r, none))) fun s' hs a w g hr => by
    have hx := (hs.e (x := x) (by simp [Op.operands])).trans hx
    have hy := (hs.e (x := y) (by simp [Op.operands])).trans hy
    have ho := (hs.hp id (by simp)).trans ho
    have he := he.agree (hp' := s'.hp) (fun r hr => hs.hp r (by simp [hr]))
    obtain ⟨b, h4, h5⟩ := hr.pel hx ho
    obtain ⟨n0, b', c, cur, fps, D⟩ := hr.hr.dd ho (by omega)
    rw [D.blk] at h4; obtain rfl : b' = b := by simpa using h4
    obtain ⟨us, h12, h13, h14⟩ := hr.agg hy
    have hnd := List.nodup_cons.1 (nodup_of hrs)
    obtain ⟨g', q1, q2, q3, q4⟩ := hr.hr.elDeep (us := us.toList) ho (fun _ _ _ _ e => by cases e) D hk he hnd.2 hnd.1 (by omega) (by simpa using h13) (fun i v u h1 h2 => h14 i v u h1 (by simpa using h2))
    rw [D.sz] at h5
    simp only [Nat.add_zero] at h5
    have hks : k * t.s + t.s ≤ c * t.s := by
      have := Nat.mul_le_mul_right t.s (show k + 1 ≤ c from Nat.lt_of_lt_of_le hk D.le)
      rwa [Nat.succ_mul] at this
    have hrun := run_storeAt_agg (P := C.P) (us := us) (o := k * t.s) ht D.heap (by omega) (by rw [D.size]; omega) q4
    rw [Array.length_toList] at q1 q2
    exact ⟨_, g', by simp only [execOp, h5, h12, Sem.run_bind, hrun, Result.andThen_ok, Sem.run_pure], q1, q2, q3⟩

theorem seg_one {cur : Array Value} {k : Nat} {u : Value} (hk : k < cur.size) : (cur.toList.take k ++ [u] ++ cur.toList.drop (k + 1)).toArray = cur.setIfInBounds k u := by
  apply Array.ext'
  rw [Array.toList_setIfInBounds]
  simp only [List.append_assoc, List.cons_append, List.nil_append]
  apply List.ext_getElem?
  intro i
  have hl : cur.toList.length = cur.size := Array.length_toList
  rw [List.getElem?_set]
  by_cases e1 : i < k
  · rw [List.getElem?_append_left (by rw [List.length_take]; omega), List.getElem?_take, if_pos e1, if_neg (by omega)]
  · rw [List.getElem?_append_right (by rw [List.length_take]; omega), List.length_take, Nat.min_eq_left (by omega)]
    by_cases e2 : k = i
    · subst e2; simp [hk]
    · obtain ⟨m, rfl⟩ : ∃ m, i = k + 1 + m := ⟨i - k - 1, by omega⟩
      rw [if_neg e2, show k + 1 + m - k = m + 1 from by omega, List.getElem?_cons_succ, List.getElem?_drop]

/-- 'x[i] = row', in a row of rows: the row is taken over. -/
theorem j_storel_deep {tt : TypeId} {x y : Operand} {id ver k : Nat} {t : DTy} {es : List (List V)} {h : Option (Nat × Nat × Nat × Nat)} {v : V} {zs : List V} {rs : List Nat} {hp1 : Heap} (ht : LeafT C.P tt) (hx : Ab.ev s.sl x = .pel id ver k 0) (ho : look s.hp id = some (ver, .deep t es h)) (hhk : ∀ k' f' d' v', h = some (k', f', d', v') → k' = k) (hn : t.s = 1) (hk : k < es.length) (hy : Ab.ev s.sl y = v) (he : Eat s.hp t 0 [v] zs rs) (hrs : nodupB (id :: rs) = true)
    (hh : (id, some (ver, .deep t (es.set k zs) none)) :: rs.map (fun r => (r, none)) = hp1) :
    OpJ C all ⟨none, .store tt x y, ty, pos, aft, none⟩ s (id :: rs) ⟨none, .any, hp1, none⟩ := by
  subst hh
  exact j_eff (hp' := (id, some (ver, .deep t (es.set k zs) none)) :: rs.map (fun r => (r, none))) fun s' hs a w g hr => by
    have hx := (hs.e (x := x) (by simp [Op.operands])).trans hx
    have hy := (hs.e (x := y) (by simp [Op.operands])).trans hy
    have ho := (hs.hp id (by simp)).trans ho
    have he := he.agree (hp' := s'.hp) (fun r hr => hs.hp r (by simp [hr]))
    obtain ⟨b, h4, h5⟩ := hr.pel hx ho
    obtain ⟨n0, b', c, cur, fps, D⟩ := hr.hr.dd ho (by omega)
    rw [D.blk] at h4; obtain rfl : b' = b := by simpa using h4
    have hv := hr.ev y
    rw [hy] at hv
    have hnd := List.nodup_cons.1 (nodup_of hrs)
    obtain ⟨g', q1, q2, q3, q4⟩ := hr.hr.elDeep (us := [a.eval y]) ho hhk D hk he hnd.2 hnd.1 (by simp [hn]) rfl (fun i v' u h1 h2 => by
      match i, h1, h2 with
      | 0, h1, h2 => simp at h1 h2; subst h1; subst h2; exact hv)
    rw [D.sz] at h5
    simp only [Nat.add_zero, hn, Nat.mul_one, List.length_singleton] at h5 q1 q2
    have hkc : k < cur.size := by rw [D.size, hn, Nat.mul_one]; exact Nat.lt_of_lt_of_le hk D.le
    rw [seg_one hkc] at q1 q2
    have hrun := run_storeAt_leaf (P := C.P) (u := a.eval y) ht D.heap hkc (q4 _ (by simp))
    exact ⟨_, g', by simp only [execOp, h5, Sem.run_bind, hrun, Result.andThen_ok, Sem.run_pure], q1, q2, q3⟩

/-- A slice's literal of one element: the rows that it leads to are taken over. -/
theorem j_buildSlice_deep {tt e sz bytes ver : Nat} {z : Value} {x : Operand} {t : DTy} {ys zs : List V} {rs : List Nat} {hp1 : Heap} (ht : SlT C.P tt e sz) (hz : ElT C.P e sz bytes z) (hzsz : z.cells.size = sz) (hte : t.e = e) (hts : t.s = sz) (hsz0 : 0 < sz) (hsz1 : sz ≤ 1000) (hy : leaves (Ab.ev s.sl x) = ys) (hlf : ys.all lf = true) (hyl : ys.length = sz) (he : Eat s.hp t 0 ys zs rs) (hrs : nodupB rs = true)
    (hh : (d, some (ver, .deep t [zs] none)) :: rs.map (fun r => (r, none)) = hp1) :
    OpJ C all ⟨some d, .buildSlice tt 1 #[(0, x)], ty, pos, aft, none⟩ s rs ⟨some d, .own d ver, hp1, some (d, ver)⟩ := by
  subst hh
  exact j_step (hp' := (d, some (ver, .deep t [zs] none)) :: rs.map (fun r => (r, none))) (bp := some (d, ver)) fun s' hs a w g hr hbp => by
    obtain rfl := bump_eq hbp
    have hev := hs.e (x := x) (by simp [Op.operands])
    have he := he.agree (hp' := s'.hp) (fun r hr => hs.hp r hr)
    have hv := hr.ev x
    rw [hev] at hv
    have hlv := hv.leaves (by rw [hy]; exact hlf)
    rw [hy] at hlv
    obtain ⟨ht1, ht2⟩ := ht
    obtain ⟨g', q1, q2, q3, q4, q5⟩ := hr.hr.oneDeep (d := d) he (nodup_of hrs) (by omega) hlv.len (fun i v u h1 h2 => hlv.el i v u h1 h2)
    have hcsz : (a.eval x).cells.size = sz := by rw [hlv.len, hyl]
    refine ⟨.slice (some ⟨w.heap.size, 0, none⟩) 1 1, _, g', ?_, q1, q2, .own d _ _ rfl (by omega) (fun _ => q4.symm), fun j hj => q5 j (hj _ rfl)⟩
    have hne : ¬ 1 * sz = 0 := by omega
    have hnn : ¬ 1 * sz > 2 ^ 24 := by omega
    have hz0 : ((Array.range (1 * sz)).map (z.cells[· % z.cells.size]!)).size = sz := by simp
    have hfs := fill_step (a.eval x).cells.toList 0 ((Array.range (1 * sz)).map (z.cells[· % z.cells.size]!)) 0 (by rw [hz0]; simp; omega)
    have hzip : ∀ (f : Array Value → Value × Nat → Array Value) (c0 : Array Value), (a.eval x).cells.zipIdx.foldl f c0 = ((a.eval x).cells.toList.zipIdx 0).foldl f c0 := by
      intro f c0
      rw [← Array.foldl_toList, Array.toList_zipIdx]
    have hfill : Instr.fill (fun i => some (i * sz, sz)) ((Array.range (1 * sz)).map (z.cells[· % z.cells.size]!)) [(0, a.eval x)] = some (a.eval x).cells := by
      have hcond : ¬ (decide ((a.eval x).cells.size ≠ sz) || decide (0 * sz + (a.eval x).cells.size > ((Array.range (1 * sz)).map (z.cells[· % z.cells.size]!)).size)) = true := by
        rw [hz0, hcsz]; simp
      simp only [Instr.fill]
      rw [if_neg hcond]
      congr 1
      apply Array.ext'
      rw [hzip, Nat.zero_mul, hfs]
      simp only [Nat.zero_add, List.take_zero, List.nil_append]
      rw [List.drop_eq_nil_of_le (by rw [Array.length_toList, hz0, Array.length_toList]; omega), List.append_nil]
    subst hte
    simp only [execOp, Instr.buildSlice, Sem.run_bind, run_underlying ht1, Result.andThen_ok, run_sizeOf ht2, if_neg hnn, Sem.run_pure, if_neg hne, run_zeroValue hz, newRow, run_newObj]
    simp only [List.map_toArray, List.map_cons, List.map_nil]
    rw [hfill]
    simp only [Sem.run_bind, run_newObj, Result.andThen_ok, Sem.run_pure]
    rfl

/-- 'append(x, y...)'. -/
theorem j_append_deep {tt e sz bytes : TypeId} {z : Value} {x y : Operand} {id ver0 id2 ver2 ver : Nat} {t : DTy} {es es2 : List (List V)} (hne : id ≠ id2) (ht : SlT C.P tt e sz) (hz : ElT C.P e sz bytes z) (hzsz : z.cells.size = sz) (hte : t.e = e) (hts : t.s = sz) (hx : Ab.ev s.sl x = .own id ver0) (ho : look s.hp id = some (ver0, .deep t es none))
    (hy : Ab.ev s.sl y = .own id2 ver2) (ho2 : look s.hp id2 = some (ver2, .deep t es2 none)) (hl2 : es2.flatten.all lf = true) (h2 : 0 < es2.length) (hm : es.length + es2.length ≤ maxLen) (hb : (es.length + es2.length) * bytes ≤ 140737488355328) :
    OpJ C all ⟨some d, .call { callee := .builtin .append, args := #[x, y], argTypes := #[tt, tt] }, ty, pos, aft, none⟩ s [id, id2] ⟨some d, .own id ver, [(id, some (ver, .deep t (es ++ es2) none)), (id2, none)], some (id, ver)⟩ := by
  subst hte; subst hts
  exact j_step (hp' := [(id, some (ver, .deep t (es ++ es2) none)), (id2, none)]) (bp := some (id, ver)) fun s' hs a w g hr hbp => by
    obtain rfl := bump_eq hbp
    have hx := (hs.e (x := x) (by simp [Op.operands, Call.operands])).trans hx
    have hy := (hs.e (x := y) (by simp [Op.operands, Call.operands])).trans hy
    have ho := (hs.hp id (by simp)).trans ho
    have ho2 := (hs.hp id2 (by simp)).trans ho2
    obtain ⟨e1, _⟩ := hr.ownv hx ho
    obtain ⟨e2, _⟩ := hr.ownv hy ho2
    obtain ⟨u', w', g', h1, h2, h3, h4, h5, h6, h7⟩ := appDeep (e' := ty) hr.hr hne ht hz hzsz ho ho2 hl2 h2 hm hb
    refine ⟨u', w', g', ?_, h2, h3, .own id _ _ h6 (by omega) (fun _ => h5.symm), fun j hj => h7 j (hj _ rfl)⟩
    simp [execOp, resolve, invoke, builtin, e1, e2, h1]

/-! ### Steps of the telling alone -/

/-- A row whose elements lead to nothing yet is one with rows of its own. -/
theorem Rel.todeep {a : Act} {w : World} {g : Gh} {id ver n : Nat} {t : DTy} {zs zs' : List V} (hr : Rel C a w s g) (ho : look s.hp id = some (ver, .row t.e t.s (List.replicate n zs))) (he : Eat s.hp t 0 zs zs' []) :
    Rel C a w ⟨s.sl, (id, some (ver, .deep t (List.replicate n zs') none)) :: s.hp⟩ g := by
  have H := hr.hr
  suffices hh : HR C w ((id, some (ver, .deep t (List.replicate n zs') none)) :: s.hp) g ∧ Fits g (XX C s.hp g w) w g (XX C ((id, some (ver, .deep t (List.replicate n zs') none)) :: s.hp) g w) w from hr.mem hh.1 hh.2
  have hlk : ∀ {j : Nat} {io : Nat × Obj}, look ((id, some (ver, .deep t (List.replicate n zs') none)) :: s.hp) j = some io → (j = id ∧ io = (ver, .deep t (List.replicate n zs') none)) ∨ (j ≠ id ∧ look s.hp j = some io) := by
    intro j io hio
    rw [look_cons] at hio
    by_cases e1 : j = id
    · rw [if_pos e1] at hio; exact .inl ⟨e1, (Option.some.inj hio).symm⟩
    · rw [if_neg e1] at hio; exact .inr ⟨e1, hio⟩
  refine H.chg (fun x => x ∈ g.fp id) (fun j => j = id) rfl rfl rfl (Nat.le_refl _) (fun x hx => ⟨id, _, ho, hx⟩) (fun _ _ _ => rfl) (fun j => Nat.le_refl _) (fun j e => ⟨rfl, rfl, rfl⟩) (fun j io hj hN => ?_) (fun j io hj hN => ?_) (fun i j io jo hNi hNj hi hj hij x hx => absurd (hNi.trans hNj.symm) hij) (fun hf j vj o hN hj => ?_)
  · rcases hlk hj with ⟨e, _⟩ | ⟨e1, e3⟩
    · exact absurd e hN
    · exact ⟨e3, rfl, rfl, fun x hx hx2 => H.dis j id _ _ e3 ho e1 x hx hx2⟩
  · rcases hlk hj with ⟨rfl, rfl⟩ | ⟨e1, _⟩
    · exact ⟨H.cur _ _ _ ho, fun x hx => ⟨(H.blk _ _ x ho hx).1, .inl hx⟩⟩
    · exact absurd hN e1
  · rcases hlk hj with ⟨rfl, e⟩ | ⟨e1, _⟩
    · simp only [Prod.mk.injEq] at e; obtain ⟨_, rfl⟩ := e
      obtain ⟨h0, h1, h2⟩ := H.obj j ver _ ho
      have hzl : 0 < n → zs.length = t.s := fun hn => h1 zs (by simp; omega)
      have hzz : ∀ {ys zs : List V} {f : Nat}, Eat s.hp t f ys zs [] → zs.length = ys.length := by
        intro ys
        induction ys with
        | nil => intro zs f h; cases zs with
          | nil => rfl
          | cons z zs => simp [Eat] at h
        | cons y ys ih => intro zs f h; cases zs with
          | nil => simp [Eat] at h
          | cons z zs =>
            simp only [Eat] at h
            cases ht : t.sub f with
            | none => rw [ht] at h; simp [ih h.2.2.2]
            | some t' =>
              rw [ht] at h
              rcases h with ⟨r, vr, es', rs', e1, h1, e2, e3, h3⟩ | ⟨e1, e2, h3⟩
              · cases e3
              · simp [ih h3]
      have hzat : ∀ {ys zs : List V} {f i : Nat} {z : V}, Eat s.hp t f ys zs [] → zs[i]? = some z → ∃ y, ys[i]? = some y ∧ match t.sub (f + i) with | none => z = y ∧ shl y = true | some _ => y = .p (.slice none 0 0) ∧ z = .sl [] := by
        intro ys
        induction ys with
        | nil => intro zs f i z h hi; cases zs with
          | nil => simp at hi
          | cons z zs => simp [Eat] at h
        | cons y ys ih => intro zs f i z h hi; cases zs with
          | nil => simp at hi
          | cons z' zs =>
            simp only [Eat] at h
            cases i with
            | zero =>
              simp at hi; subst hi
              refine ⟨y, rfl, ?_⟩
              rw [Nat.add_zero]
              cases ht : t.sub f with
              | none => rw [ht] at h; exact ⟨h.1, h.2.2.1⟩
              | some t' =>
                rw [ht] at h
                rcases h with ⟨r, vr, es', rs', e1, h1, e2, e3, h3⟩ | ⟨e1, e2, h3⟩
                · cases e3
                · exact ⟨e1, e2⟩
            | succ i =>
              have h' : Eat s.hp t (f + 1) ys zs [] := by
                cases ht : t.sub f with
                | none => rw [ht] at h; exact h.2.2.2
                | some t' =>
                  rw [ht] at h
                  rcases h with ⟨r, vr, es', rs', e1, h1, e2, e3, h3⟩ | ⟨e1, e2, h3⟩
                  · cases e3
                  · exact h3
              have := ih h' (by simpa using hi)
              rw [show f + 1 + i = f + (i + 1) from by omega] at this
              simpa using this
      have hlen' : ∀ x ∈ List.replicate n zs', x.length = t.s := fun x hx => by
        obtain ⟨hn, rfl⟩ := List.mem_replicate.1 hx
        rw [hzz he]; exact hzl (by omega)
      rcases h2 with ⟨h2, h3, h4⟩ | ⟨b, c, cur, h2, h3, h4, h5, h6, h7, h8, h9⟩
      · have hn : n = 0 := by cases n with
          | zero => rfl
          | succ n => simp [List.replicate_succ] at h2
        subst hn
        refine ⟨h0, by rw [h4]; exact List.nodup_nil, ⟨0, by simp, .inl ⟨rfl, h3, h4⟩⟩, fun b o k c e => by rw [h3] at e; simp at e, fun k f d vd e => by cases e⟩
      · simp only [List.length_replicate] at h2 h6
        refine Dd.or (w := w) (hp := s.hp) (g := g) (n := 1) (b := b) (c := c) (cur := cur) (fps := List.replicate (List.replicate n zs').flatten.length []) (es := []) hlen' (by rw [h2]; simp) h3 h0 (by rw [h4]; simp) (by simp) h5 (by simpa using h6) h7 h8 ⟨by simp, fun j v hj => ?_⟩ (fun k' f' d' vd' e => by cases e)
        have hjl := (List.getElem?_eq_some_iff.1 hj).1
        rw [flatten_len hlen', List.length_replicate] at hjl
        have hs : 0 < t.s := Nat.pos_of_ne_zero fun e => by rw [e] at hjl; simp at hjl
        have hq : j / t.s < n := (Nat.div_lt_iff_lt_mul hs).2 hjl
        have hm : j % t.s < t.s := Nat.mod_lt _ hs
        have hjd : j / t.s * t.s + j % t.s = j := by rw [Nat.mul_comm]; exact Nat.div_add_mod j t.s
        have e1 := flatten_at hlen' (k := j / t.s) (f := j % t.s) (x := zs') (by rw [List.getElem?_replicate, if_pos hq]) hm
        rw [hjd, hj] at e1
        obtain ⟨y, k1, k2⟩ := hzat he e1.symm
        have e2 := flatten_at h1 (k := j / t.s) (f := j % t.s) (x := zs) (by rw [List.getElem?_replicate, if_pos hq]) hm
        rw [hjd, k1] at e2
        obtain ⟨u, a1, a2⟩ := h9 j y e2
        refine ⟨u, [], a1, by rw [List.getElem?_replicate, if_pos (by rw [flatten_len hlen', List.length_replicate]; exact hjl)], .inr ⟨by simp, ?_⟩⟩
        rw [Nat.zero_add] at k2
        cases ht : t.sub (j % t.s) with
        | none =>
          rw [ht] at k2
          simp only [CellD, ht]; rw [k2.1]; exact ⟨trivial, a2.fits hf.set hf.heap⟩
        | some t' =>
          rw [ht] at k2
          simp only [CellD, ht]
          rw [k2.1] at a2
          have : u = .slice none 0 0 := by cases a2; rfl
          exact ⟨[], k2.2, fun x hx => by simp at hx, .inl ⟨rfl, this, rfl⟩⟩
    · exact absurd hN e1

theorem a_todeep {c : Code} {Q : Exit → St → Prop} (id n : Nat) {ver e sz : Nat} (t : DTy) {zs zs' : List V} {es es' : List (List V)} (ho : look s.hp id = some (ver, .row e sz es)) (hte : t.e = e) (hts : t.s = sz) (hes : es = List.replicate n zs) (he : Eat s.hp t 0 zs zs' []) (hes' : List.replicate n zs' = es') (h : AWp C c Q ⟨s.sl, (id, some (ver, .deep t es' none)) :: s.hp⟩) : AWp C c Q s := by
  subst hte; subst hts; subst hes; subst hes'
  exact a_rel (fun a w g hr => ⟨g, hr.todeep ho he⟩) h
theorem op_todeep {l : List Oper} {K : St → Prop} (id n : Nat) {ver e sz : Nat} (t : DTy) {zs zs' : List V} {es es' : List (List V)} (ho : look s.hp id = some (ver, .row e sz es)) (hte : t.e = e) (hts : t.s = sz) (hes : es = List.replicate n zs) (he : Eat s.hp t 0 zs zs' []) (hes' : List.replicate n zs' = es') (h : AOps C all l K ⟨s.sl, (id, some (ver, .deep t es' none)) :: s.hp⟩) : AOps C all l K s := by
  subst hte; subst hts; subst hes; subst hes'
  exact op_rel (fun a w g hr => ⟨g, hr.todeep ho he⟩) h

def slOf : Obj → Option (List (List V))
  | .row _ _ es => some es
  | .deep _ es none => some es
  | _ => none
theorem obj_sl {w : World} {hp hp' : Heap} {g : Gh} {id ver : Nat} {o : Obj} {es : List (List V)} (h : HR C w hp g) (ho : look hp id = some (ver, o)) (hs : slOf o = some es) (hX : ∀ b, XX C hp g w b → XX C hp' g w b) (hb : ∀ b ∈ g.fp id, XX C hp' g w b) : SR (XX C hp' g w) w (.sl es) (g.val id) := by
  cases o with
  | row e sz es' => simp [slOf] at hs; subst hs; exact row_sl h ho hX hb
  | box e xs => simp [slOf] at hs
  | map kvs => simp [slOf] at hs
  | deep t es' hh =>
    cases hh with
    | some x => simp [slOf] at hs
    | none => simp [slOf] at hs; subst hs; exact deep_sl h ho hX hb

theorem Rel.freeze3 {a : Act} {w : World} {g : Gh} (hr : Rel C a w s g) {t id ver : Nat} {o : Obj} {es : List (List V)} (hA : ∀ b ∈ g.fp id, ¬ C.A b) (ht : get s.sl t = .own id ver) (ho : look s.hp id = some (ver, o)) (hs : slOf o = some es) :
    Rel C a w ⟨(t, .sl es) :: s.sl, (id, none) :: s.hp⟩ g := by
  have hk := drop_look (hp := s.hp) (id := id)
  have hX : ∀ b, XX C s.hp g w b → XX C ((id, none) :: s.hp) g w b := fun b hb => hb.mono hk
  have hb := drop_XX hr.hr ho (fun b hb => ((hr.hr.blk id _ b ho hb).2).resolve_right (hA b hb))
  refine ⟨hr.size, hr.defers, hr.hr.weaken hk, fun t' => ?_⟩
  simp only [get]
  by_cases e : t = t'
  · subst e
    simp only [Nat.beq_refl, cond_true]
    obtain ⟨h1, _⟩ := hr.ownv (x := .tmp t) ht ho
    have : a.tmps.getD t undef = g.val id := h1
    rw [this]
    exact .sh (obj_sl hr.hr ho hs hX hb)
  · rw [beq_ne e]
    exact (hr.slots t').fits ⟨fun _ => Nat.le_refl _, fun _ _ => rfl, fun _ _ => rfl, fun _ _ => rfl, hX, fun _ _ => rfl⟩
end
section
variable {P : Program} {n : Nat} {w0 : World} {ins : List Obj} {g0 : Gh} {X : Nat → Prop} {sl : Slots} {hp : Heap} {all : Array Oper}
theorem a_freezeG {c : Code} {Q : Exit → St → Prop} {id ver : Nat} {o : Obj} {es : List (List V)} (t : Nat) (hk : Keep hp 0 ins) (hid : Nat.ble ins.length id = true) (ht : get sl t = .own id ver) (ho : look hp id = some (ver, o)) (hs : slOf o = some es) (h : AWp (fnCtx P n w0 ins g0 X) c Q ⟨(t, .sl es) :: sl, (id, none) :: hp⟩) : AWp (fnCtx P n w0 ins g0 X) c Q ⟨sl, hp⟩ :=
  fun a w g hr => h a w g (hr.freeze3 (s := ⟨sl, hp⟩) (keep_A hk (Nat.le_of_ble_eq_true hid) hr.hr ho) ht ho hs)
theorem op_freezeG {l : List Oper} {K : St → Prop} {id ver : Nat} {o : Obj} {es : List (List V)} (t : Nat) (hk : Keep hp 0 ins) (hid : Nat.ble ins.length id = true) (ht : get sl t = .own id ver) (ho : look hp id = some (ver, o)) (hs : slOf o = some es) (h : AOps (fnCtx P n w0 ins g0 X) all l K ⟨(t, .sl es) :: sl, (id, none) :: hp⟩) : AOps (fnCtx P n w0 ins g0 X) all l K ⟨sl, hp⟩ :=
  fun hb Q hQ a w g hr => h hb Q hQ a w g (hr.freeze3 (s := ⟨sl, hp⟩) (keep_A hk (Nat.le_of_ble_eq_true hid) hr.hr ho) ht ho hs)
end
end Go.Ab

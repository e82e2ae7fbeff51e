/- Stores, literals, new slices, appends, over the abstract state. -/
import Derived.Test.YtdnlchflejoloaaAb4
set_option linter.unusedSimpArgs false
set_option linter.unusedVariables false
namespace Go.Ab
section
variable {C : Ctx} {all : Array Oper} {s : St} {d : Nat} {ty : TypeId} {pos : String} {aft : Array Edge}

theorem run_storeAt_leaf {P : Program} {t : TypeId} {w : World} {b o : Nat} {cur : Array Value} {e : TypeId} {u : Value} (ht : LeafT P t) (hc : w.heap[b]? = some (.cells cur e (0, 0))) (ho : o < cur.size) (hu : u.oneCell' = true) :
    (Instr.storeAt t (.pointer (some ⟨b, o, none⟩)) u).run P w = .ok () (w.setRow b (cur.setIfInBounds o u)) := by
  obtain ⟨dd, h1, h2, h3⟩ := ht
  have hcell : w.cell? ⟨b, o, none⟩ = some cur[o] := by rw [cellOf hc]; simp [ho]
  have hfro : w.frozen? ⟨b, o, none⟩ = false := by simp [World.frozen?, hc]
  have hst : (store ⟨b, o, none⟩ u).run P w = .ok () (w.setRow b (cur.setIfInBounds o u)) := by
    rw [run_store P w _ u _ hu, hcell]
    simp [hfro, setCell_eq_setRow w b o cur e (0, 0) u hc]
  have h4 := cells_one hu
  simp [Instr.storeAt, Instr.sureAddr, storeVar, h4, run_sizeOf h3, storeCells, Addr.add, hst]

theorem run_storeAt_agg {P : Program} {t n : TypeId} {w : World} {b o : Nat} {cur : Array Value} {e : TypeId} {us : Array Value} (ht : AggT P t n) (hc : w.heap[b]? = some (.cells cur e (0, 0))) (hn : us.size = n) (ho : o + n ≤ cur.size) (hu : ∀ u ∈ us.toList, u.oneCell' = true) :
    (Instr.storeAt t (.pointer (some ⟨b, o, none⟩)) (.agg us)).run P w = .ok () (w.setRow b (cur.toList.take o ++ us.toList ++ cur.toList.drop (o + us.size)).toArray) := by
  obtain ⟨dd, h1, h2, h3⟩ := ht
  have hst := run_storeCells_at P b o e us.toList 0 cur w hc (by simp; omega) hu
  simp only [Nat.add_zero, Array.length_toList] at hst
  simp [Instr.storeAt, Instr.sureAddr, storeVar, Value.cells, run_sizeOf h3, hn]
  simpa [hn] using hst

theorem get_seg {α : Type} {l m : List α} {o : Nat} (h : o + m.length ≤ l.length) (j : Nat) : (l.take o ++ m ++ l.drop (o + m.length))[j]? = if j < o then l[j]? else if j < o + m.length then m[j - o]? else l[j]? := by
  rw [List.append_assoc]
  by_cases h1 : j < o
  · rw [if_pos h1, List.getElem?_append_left (by rw [List.length_take]; omega), List.getElem?_take, if_pos h1]
  · rw [if_neg h1, List.getElem?_append_right (by rw [List.length_take]; omega), List.length_take, show min o l.length = o from by omega]
    by_cases h2 : j < o + m.length
    · rw [if_pos h2, List.getElem?_append_left (by omega)]
    · rw [if_neg h2, List.getElem?_append_right (by omega), List.getElem?_drop]; congr 1; omega

theorem j_store_box {t : TypeId} {x y : Operand} {id ver off e : Nat} {xs : List V} {v : V} (ht : LeafT C.P t) (hx : Ab.ev s.sl x = .ptr id ver off) (ho : look s.hp id = some (ver, .box e xs)) (hoff : off < xs.length) (hy : Ab.ev s.sl y = v) (hl : lf v = true) :
    OpJ C all ⟨none, .store t x y, ty, pos, aft, none⟩ s [id] (ES id ver (.box e (xs.set off v))) :=
  j_eff (hp' := [(id, some (ver, .box e (xs.set off v)))]) fun s' hs a w g hr => by
    have hx := (hs.e (x := x) (by simp [Op.operands])).trans hx
    have hy := (hs.e (x := y) (by simp [Op.operands])).trans hy
    have ho := (hs.hp id (by simp)).trans ho
    obtain ⟨b, h4, h5⟩ := hr.ptr hx ho
    obtain ⟨b', cur, h9, h9', h10, hc, h11⟩ := hr.hr.obj id ver _ ho
    rw [h9] at h4; obtain rfl : b' = b := by simpa using h4
    have hv := hr.ev y
    rw [hy] at hv
    have hrun := run_storeAt_leaf (P := C.P) (u := a.eval y) ht h10 (by omega : off < cur.size) (hv.one hl)
    obtain ⟨h2, h3⟩ := hr.hr.write (o' := .box e (xs.set off v)) (cur' := cur.setIfInBounds off (a.eval y)) ho h9' h10 (fun X' w' hf hw => box_or (hf.blk id rfl ▸ h9) h9' hw (by simp [hc]) (fun j v' u hj hu => by
      rw [List.getElem?_set] at hj
      rw [Array.getElem?_setIfInBounds] at hu
      by_cases e : off = j
      · subst e
        simp only [if_true] at hj hu
        rw [if_pos hoff] at hj
        rw [if_pos (by omega)] at hu
        simp at hj hu; subst hj; subst hu
        exact hv.fits hf
      · rw [if_neg e] at hj hu
        obtain ⟨u', e1, e2⟩ := h11 _ _ hj
        rw [hu] at e1; obtain rfl := Option.some.inj e1
        exact e2.fits hf))
    refine ⟨_, g, ?_, h2, h3, fun _ => rfl⟩
    simp only [execOp, h5, Sem.run_bind, hrun, Result.andThen_ok, Sem.run_pure]

theorem j_storea_box {t n : TypeId} {x y : Operand} {id ver off e : Nat} {xs ys : List V} (ht : AggT C.P t n) (hx : Ab.ev s.sl x = .ptr id ver off) (ho : look s.hp id = some (ver, .box e xs)) (hn : ys.length = n) (hoff : off + n ≤ xs.length) (hy : Ab.ev s.sl y = .agg ys) (hl : ys.all lf = true) :
    OpJ C all ⟨none, .store t x y, ty, pos, aft, none⟩ s [id] (ES id ver (.box e (xs.take off ++ ys ++ xs.drop (off + ys.length)))) :=
  j_eff (hp' := [(id, some (ver, .box e (xs.take off ++ ys ++ xs.drop (off + ys.length))))]) fun s' hs a w g hr => by
    have hx := (hs.e (x := x) (by simp [Op.operands])).trans hx
    have hy := (hs.e (x := y) (by simp [Op.operands])).trans hy
    have ho := (hs.hp id (by simp)).trans ho
    obtain ⟨b, h4, h5⟩ := hr.ptr hx ho
    obtain ⟨b', cur, h9, h9', h10, hc, h11⟩ := hr.hr.obj id ver _ ho
    rw [h9] at h4; obtain rfl : b' = b := by simpa using h4
    obtain ⟨us, h6, h7, h8⟩ := hr.agg hy
    have hone : ∀ u ∈ us.toList, u.oneCell' = true := by
      intro u hu
      obtain ⟨j, hj⟩ := List.mem_iff_getElem?.1 hu
      have hjl : j < ys.length := by rw [← h7]; simpa using (List.getElem?_eq_some_iff.1 hj).1
      exact (h8 j ys[j] u (by simp [hjl]) (by simpa using hj)).one (List.all_eq_true.1 hl _ (List.getElem_mem hjl))
    have hrun := run_storeAt_agg (P := C.P) (o := off) ht h10 (by omega) (by omega) hone
    have hlen : us.toList.length = ys.length := by simpa using h7
    obtain ⟨h2, h3⟩ := hr.hr.write (o' := .box e (xs.take off ++ ys ++ xs.drop (off + ys.length))) (cur' := (cur.toList.take off ++ us.toList ++ cur.toList.drop (off + us.size)).toArray) ho h9' h10 (fun X' w' hf hw => box_or (hf.blk id rfl ▸ h9) h9' hw (by simp; omega) (fun j v' u hj hu => by
      rw [get_seg (by omega)] at hj
      rw [List.getElem?_toArray, ← Array.length_toList, get_seg (by simp; omega), hlen] at hu
      by_cases e1 : j < off
      · rw [if_pos e1] at hj hu
        obtain ⟨u', e2, e3⟩ := h11 _ _ hj
        have : u = u' := by simpa [e2] using hu.symm
        rw [this]; exact e3.fits hf
      · rw [if_neg e1] at hj hu
        by_cases e2 : j < off + ys.length
        · rw [if_pos e2] at hj hu
          exact (h8 _ _ _ hj (by simpa using hu)).fits hf
        · rw [if_neg e2] at hj hu
          obtain ⟨u', e3, e4⟩ := h11 _ _ hj
          have : u = u' := by simpa [e3] using hu.symm
          rw [this]; exact e4.fits hf))
    refine ⟨_, g, ?_, h2, h3, fun _ => rfl⟩
    simp only [execOp, h5, h6, Sem.run_bind, hrun, Result.andThen_ok, Sem.run_pure]

theorem set_lens {sz : Nat} {es : List (List V)} (h : ∀ x ∈ es, x.length = sz) (k : Nat) (ys : List V) (hy : ys.length = sz) : ∀ x ∈ es.set k ys, x.length = sz := by
  intro x hx
  rcases List.mem_or_eq_of_mem_set hx with hx | rfl
  · exact h x hx
  · exact hy

/-- The cells of a row one of whose elements is another. -/
theorem set_flat {sz : Nat} {es : List (List V)} (h : ∀ x ∈ es, x.length = sz) {k : Nat} (hk : k < es.length) {ys : List V} (hy : ys.length = sz) (j : Nat) :
    (es.set k ys).flatten[j]? = if j < k * sz then es.flatten[j]? else if j < k * sz + sz then ys[j - k * sz]? else es.flatten[j]? := by
  have hlen := flatten_len h
  have hs := set_lens h k ys hy
  have hlen' := flatten_len hs
  rw [List.length_set] at hlen'
  by_cases hj : j < es.length * sz
  · have hsz : 0 < sz := by
      rcases Nat.eq_zero_or_pos sz with e | e
      · subst e; omega
      · exact e
    have hq : j / sz < es.length := (Nat.div_lt_iff_lt_mul hsz).2 hj
    have hm : j % sz < sz := Nat.mod_lt _ hsz
    have hjd : j / sz * sz + j % sz = j := by rw [Nat.mul_comm]; exact Nat.div_add_mod j sz
    have e1 : es.flatten[j]? = es[j / sz][j % sz]? := by
      have := flatten_at h (k := j / sz) (f := j % sz) (x := es[j / sz]) (by simp [hq]) hm
      rwa [hjd] at this
    have e2 : (es.set k ys).flatten[j]? = ((es.set k ys)[j / sz]'(by simpa using hq))[j % sz]? := by
      have := flatten_at hs (k := j / sz) (f := j % sz) (x := (es.set k ys)[j / sz]'(by simpa using hq)) (by simp [hq]) hm
      rwa [hjd] at this
    by_cases ek : j / sz = k
    · subst ek
      have h1 : ¬ j < j / sz * sz := by omega
      have h2 : j < j / sz * sz + sz := by omega
      rw [if_neg h1, if_pos h2, e2]
      simp only [List.getElem_set_self]
      congr 1; omega
    · rw [e2]
      simp only [List.getElem_set_ne (Ne.symm ek)]
      rw [← e1]
      by_cases h1 : j < k * sz
      · rw [if_pos h1]
      · have h2 : ¬ j < k * sz + sz := by
          intro h2
          have : j / sz = k := by
            apply Nat.le_antisymm
            · exact Nat.le_of_lt_succ ((Nat.div_lt_iff_lt_mul hsz).2 (by rw [Nat.succ_mul]; omega))
            · exact (Nat.le_div_iff_mul_le hsz).2 (by omega)
          exact ek this
        rw [if_neg h1, if_neg h2]
  · have hk' : k * sz + sz ≤ es.length * sz := by
      have := Nat.mul_le_mul_right sz (show k + 1 ≤ es.length from hk)
      rwa [Nat.succ_mul] at this
    have h1 : ¬ j < k * sz := by omega
    have h2 : ¬ j < k * sz + sz := by omega
    rw [if_neg h1, if_neg h2, List.getElem?_eq_none (by omega), List.getElem?_eq_none (by omega)]

theorem row_or {g : Gh} {X : Nat → Prop} {w : World} {i e sz b c : Nat} {es : List (List V)} {cur : Array Value} (h0 : g.sz i = sz) (hs : ∀ x ∈ es, x.length = sz) (hv : g.val i = .slice (some ⟨b, 0, none⟩) es.length c) (h1 : g.blk i = some b) (h2 : g.fp i = [b]) (h3 : w.heap[b]? = some (.cells cur e (0, 0))) (hc1 : es.length ≤ c) (hc2 : c ≤ maxLen) (h4 : cur.size = c * sz)
    (h5 : ∀ (j : Nat) (v : V) (u : Value), es.flatten[j]? = some v → cur[j]? = some u → SR X w v u) : OR g X w i (.row e sz es) :=
  ⟨h0, hs, .inr ⟨b, c, cur, hv, h1, h2, h3, hc1, hc2, h4, fun j v hj => by
    have hlt : j < cur.size := by
      have := (List.getElem?_eq_some_iff.1 hj).1
      rw [flatten_len hs] at this
      have := Nat.mul_le_mul_right sz hc1
      omega
    exact ⟨cur[j], by simp [hlt], h5 j v _ hj (by simp [hlt])⟩⟩⟩

/-- 'x[i] = v' in a row of the call's own, whose elements are one cell. -/
theorem j_store_row {t : TypeId} {x y : Operand} {id ver k e : Nat} {es : List (List V)} {v : V} (ht : LeafT C.P t) (hx : Ab.ev s.sl x = .pel id ver k 0) (ho : look s.hp id = some (ver, .row e 1 es)) (hk : k < es.length) (hy : Ab.ev s.sl y = v) (hl : lf v = true) (hsh : shl v = true) :
    OpJ C all ⟨none, .store t x y, ty, pos, aft, none⟩ s [id] (ES id ver (.row e 1 (es.set k [v]))) :=
  j_eff (hp' := [(id, some (ver, .row e 1 (es.set k [v])))]) fun s' hs a w g hr => by
    have hx := (hs.e (x := x) (by simp [Op.operands])).trans hx
    have hy := (hs.e (x := y) (by simp [Op.operands])).trans hy
    have ho := (hs.hp id (by simp)).trans ho
    obtain ⟨b, h4, h5⟩ := hr.pel hx ho
    obtain ⟨h6, h7, h8⟩ := hr.hr.obj id ver _ ho
    rcases h8 with ⟨h8, _⟩ | ⟨b', c, cur, hval, h9, h9', h10, hc1, hc2, hc3, h11⟩
    · subst h8; simp at hk
    · rw [h9] at h4; obtain rfl : b' = b := by simpa using h4
      have hv := hr.ev y
      rw [hy] at hv
      have hvs := hv.shr hsh
      rw [h6] at h5
      simp only [Nat.mul_one, Nat.add_zero] at h5 hc3
      have hrun := run_storeAt_leaf (P := C.P) (u := a.eval y) ht h10 (by omega : k < cur.size) (hv.one hl)
      obtain ⟨h2, h3⟩ := hr.hr.write (o' := .row e 1 (es.set k [v])) (cur' := cur.setIfInBounds k (a.eval y)) ho h9' h10 (fun X' w' hf hw => row_or ((hf.sz id rfl).trans h6) (set_lens h7 k [v] rfl) (by rw [hf.val id rfl, hval]; simp) (hf.blk id rfl ▸ h9) h9' hw (by simpa using hc1) hc2 (by simp [hc3]) (fun j v' u hj hu => by
        rw [set_flat h7 hk rfl] at hj
        rw [Array.getElem?_setIfInBounds] at hu
        simp only [Nat.mul_one] at hj
        by_cases e1 : k = j
        · subst e1
          simp only [if_true, Nat.lt_irrefl, if_false, Nat.lt_add_one, Nat.sub_self] at hj hu
          rw [if_pos (by omega)] at hu
          simp at hj hu; subst hj; subst hu
          exact hvs.fits hf.set hf.heap
        · rw [if_neg e1] at hu
          have hj' : es.flatten[j]? = some v' := by
            split at hj
            · exact hj
            · rw [if_neg (by omega)] at hj; exact hj
          obtain ⟨u', e2, e3⟩ := h11 _ _ hj'
          rw [hu] at e2; obtain rfl := Option.some.inj e2
          exact e3.fits hf.set hf.heap))
      refine ⟨_, g, ?_, h2, h3, fun _ => rfl⟩
      simp only [execOp, h5, Sem.run_bind, hrun, Result.andThen_ok, Sem.run_pure]

/-- 'x[i].f = v' in a row of the call's own. -/
theorem j_storef_row {t : TypeId} {x y : Operand} {id ver k f sz e : Nat} {es : List (List V)} {xs : List V} {v : V} (ht : LeafT C.P t) (hx : Ab.ev s.sl x = .pel id ver k f) (ho : look s.hp id = some (ver, .row e sz es)) (hk : es[k]? = some xs) (hf : f < xs.length) (hy : Ab.ev s.sl y = v) (hl : lf v = true) (hsh : shl v = true) :
    OpJ C all ⟨none, .store t x y, ty, pos, aft, none⟩ s [id] (ES id ver (.row e sz (es.set k (xs.set f v)))) :=
  j_eff (hp' := [(id, some (ver, .row e sz (es.set k (xs.set f v))))]) fun s' hs a w g hr => by
    have hx := (hs.e (x := x) (by simp [Op.operands])).trans hx
    have hy := (hs.e (x := y) (by simp [Op.operands])).trans hy
    have ho := (hs.hp id (by simp)).trans ho
    obtain ⟨b, h4, h5⟩ := hr.pel hx ho
    obtain ⟨h6, h7, h8⟩ := hr.hr.obj id ver _ ho
    have hkl : k < es.length := (List.getElem?_eq_some_iff.1 hk).1
    have hxl : xs.length = sz := h7 xs (List.mem_iff_getElem?.2 ⟨k, hk⟩)
    rcases h8 with ⟨h8, _⟩ | ⟨b', c, cur, hval, h9, h9', h10, hc1, hc2, hc3, h11⟩
    · subst h8; simp at hkl
    · rw [h9] at h4; obtain rfl : b' = b := by simpa using h4
      have hv := hr.ev y
      rw [hy] at hv
      have hvs := hv.shr hsh
      rw [h6] at h5
      have hks : k * sz + sz ≤ c * sz := by
        have := Nat.mul_le_mul_right sz (show k + 1 ≤ c from by omega)
        rwa [Nat.succ_mul] at this
      have hrun := run_storeAt_leaf (P := C.P) (u := a.eval y) ht h10 (by omega : k * sz + f < cur.size) (hv.one hl)
      obtain ⟨h2, h3⟩ := hr.hr.write (o' := .row e sz (es.set k (xs.set f v))) (cur' := cur.setIfInBounds (k * sz + f) (a.eval y)) ho h9' h10 (fun X' w' hff hw => row_or ((hff.sz id rfl).trans h6) (set_lens h7 k (xs.set f v) (by simpa using hxl)) (by rw [hff.val id rfl, hval]; simp) (hff.blk id rfl ▸ h9) h9' hw (by simpa using hc1) hc2 (by simp [hc3]) (fun j v' u hj hu => by
        rw [set_flat h7 hkl (by simpa using hxl)] at hj
        rw [Array.getElem?_setIfInBounds] at hu
        by_cases e1 : k * sz + f = j
        · subst e1
          rw [if_neg (by omega), if_pos (by omega), show k * sz + f - k * sz = f from by omega, List.getElem?_set, if_pos rfl, if_pos hf] at hj
          rw [if_pos rfl, if_pos (by omega)] at hu
          simp at hj hu; subst hj; subst hu
          exact hvs.fits hff.set hff.heap
        · rw [if_neg e1] at hu
          have hj' : es.flatten[j]? = some v' := by
            split at hj
            · exact hj
            · split at hj
              · rw [List.getElem?_set, if_neg (by omega)] at hj
                have := flatten_at h7 (k := k) (f := j - k * sz) hk (by omega)
                rw [show k * sz + (j - k * sz) = j from by omega] at this
                rw [this]; exact hj
              · exact hj
          obtain ⟨u', e2, e3⟩ := h11 _ _ hj'
          rw [hu] at e2; obtain rfl := Option.some.inj e2
          exact e3.fits hff.set hff.heap))
      refine ⟨_, g, ?_, h2, h3, fun _ => rfl⟩
      simp only [execOp, h5, Sem.run_bind, hrun, Result.andThen_ok, Sem.run_pure]

/-- 'x[i] = v', v a struct, in a row of the call's own. -/
theorem j_storea_row {t n : TypeId} {x y : Operand} {id ver k e : Nat} {es : List (List V)} {ys : List V} (ht : AggT C.P t n) (hx : Ab.ev s.sl x = .pel id ver k 0) (ho : look s.hp id = some (ver, .row e n es)) (hk : k < es.length) (hy : Ab.ev s.sl y = .agg ys) (hn : ys.length = n) (hl : ys.all lf = true) (hsh : shl.shlL ys = true) :
    OpJ C all ⟨none, .store t x y, ty, pos, aft, none⟩ s [id] (ES id ver (.row e n (es.set k ys))) :=
  j_eff (hp' := [(id, some (ver, .row e n (es.set k ys)))]) fun s' hs a w g hr => by
    have hx := (hs.e (x := x) (by simp [Op.operands])).trans hx
    have hy := (hs.e (x := y) (by simp [Op.operands])).trans hy
    have ho := (hs.hp id (by simp)).trans ho
    obtain ⟨b, h4, h5⟩ := hr.pel hx ho
    obtain ⟨h6, h7, h8⟩ := hr.hr.obj id ver _ ho
    rcases h8 with ⟨h8, _⟩ | ⟨b', c, cur, hval, h9, h9', h10, hc1, hc2, hc3, h11⟩
    · subst h8; simp at hk
    · rw [h9] at h4; obtain rfl : b' = b := by simpa using h4
      obtain ⟨us, h12, h13, h14⟩ := hr.agg hy
      rw [h6] at h5
      simp only [Nat.add_zero] at h5
      have hks : k * n + n ≤ c * n := by
        have := Nat.mul_le_mul_right n (show k + 1 ≤ c from by omega)
        rwa [Nat.succ_mul] at this
      have hone : ∀ u ∈ us.toList, u.oneCell' = true := by
        intro u hu
        obtain ⟨j, hj⟩ := List.mem_iff_getElem?.1 hu
        have hjl : j < ys.length := by rw [← h13]; simpa using (List.getElem?_eq_some_iff.1 hj).1
        exact (h14 j ys[j] u (by simp [hjl]) (by simpa using hj)).one (List.all_eq_true.1 hl _ (List.getElem_mem hjl))
      have hrun := run_storeAt_agg (P := C.P) (o := k * n) ht h10 (by omega) (by omega) hone
      have hlen : us.toList.length = n := by simp; omega
      obtain ⟨h2, h3⟩ := hr.hr.write (o' := .row e n (es.set k ys)) (cur' := (cur.toList.take (k * n) ++ us.toList ++ cur.toList.drop (k * n + us.size)).toArray) ho h9' h10 (fun X' w' hff hw => row_or ((hff.sz id rfl).trans h6) (set_lens h7 k ys hn) (by rw [hff.val id rfl, hval]; simp) (hff.blk id rfl ▸ h9) h9' hw (by simpa using hc1) hc2 (by simp; omega) (fun j v' u hj hu => by
        rw [set_flat h7 hk hn] at hj
        rw [List.getElem?_toArray, ← Array.length_toList, get_seg (by simp; omega), hlen] at hu
        by_cases e1 : j < k * n
        · rw [if_pos e1] at hj hu
          obtain ⟨u', e2, e3⟩ := h11 _ _ hj
          have : u = u' := by simpa [e2] using hu.symm
          rw [this]; exact e3.fits hff.set hff.heap
        · rw [if_neg e1] at hj hu
          by_cases e2 : j < k * n + n
          · rw [if_pos e2] at hj hu
            exact ((h14 _ _ _ hj (by simpa using hu)).shr (shlL_at hsh hj)).fits hff.set hff.heap
          · rw [if_neg e2] at hj hu
            obtain ⟨u', e3, e4⟩ := h11 _ _ hj
            have : u = u' := by simpa [e3] using hu.symm
            rw [this]; exact e4.fits hff.set hff.heap))
      refine ⟨_, g, ?_, h2, h3, fun _ => rfl⟩
      simp only [execOp, h5, h12, Sem.run_bind, hrun, Result.andThen_ok, Sem.run_pure]
end
end Go.Ab

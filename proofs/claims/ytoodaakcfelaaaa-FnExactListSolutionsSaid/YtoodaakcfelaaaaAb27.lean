/- Texts. -/
import Derived.Test.YtoodaakcfelaaaaAb26
set_option linter.unusedSimpArgs false
set_option linter.unusedVariables false
namespace Go.Ab
variable {C : Ctx}
theorem appDeepH {tt e' bytes : TypeId} {z : Value} {hp : Heap} {g : Gh} {w : World} {id id2 ver0 ver2 : Nat} {t : DTy} {es es2 : List (List V)} {k2 f2 dd vd ed sd : Nat} {esd : List (List V)} (H : HR C w hp g) (hne : id ≠ id2) (ht : SlT C.P tt t.e t.s) (hz : ElT C.P t.e t.s bytes z) (hzsz : z.cells.size = t.s)
    (ho : look hp id = some (ver0, .deep t es none)) (ho2 : look hp id2 = some (ver2, .deep t es2 (some (k2, f2, dd, vd)))) (hdl : look hp dd = some (vd, .row ed sd esd)) (hdi : dd ≠ id) (hl2 : es2.flatten.all lf = true) (h2 : 0 < es2.length) (hm : es.length + es2.length ≤ maxLen) (hb : (es.length + es2.length) * bytes ≤ 140737488355328) :
    ∃ u' w' g', (Builtin.append_ #[tt, tt] e' #[g.val id, g.val id2]).run C.P w = .ok u' w' ∧ HR C w' ((id, some (g.cur id + 1, .deep t (es ++ es2) (some (es.length + k2, f2, dd, vd)))) :: (id2, none) :: hp) g' ∧ Fits g (XX C hp g w) w g' (XX C ((id, some (g.cur id + 1, .deep t (es ++ es2) (some (es.length + k2, f2, dd, vd)))) :: (id2, none) :: hp) g' w') w' ∧
      g'.cur id = g.cur id + 1 ∧ g'.val id = u' ∧ u'.oneCell' = true ∧ (∀ j, j ≠ id → g'.cur j = g.cur j) := by
  obtain ⟨n2, b2, c2, cur2, fps2, D2⟩ := H.dd ho2 h2
  obtain ⟨ii, hi1, hi2, hi3, hi4⟩ := info_parts hz
  obtain ⟨ht1, ht2⟩ := ht
  have hmm := hm
  unfold maxLen at hmm
  have hf2 := qq1 D2.len
  have hcl2 : cur2.toList.length = c2 * t.s := by rw [Array.length_toList]; exact D2.size
  have hle2 : es2.length * t.s ≤ c2 * t.s := Nat.mul_le_mul_right _ D2.le
  let cs : List Value := cur2.toList.take (es2.length * t.s)
  have hcs : cs.length = es2.length * t.s := by simp only [cs, List.length_take, hcl2]; omega
  have hcsat : ∀ j, j < es2.flatten.length → cs[j]? = cur2[j]? := fun j hj => by
    simp only [cs]; rw [List.getElem?_take, if_pos (by omega)]; simp
  have hcell : ∀ (j : Nat) (v : Value), cs[j]? = some v → w.cell? ((⟨b2, 0, none⟩ : Addr).add j) = some v := fun j v hv => by
    rw [qz2, Nat.zero_add, cellOf D2.heap]
    have hj : j < es2.flatten.length := by rw [hf2, ← hcs]; exact (List.getElem?_eq_some_iff.1 hv).1
    rw [← hcsat j hj]; exact hv
  have hv := D2.hole k2 f2 dd vd rfl
  have hcel := hv.2.2.2.2 (H.cur dd vd _ hdl).symm
  have hidx : k2 * t.s + f2 < es2.flatten.length := by
    have h9 := Nat.mul_le_mul_right t.s (show k2 + 1 ≤ es2.length from hv.1)
    rw [Nat.succ_mul] at h9
    have := hv.2.1
    omega
  have hone : ∀ u ∈ cs, u.oneCell' = true := by
    intro u hu
    obtain ⟨j, hj⟩ := List.mem_iff_getElem?.1 hu
    have hjl : j < es2.flatten.length := by rw [hf2, ← hcs]; exact (List.getElem?_eq_some_iff.1 hj).1
    obtain ⟨u', F, a1, _, a3⟩ := D2.dc.2 j es2.flatten[j] (List.getElem?_eq_getElem hjl)
    rw [hcsat j hjl, a1] at hj; obtain rfl := Option.some.inj hj
    rcases a3 with ⟨a3, _⟩ | ⟨_, a3⟩
    · have hq : k2 * t.s + f2 = j := Option.some.inj a3
      rw [← hq, hcel] at a1
      rw [← Option.some.inj a1]
      rcases (H.obj dd vd _ hdl).flat with ⟨r, _⟩ | ⟨b9, o9, k9, c9, r, _⟩ <;> rw [r] <;> rfl
    · cases e : t.sub (j % t.s) with
      | some t' => simp only [CellD, e] at a3; obtain ⟨_, _, a4⟩ := a3; exact a4.one
      | none => simp only [CellD, e] at a3; exact a3.2.one (List.all_eq_true.1 hl2 _ (List.getElem_mem hjl))
  obtain ⟨h0, h1, ⟨n1, hl1, hd⟩, h3, _⟩ := H.obj id ver0 _ ho
  have hlenA : ∀ x ∈ es ++ es2, x.length = t.s := fun x hx => (List.mem_append.1 hx).elim (hl1 x) (D2.len x)
  have hdd : ∀ x ∈ g.fp id, x ∉ g.fp id2 := fun x hx => H.dis id id2 _ _ ho ho2 hne x hx
  have hnd2 := List.nodup_cons.1 D2.nd
  have hf2sub : ∀ x ∈ fps2.flatten, x ∈ g.fp id2 := fun x hx => by rw [D2.fp]; exact List.mem_cons_of_mem _ hx
  have hTl : ∀ b, (b ∈ g.fp id ∨ b ∈ g.fp id2) → ∃ j io, look hp j = some io ∧ b ∈ g.fp j := fun x hx => hx.elim (fun hx => ⟨id, _, ho, hx⟩) (fun hx => ⟨id2, _, ho2, hx⟩)
  have hlk : ∀ j io, look ((id, some (g.cur id + 1, .deep t (es ++ es2) (some (es.length + k2, f2, dd, vd)))) :: (id2, none) :: hp) j = some io → j ≠ id → look hp j = some io ∧ ∀ b ∈ g.fp j, ¬ (b ∈ g.fp id ∨ b ∈ g.fp id2) := by
    intro j io hj hji
    rw [qju, if_neg hji, qju] at hj
    split at hj
    · cases hj
    · rename_i hj2
      exact ⟨hj, fun b hb hb2 => hb2.elim (fun h => H.dis j id _ _ hj ho hji b hb h) (fun h => H.dis j id2 _ _ hj ho2 hj2 b hb h)⟩
  have hi : look ((id, some (g.cur id + 1, Obj.deep t (es ++ es2) (some (es.length + k2, f2, dd, vd)))) :: (id2, none) :: hp) id = some (g.cur id + 1, .deep t (es ++ es2) (some (es.length + k2, f2, dd, vd))) := by rw [qju, if_pos rfl]
  have fin : ∀ {w' : World} {u' : Value} {ver : Nat} {bl : Option Nat} {F : List Nat}, ver = g.cur id + 1 → u'.oneCell' = true → (g.upd id ver u' bl F t.s).cur id = g.cur id + 1 ∧ (g.upd id ver u' bl F t.s).val id = u' ∧ u'.oneCell' = true ∧ (∀ j, j ≠ id → (g.upd id ver u' bl F t.s).cur j = g.cur j) := by
    intro w' u' ver bl F e e2; subst e
    exact ⟨by simp [Gh.upd], by simp [Gh.upd], e2, fun j hj => by simp [Gh.upd, hj]⟩
  rcases hd with ⟨rfl, q1, q2⟩ | ⟨b, c, cur, fps, q1, q2, q3, q4, q5, q6, q7⟩
  · have hrun := run_append_nil (P := C.P) w tt e' t.e ii z ht1 hi1 hi2 ⟨b2, 0, none⟩ es2.length c2 cs (by rw [hi3]; exact hcs) hcell h2 (by simp at hmm; omega) (by rw [hi4]; simp at hb; omega)
    have hcap := grownCap_ge w es2.length 0 t.e
    have hgo := H.newDeepH (w1 := w.drew) (hp' := (id, some (g.cur id + 1, .deep t ([] ++ es2) (some (0 + k2, f2, dd, vd)))) :: (id2, none) :: hp) (i := id) (t := t) (es := [] ++ es2) (cur := cs.toArray ++ Builtin.zeroCells z.cells (grownCap w es2.length 0 t.e - es2.length)) (c := grownCap w es2.length 0 t.e) (n := n2) (fps := fps2) (fun x => x ∈ g.fp id ∨ x ∈ g.fp id2) rfl rfl rfl rfl hTl hlk hi (fun x hx => .inr (hf2sub x hx)) hnd2.2 hlenA (by simpa using hcap) (grownCap_le_maxLen w _ _ t.e (by simpa using hm)) (by
        simp only [Array.size_append, List.size_toArray, size_zeroCells, hcs, hzsz, ← Nat.add_mul]; congr 1; omega)
      ⟨by simpa using D2.dc.1, fun j v hj => by
        simp only [List.nil_append] at hj
        obtain ⟨u, F, a1, a2, a3⟩ := D2.dc.2 j v hj
        have hjl : j < es2.flatten.length := (List.getElem?_eq_some_iff.1 hj).1
        refine ⟨u, F, ?_, a2, by simpa using a3⟩
        rw [Array.getElem?_append_left (by rw [List.size_toArray, hcs, ← hf2]; exact hjl), List.getElem?_toArray, hcsat j hjl]; exact a1⟩
      (fun k f d ver e => by
        simp only [Option.some.injEq, Prod.mk.injEq] at e; obtain ⟨rfl, rfl, rfl, rfl⟩ := e
        refine ⟨by simpa using hv.1, hv.2.1, hv.2.2.1, hdi, hv.2.2.2.1, fun _ => ?_⟩
        rw [List.length_nil, Nat.zero_add, Array.getElem?_append_left (by rw [List.size_toArray, hcs, ← hf2]; exact hidx), List.getElem?_toArray, hcsat _ hidx]; exact hcel)
    simp only [List.nil_append] at hgo ⊢
    exact ⟨_, _, _, by rw [q1, D2.val]; exact hrun, hgo.1, hgo.2, fin (w' := w) rfl rfl⟩
  · have hf1 := qq1 hl1
    have hcl : cur.toList.length = c * t.s := by rw [Array.length_toList]; exact q6
    have hle : es.length * t.s ≤ c * t.s := Nat.mul_le_mul_right _ q4
    have h1' := h1
    rw [q2] at h1'
    have hnd1 := List.nodup_cons.1 h1'
    have hsub1 : ∀ x ∈ fps.flatten, x ∈ g.fp id := fun x hx => by rw [q2]; exact List.mem_cons_of_mem _ hx
    have hndA : (fps ++ fps2).flatten.Nodup := by
      rw [List.flatten_append, List.nodup_append]
      exact ⟨hnd1.2, hnd2.2, fun x hx y hy e => by subst e; exact hdd x (hsub1 x hx) (hf2sub x hy)⟩
    have hsubA : ∀ x ∈ (fps ++ fps2).flatten, x ∈ g.fp id ∨ x ∈ g.fp id2 := fun x hx => by
      rw [List.flatten_append, List.mem_append] at hx
      exact hx.imp (hsub1 x) (hf2sub x)
    have q7' : DC (DR (XX C hp g w) w (max n1 n2)) (XX C hp g w) w t none es cur fps := DC.fits (fun _ h => h) (fun _ _ => rfl) (fun t F es u _ h => DR.le (Nat.le_max_left _ _) h) q7
    have d2' : DC (DR (XX C hp g w) w (max n1 n2)) (XX C hp g w) w t ((some (k2, f2, dd, vd)).map (fun x : Nat × Nat × Nat × Nat => x.1 * t.s + x.2.1)) es2 cur2 fps2 := DC.fits (fun _ h => h) (fun _ _ => rfl) (fun t F es u _ h => DR.le (Nat.le_max_right _ _) h) D2.dc
    by_cases hroom : es.length + es2.length ≤ c
    · have hfit : es.length * t.s + cs.length ≤ cur.size := by rw [hcs, q6, ← Nat.add_mul]; exact Nat.mul_le_mul_right _ hroom
      have hrun := run_append_room (P := C.P) w tt e' t.e ii ht1 hi1 b es.length c cur q3 ⟨b2, 0, none⟩ es2.length c2 cs (by rw [hi3]; exact hcs) hcell hone hroom (by rw [hi3]; exact hfit)
      rw [hi3] at hrun
      have hgo := H.wrDeepH (hp' := (id, some (g.cur id + 1, .deep t (es ++ es2) (some (es.length + k2, f2, dd, vd)))) :: (id2, none) :: hp) (i := id) (ver := g.cur id + 1) (t := t) (es := es ++ es2) (cur0 := cur) (cur := (cur.toList.take (es.length * t.s) ++ cs ++ cur.toList.drop (es.length * t.s + cs.length)).toArray) (b := b) (c := c) (n := max n1 n2) (fps := fps ++ fps2) (fun x => x ∈ g.fp id ∨ x ∈ g.fp id2)
        (by rw [q2]; simp) ho q3 (by omega) (fun e => by omega) (h3 b 0 _ c q1) h0 hTl (fun x hx => .inl hx) hlk hi hsubA (List.nodup_cons.2 ⟨fun hx => by
          rw [List.flatten_append, List.mem_append] at hx
          rcases hx with hx | hx
          · exact hnd1.1 hx
          · exact hdd b (by rw [q2]; simp) (hf2sub b hx), hndA⟩) hlenA (by simpa using hroom) q5 (by simp only [List.size_toArray, List.length_append, List.length_take, List.length_drop, hcl]; omega)
        (by rw [show (some (es.length + k2, f2, dd, vd)).map (fun x : Nat × Nat × Nat × Nat => x.1 * t.s + x.2.1) = ((some (k2, f2, dd, vd)).map (fun x : Nat × Nat × Nat × Nat => x.1 * t.s + x.2.1)).map (fun j => es.flatten.length + j) from by simp only [Option.map_some]; congr 1; rw [Nat.add_mul, hf1]; omega]; exact DC.appendH hl1 q7' d2' (fun j hj => by rw [List.getElem?_toArray, get_seg (by omega), if_pos (by omega)]; simp) (fun j hj => by
          rw [List.getElem?_toArray, get_seg (by omega), if_neg (by omega), if_pos (by omega), show es.flatten.length + j - es.length * t.s = j from by omega]; exact hcsat j hj))
        (fun k f d ver e => by
          simp only [Option.some.injEq, Prod.mk.injEq] at e; obtain ⟨rfl, rfl, rfl, rfl⟩ := e
          refine ⟨by simp; exact hv.1, hv.2.1, hv.2.2.1, hdi, hv.2.2.2.1, fun _ => ?_⟩
          rw [show (es.length + k2) * t.s + f2 = es.flatten.length + (k2 * t.s + f2) from by rw [Nat.add_mul, hf1]; omega, List.getElem?_toArray, get_seg (by omega), if_neg (by omega), if_pos (by omega), show es.flatten.length + (k2 * t.s + f2) - es.length * t.s = k2 * t.s + f2 from by omega]; exact (hcsat _ hidx).trans hcel)
      have e1 : (es ++ es2).length = es.length + es2.length := by simp
      rw [e1] at hgo
      exact ⟨_, _, _, by rw [q1, D2.val]; exact hrun, hgo.1, hgo.2, fin (w' := w) rfl rfl⟩
    · have hol : (cur.toList.take es.flatten.length).length = es.flatten.length := by rw [List.length_take, hcl]; omega
      have hrun := run_append_grow (P := C.P) w tt e' t.e ii z ht1 hi1 hi2 ⟨b, 0, none⟩ es.length c (cur.toList.take es.flatten.length) (by rw [hi3, hol, hf1])
        (fun j v hv => by
          rw [qz2, Nat.zero_add, cellOf q3]
          rw [List.getElem?_take] at hv
          split at hv
          · simpa using hv
          · cases hv) ⟨b2, 0, none⟩ es2.length c2 cs (by rw [hi3]; exact hcs) hcell (by omega) (by omega) (growslice_fits (by omega) (by rw [hi4]; exact hb))
      have hcap := grownCap_ge w (es.length + es2.length) c t.e
      have hgo := H.newDeepH (w1 := w.drew) (hp' := (id, some (g.cur id + 1, .deep t (es ++ es2) (some (es.length + k2, f2, dd, vd)))) :: (id2, none) :: hp) (i := id) (t := t) (es := es ++ es2) (cur := (cur.toList.take es.flatten.length).toArray ++ cs.toArray ++ Builtin.zeroCells z.cells (grownCap w (es.length + es2.length) c t.e - (es.length + es2.length))) (c := grownCap w (es.length + es2.length) c t.e) (n := max n1 n2) (fps := fps ++ fps2) (fun x => x ∈ g.fp id ∨ x ∈ g.fp id2) rfl rfl rfl rfl hTl hlk hi hsubA hndA hlenA (by simpa using hcap) (grownCap_le_maxLen w _ _ t.e hm) (by
          simp only [Array.size_append, List.size_toArray, size_zeroCells, hcs, hzsz, hol]
          rw [hf1, ← Nat.add_mul, ← Nat.add_mul]; congr 1; omega)
        (by rw [show (some (es.length + k2, f2, dd, vd)).map (fun x : Nat × Nat × Nat × Nat => x.1 * t.s + x.2.1) = ((some (k2, f2, dd, vd)).map (fun x : Nat × Nat × Nat × Nat => x.1 * t.s + x.2.1)).map (fun j => es.flatten.length + j) from by simp only [Option.map_some]; congr 1; rw [Nat.add_mul, hf1]; omega]; exact DC.appendH hl1 q7' d2' (fun j hj => by
          rw [Array.getElem?_append_left (by rw [Array.size_append, List.size_toArray, List.size_toArray, hol]; omega), Array.getElem?_append_left (by rw [List.size_toArray, hol]; exact hj), List.getElem?_toArray, List.getElem?_take, if_pos hj]; simp) (fun j hj => by
          rw [Array.getElem?_append_left (by rw [Array.size_append, List.size_toArray, List.size_toArray, hol, hcs]; omega), Array.getElem?_append_right (by rw [List.size_toArray, hol]; omega), List.getElem?_toArray, List.size_toArray, hol, show es.flatten.length + j - es.flatten.length = j from by omega]; exact hcsat j hj))
        (fun k f d ver e => by
          simp only [Option.some.injEq, Prod.mk.injEq] at e; obtain ⟨rfl, rfl, rfl, rfl⟩ := e
          refine ⟨by simp; exact hv.1, hv.2.1, hv.2.2.1, hdi, hv.2.2.2.1, fun _ => ?_⟩
          rw [show (es.length + k2) * t.s + f2 = es.flatten.length + (k2 * t.s + f2) from by rw [Nat.add_mul, hf1]; omega, Array.getElem?_append_left (by rw [Array.size_append, List.size_toArray, List.size_toArray, hol, hcs]; omega), Array.getElem?_append_right (by rw [List.size_toArray, hol]; omega), List.getElem?_toArray, List.size_toArray, hol, show es.flatten.length + (k2 * t.s + f2) - es.flatten.length = k2 * t.s + f2 from by omega]; exact (hcsat _ hidx).trans hcel)
      have e1 : (es ++ es2).length = es.length + es2.length := by simp
      rw [e1] at hgo
      exact ⟨_, _, _, by rw [q1, D2.val]; exact hrun, hgo.1, hgo.2, fin (w' := w) rfl rfl⟩
section
variable {all : Array Oper} {s : St} {d : Nat} {ty : TypeId} {pos : String} {aft : Array Edge}
theorem j_append_deepH {tt e sz bytes : TypeId} {z : Value} {x y : Operand} {id ver0 id2 ver2 ver : Nat} {t : DTy} {es es2 : List (List V)} {k2 f2 dd vd ed sd : Nat} {esd : List (List V)} (hne : id ≠ id2) (ht : SlT C.P tt e sz) (hz : ElT C.P e sz bytes z) (hzsz : z.cells.size = sz) (hte : t.e = e) (hts : t.s = sz) (hx : Ab.ev s.sl x = .own id ver0) (ho : look s.hp id = some (ver0, .deep t es none))
    (hy : Ab.ev s.sl y = .own id2 ver2) (ho2 : look s.hp id2 = some (ver2, .deep t es2 (some (k2, f2, dd, vd)))) (hdl : look s.hp dd = some (vd, .row ed sd esd)) (hdi : dd ≠ id) (hl2 : es2.flatten.all lf = true) (h2 : 0 < es2.length) (hm : es.length + es2.length ≤ maxLen) (hb : (es.length + es2.length) * bytes ≤ 140737488355328) :
    OpJ C all ⟨some d, .call { callee := .builtin .append, args := #[x, y], argTypes := #[tt, tt] }, ty, pos, aft, none⟩ s [id, id2, dd] ⟨some d, .own id ver, [(id, some (ver, .deep t (es ++ es2) (some (es.length + k2, f2, dd, vd)))), (id2, none)], [(id, ver)]⟩ := by
  subst hte; subst hts
  exact j_step (hp' := [(id, some (ver, .deep t (es ++ es2) (some (es.length + k2, f2, dd, vd)))), (id2, none)]) (bp := [(id, ver)]) fun s' hs a w g hr hbp => by
    obtain rfl := qxb hbp
    have hx := (hs.e (x := x) (by simp [Op.operands, Call.operands])).trans hx
    have hy := (hs.e (x := y) (by simp [Op.operands, Call.operands])).trans hy
    have ho := (hs.hp id (by simp)).trans ho
    have ho2 := (hs.hp id2 (by simp)).trans ho2
    have hdl := (hs.hp dd (by simp)).trans hdl
    obtain ⟨e1, _⟩ := hr.ownv hx ho
    obtain ⟨e2, _⟩ := hr.ownv hy ho2
    obtain ⟨u', w', g', h1, h2, h3, h4, h5, h6, h7⟩ := appDeepH (e' := ty) hr.hr hne ht hz hzsz ho ho2 hdl hdi hl2 h2 hm hb
    refine ⟨u', w', g', ?_, h2, h3, .own id _ _ h6 (by omega) (fun _ => h5.symm), fun j hj => h7 j (hj _ (List.mem_singleton.2 rfl))⟩
    simp [execOp, resolve, invoke, builtin, e1, e2, h1]
end
end Go.Ab

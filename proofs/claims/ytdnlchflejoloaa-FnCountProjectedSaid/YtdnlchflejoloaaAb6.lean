/- Literals, new slices, appends, cuts, over the abstract state. -/
import Derived.Test.YtdnlchflejoloaaAb5
set_option linter.unusedSimpArgs false
set_option linter.unusedVariables false
namespace Go.Ab

def leaves : V → List V
  | .agg xs => xs
  | v => [v]

/-- The places of a literal's parts, filled. -/
def afill (pl : Nat → Option (Nat × Nat)) : List V → List (Nat × V) → Option (List V)
  | xs, [] => some xs
  | xs, (i, v) :: r => match pl i with
    | none => none
    | some (off, n) => bif (Nat.beq (leaves v).length n && (leaves v).all lf && Nat.ble (off + n) xs.length) then afill pl (xs.take off ++ leaves v ++ xs.drop (off + (leaves v).length)) r else none

structure RelA (g : Gh) (X : Nat → Prop) (w : World) (xs : List V) (cs : Array Value) : Prop where
  len : cs.size = xs.length
  el : ∀ (i : Nat) (v : V) (u : Value), xs[i]? = some v → cs[i]? = some u → VR g X w v u

theorem VR.leaves {g : Gh} {X : Nat → Prop} {w : World} {v : V} {u : Value} (h : VR g X w v u) (hl : (Ab.leaves v).all lf = true) : RelA g X w (Ab.leaves v) u.cells := by
  by_cases ha : ∃ xs, v = .agg xs
  · obtain ⟨xs, rfl⟩ := ha
    cases h with
    | sh h => cases h with
      | agg _ cs hl he => exact ⟨hl, fun i v u h1 h2 => .sh (he i v u h1 h2)⟩
    | agg _ cs hl he => exact ⟨hl, he⟩
  · have e : Ab.leaves v = [v] := by cases v <;> first | rfl | exact absurd ⟨_, rfl⟩ ha
    rw [e] at hl ⊢
    have h1 := cells_one (h.one (by simpa using hl))
    rw [h1]
    exact ⟨rfl, fun i v' u' h2 h3 => by
      match i, h2, h3 with
      | 0, h2, h3 => simp at h2 h3; subst h2; subst h3; exact h⟩

theorem fill_step (us : List Value) (off : Nat) : ∀ (cs : Array Value) (k : Nat), off + k + us.length ≤ cs.size →
    ((us.zipIdx k).foldl (fun cs (x : Value × Nat) => cs.setIfInBounds (off + x.2) x.1) cs).toList = cs.toList.take (off + k) ++ us ++ cs.toList.drop (off + k + us.length) := by
  induction us with
  | nil => intro cs k h; simp
  | cons u us ih =>
    intro cs k h
    simp only [List.zipIdx_cons, List.foldl_cons]
    simp only [List.length_cons] at h
    rw [ih _ _ (by simp; omega), Array.toList_setIfInBounds]
    have := list_seg_step cs.toList (off + k) u us (by simp; omega)
    simp only [List.length_cons]
    rw [← this]
    simp only [Nat.add_assoc]

theorem afill_fill {g : Gh} {X : Nat → Prop} {w : World} {pl : Nat → Option (Nat × Nat)} : ∀ {ps : List (Nat × V)} {qs : List (Nat × Value)} {xs xs' : List V} {cs : Array Value}, afill pl xs ps = some xs' → RelA g X w xs cs →
    ps.length = qs.length → (∀ (i : Nat) (p : Nat × V) (q : Nat × Value), ps[i]? = some p → qs[i]? = some q → p.1 = q.1 ∧ VR g X w p.2 q.2) → ∃ cs', Instr.fill pl cs qs = some cs' ∧ RelA g X w xs' cs'
  | [], [], xs, xs', cs, h, hr, _, _ => ⟨cs, rfl, by simp [afill] at h; subst h; exact hr⟩
  | (i, v) :: ps, (j, u) :: qs, xs, xs', cs, h, hr, hl, hrel => by
    obtain ⟨h1, h2⟩ := hrel 0 (i, v) (j, u) rfl rfl
    simp only at h1 h2
    subst h1
    simp only [afill] at h
    cases hp : pl i with
    | none => rw [hp] at h; simp at h
    | some on =>
      obtain ⟨off, n⟩ := on
      rw [hp] at h
      simp only at h
      cases hc : (Nat.beq (leaves v).length n && (leaves v).all lf && Nat.ble (off + n) xs.length) with
      | false => rw [hc] at h; simp at h
      | true =>
        rw [hc] at h
        simp only [cond_true] at h
        simp only [Bool.and_eq_true, Nat.beq_eq, Nat.ble_eq] at hc
        obtain ⟨⟨hc1, hc2⟩, hc3⟩ := hc
        have hlv := h2.leaves hc2
        have hsz : u.cells.size = n := by rw [hlv.len, hc1]
        have hcs := hr.len
        have hcond : ¬ (decide (u.cells.size ≠ n) || decide (off + u.cells.size > cs.size)) = true := by simp [hsz]; omega
        have hstep := fill_step u.cells.toList off cs 0 (by simp; omega)
        simp only [Nat.add_zero, Array.length_toList] at hstep
        have hzip : ∀ (f : Array Value → Value × Nat → Array Value), u.cells.zipIdx.foldl f cs = (u.cells.toList.zipIdx 0).foldl f cs := by
          intro f
          rw [← Array.foldl_toList, Array.toList_zipIdx]
        have hnew : RelA g X w (xs.take off ++ leaves v ++ xs.drop (off + (leaves v).length)) (u.cells.zipIdx.foldl (fun cs (x : Value × Nat) => cs.setIfInBounds (off + x.2) x.1) cs) := by
          constructor
          · rw [← Array.length_toList, hzip, hstep]; simp; omega
          · intro k v' u' hv hu
            rw [← Array.getElem?_toList, hzip, hstep, ← Array.length_toList, get_seg (by simp; omega)] at hu
            rw [get_seg (by omega)] at hv
            by_cases e1 : k < off
            · rw [if_pos e1] at hv hu; exact hr.el k v' u' hv (by simpa using hu)
            · rw [if_neg e1] at hv hu
              by_cases e2 : k < off + n
              · rw [if_pos (by omega)] at hv
                rw [if_pos (by simp; omega)] at hu
                exact hlv.el _ _ _ hv (by simpa using hu)
              · rw [if_neg (by omega)] at hv
                rw [if_neg (by simp; omega)] at hu
                exact hr.el k v' u' hv (by simpa using hu)
        obtain ⟨cs', h3, h4⟩ := afill_fill h hnew (by simpa using hl) (fun k p q hp hq => hrel (k + 1) p q (by simpa using hp) (by simpa using hq))
        refine ⟨cs', ?_, h4⟩
        simp only [Instr.fill, hp]
        rw [if_neg hcond]
        exact h3

/-- A struct's fields: where they lie. -/
def StrT (P : Program) (t : TypeId) (pl : List (Nat × Nat)) : Prop := ∃ fs, P.underlying t = some (.struct fs) ∧ fs.toList.mapM (fun f => (P.info? f.type).map (fun i => (f.offset, i.size))) = some pl

theorem run_places {P : Program} {w : World} : ∀ {fs : List Field} {pl : List (Nat × Nat)}, fs.mapM (fun f => (P.info? f.type).map (fun i => (f.offset, i.size))) = some pl →
    (fs.mapM (fun f => (do pure (f.offset, ← sizeOf f.type) : Sem (Nat × Nat)))).run P w = .ok pl w
  | [], pl, h => by simp at h; subst h; simp
  | f :: fs, pl, h => by
    rw [List.mapM_cons] at h
    cases hi : P.info? f.type with
    | none => simp [hi] at h
    | some i =>
      cases hr : fs.mapM (fun f => (P.info? f.type).map (fun i => (f.offset, i.size))) with
      | none => simp [hi, hr] at h
      | some pl' =>
        have e : pl = (f.offset, i.size) :: pl' := by simpa [hi, hr] using h.symm
        have ih := run_places (P := P) (w := w) hr
        rw [List.mapM_cons, e]
        have h2 : (sizeOf f.type).run P w = .ok i.size w := run_sizeOf (by simp [hi]) w
        simp only [Sem.run_bind, h2, Result.andThen_ok, Sem.run_pure, ih]

section
variable {C : Ctx} {all : Array Oper} {s : St} {d : Nat} {ty : TypeId} {pos : String} {aft : Array Edge}

theorem parts_rel {a : Act} {w : World} {g : Gh} (hr : Rel C a w s g) (parts : List (Nat × Operand)) :
    ∀ (i : Nat) (p : Nat × V) (q : Nat × Value), (parts.map (fun x => (x.1, Ab.ev s.sl x.2)))[i]? = some p → (parts.map (fun x => (x.1, a.eval x.2)))[i]? = some q → p.1 = q.1 ∧ VR g (XX C s.hp g w) w p.2 q.2 := by
  intro i p q hp hq
  rw [List.getElem?_map] at hp hq
  cases h : parts[i]? with
  | none => rw [h] at hp; simp at hp
  | some x =>
    rw [h] at hp hq
    simp at hp hq
    subst hp; subst hq
    exact ⟨rfl, hr.ev x.2⟩

theorem parts_agree {all : Array Oper} {o : Oper} {ids : List Nat} {s' : St} {parts : List (Nat × Operand)} (hs : Agree all o ids s s') (h : ∀ x ∈ parts, x.2 ∈ o.op.operands.toList) : parts.map (fun x => (x.1, Ab.ev s'.sl x.2)) = parts.map (fun x => (x.1, Ab.ev s.sl x.2)) :=
  List.map_congr_left fun x hx => by rw [hs.e (h x hx)]

theorem zero_relA {g : Gh} {X : Nat → Prop} {w : World} {z : Array Value} {zs : List V} (h : z.toList.map V.p = zs) : RelA g X w zs z := by
  subst h
  refine ⟨by simp, fun i v u h1 h2 => ?_⟩
  rw [List.getElem?_map] at h1
  have h2' : z.toList[i]? = some u := by simpa using h2
  rw [h2'] at h1
  simp at h1; subst h1; exact .sh (.p _)

theorem j_build {t sz bytes : TypeId} {z : Value} {pl : List (Nat × Nat)} {zs xs' : List V} {parts : List (Nat × Operand)} (ht : StrT C.P t pl) (hz : ElT C.P t sz bytes z) (hzs : z.cells.toList.map V.p = zs)
    (hf : afill (pl[·]?) zs (parts.map (fun x => (x.1, Ab.ev s.sl x.2))) = some xs') :
    OpJ C all ⟨some d, .build t parts.toArray, ty, pos, aft, none⟩ s [] (EV d (.agg xs')) :=
  j_pure fun s' hs a w g hr => by
    obtain ⟨fs, h1, h2⟩ := ht
    have e := parts_agree (parts := parts) hs (fun x hx => by simp [Op.operands]; exact ⟨x.1, hx⟩)
    rw [← e] at hf
    obtain ⟨cs', h3, h4⟩ := afill_fill hf (zero_relA hzs) (by simp) (parts_rel hr parts)
    refine ⟨.agg cs', ?_, .agg xs' cs' h4.len h4.el⟩
    have h5 := run_places (w := w) h2
    have h6 : (fs.mapM (fun f => (do pure (f.offset, ← sizeOf f.type) : Sem (Nat × Nat)))).run C.P w = .ok pl.toArray w := by
      rw [Array.mapM_eq_mapM_toList, Sem.run_map, h5]; rfl
    have h7 : (parts.toArray.map fun x => (x.1, a.eval x.2)).toList = parts.map (fun x => (x.1, a.eval x.2)) := by simp
    have h8 : Instr.fill (fun i => pl.toArray[i]?) z.cells (parts.map (fun x => (x.1, a.eval x.2))) = some cs' := by
      rw [show (fun i => pl.toArray[i]?) = (fun i => pl[i]?) from by funext i; simp]; exact h3
    simp only [execOp, Instr.build, Sem.run_bind, run_zeroValue hz, Result.andThen_ok, run_underlying h1, h6, h7, h8, Sem.run_pure]

/-- A slice's literal. -/
theorem j_buildSlice {t e sz bytes : TypeId} {n ver : Nat} {z : Value} {zs : List V} {es : List (List V)} {parts : List (Nat × Operand)} (ht : SlT C.P t e sz) (hz : ElT C.P e sz bytes z) (hzs : z.cells.toList.map V.p = zs) (hzl : zs.length = sz) (hsz0 : 0 < sz) (hn : n * sz ≤ 16777216)
    (hf : afill (fun i => some (i * sz, sz)) (List.replicate n zs).flatten (parts.map (fun x => (x.1, Ab.ev s.sl x.2))) = some es.flatten) (hlen : es.length = n) (hes : ∀ x ∈ es, x.length = sz) (hsh : shl.shlL es.flatten = true) :
    OpJ C all ⟨some d, .buildSlice t n parts.toArray, ty, pos, aft, none⟩ s [] (EN d (.own d ver) d ver (.row e sz es)) :=
  j_step (hp' := [(d, some (ver, .row e sz es))]) (bp := some (d, ver)) fun s' hs a w g hr hbp => by
    obtain rfl := bump_eq hbp
    have hpa := parts_agree (parts := parts) hs (fun x hx => by simp [Op.operands]; exact ⟨x.1, hx⟩)
    rw [← hpa] at hf
    have hzsz : z.cells.size = sz := by rw [← Array.length_toList, ← hzl, ← hzs]; simp
    let zc : Array Value := (Array.range (n * sz)).map ((if n * sz = 0 then #[] else z.cells)[· % (if n * sz = 0 then (#[] : Array Value) else z.cells).size]!)
    have hzc : RelA g (XX C s'.hp g w) w (List.replicate n zs).flatten zc := by
      have hl1 : (List.replicate n zs).flatten.length = n * sz := by simp [hzl]
      refine ⟨by simp [zc, hl1], fun i v u h1 h2 => ?_⟩
      have hi : i < n * sz := by rw [← hl1]; exact (List.getElem?_eq_some_iff.1 h1).1
      have hne : n * sz ≠ 0 := by omega
      have hsz : 0 < sz := Nat.pos_of_ne_zero fun e => by subst e; simp at hne
      have h3 := flatten_at (es := List.replicate n zs) (s := sz) (fun x hx => by rw [List.eq_of_mem_replicate hx]; exact hzl) (k := i / sz) (f := i % sz) (x := zs) (by
        rw [List.getElem?_replicate, if_pos ((Nat.div_lt_iff_lt_mul hsz).2 hi)]) (Nat.mod_lt _ hsz)
      rw [show i / sz * sz + i % sz = i from by rw [Nat.mul_comm]; exact Nat.div_add_mod i sz] at h3
      rw [h3, ← hzs, List.getElem?_map] at h1
      have hm : i % sz < z.cells.size := by rw [hzsz]; exact Nat.mod_lt _ hsz
      have h4 : z.cells.toList[i % sz]? = some z.cells[i % sz] := by simp [hm]
      rw [h4] at h1
      simp [zc, hi, hne, hzsz] at h1 h2
      rw [getElem!_pos z.cells (i % sz) hm] at h2
      subst h1; subst h2; exact .sh (.p _)
    obtain ⟨cs', h3, h4⟩ := afill_fill hf hzc (by simp) (parts_rel hr parts)
    have hmax : n ≤ maxLen := by
      have := Nat.le_mul_of_pos_right n hsz0
      unfold maxLen; omega
    have hcs : cs'.size = n * sz := by rw [h4.len, flatten_len hes, hlen]
    obtain ⟨h5, h6⟩ := hr.hr.new (i := d) (o := .row e sz es) (cur := cs') (e := e) (w1 := w) rfl rfl rfl rfl (.slice (some ⟨w.heap.size, 0, none⟩) n n) sz (fun g' X' w' hff e1 e2 e3 e4 e5 => row_or e4 hes (by rw [e1, hlen]) e2 e3 e5 (by rw [hlen]; exact Nat.le_refl _) hmax hcs (fun j v u hj hu => ((h4.el j v u hj hu).shr (shlL_at hsh hj)).fits hff.set hff.heap))
    refine ⟨.slice (some ⟨w.heap.size, 0, none⟩) n n, _, _, ?_, h5, h6, .own d _ _ rfl (by simp [Gh.upd]) (fun _ => by simp [Gh.upd]), fun j hj => upd_cur j hj⟩
    have h7 : (parts.toArray.map fun x => (x.1, a.eval x.2)).toList = parts.map (fun x => (x.1, a.eval x.2)) := by simp
    have hnn : ¬ n * sz > 2 ^ 24 := by omega
    obtain ⟨ht1, ht2⟩ := ht
    by_cases hne : n * sz = 0
    · have h3' : Instr.fill (fun i => some (i * sz, sz)) ((Array.range (n * sz)).map ((#[] : Array Value)[· % (#[] : Array Value).size]!)) (parts.map (fun x => (x.1, a.eval x.2))) = some cs' := by
        have := h3
        simp only [zc, if_pos hne] at this
        exact this
      simp only [execOp, Instr.buildSlice, Sem.run_bind, run_underlying ht1, Result.andThen_ok, run_sizeOf ht2, if_neg hnn, Sem.run_pure, if_pos hne, h7, h3', newRow, run_newObj]
      rfl
    · have h3' : Instr.fill (fun i => some (i * sz, sz)) ((Array.range (n * sz)).map (z.cells[· % z.cells.size]!)) (parts.map (fun x => (x.1, a.eval x.2))) = some cs' := by
        have := h3
        simp only [zc, if_neg hne] at this
        exact this
      simp only [execOp, Instr.buildSlice, Sem.run_bind, run_underlying ht1, Result.andThen_ok, run_sizeOf ht2, if_neg hnn, Sem.run_pure, if_neg hne, run_zeroValue hz, h7, h3', newRow, run_newObj]
      rfl
end
end Go.Ab

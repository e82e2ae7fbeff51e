/- The laws of the operations that read memory, over the abstract state. -/
import Derived.Test.YtdnlchflejoloaaAb2
import Derived.Deep.MidRow
set_option linter.unusedSimpArgs false
set_option linter.unusedVariables false
namespace Go.Ab

def LeafT (P : Program) (t : TypeId) : Prop := ∃ d, P.underlying t = some d ∧ d.isRow = false ∧ (P.info? t).map (·.size) = some 1
def AggT (P : Program) (t n : Nat) : Prop := ∃ d, P.underlying t = some d ∧ d.isRow = true ∧ (P.info? t).map (·.size) = some n
def SlT (P : Program) (t e sz : Nat) : Prop := P.underlying t = some (.slice e) ∧ (P.info? e).map (·.size) = some sz
def ElT (P : Program) (e sz bytes : Nat) (z : Value) : Prop := (P.info? e).map (fun i => (i.zero, i.size, i.bytes)) = some (some z, sz, bytes)

theorem run_isAgg_leaf {P : Program} {t : TypeId} (h : LeafT P t) (w : World) : (isAgg t).run P w = .ok false w := by
  obtain ⟨d, hu, hd, _⟩ := h
  unfold isAgg
  rw [Sem.run_bind, run_underlying hu w]
  cases d <;> simp_all
theorem run_isAgg_agg {P : Program} {t n : Nat} (h : AggT P t n) (w : World) : (isAgg t).run P w = .ok true w := by
  obtain ⟨d, hu, hd, _⟩ := h
  unfold isAgg
  rw [Sem.run_bind, run_underlying hu w]
  cases d <;> simp_all
theorem run_sizeOf {P : Program} {t n : Nat} (h : (P.info? t).map (·.size) = some n) (w : World) : (sizeOf t).run P w = .ok n w := by
  cases hq : P.info? t with
  | none => simp [hq] at h
  | some i =>
    have : i.size = n := by simpa [hq] using h
    simp [sizeOf, typeInfo, hq, this]

theorem flatten_at {α : Type} {s : Nat} : ∀ {es : List (List α)} (_ : ∀ x ∈ es, x.length = s) {k f : Nat} {x : List α} (_ : es[k]? = some x) (_ : f < s), es.flatten[k * s + f]? = x[f]?
  | [], _, k, f, x, hx, _ => by simp at hx
  | y :: es, hs, 0, f, x, hx, hf => by
    simp at hx; subst hx
    have : y.length = s := hs y (by simp)
    simp only [List.flatten_cons, Nat.zero_mul, Nat.zero_add]
    rw [List.getElem?_append_left (by omega)]
  | y :: es, hs, k + 1, f, x, hx, hf => by
    have hy : y.length = s := hs y (by simp)
    have ih := flatten_at (es := es) (fun x hx => hs x (by simp [hx])) (k := k) (f := f) (x := x) (by simpa using hx) hf
    rw [List.flatten_cons, List.getElem?_append_right (by rw [hy, Nat.add_mul]; omega), ← ih]
    congr 1
    rw [hy, Nat.add_mul]; omega

theorem flatten_len {α : Type} {s : Nat} : ∀ {es : List (List α)} (_ : ∀ x ∈ es, x.length = s), es.flatten.length = es.length * s
  | [], _ => by simp
  | y :: es, hs => by
    have hy : y.length = s := hs y (by simp)
    rw [List.flatten_cons, List.length_append, flatten_len (fun x hx => hs x (by simp [hx])), hy, List.length_cons, Nat.add_mul]; omega

section
variable {C : Ctx} {all : Array Oper} {s : St} {d : Nat} {ty : TypeId} {pos : String} {aft : Array Edge}

theorem VR.slc {g : Gh} {X : Nat → Prop} {w : World} {es : List (List V)} {u : Value} (h : VR g X w (.sl es) u) : SR X w (.sl es) u := by
  cases h with
  | sh h => exact h

theorem SR.shape {X : Nat → Prop} {w : World} {es : List (List V)} {u : Value} (h : SR X w (.sl es) u) : ∃ a c, u = .slice a es.length c := by
  cases h with
  | nil a c => exact ⟨a, c, rfl⟩
  | sl es s b o c => exact ⟨_, c, rfl⟩

theorem Rel.slice {a : Act} {w : World} {g : Gh} {x : Operand} {es : List (List V)} (hr : Rel C a w s g) (hx : Ab.ev s.sl x = .sl es) : ∃ ad c, a.eval x = .slice ad es.length c := by
  have := hr.ev x
  rw [hx] at this
  exact this.slc.shape

/-- An object's value, a row's. -/
theorem Rel.row {a : Act} {w : World} {g : Gh} {x : Operand} {id ver e sz : Nat} {es : List (List V)} (hr : Rel C a w s g) (hx : Ab.ev s.sl x = .own id ver) (ho : look s.hp id = some (ver, .row e sz es)) :
    a.eval x = g.val id ∧ OR g (XX C s.hp g w) w id (.row e sz es) ∧ g.cur id = ver := by
  have h1 := hr.hr.cur id ver _ ho
  have h2 := hr.hr.obj id ver _ ho
  have h3 := hr.ev x
  rw [hx] at h3
  refine ⟨?_, h2, h1⟩
  generalize a.eval x = u at h3
  cases h3 with
  | sh h => cases h
  | own _ _ _ _ _ h => exact h h1.symm

theorem OR.shape {g : Gh} {X : Nat → Prop} {w : World} {id e sz : Nat} {es : List (List V)} (h : OR g X w id (.row e sz es)) : ∃ ad c, g.val id = .slice ad es.length c := by
  obtain ⟨_, _, h⟩ := h
  rcases h with ⟨rfl, h, _⟩ | ⟨b, c, cur, h, _⟩
  · exact ⟨none, 0, h⟩
  · exact ⟨_, c, h⟩

theorem run_len_slice {P : Program} {t e : TypeId} (ht : P.underlying t = some (.slice e)) (ty : TypeId) (ad : Option Addr) (n c : Nat) (w : World) : (Builtin.len_ #[t] ty #[.slice ad n c]).run P w = .ok (.int .i64 n) w := by
  simp [Builtin.len_, run_underlying ht, goInt]

theorem j_len {t e : TypeId} {x : Operand} {es : List (List V)} (ht : C.P.underlying t = some (.slice e)) (hx : Ab.ev s.sl x = .sl es) :
    OpJ C all ⟨some d, .call { callee := .builtin .len, args := #[x], argTypes := #[t] }, ty, pos, aft, none⟩ s [] (EV d (.p (.int .i64 es.length))) :=
  j_pure (fun s' hs a w g hr => have hx := (hs.e (x := x) (by simp [Op.operands, Call.operands])).trans hx; by
    obtain ⟨ad, c, e⟩ := hr.slice hx
    exact ⟨.int .i64 es.length, by simp [execOp, resolve, invoke, builtin, e, run_len_slice ht], .sh (.p _)⟩)

theorem j_len_own {t e : TypeId} {x : Operand} {id ver e' sz : Nat} {es : List (List V)} (ht : C.P.underlying t = some (.slice e)) (hx : Ab.ev s.sl x = .own id ver) (ho : look s.hp id = some (ver, .row e' sz es)) :
    OpJ C all ⟨some d, .call { callee := .builtin .len, args := #[x], argTypes := #[t] }, ty, pos, aft, none⟩ s [id] (EV d (.p (.int .i64 es.length))) :=
  j_pure (fun s' hs a w g hr => have hx := (hs.e (x := x) (by simp [Op.operands, Call.operands])).trans hx; have ho := (hs.hp id (by simp)).trans ho; by
    obtain ⟨e1, e2, _⟩ := hr.row hx ho
    obtain ⟨ad, c, e3⟩ := e2.shape
    exact ⟨.int .i64 es.length, by simp [execOp, resolve, invoke, builtin, e1, e3, run_len_slice ht], .sh (.p _)⟩)

theorem j_len_nil {t e : TypeId} {x : Operand} {ad : Option Addr} {n c : Nat} (ht : C.P.underlying t = some (.slice e)) (hx : Ab.ev s.sl x = .p (.slice ad n c)) :
    OpJ C all ⟨some d, .call { callee := .builtin .len, args := #[x], argTypes := #[t] }, ty, pos, aft, none⟩ s [] (EV d (.p (.int .i64 n))) :=
  j_pure (fun s' hs a w g hr => have hx := (hs.e (x := x) (by simp [Op.operands, Call.operands])).trans hx; ⟨.int .i64 n, by simp [execOp, resolve, invoke, builtin, hr.evp hx, run_len_slice ht], .sh (.p _)⟩)

theorem j_len_str {t : TypeId} {x : Operand} {b : ByteArray} (ht : C.P.underlying t = some .string) (hx : Ab.ev s.sl x = .p (.string b)) :
    OpJ C all ⟨some d, .call { callee := .builtin .len, args := #[x], argTypes := #[t] }, ty, pos, aft, none⟩ s [] (EV d (.p (.int .i64 b.size))) :=
  j_pure (fun s' hs a w g hr => have hx := (hs.e (x := x) (by simp [Op.operands, Call.operands])).trans hx; ⟨.int .i64 b.size, by simp [execOp, resolve, invoke, builtin, hr.evp hx, Builtin.len_, run_underlying ht, goInt], .sh (.p _)⟩)

theorem j_index_str {t : TypeId} {x y : Operand} {b : ByteArray} {k : IntKind} {i : Int} {c : UInt8} (ht : C.P.underlying t = some .string) (hx : Ab.ev s.sl x = .p (.string b)) (hy : Ab.ev s.sl y = .p (.int k i)) (h0 : 0 ≤ i) (hi : b.data.toList[i.toNat]? = some c) :
    OpJ C all ⟨some d, .index t x y, ty, pos, aft, none⟩ s [] (EV d (.p (.int .u8 c.toNat))) :=
  j_pure (fun s' hs a w g hr => have hx := (hs.e (x := x) (by simp [Op.operands])).trans hx; have hy := (hs.e (x := y) (by simp [Op.operands])).trans hy; ⟨.int .u8 c.toNat, by
    have e : b[i.toNat]? = some c := by
      have hlt : i.toNat < b.data.toList.length := (List.getElem?_eq_some_iff.1 hi).1
      have hv := (List.getElem?_eq_some_iff.1 hi).2
      have hs : i.toNat < b.size := by simpa using hlt
      rw [getElem?_pos b i.toNat hs]
      have : b[i.toNat] = b.data[i.toNat] := rfl
      rw [this]
      simpa using hv
    simp [execOp, hr.evp hx, hr.evp hy, Instr.index, asIntOf, run_underlying ht, h0, e], .sh (.p _)⟩)

theorem SR.elem {X : Nat → Prop} {w : World} {es : List (List V)} {u : Value} {k : Nat} {x : List V} {sz : Nat} (h : SR X w (.sl es) u) (hk : es[k]? = some x) (hsz : x.length = sz) :
    ∃ (b o c : Nat) (cs : List Value), u = .slice (some ⟨b, o, none⟩) es.length c ∧ (∀ e ∈ es, e.length = sz) ∧ X b ∧ cs.length = es.flatten.length ∧ (∀ (i : Nat) (u : Value), cs[i]? = some u → w.cell? ⟨b, o + i, none⟩ = some u) ∧
      (∀ (i : Nat) (v : V) (u : Value), es.flatten[i]? = some v → cs[i]? = some u → SR X w v u) := by
  cases h with
  | nil a c => simp at hk
  | sl es s b o c cs hs hc hm hX hl hr he =>
    have : x.length = s := hs x (List.mem_iff_getElem?.2 ⟨k, hk⟩)
    exact ⟨b, o, c, cs, rfl, fun e he => by rw [hs e he]; omega, hX, hl, hr, he⟩

theorem run_indexAt {P : Program} {t e sz : Nat} (ht : SlT P t e sz) (ad : Addr) (n c : Nat) (k : IntKind) (i : Int) (h0 : 0 ≤ i) (h1 : i < n) (w : World) :
    (Instr.indexAt t (.slice (some ad) n c) (.int k i)).run P w = .ok (.pointer (some (ad.add (i.toNat * sz)))) w := by
  obtain ⟨h2, h3⟩ := ht
  simp [Instr.indexAt, asIntOf, run_underlying h2, h0, h1, run_sizeOf h3]

theorem add_lit (b o j : Nat) : (⟨b, o, none⟩ : Addr).add j = ⟨b, o + j, none⟩ := Addr.add_mid b o j

/-- 'x[i]' as a place, in a slice that is only read. -/
theorem j_elem {t e sz : Nat} {x y : Operand} {es : List (List V)} {k : IntKind} {i : Int} {xs : List V} (ht : SlT C.P t e sz) (hx : Ab.ev s.sl x = .sl es) (hy : Ab.ev s.sl y = .p (.int k i)) (h0 : 0 ≤ i) (hi : es[i.toNat]? = some xs) (hsz : xs.length = sz) :
    OpJ C all ⟨some d, .indexAddr t x y, ty, pos, aft, none⟩ s [] (EV d (.el es i.toNat 0)) :=
  j_pure (fun s' hs a w g hr => have hx := (hs.e (x := x) (by simp [Op.operands])).trans hx; have hy := (hs.e (x := y) (by simp [Op.operands])).trans hy; by
    have hv := hr.ev x
    rw [hx] at hv
    obtain ⟨b, o, c, cs, e1, hs, hX, hl, hrr, he⟩ := hv.slc.elem hi hsz
    have hlt : i.toNat < es.length := (List.getElem?_eq_some_iff.1 hi).1
    refine ⟨_, ?_, .sh (.el es i.toNat 0 sz b o cs hs hX hl hrr he hlt)⟩
    simp only [execOp, e1, hr.evp hy, Sem.run_bind, run_indexAt ht ⟨b, o, none⟩ es.length c k i h0 (by omega) w, Result.andThen_ok, Sem.run_pure, add_lit, Nat.add_zero])

/-- 'x[i]' as a place, in a row of the call's own. -/
theorem j_elem_own {t e sz : Nat} {x y : Operand} {id ver e' : Nat} {es : List (List V)} {k : IntKind} {i : Int} (ht : SlT C.P t e sz) (hx : Ab.ev s.sl x = .own id ver) (ho : look s.hp id = some (ver, .row e' sz es)) (hy : Ab.ev s.sl y = .p (.int k i)) (h0 : 0 ≤ i) (hi : i.toNat < es.length) :
    OpJ C all ⟨some d, .indexAddr t x y, ty, pos, aft, none⟩ s [id] (EV d (.pel id ver i.toNat 0)) :=
  j_pure (fun s' hs a w g hr => have hx := (hs.e (x := x) (by simp [Op.operands])).trans hx; have hy := (hs.e (x := y) (by simp [Op.operands])).trans hy; have ho := (hs.hp id (by simp)).trans ho; by
    obtain ⟨e1, ⟨e0, e2, e3⟩, e4⟩ := hr.row hx ho
    rcases e3 with ⟨e5, _⟩ | ⟨b, c, cur, e5, e6, _⟩
    · subst e5; simp at hi
    · refine ⟨_, ?_, .pel id ver i.toNat 0 _ rfl (by omega) (fun _ => ⟨b, e6, rfl⟩)⟩
      simp only [execOp, e1, e5, hr.evp hy, Sem.run_bind, run_indexAt ht ⟨b, 0, none⟩ es.length c k i h0 (by omega) w, Result.andThen_ok, Sem.run_pure, add_lit, Nat.add_zero, Nat.zero_add, e0])

/-- 'x[i]' as a place, x an array in a variable. -/
theorem j_elem_arr {t n e sz : Nat} {x y : Operand} {id ver off : Nat} {k : IntKind} {i : Int} (ht : C.P.underlying t = some (.array n e)) (he : (C.P.info? e).map (·.size) = some sz) (hx : Ab.ev s.sl x = .ptr id ver off) {o : Obj} (ho : look s.hp id = some (ver, o)) (hy : Ab.ev s.sl y = .p (.int k i)) (h0 : 0 ≤ i) (hi : i < n) :
    OpJ C all ⟨some d, .indexAddr t x y, ty, pos, aft, none⟩ s [id] (EV d (.ptr id ver (off + i.toNat * sz))) :=
  j_pure (fun s' hs a w g hr => have hx := (hs.e (x := x) (by simp [Op.operands])).trans hx; have hy := (hs.e (x := y) (by simp [Op.operands])).trans hy; have ho := (hs.hp id (by simp)).trans ho; by
    have h1 := hr.hr.cur id ver _ ho
    have h3 := hr.ev x
    rw [hx] at h3
    have key : ∃ b, g.blk id = some b ∧ a.eval x = .pointer (some ⟨b, off, none⟩) := by
      generalize a.eval x = u at h3
      cases h3 with
      | sh h => cases h
      | ptr _ _ _ _ _ _ h => exact h h1.symm
    obtain ⟨b, h4, h5⟩ := key
    refine ⟨_, ?_, .ptr id ver _ _ rfl (by omega) (fun _ => ⟨b, h4, rfl⟩)⟩
    simp [execOp, h5, hr.evp hy, Instr.indexAt, asIntOf, run_underlying ht, Instr.sureAddr, h0, hi, run_sizeOf he, add_lit])

theorem Rel.ptr {a : Act} {w : World} {g : Gh} {x : Operand} {id ver off : Nat} {o : Obj} (hr : Rel C a w s g) (hx : Ab.ev s.sl x = .ptr id ver off) (ho : look s.hp id = some (ver, o)) :
    ∃ b, g.blk id = some b ∧ a.eval x = .pointer (some ⟨b, off, none⟩) := by
  have h1 := hr.hr.cur id ver _ ho
  have h3 := hr.ev x
  rw [hx] at h3
  generalize a.eval x = u at h3
  cases h3 with
  | sh h => cases h
  | ptr _ _ _ _ _ _ h => exact h h1.symm

theorem Rel.pel {a : Act} {w : World} {g : Gh} {x : Operand} {id ver k f : Nat} {o : Obj} (hr : Rel C a w s g) (hx : Ab.ev s.sl x = .pel id ver k f) (ho : look s.hp id = some (ver, o)) :
    ∃ b, g.blk id = some b ∧ a.eval x = .pointer (some ⟨b, k * g.sz id + f, none⟩) := by
  have h1 := hr.hr.cur id ver _ ho
  have h3 := hr.ev x
  rw [hx] at h3
  generalize a.eval x = u at h3
  cases h3 with
  | sh h => cases h
  | pel _ _ _ _ _ _ _ h => exact h h1.symm

theorem run_fieldAt {P : Program} {t : TypeId} {fs : Array Field} {i : Nat} {fld : Field} {n : Nat} (ht : P.underlying t = some (.struct fs)) (hi : fs[i]? = some fld) (hn : (P.info? fld.type).map (·.size) = some (n + 1)) (ad : Addr) (w : World) :
    (Instr.fieldAt t (.pointer (some ad)) i).run P w = .ok (.pointer (some (ad.add fld.offset))) w := by
  simp [Instr.fieldAt, run_underlying ht, hi, Instr.sureAddr, fieldPlace, run_sizeOf hn]

/-- The field with number 'i' of a struct: its offset. -/
def FldT (P : Program) (t i off : Nat) : Prop := ∃ fs fld n, P.underlying t = some (.struct fs) ∧ fs[i]? = some fld ∧ fld.offset = off ∧ (P.info? fld.type).map (·.size) = some (n + 1)

theorem j_fldp {t i fo : Nat} {x : Operand} {id ver off : Nat} {o : Obj} (ht : FldT C.P t i fo) (hx : Ab.ev s.sl x = .ptr id ver off) (ho : look s.hp id = some (ver, o)) :
    OpJ C all ⟨some d, .fieldAddr t x i, ty, pos, aft, none⟩ s [id] (EV d (.ptr id ver (off + fo))) :=
  j_pure (fun s' hs a w g hr => have hx := (hs.e (x := x) (by simp [Op.operands])).trans hx; have ho := (hs.hp id (by simp)).trans ho; by
    obtain ⟨b, h4, h5⟩ := hr.ptr hx ho
    obtain ⟨fs, fld, n, h6, h7, rfl, h8⟩ := ht
    have h1 := hr.hr.cur id ver _ ho
    refine ⟨_, ?_, .ptr id ver _ _ rfl (by omega) (fun _ => ⟨b, h4, rfl⟩)⟩
    simp only [execOp, h5, Sem.run_bind, run_fieldAt h6 h7 h8, Result.andThen_ok, Sem.run_pure, add_lit])

theorem j_fldpel {t i fo : Nat} {x : Operand} {id ver k f : Nat} {o : Obj} (ht : FldT C.P t i fo) (hx : Ab.ev s.sl x = .pel id ver k f) (ho : look s.hp id = some (ver, o)) :
    OpJ C all ⟨some d, .fieldAddr t x i, ty, pos, aft, none⟩ s [id] (EV d (.pel id ver k (f + fo))) :=
  j_pure (fun s' hs a w g hr => have hx := (hs.e (x := x) (by simp [Op.operands])).trans hx; have ho := (hs.hp id (by simp)).trans ho; by
    obtain ⟨b, h4, h5⟩ := hr.pel hx ho
    obtain ⟨fs, fld, n, h6, h7, rfl, h8⟩ := ht
    have h1 := hr.hr.cur id ver _ ho
    refine ⟨_, ?_, .pel id ver k _ _ rfl (by omega) (fun _ => ⟨b, h4, rfl⟩)⟩
    simp only [execOp, h5, Sem.run_bind, run_fieldAt h6 h7 h8, Result.andThen_ok, Sem.run_pure, add_lit, Nat.add_assoc])

theorem Rel.el {a : Act} {w : World} {g : Gh} {x : Operand} {es : List (List V)} {k f : Nat} (hr : Rel C a w s g) (hx : Ab.ev s.sl x = .el es k f) : SR (XX C s.hp g w) w (.el es k f) (a.eval x) := by
  have := hr.ev x
  rw [hx] at this
  cases this with
  | sh h => exact h

theorem j_fldel {t i fo : Nat} {x : Operand} {es : List (List V)} {k f : Nat} (ht : FldT C.P t i fo) (hx : Ab.ev s.sl x = .el es k f) :
    OpJ C all ⟨some d, .fieldAddr t x i, ty, pos, aft, none⟩ s [] (EV d (.el es k (f + fo))) :=
  j_pure (fun s' hs a w g hr => have hx := (hs.e (x := x) (by simp [Op.operands])).trans hx; by
    have hv := hr.el hx
    obtain ⟨fs, fld, n, h6, h7, rfl, h8⟩ := ht
    generalize hu : a.eval x = u at hv
    cases hv with
    | el _ _ _ sz b o cs hs hX hl hrr he hk =>
      refine ⟨_, ?_, .sh (.el es k (f + fld.offset) sz b o cs hs hX hl hrr he hk)⟩
      simp only [execOp, hu, Sem.run_bind, run_fieldAt h6 h7 h8, Result.andThen_ok, Sem.run_pure, add_lit, Nat.add_assoc])

theorem run_loadAt_leaf {P : Program} {t : TypeId} (ht : LeafT P t) (ad : Addr) (u : Value) (w : World) (h : w.cell? ad = some u) : (Instr.loadAt t (.pointer (some ad))).run P w = .ok u w := by
  simp [Instr.loadAt, Instr.sureAddr, loadVar, run_isAgg_leaf ht, h]

theorem cs_at {α β : Type} {xs : List α} {cs : List β} (hl : cs.length = xs.length) {i : Nat} {v : α} (h : xs[i]? = some v) : ∃ u, cs[i]? = some u := by
  have : i < cs.length := by rw [hl]; exact (List.getElem?_eq_some_iff.1 h).1
  exact ⟨cs[i], by simp [this]⟩

theorem j_load_el {t : TypeId} {x : Operand} {es : List (List V)} {k f : Nat} {xs : List V} {v : V} (ht : LeafT C.P t) (hx : Ab.ev s.sl x = .el es k f) (hk : es[k]? = some xs) (hf : xs[f]? = some v) :
    OpJ C all ⟨some d, .load t x, ty, pos, aft, none⟩ s [] (EV d (v)) :=
  j_pure (fun s' hs a w g hr => have hx := (hs.e (x := x) (by simp [Op.operands])).trans hx; by
    have hv := hr.el hx
    generalize hu : a.eval x = u at hv
    cases hv with
    | el _ _ _ sz b o cs hs hX hl hrr he hk' =>
      have hxl : xs.length = sz := hs xs (List.mem_iff_getElem?.2 ⟨k, hk⟩)
      have hfl : f < sz := by rw [← hxl]; exact (List.getElem?_eq_some_iff.1 hf).1
      have e1 : es.flatten[k * sz + f]? = some v := (flatten_at hs hk hfl).trans hf
      obtain ⟨u, e2⟩ := cs_at hl e1
      refine ⟨u, ?_, .sh (he _ _ _ e1 e2)⟩
      simp only [execOp, hu, Sem.run_bind, run_loadAt_leaf ht _ u w (hrr _ _ e2), Result.andThen_ok, Sem.run_pure])

theorem j_loada_el {t n : Nat} {x : Operand} {es : List (List V)} {k f : Nat} {xs ys : List V} (ht : AggT C.P t n) (hx : Ab.ev s.sl x = .el es k f) (hk : es[k]? = some xs) (hf : (xs.drop f).take n = ys) (hn : f + n ≤ xs.length) :
    OpJ C all ⟨some d, .load t x, ty, pos, aft, none⟩ s [] (EV d (.agg ys)) :=
  j_pure (fun s' hs a w g hr => have hx := (hs.e (x := x) (by simp [Op.operands])).trans hx; by
    have hv := hr.el hx
    generalize hu : a.eval x = u at hv
    cases hv with
    | el _ _ _ sz b o cs hs hX hl hrr he hk' =>
      have hxl : xs.length = sz := hs xs (List.mem_iff_getElem?.2 ⟨k, hk⟩)
      obtain ⟨dd, h1, h2, h3⟩ := ht
      have hlen : (k + 1) * sz ≤ es.flatten.length := by
        rw [flatten_len hs]; exact Nat.mul_le_mul_right _ (by have := (List.getElem?_eq_some_iff.1 hk).1; omega)
      have hkm : (k + 1) * sz = k * sz + sz := by rw [Nat.add_mul]; omega
      have hcl : ((cs.drop (k * sz + f)).take n).length = n := by
        rw [List.length_take, List.length_drop, hl]; omega
      have hcell : w.rangeAt b (o + (k * sz + f)) ((cs.drop (k * sz + f)).take n) := fun j u hj => by
        rw [List.getElem?_take] at hj
        split at hj
        · rw [List.getElem?_drop] at hj
          have := hrr _ _ hj
          rw [← this]; congr 2; omega
        · cases hj
      have hrun := run_loadAt_mid (P := C.P) w b (o + (k * sz + f)) t _ dd hcell h1 h2 (by rw [hcl]; exact h3)
      refine ⟨.agg ((cs.drop (k * sz + f)).take n).toArray, by simp only [execOp, hu, Sem.run_bind, hrun, Result.andThen_ok, Sem.run_pure], .sh (.agg ys _ ?_ ?_)⟩
      · rw [← hf]; simp only [List.size_toArray, hcl, List.length_take, List.length_drop]; omega
      · intro i v u hv hu2
        rw [← hf] at hv
        rw [List.getElem?_take] at hv
        split at hv
        · rename_i hi
          rw [List.getElem?_drop] at hv
          have e1 : es.flatten[k * sz + (f + i)]? = some v := (flatten_at hs hk (by omega)).trans hv
          simp only [List.getElem?_toArray] at hu2
          rw [List.getElem?_take, if_pos hi, List.getElem?_drop] at hu2
          exact he _ _ _ e1 (by rw [← hu2]; congr 1; omega)
        · cases hv)

theorem cellOf {w : World} {b : Nat} {cur : Array Value} {e : TypeId} {fr : Nat × Nat} (h : w.heap[b]? = some (.cells cur e fr)) (o : Nat) : w.cell? ⟨b, o, none⟩ = cur[o]? := by
  simp [World.cell?, h]

theorem j_load_pel {t : TypeId} {x : Operand} {id ver k f e sz : Nat} {es : List (List V)} {xs : List V} {v : V} (ht : LeafT C.P t) (hx : Ab.ev s.sl x = .pel id ver k f) (ho : look s.hp id = some (ver, .row e sz es)) (hk : es[k]? = some xs) (hf : xs[f]? = some v) :
    OpJ C all ⟨some d, .load t x, ty, pos, aft, none⟩ s [id] (EV d (v)) :=
  j_pure (fun s' hs a w g hr => have hx := (hs.e (x := x) (by simp [Op.operands])).trans hx; have ho := (hs.hp id (by simp)).trans ho; by
    obtain ⟨b, h4, h5⟩ := hr.pel hx ho
    obtain ⟨h6, h7, h8⟩ := hr.hr.obj id ver _ ho
    rcases h8 with ⟨h8, _⟩ | ⟨b', c, cur, _, h9, _, h10, _, _, _, h11⟩
    · subst h8; simp at hk
    · rw [h9] at h4; obtain rfl : b' = b := by simpa using h4
      have hxl : xs.length = sz := h7 xs (List.mem_iff_getElem?.2 ⟨k, hk⟩)
      have hfl : f < sz := by rw [← hxl]; exact (List.getElem?_eq_some_iff.1 hf).1
      have e1 : es.flatten[k * sz + f]? = some v := (flatten_at h7 hk hfl).trans hf
      obtain ⟨u, e2, e3⟩ := h11 _ _ e1
      refine ⟨u, ?_, .sh e3⟩
      rw [h6] at h5
      simp only [execOp, h5, Sem.run_bind, run_loadAt_leaf ht ⟨b', k * sz + f, none⟩ u w (by rw [cellOf h10]; exact e2), Result.andThen_ok, Sem.run_pure])

theorem j_loada_pel {t n : Nat} {x : Operand} {id ver k f e sz : Nat} {es : List (List V)} {xs ys : List V} (ht : AggT C.P t n) (hx : Ab.ev s.sl x = .pel id ver k f) (ho : look s.hp id = some (ver, .row e sz es)) (hk : es[k]? = some xs) (hf : (xs.drop f).take n = ys) (hn : f + n ≤ xs.length) :
    OpJ C all ⟨some d, .load t x, ty, pos, aft, none⟩ s [id] (EV d (.agg ys)) :=
  j_pure (fun s' hs a w g hr => have hx := (hs.e (x := x) (by simp [Op.operands])).trans hx; have ho := (hs.hp id (by simp)).trans ho; by
    obtain ⟨b, h4, h5⟩ := hr.pel hx ho
    obtain ⟨h6, h7, h8⟩ := hr.hr.obj id ver _ ho
    rcases h8 with ⟨h8, _⟩ | ⟨b', c, cur, _, h9, _, h10, hc1, hc2, hc3, h11⟩
    · subst h8; simp at hk
    · rw [h9] at h4; obtain rfl : b' = b := by simpa using h4
      have hxl : xs.length = sz := h7 xs (List.mem_iff_getElem?.2 ⟨k, hk⟩)
      obtain ⟨dd, h1, h2, h3⟩ := ht
      have hkl := (List.getElem?_eq_some_iff.1 hk).1
      have hkm : (k + 1) * sz = k * sz + sz := by rw [Nat.add_mul]; omega
      have hlen : (k + 1) * sz ≤ c * sz := Nat.mul_le_mul_right _ (by omega)
      have hcl : ((cur.toList.drop (k * sz + f)).take n).length = n := by
        rw [List.length_take, List.length_drop, Array.length_toList]; omega
      have hcell : w.rangeAt b' (k * sz + f) ((cur.toList.drop (k * sz + f)).take n) := fun j u hj => by
        rw [List.getElem?_take] at hj
        split at hj
        · rw [List.getElem?_drop] at hj
          rw [cellOf h10]; simpa using hj
        · cases hj
      have hrun := run_loadAt_mid (P := C.P) w b' (k * sz + f) t _ dd hcell h1 h2 (by rw [hcl]; exact h3)
      rw [h6] at h5
      refine ⟨.agg ((cur.toList.drop (k * sz + f)).take n).toArray, by simp only [execOp, h5, Sem.run_bind, hrun, Result.andThen_ok, Sem.run_pure], .agg ys _ ?_ ?_⟩
      · rw [← hf]; simp only [List.size_toArray, hcl, List.length_take, List.length_drop]; omega
      · intro i v u hv hu2
        rw [← hf] at hv
        rw [List.getElem?_take] at hv
        split at hv
        · rename_i hi
          rw [List.getElem?_drop] at hv
          have e1 : es.flatten[k * sz + (f + i)]? = some v := (flatten_at h7 hk (by omega)).trans hv
          simp only [List.getElem?_toArray] at hu2
          rw [List.getElem?_take, if_pos hi, List.getElem?_drop] at hu2
          obtain ⟨u', e2, e3⟩ := h11 _ _ e1
          have : u = u' := by
            have e4 : cur[k * sz + f + i]? = some u := by simpa using hu2
            rw [show k * sz + f + i = k * sz + (f + i) from by omega, e2] at e4
            simpa using e4.symm
          rw [this]; exact .sh e3
        · cases hv)

theorem j_load_box {t : TypeId} {x : Operand} {id ver off e : Nat} {xs : List V} {v : V} (ht : LeafT C.P t) (hx : Ab.ev s.sl x = .ptr id ver off) (ho : look s.hp id = some (ver, .box e xs)) (hf : xs[off]? = some v) :
    OpJ C all ⟨some d, .load t x, ty, pos, aft, none⟩ s [id] (EV d (v)) :=
  j_pure (fun s' hs a w g hr => have hx := (hs.e (x := x) (by simp [Op.operands])).trans hx; have ho := (hs.hp id (by simp)).trans ho; by
    obtain ⟨b, h4, h5⟩ := hr.ptr hx ho
    obtain ⟨b', cur, h9, _, h10, hc, h11⟩ := hr.hr.obj id ver _ ho
    rw [h9] at h4; obtain rfl : b' = b := by simpa using h4
    obtain ⟨u, e2, e3⟩ := h11 _ _ hf
    refine ⟨u, ?_, e3⟩
    simp only [execOp, h5, Sem.run_bind, run_loadAt_leaf ht _ u w (by rw [cellOf h10]; exact e2), Result.andThen_ok, Sem.run_pure])

theorem j_loada_box {t n : Nat} {x : Operand} {id ver off e : Nat} {xs ys : List V} (ht : AggT C.P t n) (hx : Ab.ev s.sl x = .ptr id ver off) (ho : look s.hp id = some (ver, .box e xs)) (hf : (xs.drop off).take n = ys) (hn : off + n ≤ xs.length) :
    OpJ C all ⟨some d, .load t x, ty, pos, aft, none⟩ s [id] (EV d (.agg ys)) :=
  j_pure (fun s' hs a w g hr => have hx := (hs.e (x := x) (by simp [Op.operands])).trans hx; have ho := (hs.hp id (by simp)).trans ho; by
    obtain ⟨b, h4, h5⟩ := hr.ptr hx ho
    obtain ⟨b', cur, h9, _, h10, hc, h11⟩ := hr.hr.obj id ver _ ho
    rw [h9] at h4; obtain rfl : b' = b := by simpa using h4
    obtain ⟨dd, h1, h2, h3⟩ := ht
    have hcl : ((cur.toList.drop off).take n).length = n := by
      rw [List.length_take, List.length_drop, Array.length_toList]; omega
    have hcell : w.rangeAt b' off ((cur.toList.drop off).take n) := fun j u hj => by
      rw [List.getElem?_take] at hj
      split at hj
      · rw [List.getElem?_drop] at hj
        rw [cellOf h10]; simpa using hj
      · cases hj
    have hrun := run_loadAt_mid (P := C.P) w b' off t _ dd hcell h1 h2 (by rw [hcl]; exact h3)
    refine ⟨.agg ((cur.toList.drop off).take n).toArray, by simp only [execOp, h5, Sem.run_bind, hrun, Result.andThen_ok, Sem.run_pure], .agg ys _ ?_ ?_⟩
    · rw [← hf]; simp only [List.size_toArray, hcl, List.length_take, List.length_drop]; omega
    · intro i v u hv hu2
      rw [← hf] at hv
      rw [List.getElem?_take] at hv
      split at hv
      · rename_i hi
        rw [List.getElem?_drop] at hv
        simp only [List.getElem?_toArray] at hu2
        rw [List.getElem?_take, if_pos hi, List.getElem?_drop] at hu2
        obtain ⟨u', e2, e3⟩ := h11 _ _ hv
        have : u = u' := by
          have e4 : cur[off + i]? = some u := by simpa using hu2
          rw [e2] at e4
          simpa using e4.symm
        rw [this]; exact e3
      · cases hv)

/-- The part of a struct's value that a field is. -/
theorem Rel.agg {a : Act} {w : World} {g : Gh} {x : Operand} {xs : List V} (hr : Rel C a w s g) (hx : Ab.ev s.sl x = .agg xs) : ∃ cs : Array Value, a.eval x = .agg cs ∧ cs.size = xs.length ∧ ∀ (i : Nat) (v : V) (u : Value), xs[i]? = some v → cs[i]? = some u → VR g (XX C s.hp g w) w v u := by
  have hv := hr.ev x
  rw [hx] at hv
  generalize a.eval x = u at hv
  cases hv with
  | sh h0 => cases h0 with
    | agg _ cs hl he => exact ⟨cs, rfl, hl, fun i v u h1 h2 => .sh (he i v u h1 h2)⟩
  | agg _ cs hl he => exact ⟨cs, rfl, hl, he⟩

def FldV (P : Program) (t i off ft : Nat) : Prop := ∃ fs fld, P.underlying t = some (.struct fs) ∧ fs[i]? = some fld ∧ fld.offset = off ∧ fld.type = ft

theorem j_field {t i off ft : Nat} {x : Operand} {xs : List V} {v : V} (ht : FldV C.P t i off ft) (hl : LeafT C.P ft) (hx : Ab.ev s.sl x = .agg xs) (hi : xs[off]? = some v) :
    OpJ C all ⟨some d, .field t x i, ty, pos, aft, none⟩ s [] (EV d (v)) :=
  j_pure (fun s' hs a w g hr => have hx := (hs.e (x := x) (by simp [Op.operands])).trans hx; by
    obtain ⟨cs, e, hcl, he⟩ := hr.agg hx
    obtain ⟨fs, fld, h1, h2, rfl, rfl⟩ := ht
    have hlt : fld.offset < cs.size := by rw [hcl]; exact (List.getElem?_eq_some_iff.1 hi).1
    have e2 : cs[fld.offset]? = some cs[fld.offset] := by simp [hlt]
    refine ⟨cs[fld.offset], ?_, he _ _ _ hi e2⟩
    simp [execOp, e, Instr.field, run_underlying h1, h2, asAgg, part, run_isAgg_leaf hl, e2])

theorem j_fielda {t i off ft n : Nat} {x : Operand} {xs ys : List V} (ht : FldV C.P t i off ft) (hl : AggT C.P ft n) (hx : Ab.ev s.sl x = .agg xs) (hf : (xs.drop off).take n = ys) (hn : off + n ≤ xs.length) :
    OpJ C all ⟨some d, .field t x i, ty, pos, aft, none⟩ s [] (EV d (.agg ys)) :=
  j_pure (fun s' hs a w g hr => have hx := (hs.e (x := x) (by simp [Op.operands])).trans hx; by
    obtain ⟨cs, e, hcl, he⟩ := hr.agg hx
    obtain ⟨fs, fld, h1, h2, rfl, rfl⟩ := ht
    have h3 := hl
    obtain ⟨_, _, _, h4⟩ := h3
    refine ⟨.agg (cs.extract fld.offset (fld.offset + n)), ?_, .agg ys _ ?_ ?_⟩
    · simp [execOp, e, Instr.field, run_underlying h1, h2, asAgg, part, run_isAgg_agg hl, run_sizeOf h4]
    · rw [← hf]; simp; omega
    · intro i v u hv hu
      rw [← hf, List.getElem?_take] at hv
      split at hv
      · rw [List.getElem?_drop] at hv
        rw [Array.getElem?_extract] at hu
        split at hu
        · exact he _ _ _ hv hu
        · cases hu
      · cases hv)

/-- Strings. -/
theorem j_cat {xt yt : TypeId} {x y : Operand} {b c : ByteArray} (hx : Ab.ev s.sl x = .p (.string b)) (hy : Ab.ev s.sl y = .p (.string c)) (hl : b.size + c.size ≤ 9223372036854775807) :
    OpJ C all ⟨some d, .binOp .add xt x y yt, ty, pos, aft, none⟩ s [] (EV d (.p (.string (b ++ c)))) :=
  j_pure (fun s' hs a w g hr => have hx := (hs.e (x := x) (by simp [Op.operands])).trans hx; have hy := (hs.e (x := y) (by simp [Op.operands])).trans hy; ⟨.string (b ++ c), by
    have e : (eqGuard .add xt x y (.string b) (.string c)).run C.P w = .ok () w := rfl
    have e1 : ¬ ((b.size + c.size : Nat) : Int) > IntKind.i64.max := by simp [IntKind.max, IntKind.signed, IntKind.bits]; omega
    have e2 : (Go.binOp .add xt (.string b) (.string c)).run C.P w = .ok (.string (b ++ c)) w := by
      simp only [Go.binOp, Op.stringOp, if_neg e1, Sem.run_pure]
    simp only [execOp, hr.evp hx, hr.evp hy, Sem.run_bind, e, e2, Result.andThen_ok, Sem.run_pure], .sh (.p _)⟩)

theorem bytes_eq (b c : ByteArray) : (b.toList == c.toList) = decide (b = c) := by
  rw [Bool.eq_iff_iff]
  simp only [beq_iff_eq, decide_eq_true_eq]
  constructor
  · intro h
    have h1 : b.data.toList = c.data.toList := by simpa [ByteArray.toList_eq] using h
    cases b; cases c
    simpa using h1
  · intro h; rw [h]

theorem j_eqs {xt yt : TypeId} {x y : Operand} {b c : ByteArray} (hx : Ab.ev s.sl x = .p (.string b)) (hy : Ab.ev s.sl y = .p (.string c)) :
    OpJ C all ⟨some d, .binOp .eql xt x y yt, ty, pos, aft, none⟩ s [] (EV d (.p (.bool (decide (b = c))))) :=
  j_pure (fun s' hs a w g hr => have hx := (hs.e (x := x) (by simp [Op.operands])).trans hx; have hy := (hs.e (x := y) (by simp [Op.operands])).trans hy; ⟨_, by
    have e : (eqGuard .eql xt x y (.string b) (.string c)).run C.P w = .ok () w := rfl
    have e2 : (Go.binOp .eql xt (.string b) (.string c)).run C.P w = .ok (.bool (decide (b = c))) w := by
      simp only [Go.binOp, Op.stringOp, bytes_eq, Sem.run_pure]
    simp only [execOp, hr.evp hx, hr.evp hy, Sem.run_bind, e, e2, Result.andThen_ok, Sem.run_pure], .sh (.p _)⟩)

theorem j_nes {xt yt : TypeId} {x y : Operand} {b c : ByteArray} (hx : Ab.ev s.sl x = .p (.string b)) (hy : Ab.ev s.sl y = .p (.string c)) :
    OpJ C all ⟨some d, .binOp .neq xt x y yt, ty, pos, aft, none⟩ s [] (EV d (.p (.bool (decide (b ≠ c))))) :=
  j_pure (fun s' hs a w g hr => have hx := (hs.e (x := x) (by simp [Op.operands])).trans hx; have hy := (hs.e (x := y) (by simp [Op.operands])).trans hy; ⟨_, by
    have e : (eqGuard .neq xt x y (.string b) (.string c)).run C.P w = .ok () w := rfl
    have e3 : (!decide (b = c)) = decide (b ≠ c) := by simp
    have e2 : (Go.binOp .neq xt (.string b) (.string c)).run C.P w = .ok (.bool (decide (b ≠ c))) w := by
      simp only [Go.binOp, Op.stringOp, bytes_eq, Sem.run_pure, e3]
    simp only [execOp, hr.evp hx, hr.evp hy, Sem.run_bind, e, e2, Result.andThen_ok, Sem.run_pure], .sh (.p _)⟩)

end
end Go.Ab

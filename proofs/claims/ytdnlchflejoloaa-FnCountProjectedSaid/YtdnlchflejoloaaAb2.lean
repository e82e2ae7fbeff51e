/- The laws of the operations that write no memory, over the abstract state. -/
import Derived.Test.YtdnlchflejoloaaAb1
import Derived.WalkKit
import Derived.Orders
set_option linter.unusedSimpArgs false
set_option linter.unusedVariables false
namespace Go.Ab

/-- What an operation does to the state: the slot that it writes, the objects that it changes, the object that it makes anew. -/
structure Eff where
  dst : Option Nat
  v : V
  hp : Heap
  bump : Option (Nat × Nat)

def app (E : Eff) (s : St) : St := ⟨match E.dst with | some d => (d, E.v) :: s.sl | none => s.sl, E.hp ++ s.hp⟩

def opWp (P : Program) (all : Array Oper) (o : Oper) (K : Act → World → Prop) (Q : Exit → Act → World → Prop) (a : Act) (w : World) : Prop :=
  if Region.wanted o (yielded all a.tmps) then o.wp P a w K Q ∨ (o.asks P a w ∧ LetsOut Q) else K (a.put o.dst undef) w

/-- Two states agree on what an operation looks at. -/
structure Agree (all : Array Oper) (o : Oper) (ids : List Nat) (s s' : St) : Prop where
  sl : ∀ t ∈ o.looksAt all, get s'.sl t = get s.sl t
  hp : ∀ i ∈ ids, look s'.hp i = look s.hp i

/-- WHAT AN OPERATION DOES, told locally. -/
def OpJ (C : Ctx) (all : Array Oper) (o : Oper) (s : St) (ids : List Nat) (E : Eff) : Prop :=
  ∀ s', Agree all o ids s s' → (∀ d, o.dst = some d → d < C.n) → ∀ a w g, Rel C a w s' g → (∀ b, E.bump = some b → b.2 = g.cur b.1 + 1) →
    ∀ K Q, (∀ a' w' g', Rel C a' w' (app E s') g' → (∀ j, (∀ b, E.bump = some b → j ≠ b.1) → g'.cur j = g.cur j) → K a' w') → opWp C.P all o K Q a w

def okDst (n : Nat) : List Oper → Bool
  | [] => true
  | o :: l => (match o.dst with | some d => Nat.blt d n | none => true) && okDst n l

def AOps (C : Ctx) (all : Array Oper) (l : List Oper) (K : St → Prop) (s : St) : Prop :=
  okDst C.n l = true → ∀ (Q : Exit → Act → World → Prop), (∀ a w g s', Rel C a w s' g → K s' → Q .normal a w) → ∀ a w g, Rel C a w s g → wpList C.P all Q l a w

section
variable {C : Ctx} {all : Array Oper} {l : List Oper} {K : St → Prop} {s : St} {o : Oper} {ids : List Nat} {E : Eff}

theorem a_region {id : Nat} {l : List Oper} {Q : Exit → St → Prop} (hb : okDst C.n l = true) (h : AOps C l.toArray l (fun s => Q .normal s) s) : AWp C (.region id l.toArray false) Q s :=
  fun a w g hr => wp_region_lit (h hb _ (fun _ _ g s' r q => ⟨s', g, r, q⟩) a w g hr)

theorem op_nil (h : K s) : AOps C all [] K s := fun _ _ hQ a w g hr => wpList_nil (hQ a w g s hr h)

theorem okDst_head (h : okDst C.n (o :: l) = true) : ∀ d, o.dst = some d → d < C.n := by
  intro d hd
  simp only [okDst, hd, Bool.and_eq_true, Nat.blt_eq] at h; exact h.1
theorem okDst_tail {n : Nat} {o : Oper} {l : List Oper} (h : okDst n (o :: l) = true) : okDst n l = true := by
  simp only [okDst, Bool.and_eq_true] at h; exact h.2

theorem Agree.rfl' : Agree all o ids s s := ⟨fun _ _ => rfl, fun _ _ => rfl⟩

theorem op_cons0 (hb : E.bump = none) (hJ : OpJ C all o s ids E) (h : AOps C all l K (app E s)) : AOps C all (o :: l) K s := by
  intro hd Q hQ a w g hr
  have := hJ s Agree.rfl' (okDst_head hd) a w g hr (by rw [hb]; intro b hb; cases hb) (wpList C.P all Q l) Q (fun a' w' g' r _ => h (okDst_tail hd) Q hQ a' w' g' r)
  unfold wpList
  exact this
theorem op_consb {E : Nat → Eff} {d : Nat} (hb : ∀ v, (E v).bump = some (d, v)) (hJ : ∀ v, OpJ C all o s ids (E v)) (h : ∀ v, AOps C all l K (app (E v) s)) : AOps C all (o :: l) K s := by
  intro hd Q hQ a w g hr
  have := hJ (g.cur d + 1) s Agree.rfl' (okDst_head hd) a w g hr (by rw [hb]; intro b hb; cases hb; rfl) (wpList C.P all Q l) Q (fun a' w' g' r _ => h _ (okDst_tail hd) Q hQ a' w' g' r)
  unfold wpList
  exact this

/-- The effect of a plain value; the state behind it. -/
abbrev EV (d : Nat) (v : V) : Eff := ⟨some d, v, [], none⟩
/-- An object made anew, or a row that has gone on. -/
abbrev EN (d : Nat) (v : V) (id ver : Nat) (ob : Obj) : Eff := ⟨some d, v, [(id, some (ver, ob))], some (id, ver)⟩
/-- A store. -/
abbrev ES (id ver : Nat) (ob : Obj) : Eff := ⟨none, .any, [(id, some (ver, ob))], none⟩
theorem op_v {d : Nat} {v : V} (hJ : OpJ C all o s ids (EV d v)) (h : AOps C all l K ⟨(d, v) :: s.sl, s.hp⟩) : AOps C all (o :: l) K s := op_cons0 rfl hJ h
theorem op_s {id ver : Nat} {ob : Obj} (hJ : OpJ C all o s ids (ES id ver ob)) (h : AOps C all l K ⟨s.sl, (id, some (ver, ob)) :: s.hp⟩) : AOps C all (o :: l) K s := op_cons0 rfl hJ h
theorem op_n {d id : Nat} {v : Nat → V} {ob : Obj} (hJ : ∀ ver, OpJ C all o s ids (EN d (v ver) id ver ob)) (h : ∀ ver, AOps C all l K ⟨(d, v ver) :: s.sl, (id, some (ver, ob)) :: s.hp⟩) : AOps C all (o :: l) K s := op_consb (fun _ => rfl) hJ h

theorem Rel.put {a : Act} {w : World} {g : Gh} {d : Nat} {v : V} {u : Value} (h : Rel C a w s g) (hd : d < C.n) (hv : VR g (XX C s.hp g w) w v u) : Rel C (a.put (some d) u) w ⟨(d, v) :: s.sl, s.hp⟩ g where
  size := by simp [Act.put, h.size]
  defers := h.defers
  hr := h.hr
  slots t := by
    have hs := h.size
    simp only [Act.put, get]
    by_cases e : d = t
    · subst e
      simp [Array.getD_eq_getD_getElem?, hs, hd]
      exact hv
    · rw [beq_ne e]
      have := h.slots t
      simp only [Array.getD_eq_getD_getElem?, cond_false] at *
      rw [Array.getElem?_setIfInBounds_ne e]
      exact this

/-- A state whose memory has gone on. -/
theorem Rel.mem {a : Act} {w w' : World} {g g' : Gh} {hp' : Heap} (h : Rel C a w s g) (hr : HR C w' hp' g') (hf : Fits g (XX C s.hp g w) w g' (XX C hp' g' w') w') : Rel C a w' ⟨s.sl, hp'⟩ g' :=
  ⟨h.size, h.defers, hr, fun t => (h.slots t).fits hf⟩

theorem Agree.e {s' : St} {x : Operand} (h : Agree all o ids s s') (hx : x ∈ o.op.operands.toList) : ev s'.sl x = ev s.sl x := by
  cases x with
  | tmp t =>
    refine h.sl t ?_
    unfold Oper.looksAt
    exact List.mem_append_left _ (List.mem_filterMap.2 ⟨.tmp t, hx, rfl⟩)
  | _ => rfl

theorem j_step {d : Nat} {op : Op} {ty : TypeId} {pos : String} {aft : Array Edge} {v : V} {hp' : Heap} {bp : Option (Nat × Nat)}
    (hrun : ∀ s', Agree all ⟨some d, op, ty, pos, aft, none⟩ ids s s' → ∀ a w g, Rel C a w s' g → (∀ b, bp = some b → b.2 = g.cur b.1 + 1) →
      ∃ u w' g', (execOp a.eval ⟨some d, op, ty, pos, aft, none⟩).run C.P w = .ok (.value u) w' ∧ HR C w' (hp' ++ s'.hp) g' ∧ Fits g (XX C s'.hp g w) w g' (XX C (hp' ++ s'.hp) g' w') w' ∧ VR g' (XX C (hp' ++ s'.hp) g' w') w' v u ∧ (∀ j, (∀ b, bp = some b → j ≠ b.1) → g'.cur j = g.cur j)) :
    OpJ C all ⟨some d, op, ty, pos, aft, none⟩ s ids ⟨some d, v, hp', bp⟩ := by
  intro s' ha hd a w g hr hbp K Q hK
  obtain ⟨u, w', g', e, h1, h2, h3, h4⟩ := hrun s' ha a w g hr hbp
  unfold opWp
  rw [if_pos (by simp [Region.wanted])]
  refine .inl ?_
  unfold Oper.wp
  rw [e, Oper.upon_value]
  exact hK _ _ g' ((hr.mem h1 h2).put (hd d rfl) h3) h4

theorem j_pure {d : Nat} {op : Op} {ty : TypeId} {pos : String} {aft : Array Edge} {v : V}
    (hrun : ∀ s', Agree all ⟨some d, op, ty, pos, aft, none⟩ ids s s' → ∀ a w g, Rel C a w s' g → ∃ u, (execOp a.eval ⟨some d, op, ty, pos, aft, none⟩).run C.P w = .ok (.value u) w ∧ VR g (XX C s'.hp g w) w v u) :
    OpJ C all ⟨some d, op, ty, pos, aft, none⟩ s ids (EV d v) :=
  j_step (hp' := []) (bp := none) fun s' ha a w g hr _ => let ⟨u, e, hv⟩ := hrun s' ha a w g hr; ⟨u, w, g, e, hr.hr, Fits.refl _ _ _, hv, fun _ _ => rfl⟩

theorem j_eff {op : Op} {ty : TypeId} {pos : String} {aft : Array Edge} {v : V} {hp' : Heap}
    (hrun : ∀ s', Agree all ⟨none, op, ty, pos, aft, none⟩ ids s s' → ∀ a w g, Rel C a w s' g → ∃ w' g', (execOp a.eval ⟨none, op, ty, pos, aft, none⟩).run C.P w = .ok .skip w' ∧ HR C w' (hp' ++ s'.hp) g' ∧ Fits g (XX C s'.hp g w) w g' (XX C (hp' ++ s'.hp) g' w') w' ∧ (∀ j, g'.cur j = g.cur j)) :
    OpJ C all ⟨none, op, ty, pos, aft, none⟩ s ids ⟨none, v, hp', none⟩ := by
  intro s' ha hd a w g hr _ K Q hK
  obtain ⟨w', g', e, h1, h2, h4⟩ := hrun s' ha a w g hr
  unfold opWp
  rw [if_pos (by simp [Region.wanted])]
  refine .inl ?_
  unfold Oper.wp
  rw [e, Oper.upon_skip]
  exact hK _ _ g' (hr.mem h1 h2) (fun j _ => h4 j)

theorem Rel.bool {a : Act} {w : World} {g : Gh} {t : Nat} {b : Bool} (hr : Rel C a w s g) (hv : get s.sl t = .p (.bool b)) : a.tmps[t]? = some (.bool b) := by
  have := hr.slots t
  rw [hv] at this
  have := this.plain
  rw [Array.getD_eq_getD_getElem?] at this
  cases h : a.tmps[t]? with
  | none => rw [h] at this; simp [undef] at this
  | some x => rw [h] at this; simpa using this

theorem looks_guard {dst : Option Tmp} {op : Op} {ty : TypeId} {pos : String} {aft : Array Edge} {j : Nat} {want : Bool} {t : Nat} (hj : (all[j]?).bind (·.dst) = some t) : t ∈ (⟨dst, op, ty, pos, aft, some (j, want)⟩ : Oper).looksAt all := by
  unfold Oper.looksAt
  refine List.mem_append_right _ ?_
  simp [hj]

theorem j_want {dst : Option Tmp} {op : Op} {ty : TypeId} {pos : String} {aft : Array Edge} {j : Nat} {want : Bool} {t : Nat} {b : Bool} (hj : (all[j]?).bind (·.dst) = some t) (hv : get s.sl t = .p (.bool b)) (hb : b = want)
    (h : OpJ C all ⟨dst, op, ty, pos, aft, none⟩ s ids E) : OpJ C all ⟨dst, op, ty, pos, aft, some (j, want)⟩ s ids E := by
  intro s' ha hd a w g hr hbp K Q hK
  have h0 := h s' ⟨fun t ht => ha.sl t (by
    unfold Oper.looksAt at ht ⊢
    rcases List.mem_append.1 ht with h | h
    · exact List.mem_append_left _ h
    · simp at h), ha.hp⟩ hd a w g hr hbp K Q hK
  have hv' : get s'.sl t = .p (.bool b) := (ha.sl t (looks_guard hj)).trans hv
  have hw : Region.wanted ⟨dst, op, ty, pos, aft, some (j, want)⟩ (yielded all a.tmps) = true := by
    have e : (all[j]?).bind (·.dst) = some t := hj
    simp [Region.wanted, yielded, e, hr.bool hv', hb]
  unfold opWp at h0 ⊢
  rw [if_pos hw]
  rw [if_pos (by simp [Region.wanted])] at h0
  exact h0

theorem j_unwant {d : Nat} {op : Op} {ty : TypeId} {pos : String} {aft : Array Edge} {j : Nat} {want : Bool} {t : Nat} {b : Bool} (hj : (all[j]?).bind (·.dst) = some t) (hv : get s.sl t = .p (.bool b)) (hb : b = !want) :
    OpJ C all ⟨some d, op, ty, pos, aft, some (j, want)⟩ s [] (EV d .any) := by
  intro s' ha hd a w g hr hbp K Q hK
  have hv' : get s'.sl t = .p (.bool b) := (ha.sl t (looks_guard hj)).trans hv
  have hw : ¬ Region.wanted ⟨some d, op, ty, pos, aft, some (j, want)⟩ (yielded all a.tmps) = true := by
    have e : (all[j]?).bind (·.dst) = some t := hj
    simp [Region.wanted, yielded, e, hr.bool hv', hb]
  unfold opWp
  rw [if_neg hw]
  exact hK _ _ g (hr.put (u := undef) (hd d rfl) (.sh (.any _))) (fun _ _ => rfl)

theorem j_unwant0 {op : Op} {ty : TypeId} {pos : String} {aft : Array Edge} {j : Nat} {want : Bool} {t : Nat} {b : Bool} (hj : (all[j]?).bind (·.dst) = some t) (hv : get s.sl t = .p (.bool b)) (hb : b = !want) :
    OpJ C all ⟨none, op, ty, pos, aft, some (j, want)⟩ s [] ⟨none, .any, [], none⟩ := by
  intro s' ha hd a w g hr hbp K Q hK
  have hv' : get s'.sl t = .p (.bool b) := (ha.sl t (looks_guard hj)).trans hv
  have hw : ¬ Region.wanted ⟨none, op, ty, pos, aft, some (j, want)⟩ (yielded all a.tmps) = true := by
    have e : (all[j]?).bind (·.dst) = some t := hj
    simp [Region.wanted, yielded, e, hr.bool hv', hb]
  unfold opWp
  rw [if_neg hw]
  exact hK _ _ g hr (fun _ _ => rfl)

/-- What is told after some operations need not be all that is known. -/
theorem op_ent (s' : St) (he : Ent s s') (h : AOps C all l K s') : AOps C all l K s := fun hb Q hQ a w g hr => h hb Q hQ a w g (hr.ent he)

section ops
variable {d : Nat} {ty : TypeId} {pos : String} {aft : Array Edge}

theorem j_move {x : Operand} {v : V} (hx : ev s.sl x = v) :
    OpJ C all ⟨some d, .move x, ty, pos, aft, none⟩ s [] (EV d (v)) :=
  j_pure (fun s' hs a _ _ hr => have hx := (hs.e (x := x) (by simp [Op.operands])).trans hx; ⟨a.eval x, rfl, hx ▸ hr.ev x⟩)

theorem j_assign {x : Operand} {v : V} (hx : ev s.sl x = v) :
    OpJ C all ⟨some d, .assign x, ty, pos, aft, none⟩ s [] (EV d (v)) :=
  j_pure (fun s' hs a _ _ hr => have hx := (hs.e (x := x) (by simp [Op.operands])).trans hx; ⟨a.eval x, rfl, hx ▸ hr.ev x⟩)

theorem Rel.evp {a : Act} {w : World} {g : Gh} {x : Operand} {v : Value} (h : Rel C a w s g) (hx : Ab.ev s.sl x = .p v) : a.eval x = v := by
  have := h.ev x
  rw [hx] at this
  exact this.plain

theorem j_pick {c x y : Operand} {b : Bool} {v : V} (hc : ev s.sl c = .p (.bool b)) (hv : (if b then ev s.sl x else ev s.sl y) = v) :
    OpJ C all ⟨some d, .pick c x y, ty, pos, aft, none⟩ s [] (EV d (v)) :=
  j_pure (fun s' hs a w g hr => have hc := (hs.e (x := c) (by simp [Op.operands])).trans hc; ⟨if b then a.eval x else a.eval y, by simp [execOp, hr.evp hc, asBool], by
    have e1 := hs.e (x := x) (by simp [Op.operands])
    have e2 := hs.e (x := y) (by simp [Op.operands])
    subst hv
    cases b
    · rw [← e2]; exact hr.ev y
    · rw [← e1]; exact hr.ev x⟩)

theorem j_pick_t {c x y : Operand} {b : Bool} {v : V} (hc : ev s.sl c = .p (.bool b)) (hb : b = true) (hv : ev s.sl x = v) :
    OpJ C all ⟨some d, .pick c x y, ty, pos, aft, none⟩ s [] (EV d (v)) :=
  j_pick hc (by rw [hb]; exact hv)

theorem j_pick_f {c x y : Operand} {b : Bool} {v : V} (hc : ev s.sl c = .p (.bool b)) (hb : b = false) (hv : ev s.sl y = v) :
    OpJ C all ⟨some d, .pick c x y, ty, pos, aft, none⟩ s [] (EV d (v)) :=
  j_pick hc (by rw [hb]; exact hv)

theorem wrap64_of {n : Int} (h1 : -9223372036854775808 ≤ n) (h2 : n ≤ 9223372036854775807) : IntKind.i64.wrap n = n := IntWalk.i64_in n ⟨h1, h2⟩

theorem j_int {op : BinOp} {xt yt : TypeId} {x y : Operand} {k : IntKind} {m n : Int} {r : Value} (hx : ev s.sl x = .p (.int k m)) (hy : ev s.sl y = .p (.int k n))
    (hrun : ∀ w, (Go.binOp op xt (.int k m) (.int k n)).run C.P w = .ok r w) :
    OpJ C all ⟨some d, .binOp op xt x y yt, ty, pos, aft, none⟩ s [] (EV d (.p r)) :=
  j_pure (fun s' hs a w g hr => have hx := (hs.e (x := x) (by simp [Op.operands])).trans hx; have hy := (hs.e (x := y) (by simp [Op.operands])).trans hy; ⟨r, by
    have e : (eqGuard op xt x y (.int k m) (.int k n)).run C.P w = .ok () w := by
      unfold eqGuard; split <;> simp
    simp [execOp, hr.evp hx, hr.evp hy, e, hrun w], .sh (.p _)⟩)

section ints
variable {xt yt : TypeId} {x y : Operand} {k : IntKind} {m n : Int}
theorem j_addw (hx : ev s.sl x = .p (.int k m)) (hy : ev s.sl y = .p (.int k n)) :
    OpJ C all ⟨some d, .binOp .add xt x y yt, ty, pos, aft, none⟩ s [] (EV d (.p (.int k (k.wrap (m + n))))) :=
  j_int hx hy (fun w => by simp [Go.binOp, Op.intArith])

theorem j_subw (hx : ev s.sl x = .p (.int k m)) (hy : ev s.sl y = .p (.int k n)) :
    OpJ C all ⟨some d, .binOp .sub xt x y yt, ty, pos, aft, none⟩ s [] (EV d (.p (.int k (k.wrap (m - n))))) :=
  j_int hx hy (fun w => by simp [Go.binOp, Op.intArith])

theorem j_mulw (hx : ev s.sl x = .p (.int k m)) (hy : ev s.sl y = .p (.int k n)) :
    OpJ C all ⟨some d, .binOp .mul xt x y yt, ty, pos, aft, none⟩ s [] (EV d (.p (.int k (k.wrap (m * n))))) :=
  j_int hx hy (fun w => by simp [Go.binOp, Op.intArith])

theorem j_add (hx : ev s.sl x = .p (.int .i64 m)) (hy : ev s.sl y = .p (.int .i64 n)) (h1 : -9223372036854775808 ≤ m + n) (h2 : m + n ≤ 9223372036854775807) :
    OpJ C all ⟨some d, .binOp .add xt x y yt, ty, pos, aft, none⟩ s [] (EV d (.p (.int .i64 (m + n)))) :=
  by have := (j_addw hx hy : OpJ C all ⟨some d, .binOp .add xt x y yt, ty, pos, aft, none⟩ s [] _); rwa [wrap64_of h1 h2] at this

theorem j_sub (hx : ev s.sl x = .p (.int .i64 m)) (hy : ev s.sl y = .p (.int .i64 n)) (h1 : -9223372036854775808 ≤ m - n) (h2 : m - n ≤ 9223372036854775807) :
    OpJ C all ⟨some d, .binOp .sub xt x y yt, ty, pos, aft, none⟩ s [] (EV d (.p (.int .i64 (m - n)))) :=
  by have := (j_subw hx hy : OpJ C all ⟨some d, .binOp .sub xt x y yt, ty, pos, aft, none⟩ s [] _); rwa [wrap64_of h1 h2] at this

theorem j_mul (hx : ev s.sl x = .p (.int .i64 m)) (hy : ev s.sl y = .p (.int .i64 n)) (h1 : -9223372036854775808 ≤ m * n) (h2 : m * n ≤ 9223372036854775807) :
    OpJ C all ⟨some d, .binOp .mul xt x y yt, ty, pos, aft, none⟩ s [] (EV d (.p (.int .i64 (m * n)))) :=
  by have := (j_mulw hx hy : OpJ C all ⟨some d, .binOp .mul xt x y yt, ty, pos, aft, none⟩ s [] _); rwa [wrap64_of h1 h2] at this

theorem j_quo (hx : ev s.sl x = .p (.int .i64 m)) (hy : ev s.sl y = .p (.int .i64 n)) (h0 : 0 ≤ m) (h1 : 0 < n) (h2 : m ≤ 9223372036854775807) :
    OpJ C all ⟨some d, .binOp .quo xt x y yt, ty, pos, aft, none⟩ s [] (EV d (.p (.int .i64 (m / n)))) :=
  j_int hx hy (fun w => by
    have e : m.tdiv n = m / n := Int.tdiv_eq_ediv_of_nonneg h0
    have e1 : 0 ≤ m / n := Int.ediv_nonneg h0 (by omega)
    have e2 : m / n ≤ m := Int.ediv_le_self n h0
    have e3 : n ≠ 0 := by omega
    simp [Go.binOp, Op.intDiv, e, e3, wrap64_of (n := m / n) (by omega) (by omega)])

theorem j_rem (hx : ev s.sl x = .p (.int k m)) (hy : ev s.sl y = .p (.int k n)) (h0 : 0 ≤ m) (h1 : 0 < n) :
    OpJ C all ⟨some d, .binOp .rem xt x y yt, ty, pos, aft, none⟩ s [] (EV d (.p (.int k (m % n)))) :=
  j_int hx hy (fun w => by
    have e : m.tmod n = m % n := Int.tmod_eq_emod_of_nonneg h0
    have e3 : n ≠ 0 := by omega
    simp [Go.binOp, Op.intDiv, e, e3])

theorem int_beq (m n : Int) : (m == n) = decide (m = n) := by rw [Bool.eq_iff_iff]; simp
theorem j_eq (hx : ev s.sl x = .p (.int k m)) (hy : ev s.sl y = .p (.int k n)) :
    OpJ C all ⟨some d, .binOp .eql xt x y yt, ty, pos, aft, none⟩ s [] (EV d (.p (.bool (decide (m = n))))) :=
  j_int hx hy (fun w => by simp [Go.binOp, Op.intCmp, int_beq])

theorem j_ne (hx : ev s.sl x = .p (.int k m)) (hy : ev s.sl y = .p (.int k n)) :
    OpJ C all ⟨some d, .binOp .neq xt x y yt, ty, pos, aft, none⟩ s [] (EV d (.p (.bool (decide (m ≠ n))))) :=
  j_int hx hy (fun w => by
    have : (m != n) = decide (m ≠ n) := by simp [bne, int_beq]
    simp [Go.binOp, Op.intCmp, this])

theorem j_lt (hx : ev s.sl x = .p (.int k m)) (hy : ev s.sl y = .p (.int k n)) :
    OpJ C all ⟨some d, .binOp .lss xt x y yt, ty, pos, aft, none⟩ s [] (EV d (.p (.bool (decide (m < n))))) :=
  j_int hx hy (fun w => by simp [Go.binOp, Op.intCmp])

theorem j_le (hx : ev s.sl x = .p (.int k m)) (hy : ev s.sl y = .p (.int k n)) :
    OpJ C all ⟨some d, .binOp .leq xt x y yt, ty, pos, aft, none⟩ s [] (EV d (.p (.bool (decide (m ≤ n))))) :=
  j_int hx hy (fun w => by simp [Go.binOp, Op.intCmp])

theorem j_gt (hx : ev s.sl x = .p (.int k m)) (hy : ev s.sl y = .p (.int k n)) :
    OpJ C all ⟨some d, .binOp .gtr xt x y yt, ty, pos, aft, none⟩ s [] (EV d (.p (.bool (decide (n < m))))) :=
  j_int hx hy (fun w => by simp [Go.binOp, Op.intCmp])

theorem j_ge (hx : ev s.sl x = .p (.int k m)) (hy : ev s.sl y = .p (.int k n)) :
    OpJ C all ⟨some d, .binOp .geq xt x y yt, ty, pos, aft, none⟩ s [] (EV d (.p (.bool (decide (n ≤ m))))) :=
  j_int hx hy (fun w => by simp [Go.binOp, Op.intCmp])

theorem j_bits {op : BinOp} {r : Value} (hx : ev s.sl x = .p (.int k m)) (hy : ev s.sl y = .p (.int k n)) (hrun : ∀ w, (Go.binOp op xt (.int k m) (.int k n)).run C.P w = .ok r w) :
    OpJ C all ⟨some d, .binOp op xt x y yt, ty, pos, aft, none⟩ s [] (EV d (.p r)) :=
  j_int hx hy hrun

end ints

theorem j_not {xt : TypeId} {x : Operand} {b : Bool} (hx : ev s.sl x = .p (.bool b)) :
    OpJ C all ⟨some d, .unOp .not xt x, ty, pos, aft, none⟩ s [] (EV d (.p (.bool (!b)))) :=
  j_pure (fun s' hs a w g hr => have hx := (hs.e (x := x) (by simp [Op.operands])).trans hx; ⟨.bool (!b), by simp [execOp, hr.evp hx, Op.unary], .sh (.p _)⟩)

theorem j_neg {xt : TypeId} {x : Operand} {m : Int} (hx : ev s.sl x = .p (.int .i64 m)) (h1 : -9223372036854775807 ≤ m) (h2 : m ≤ 9223372036854775807) :
    OpJ C all ⟨some d, .unOp .neg xt x, ty, pos, aft, none⟩ s [] (EV d (.p (.int .i64 (-m)))) :=
  j_pure (fun s' hs a w g hr => have hx := (hs.e (x := x) (by simp [Op.operands])).trans hx; ⟨.int .i64 (-m), by
    have e : IntKind.i64.wrap (0 - m) = -m := by rw [wrap64_of (by omega) (by omega)]; omega
    simp only [Int.zero_sub] at e
    simp [execOp, hr.evp hx, Op.unary, Op.intArith, e], .sh (.p _)⟩)

theorem j_negw {xt : TypeId} {x : Operand} {k : IntKind} {m : Int} (hx : ev s.sl x = .p (.int k m)) :
    OpJ C all ⟨some d, .unOp .neg xt x, ty, pos, aft, none⟩ s [] (EV d (.p (.int k (k.wrap (-m))))) :=
  j_pure (fun s' hs a w g hr => have hx := (hs.e (x := x) (by simp [Op.operands])).trans hx; ⟨.int k (k.wrap (-m)), by simp [execOp, hr.evp hx, Op.unary, Op.intArith], .sh (.p _)⟩)

theorem run_equalIn_bool {P : Program} {t : TypeId} (ht : P.underlying t = some .bool) (b c : Bool) (w : World) (n : Nat) : (Op.equalIn (n + 1) t (.bool b) (.bool c)).run P w = .ok (b == c) w := by
  simp [Op.equalIn, run_underlying ht]
theorem run_equal_bool {P : Program} {t : TypeId} (ht : P.underlying t = some .bool) (b c : Bool) (w : World) : (Op.equal t (.bool b) (.bool c)).run P w = .ok (b == c) w := by
  have := run_equalIn_bool ht b c w 9999
  simpa only [Op.equal, Op.maxDepth] using this
theorem j_eqb {xt yt : TypeId} {x y : Operand} {b c : Bool} (ht : C.P.underlying xt = some .bool) (hx : ev s.sl x = .p (.bool b)) (hy : ev s.sl y = .p (.bool c)) :
    OpJ C all ⟨some d, .binOp .eql xt x y yt, ty, pos, aft, none⟩ s [] (EV d (.p (.bool (b == c)))) :=
  j_pure (fun s' hs a w g hr => have hx := (hs.e (x := x) (by simp [Op.operands])).trans hx; have hy := (hs.e (x := y) (by simp [Op.operands])).trans hy; ⟨.bool (b == c), by
    have e : (eqGuard .eql xt x y (.bool b) (.bool c)).run C.P w = .ok () w := rfl
    have e2 : (Go.binOp .eql xt (.bool b) (.bool c)).run C.P w = .ok (.bool (b == c)) w := by
      simp only [Go.binOp, Sem.run_bind, run_equal_bool ht, Result.andThen_ok, Sem.run_pure]
    simp only [execOp, hr.evp hx, hr.evp hy, Sem.run_bind, e, e2, Result.andThen_ok, Sem.run_pure], .sh (.p _)⟩)

theorem j_neb {xt yt : TypeId} {x y : Operand} {b c : Bool} (ht : C.P.underlying xt = some .bool) (hx : ev s.sl x = .p (.bool b)) (hy : ev s.sl y = .p (.bool c)) :
    OpJ C all ⟨some d, .binOp .neq xt x y yt, ty, pos, aft, none⟩ s [] (EV d (.p (.bool (b != c)))) :=
  j_pure (fun s' hs a w g hr => have hx := (hs.e (x := x) (by simp [Op.operands])).trans hx; have hy := (hs.e (x := y) (by simp [Op.operands])).trans hy; ⟨.bool (b != c), by
    have e : (eqGuard .neq xt x y (.bool b) (.bool c)).run C.P w = .ok () w := rfl
    have e2 : (Go.binOp .neq xt (.bool b) (.bool c)).run C.P w = .ok (.bool (b != c)) w := by
      simp only [Go.binOp, Sem.run_bind, run_equal_bool ht, Result.andThen_ok, Sem.run_pure]; rfl
    simp only [execOp, hr.evp hx, hr.evp hy, Sem.run_bind, e, e2, Result.andThen_ok, Sem.run_pure], .sh (.p _)⟩)

theorem j_extract {x : Operand} {i : Nat} {xs : List V} {v : V} (hx : ev s.sl x = .tup xs) (hi : xs[i]? = some v) :
    OpJ C all ⟨some d, .extract x i, ty, pos, aft, none⟩ s [] (EV d (v)) :=
  j_pure (fun s' hs a w g hr => have hx := (hs.e (x := x) (by simp [Op.operands])).trans hx; by
    have hv := hr.ev x
    rw [hx] at hv
    have key : ∃ cs : Array Value, a.eval x = .tuple cs ∧ cs.size = xs.length ∧ ∀ (i : Nat) (v : V) (u : Value), xs[i]? = some v → cs[i]? = some u → VR g (XX C s'.hp g w) w v u := by
      generalize a.eval x = u at hv
      cases hv with
      | sh h0 => cases h0 with
        | tup _ cs hl he => exact ⟨cs, rfl, hl, fun i v u h1 h2 => .sh (he i v u h1 h2)⟩
      | tup _ cs hl he => exact ⟨cs, rfl, hl, he⟩
    obtain ⟨cs, e, hl, he⟩ := key
    have hlt : i < cs.size := by rw [hl]; exact (List.getElem?_eq_some_iff.1 hi).1
    refine ⟨cs[i], ?_, he i v _ hi (by simp [hlt])⟩
    simp [execOp, e, Instr.extract, hlt])

end ops
end
end Go.Ab

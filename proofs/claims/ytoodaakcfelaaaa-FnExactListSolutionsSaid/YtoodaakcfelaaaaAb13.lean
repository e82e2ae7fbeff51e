/- More rules: rows let go beside objects that were handed over; calls whose results are not known beforehand; numbers of 64 bits held against each other. -/
import Derived.Test.YtoodaakcfelaaaaAb11
import Derived.Laws.StructEq
set_option linter.unusedSimpArgs false
set_option linter.unusedVariables false
namespace Go.Ab
def KeepO (hp : Heap) (k : Nat) : Obj → Prop
  | .row _ _ _ => ∃ e s es, look hp k = some (0, .row e s es)
  | .box _ _ => ∃ e xs, look hp k = some (0, .box e xs)
  | .deep _ _ _ => False
  | .map _ => ∃ kvs, look hp k = some (0, .map kvs)
  | .gone => False
def Keep (hp : Heap) : Nat → List Obj → Prop
  | _, [] => True
  | k, o :: r => KeepO hp k o ∧ Keep hp (k + 1) r
theorem Keep.at {hp : Heap} : ∀ {ins : List Obj} {k i : Nat} {o : Obj}, Keep hp k ins → ins[i]? = some o → KeepO hp (k + i) o
  | [], k, i, o, _, h2 => by simp at h2
  | o' :: r, k, 0, o, h, h2 => by simp at h2; subst h2; exact h.1
  | o' :: r, k, i + 1, o, h, h2 => by
    have := Keep.at h.2 (i := i) (by simpa using h2)
    rwa [show k + 1 + i = k + (i + 1) from by omega] at this
theorem keep_A {P : Program} {n : Nat} {w0 w : World} {ins : List Obj} {g0 g : Gh} {X : Nat → Prop} {hp : Heap} {id : Nat} {io : Nat × Obj} (hk : Keep hp 0 ins) (hid : ins.length ≤ id) (h : HR (fnCtx P n w0 ins g0 X) w hp g) (ho : look hp id = some io) :
    ∀ b ∈ g.fp id, ¬ (fnCtx P n w0 ins g0 X).A b := by
  rintro b hb ⟨i, jo, hi, hin⟩
  rw [num_look0] at hi
  cases hq : ins[i]? with
  | none => rw [hq] at hi; simp at hi
  | some o =>
    have hlt : i < ins.length := (List.getElem?_eq_some_iff.1 hq).1
    have hkk := hk.at hq
    rw [Nat.zero_add] at hkk
    have hfl := h.wf.2 i o hq
    have hl := h.lnk i
    have key : ∃ o', look hp i = some (0, o') ∧ b ∈ g.fp i := by
      cases o with
      | row e s es =>
        obtain ⟨e', s', es', ho'⟩ := hkk
        have hc := h.cur i 0 _ ho'
        have h1 : g0.cur i ≤ g.cur i := hl.1
        have h2 : g.val i = g0.val i := (hl.2 (show g0.cur i = g.cur i by omega)).1
        refine ⟨_, ho', ?_⟩
        have hfl : (g0.val i = .slice none 0 0 ∧ g0.fp i = []) ∨ ∃ b o k c, g0.val i = .slice (some ⟨b, o, none⟩) k c ∧ g0.fp i = [b] := hfl
        rcases hfl with ⟨_, q⟩ | ⟨b1, o1, k1, c1, q1, q2⟩
        · rw [q] at hin; simp at hin
        · rcases (h.obj i 0 _ ho').flat with ⟨r, _⟩ | ⟨b2, o2, k2, c2, r1, r2⟩
          · rw [h2, q1] at r; simp at r
          · rw [h2, q1] at r1; simp at r1; rw [r2, ← r1.1.1, ← q2]; exact hin
      | box e xs =>
        obtain ⟨e', xs', ho'⟩ := hkk
        have hc := h.cur i 0 _ ho'
        have h1 : g0.cur i ≤ g.cur i := hl.1
        have h2 : g.blk i = g0.blk i := (hl.2 (show g0.cur i = g.cur i by omega)).2.1
        refine ⟨_, ho', ?_⟩
        have hfl : ∃ b, g0.blk i = some b ∧ g0.fp i = [b] := hfl
        obtain ⟨b1, q1, q2⟩ := hfl
        obtain ⟨b2, r1, r2⟩ := (h.obj i 0 _ ho').flat
        rw [h2, q1] at r1; simp at r1; rw [r2, ← r1, ← q2]; exact hin
      | map kvs =>
        obtain ⟨kvs', ho'⟩ := hkk
        have hc := h.cur i 0 _ ho'
        have h1 : g0.cur i ≤ g.cur i := hl.1
        have h2 : g.blk i = g0.blk i := (hl.2 (show g0.cur i = g.cur i by omega)).2.1
        refine ⟨_, ho', ?_⟩
        have hfl : ∃ b, g0.blk i = some b ∧ g0.fp i = [b] := hfl
        obtain ⟨b1, q1, q2⟩ := hfl
        obtain ⟨b2, r1, r2⟩ := (h.obj i 0 _ ho').flat
        rw [h2, q1] at r1; simp at r1; rw [r2, ← r1, ← q2]; exact hin
      | deep => exact hkk.elim
      | gone => exact hkk.elim
    obtain ⟨o', ho', h3⟩ := key
    exact h.dis i id _ _ ho' ho (by omega) b h3 hb
section
variable {C : Ctx} {s : St}
theorem Rel.freeze2 {a : Act} {w : World} {g : Gh} (hr : Rel C a w s g) {t id ver e sz : Nat} {es : List (List V)} (hA : ∀ b ∈ g.fp id, ¬ C.A b) (ht : get s.sl t = .own id ver) (ho : look s.hp id = some (ver, .row e sz es)) :
    Rel C a w ⟨(t, .sl es) :: s.sl, (id, none) :: s.hp⟩ g := by
  have hk := drop_look (hp := s.hp) (id := id)
  have hX : ∀ b, XX C s.hp g w b → XX C ((id, none) :: s.hp) g w b := fun b hb => hb.mono hk
  have hb := drop_XX hr.hr ho (fun b hb => ((hr.hr.blk id _ b ho hb).2).resolve_right (hA b hb))
  refine ⟨hr.size, hr.defers, hr.hr.weaken hk, fun t' => ?_⟩
  simp only [get]
  by_cases e : t = t'
  · subst e
    simp only [Nat.beq_refl, cond_true]
    obtain ⟨h1, _, _⟩ := hr.row (x := .tmp t) ht ho
    have : a.tmps.getD t undef = g.val id := h1
    rw [this]
    exact .sh (row_sl hr.hr ho hX hb)
  · rw [qjx e]
    exact (hr.slots t').fits ⟨fun _ => Nat.le_refl _, fun _ _ => rfl, fun _ _ => rfl, fun _ _ => rfl, hX, fun _ _ => rfl⟩
end
section
variable {P : Program} {n : Nat} {w0 : World} {ins : List Obj} {g0 : Gh} {X : Nat → Prop} {sl : Slots} {hp : Heap} {c : Code} {Q : Exit → St → Prop}
theorem qzq {id ver e sz : Nat} {es : List (List V)} (t : Nat) (hk : Keep hp 0 ins) (hid : Nat.ble ins.length id = true) (ht : get sl t = .own id ver) (ho : look hp id = some (ver, .row e sz es)) (h : AWp (fnCtx P n w0 ins g0 X) c Q ⟨(t, .sl es) :: sl, (id, none) :: hp⟩) : AWp (fnCtx P n w0 ins g0 X) c Q ⟨sl, hp⟩ :=
  fun a w g hr => h a w g (hr.freeze2 (s := ⟨sl, hp⟩) (keep_A hk (Nat.le_of_ble_eq_true hid) hr.hr ho) ht ho)
end
section
variable {C : Ctx} {all : Array Oper} {sl : Slots} {hp : Heap} {d : Nat} {ty : TypeId} {pos : String} {aft : Array Edge} {l : List Oper} {K : St → Prop}
theorem ren0 {π : List (Nat × Nat)} {vers : Nat → Nat} {d : Nat} : π ++ svOf d vers 0 = π := by simp [svOf]
theorem op_callE {f : FuncId} {xs : List Operand} {ats : Array TypeId} {args : List V} {ins : List Obj} {ι : Type} {R : ι → Prop} {r0 v : ι → V} {ins1 : ι → List Obj} {hp1 : ι → Heap} (π : List (Nat × Nat)) (vw : Bool) (hE : Ent' C.P f)
    (hF : Fn C.P f args ins (fun r i n => ∃ x, R x ∧ r = r0 x ∧ i = ins1 x ∧ n = []))
    (hargs : ArgsOk hp π ins.length vw (xs.map (Ab.ev sl)) args) (hπ : ObjsOk ins.length π hp π ins) (hπn : nodupB (π.map (·.1)) = true)
    (hr0 : ∀ x, okV ins.length (r0 x) = true) (hr1 : ∀ x, (ins1 x).all (okO ins.length) = true) (hpl : vw = false ∨ ∀ x, plV (r0 x) = true ∧ ∀ o ∈ ins1 x, plO o) (hv : ∀ x, ren π (r0 x) = v x) (hh : ∀ x, ents π π (ins1 x) = hp1 x)
    (h : ∀ x, R x → AOps C all l K ⟨(d, v x) :: sl, hp1 x ++ hp⟩) :
    AOps C all (⟨some d, .call { callee := .value (.func f), args := xs.toArray, argTypes := ats }, ty, pos, aft, none⟩ :: l) K ⟨sl, hp⟩ := by
  refine op_call π vw hE hF hargs hπ hπn ?_
  rintro r ins' new ⟨x, hx, rfl, rfl, rfl⟩
  refine ⟨by simpa using hr0 x, (fun o ho => by rw [List.append_nil] at ho; simpa using List.all_eq_true.1 (hr1 x) o ho), fun vers => by simpa [svOf] using hπn, hpl.imp id (fun k => by simpa using k x), fun vers => ?_⟩
  have := h x hx
  rw [← hv x, ← hh x] at this
  simpa only [List.length_nil, ren0, List.append_nil] using this
end
def EqT2 (P : Program) (t : Nat) : Prop := ∃ f0 f1 k0 k1, P.underlying t = some (.struct #[f0, f1]) ∧ P.stoodInHeld t = false ∧ P.eqGuardType P.depth t = false ∧ (f0.name == "_") = false ∧ (f1.name == "_") = false ∧ f0.offset = 0 ∧ f1.offset = 1 ∧
  P.underlying f0.type = some (.int k0) ∧ P.underlying f1.type = some (.int k1) ∧ LeafT P f0.type ∧ LeafT P f1.type
section
variable {C : Ctx} {all : Array Oper} {s : St} {d : Nat} {ty : TypeId} {pos : String} {aft : Array Edge} {xt yt : TypeId} {x y : Operand} {a b c e : Int}
end
theorem Rel.freezebox {C : Ctx} {s : St} {a : Act} {w : World} {g : Gh} (hr : Rel C a w s g) {id ver eb j id2 ver2 e sz : Nat} {xs : List V} {es : List (List V)} (hne : id2 ≠ id) (hA : ∀ b ∈ g.fp id2, ¬ C.A b) (hb : look s.hp id = some (ver, .box eb xs)) (hj : xs[j]? = some (.own id2 ver2)) (ho : look s.hp id2 = some (ver2, .row e sz es)) :
    Rel C a w ⟨s.sl, (id, some (ver, .box eb (xs.set j (.sl es)))) :: (id2, none) :: s.hp⟩ g := by
  have hk := drop_look (hp := s.hp) (id := id2)
  have hX : ∀ b, XX C s.hp g w b → XX C ((id2, none) :: s.hp) g w b := fun b hb => hb.mono hk
  have hbb := drop_XX hr.hr ho (fun b hb => ((hr.hr.blk id2 _ b ho hb).2).resolve_right (hA b hb))
  have hsl := row_sl hr.hr ho hX hbb
  have hcur := hr.hr.cur id2 ver2 _ ho
  have hr2 : Rel C a w ⟨s.sl, (id2, none) :: s.hp⟩ g := ⟨hr.size, hr.defers, hr.hr.weaken hk, fun t' => (hr.slots t').fits ⟨fun _ => Nat.le_refl _, fun _ _ => rfl, fun _ _ => rfl, fun _ _ => rfl, hX, fun _ _ => rfl⟩⟩
  refine hr2.boxset (s := ⟨s.sl, (id2, none) :: s.hp⟩) (id := id) (ver := ver) (e := eb) (j := j) (v := .sl es) (by simp only [look, qjx hne, cond_false]; exact hb) ?_
  rintro u ⟨v0, h3, h4⟩
  rw [hj] at h3
  simp at h3; subst h3
  have h6 : u = g.val id2 := by
    cases h4 with
    | sh h => cases h
    | own _ _ _ _ _ h => exact h hcur.symm
  rw [h6]; exact .sh hsl
section
variable {P : Program} {n : Nat} {w0 : World} {ins : List Obj} {g0 : Gh} {X : Nat → Prop} {sl : Slots} {hp : Heap} {c : Code} {Q : Exit → St → Prop}
theorem a_freezeboxK {ver eb id2 ver2 e sz : Nat} {xs : List V} {es : List (List V)} (j : Nat) (id : Nat) (hne : id2 ≠ id) (hk : Keep hp 0 ins) (hid : Nat.ble ins.length id2 = true) (hb : look hp id = some (ver, .box eb xs)) (hj : xs[j]? = some (.own id2 ver2)) (ho : look hp id2 = some (ver2, .row e sz es))
    (h : AWp (fnCtx P n w0 ins g0 X) c Q ⟨sl, (id, some (ver, .box eb (xs.set j (.sl es)))) :: (id2, none) :: hp⟩) : AWp (fnCtx P n w0 ins g0 X) c Q ⟨sl, hp⟩ :=
  fun a w g hr => h a w g (hr.freezebox (s := ⟨sl, hp⟩) hne (keep_A hk (Nat.le_of_ble_eq_true hid) hr.hr ho) hb hj ho)
end
theorem Rel.fn {C : Ctx} {s : St} {a : Act} {w : World} {g : Gh} {x : Operand} {f : FuncId} {caps : List V} (hr : Rel C a w s g) (hx : Ab.ev s.sl x = .fn f caps) :
    ∃ cs : Array Value, a.eval x = .func (.func f) #[] cs ∧ cs.size = caps.length ∧ ∀ (i : Nat) (v : V) (u : Value), caps[i]? = some v → cs[i]? = some u → VR g (XX C s.hp g w) w v u := by
  have hv := hr.ev x
  rw [hx] at hv
  generalize a.eval x = u at hv
  cases hv with
  | sh h => cases h with
    | fn _ _ cs hl he => exact ⟨cs, rfl, hl, fun i v u h1 h2 => .sh (he i v u h1 h2)⟩
  | fn _ _ cs hl he => exact ⟨cs, rfl, hl, he⟩
theorem run_execCallF {P : Program} {f : FuncId} (h : Ent' P f) (a : Act) (x : Operand) (cs : Array Value) (hx : a.eval x = .func (.func f) #[] cs) (xs : List Operand) (ats : Array TypeId) (dst : Option Tmp) (ty : TypeId) (pos : String) (aft : Array Edge) (w : World) :
    (execOp a.eval ⟨dst, .call { callee := .value x, args := xs.toArray, argTypes := ats }, ty, pos, aft, none⟩).run P w = .ok (.enter f ((xs.map a.eval).toArray ++ cs)) w := by
  simp [execOp, resolve, hx, Deferred.ofValue, invoke, run_call h]
theorem evs_atF {C : Ctx} {s : St} {a : Act} {w : World} {g : Gh} (hr : Rel C a w s g) (xs : List Operand) {caps : List V} {cs : Array Value} (hl : cs.size = caps.length) (he : ∀ (i : Nat) (v : V) (u : Value), caps[i]? = some v → cs[i]? = some u → VR g (XX C s.hp g w) w v u) :
    ∀ (i : Nat) (v : V) (u : Value), (xs.map (Ab.ev s.sl) ++ caps)[i]? = some v → ((xs.map a.eval).toArray ++ cs)[i]? = some u → VR g (XX C s.hp g w) w v u := by
  intro i v u hv hu
  by_cases hi : i < xs.length
  · rw [List.getElem?_append_left (by simpa using hi)] at hv
    rw [Array.getElem?_append_left (by simpa using hi)] at hu
    exact evs_at hr xs i v u hv hu
  · rw [List.getElem?_append_right (by simp; omega)] at hv
    rw [Array.getElem?_append_right (by simp; omega)] at hu
    exact he _ v u (by simpa using hv) (by simpa using hu)
section
variable {C : Ctx} {all : Array Oper} {s : St} {d : Nat} {ty : TypeId} {pos : String} {aft : Array Edge} {l : List Oper} {K : St → Prop}
theorem j_callF0 {f : FuncId} {x : Operand} {caps : List V} {xs : List Operand} {ats : Array TypeId} {args : List V} {ins ins1 : List Obj} {r0 v : V} {hp1 : Heap} (π : List (Nat × Nat)) (vw : Bool) (ids : List Nat) (hx : Ab.ev s.sl x = .fn f caps) (hE : Ent' C.P f) (hF : Fn C.P f args ins (fun r i n => r = r0 ∧ i = ins1 ∧ n = []))
    (hargs : ArgsOk s.hp π ins.length vw (xs.map (Ab.ev s.sl) ++ caps) args) (hπ : ObjsOk ins.length π s.hp π ins) (hπn : nodupB (π.map (·.1)) = true) (hids : (π.map (·.1)).all (fun i => memN i ids) = true) (hids2 : vw = true → (xs.map (Ab.ev s.sl) ++ caps).all (fun v => (owns v).all (fun i => memN i ids)) = true)
    (hr0 : okV ins.length r0 = true) (hr1 : ∀ o ∈ ins1, okO ins.length o = true) (hpl : vw = false ∨ (plV r0 = true ∧ ∀ o ∈ ins1, plO o)) (hv : ren π r0 = v) (hh : ents π π ins1 = hp1) :
    OpJ C all ⟨some d, .call { callee := .value x, args := xs.toArray, argTypes := ats }, ty, pos, aft, none⟩ s ids ⟨some d, v, hp1, []⟩ := by
  intro s' hs hd a w g hr _ K' Q hK
  have hev : xs.map (Ab.ev s'.sl) = xs.map (Ab.ev s.sl) := List.map_congr_left fun x hx => hs.e (by simp [Op.operands, Call.operands, hx])
  have hx' : Ab.ev s'.sl x = .fn f caps := (hs.e (by simp [Op.operands, Call.operands])).trans hx
  obtain ⟨cs, hc1, hc2, hc3⟩ := hr.fn hx'
  have hπi : ∀ x ∈ π, x.1 ∈ ids := fun x hx => memN_iff.1 (List.all_eq_true.1 hids x.1 (List.mem_map.2 ⟨x, hx, rfl⟩))
  have hargs' : ArgsOk s'.hp π ins.length vw (xs.map (Ab.ev s'.sl) ++ caps) args := by
    rw [hev]
    exact args_agree hs (fun hw v hv i hi => memN_iff.1 (List.all_eq_true.1 (List.all_eq_true.1 (hids2 hw) v hv) i hi)) hargs
  have hc := call_core (d := d) (vals := (xs.map a.eval).toArray ++ cs) hF hr (by simp [hc2]) (evs_atF hr xs hc2 hc3) hargs' (keys_agree hs hπi hπi hπ) hπn (fun r ins' new hp => by
    obtain ⟨rfl, rfl, rfl⟩ := hp
    refine ⟨by simpa using hr0, by simpa using hr1, by simpa [svOf] using hπn, by simpa using hpl⟩)
  unfold opWp
  rw [if_pos (by simp [Region.wanted])]
  refine .inl ?_
  unfold Oper.wp
  rw [run_execCallF hE a x cs hc1, Oper.upon_enter]
  refine hc.mono ?_
  rintro e w' ⟨u, r, ins', new, G, rfl, ⟨rfl, rfl, rfl⟩, k1, k2, k3, k4⟩
  simp only [svOf, List.length_nil, List.range_zero, List.map_nil, List.append_nil, hh, hv] at k1 k2 k3 k4
  exact hK _ _ G ((hr.mem k1 k2).put (hd d rfl) k3) (fun j _ => k4 j (by simp))
end
section
variable {C : Ctx} {all : Array Oper} {sl : Slots} {hp : Heap} {d : Nat} {ty : TypeId} {pos : String} {aft : Array Edge} {l : List Oper} {K : St → Prop}
end
section
variable {P : Program} {n : Nat} {w0 : World} {ins : List Obj} {g0 : Gh} {X : Nat → Prop} {sl : Slots} {hp : Heap} {all : Array Oper} {l : List Oper} {K : St → Prop}
theorem op_freezeK {id ver e sz : Nat} {es : List (List V)} (t : Nat) (hk : Keep hp 0 ins) (hid : Nat.ble ins.length id = true) (ht : get sl t = .own id ver) (ho : look hp id = some (ver, .row e sz es)) (h : AOps (fnCtx P n w0 ins g0 X) all l K ⟨(t, .sl es) :: sl, (id, none) :: hp⟩) : AOps (fnCtx P n w0 ins g0 X) all l K ⟨sl, hp⟩ :=
  fun hb Q hQ a w g hr => h hb Q hQ a w g (hr.freeze2 (s := ⟨sl, hp⟩) (keep_A hk (Nat.le_of_ble_eq_true hid) hr.hr ho) ht ho)
end
end Go.Ab
namespace Go.Ab
theorem a_nil {C : Ctx} {sl : Slots} {hp : Heap} {c : Code} {Q : Exit → St → Prop} (t : Nat) (ht : get sl t = .p (.slice none 0 0)) (h : AWp C c Q ⟨(t, .sl []) :: sl, hp⟩) : AWp C c Q ⟨sl, hp⟩ := by
  intro a w g hr
  refine h a w g ⟨hr.size, hr.defers, hr.hr, fun t' => ?_⟩
  show VR g (XX C hp g w) w (get ((t, V.sl []) :: sl) t') (a.tmps.getD t' undef)
  simp only [get]
  by_cases e : t = t'
  · subst e
    have h3 := hr.slots t
    have ht' : get (St.mk sl hp).sl t = .p (.slice none 0 0) := ht
    rw [ht'] at h3
    rw [h3.plain]
    simp only [Nat.beq_refl, cond_true]
    exact .sh (.nil _ _)
  · rw [qjx e]; exact hr.slots t'
end Go.Ab
namespace Go.Ab
section
variable {C : Ctx} {all : Array Oper} {s : St} {d : Nat} {ty : TypeId} {pos : String} {aft : Array Edge}
theorem j_append_ownN {t e sz bytes : TypeId} {z : Value} {x y : Operand} {id ver0 id2 ver2 e2 ver : Nat} {es es2 es' : List (List V)} (hne : d ≠ id) (ht : SlT C.P t e sz) (hz : ElT C.P e sz bytes z) (hzsz : z.cells.size = sz) (hx : Ab.ev s.sl x = .own id ver0) (ho : look s.hp id = some (ver0, .row e sz es))
    (hy : Ab.ev s.sl y = .own id2 ver2) (ho2 : look s.hp id2 = some (ver2, .row e2 sz es2)) (hl2 : es2.flatten.all lf = true) (hm : es.length + es2.length ≤ maxLen) (hb : (es.length + es2.length) * bytes ≤ 140737488355328) (he : es ++ es2 = es') :
    OpJ C all ⟨some d, .call { callee := .builtin .append, args := #[x, y], argTypes := #[t, t] }, ty, pos, aft, none⟩ s [id, id2] ⟨some d, .own d ver, [(d, some (ver, .row e sz es')), (id, none)], [(d, ver)]⟩ := by
  subst he
  exact j_step (hp' := [(d, some (ver, .row e sz (es ++ es2))), (id, none)]) (bp := [(d, ver)]) fun s' hs a w g hr hbp => by
    obtain rfl := qxb hbp
    have hx := (hs.e (x := x) (by simp [Op.operands, Call.operands])).trans hx
    have hy := (hs.e (x := y) (by simp [Op.operands, Call.operands])).trans hy
    have ho := (hs.hp id (by simp)).trans ho
    have ho2 := (hs.hp id2 (by simp)).trans ho2
    obtain ⟨e1, _, _⟩ := hr.row hx ho
    obtain ⟨e2, e3, _⟩ := hr.row hy ho2
    obtain ⟨u', w', g', h1, h2, h3, h4, h5, h6, h7⟩ := append_mv (e' := ty) hr.hr hne ht hz hzsz ho e3.src hl2 hm hb
    refine ⟨u', w', g', ?_, h2, h3, .own d _ _ h6 (by omega) (fun _ => h5.symm), fun j hj => h7 j (hj _ (List.mem_singleton.2 rfl))⟩
    simp [execOp, resolve, invoke, builtin, e1, e2, h1]
end
end Go.Ab

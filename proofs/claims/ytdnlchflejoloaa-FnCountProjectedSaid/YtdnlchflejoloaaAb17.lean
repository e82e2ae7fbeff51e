/- Maps from numbers, over the abstract state. -/
import Derived.Test.YtdnlchflejoloaaAb16
import Derived.MapKept
set_option linter.unusedSimpArgs false
set_option linter.unusedVariables false
namespace Go.Ab
def mapK (ks : List Int) : List (Value × Value) := ks.map (fun k => (.int .i64 k, .bool true))
def insK (ks : List Int) (n : Int) : List Int := if n ∈ ks then ks else ks ++ [n]
theorem findNow_ints {n : Int} : ∀ (es : List MapEntry) (ks : List Int) (i : Nat), es.map (fun x => (x.key, x.val)) = mapK ks →
    (n ∈ ks → ∃ j, Instr.findNow (.int .i64) (.int .i64 n) es i = some (some (i + j, .bool true)) ∧ ∃ e, es[j]? = some e ∧ e.key = .int .i64 n ∧ e.val = .bool true) ∧ (n ∉ ks → Instr.findNow (.int .i64) (.int .i64 n) es i = some none)
  | [], ks, i, h => by
    cases ks with
    | nil => exact ⟨fun h => by simp at h, fun _ => rfl⟩
    | cons k r => simp [mapK] at h
  | e :: es, ks, i, h => by
    cases ks with
    | nil => simp [mapK] at h
    | cons k r =>
      simp only [mapK, List.map_cons, List.cons.injEq, Prod.mk.injEq] at h
      obtain ⟨⟨h1, h2⟩, h3⟩ := h
      have ih := findNow_ints (n := n) es r (i + 1) h3
      have hs : Instr.sameNow (.int .i64) (.int .i64 n) e.key = some (n == k) := by rw [h1]; simp [Instr.sameNow]
      by_cases hk : n = k
      · subst hk
        have hs' : Instr.sameNow (.int .i64) (.int .i64 n) e.key = some true := by rw [hs]; simp
        refine ⟨fun _ => ⟨0, ?_, e, rfl, h1, h2⟩, fun hn => absurd (by simp) hn⟩
        simp only [Instr.findNow, hs', h2, Nat.add_zero]
      · have hs' : Instr.sameNow (.int .i64) (.int .i64 n) e.key = some false := by rw [hs]; simp [hk]
        refine ⟨fun hm => ?_, fun hn => ?_⟩
        · obtain ⟨j, q1, e', q2, q3, q4⟩ := ih.1 (by rcases List.mem_cons.1 hm with q | q; (· exact absurd q hk); (· exact q))
          refine ⟨j + 1, ?_, e', by simpa using q2, q3, q4⟩
          simp only [Instr.findNow, hs']
          rw [q1, show i + 1 + j = i + (j + 1) by omega]
        · simp only [Instr.findNow, hs']
          exact ih.2 (fun q => hn (by simp [q]))
section
variable {C : Ctx}
theorem HR.newMap {w : World} {hp : Heap} {g : Gh} {i : Nat} (H : HR C w hp g) :
    HR C (w.alloc (.map #[] 0)) ((i, some (g.cur i + 1, .map [])) :: hp) (g.upd i (g.cur i + 1) (.map (some w.heap.size)) (some w.heap.size) [w.heap.size] 0) ∧
      Fits g (XX C hp g w) w (g.upd i (g.cur i + 1) (.map (some w.heap.size)) (some w.heap.size) [w.heap.size] 0) (XX C ((i, some (g.cur i + 1, .map [])) :: hp) (g.upd i (g.cur i + 1) (.map (some w.heap.size)) (some w.heap.size) [w.heap.size] 0) (w.alloc (.map #[] 0))) (w.alloc (.map #[] 0)) := by
  have hh : (w.alloc (.map #[] 0)).heap = w.heap.push (.map #[] 0) := rfl
  generalize hG : g.upd i (g.cur i + 1) (.map (some w.heap.size)) (some w.heap.size) [w.heap.size] 0 = G
  have gi : G.cur i = g.cur i + 1 ∧ G.val i = .map (some w.heap.size) ∧ G.blk i = some w.heap.size ∧ G.fp i = [w.heap.size] := by subst hG; simp [Gh.upd]
  have go : ∀ j, j ≠ i → G.cur j = g.cur j ∧ G.val j = g.val j ∧ G.blk j = g.blk j ∧ G.fp j = g.fp j ∧ G.sz j = g.sz j := by intro j hj; subst hG; exact Gh.upd_other j hj
  have hlk : ∀ {j : Nat} {io : Nat × Obj}, look ((i, some (g.cur i + 1, .map [])) :: hp) j = some io → (j = i ∧ io = (g.cur i + 1, .map [])) ∨ (j ≠ i ∧ look hp j = some io) := by
    intro j io hj
    rw [look_cons] at hj
    by_cases e : j = i
    · rw [if_pos e] at hj; exact .inl ⟨e, (Option.some.inj hj).symm⟩
    · rw [if_neg e] at hj; exact .inr ⟨e, hj⟩
  refine H.chg (fun _ => False) (fun j => j = i) rfl rfl rfl (by rw [hh]; simp) (fun b h => h.elim) (fun b hb _ => by rw [hh, Array.getElem?_push, if_neg (by omega)]) (fun j => ?_) (fun j e => ?_) (fun j io hj hN => ?_) (fun j io hj hN => ?_) (fun i' j io jo hNi hNj hi hj hij x hx => absurd (hNi.trans hNj.symm) hij) (fun hf j vj o hN hj => ?_)
  · by_cases e : j = i
    · subst e; rw [gi.1]; omega
    · rw [(go j e).1]; exact Nat.le_refl _
  · by_cases e1 : j = i
    · subst e1; rw [gi.1] at e; omega
    · obtain ⟨_, a1, a2, _, a3⟩ := go j e1; exact ⟨a1, a2, a3⟩
  · rcases hlk hj with ⟨e, _⟩ | ⟨_, h2⟩
    · exact absurd e hN
    · exact ⟨h2, (go j hN).1, (go j hN).2.2.2.1, fun _ _ h => h⟩
  · subst hN
    rcases hlk hj with ⟨_, rfl⟩ | ⟨e, _⟩
    · refine ⟨gi.1, fun x hx => ?_⟩
      rw [gi.2.2.2] at hx
      simp at hx; subst hx
      exact ⟨by rw [hh]; simp, .inr (Nat.le_refl _)⟩
    · exact absurd rfl e
  · subst hN
    rcases hlk hj with ⟨_, e⟩ | ⟨e, _⟩
    · simp only [Prod.mk.injEq] at e; obtain ⟨_, rfl⟩ := e
      exact ⟨w.heap.size, #[], 0, gi.2.2.1, gi.2.2.2, gi.2.1, by rw [hh]; simp, rfl⟩
    · exact absurd rfl e
theorem HR.setMap {w : World} {hp : Heap} {g : Gh} {id ver b clock' : Nat} {kvs kvs' : List (Value × Value)} {es' : Array MapEntry} (H : HR C w hp g) (ho : look hp id = some (ver, .map kvs)) (hb : g.fp id = [b]) (hk : es'.toList.map (fun x => (x.key, x.val)) = kvs') :
    HR C { w with heap := w.heap.setIfInBounds b (.map es' clock') } ((id, some (ver, .map kvs')) :: hp) g ∧
      Fits g (XX C hp g w) w g (XX C ((id, some (ver, .map kvs')) :: hp) g { w with heap := w.heap.setIfInBounds b (.map es' clock') }) { w with heap := w.heap.setIfInBounds b (.map es' clock') } := by
  have hbl := (H.blk id _ b ho (by rw [hb]; simp)).1
  have hlk : ∀ {j : Nat} {io : Nat × Obj}, look ((id, some (ver, .map kvs')) :: hp) j = some io → (j = id ∧ io = (ver, .map kvs')) ∨ (j ≠ id ∧ look hp j = some io) := by
    intro j io hj
    rw [look_cons] at hj
    by_cases e : j = id
    · rw [if_pos e] at hj; exact .inl ⟨e, (Option.some.inj hj).symm⟩
    · rw [if_neg e] at hj; exact .inr ⟨e, hj⟩
  refine H.chg (fun x => x = b) (fun j => j = id) rfl rfl rfl (by simp) (fun x hx => ⟨id, _, ho, by rw [hb, hx]; simp⟩) (fun x hx hn => by show (w.heap.setIfInBounds b _)[x]? = _; rw [Array.getElem?_setIfInBounds_ne (fun e => hn e.symm)]) (fun j => Nat.le_refl _) (fun j e => ⟨rfl, rfl, rfl⟩) (fun j io hj hN => ?_) (fun j io hj hN => ?_) (fun i' j io jo hNi hNj hi hj hij x hx => absurd (hNi.trans hNj.symm) hij) (fun hf j vj o hN hj => ?_)
  · rcases hlk hj with ⟨e, _⟩ | ⟨_, h2⟩
    · exact absurd e hN
    · refine ⟨h2, rfl, rfl, fun x hx e => ?_⟩
      subst e
      exact H.dis j id _ _ h2 ho hN x hx (by rw [hb]; simp)
  · subst hN
    rcases hlk hj with ⟨_, rfl⟩ | ⟨e, _⟩
    · refine ⟨H.cur _ _ _ ho, fun x hx => ?_⟩
      rw [hb] at hx; simp at hx; subst hx
      exact ⟨by simpa using hbl, .inl rfl⟩
    · exact absurd rfl e
  · subst hN
    rcases hlk hj with ⟨_, e⟩ | ⟨e, _⟩
    · simp only [Prod.mk.injEq] at e; obtain ⟨_, rfl⟩ := e
      obtain ⟨b', es, c, q1, q2, q3, q4, q5⟩ := H.obj j ver _ ho
      rw [hb] at q2; simp at q2; subst q2
      exact ⟨b, es', clock', q1, hb, q3, by show (w.heap.setIfInBounds b _)[b]? = _; rw [Array.getElem?_setIfInBounds_self_of_lt hbl], hk⟩
    · exact absurd rfl e
end
section
variable {C : Ctx} {all : Array Oper} {s : St} {d : Nat} {ty : TypeId} {pos : String} {aft : Array Edge}
theorem j_makeMap {t : TypeId} {ver : Nat} : OpJ C all ⟨some d, .makeMap t none, ty, pos, aft, none⟩ s [] (EN d (.own d ver) d ver (.map [])) :=
  j_step (hp' := [(d, some (ver, .map []))]) (bp := some (d, ver)) fun s' hs a w g hr hbp => by
    obtain rfl := bump_eq hbp
    obtain ⟨h2, h3⟩ := hr.hr.newMap (i := d)
    refine ⟨.map (some w.heap.size), w.alloc (.map #[] 0), _, ?_, h2, h3, .own d _ _ rfl (by simp [Gh.upd]) (fun _ => by simp [Gh.upd]), fun j hj => upd_cur j hj⟩
    simp [execOp, Instr.makeMap]
theorem OR.map_at {g : Gh} {X : Nat → Prop} {w : World} {id : Nat} {kvs : List (Value × Value)} (h : OR g X w id (.map kvs)) : ∃ b es clock, g.fp id = [b] ∧ g.val id = .map (some b) ∧ w.heap[b]? = some (.map es clock) ∧ es.toList.map (fun x => (x.key, x.val)) = kvs := by
  obtain ⟨b, es, c, _, h2, h3, h4, h5⟩ := h; exact ⟨b, es, c, h2, h3, h4, h5⟩
theorem j_len_mapI {tt k e : TypeId} {x : Operand} {id ver : Nat} {ks : List Int} (ht : C.P.underlying tt = some (.map k e)) (hx : Ab.ev s.sl x = .own id ver) (ho : look s.hp id = some (ver, .map (mapK ks))) :
    OpJ C all ⟨some d, .call { callee := .builtin .len, args := #[x], argTypes := #[tt] }, ty, pos, aft, none⟩ s [id] (EV d (.p (.int .i64 ks.length))) :=
  j_pure (fun s' hs a w g hr => have hx := (hs.e (x := x) (by simp [Op.operands, Call.operands])).trans hx; have ho := (hs.hp id (by simp)).trans ho; by
    obtain ⟨e1, _⟩ := hr.ownv hx ho
    obtain ⟨b, es, clock, _, q2, q3, q4⟩ := (hr.hr.obj id ver _ ho).map_at
    have hl : es.size = ks.length := by
      have := congrArg List.length q4
      simpa [mapK] using this
    refine ⟨.int .i64 ks.length, ?_, .sh (.p _)⟩
    have hln : (Builtin.len_ #[tt] ty #[.map (some b)]).run C.P w = .ok (.int .i64 ks.length) w := by
      simp [Builtin.len_, run_underlying ht, MapKept.run_getObj_map q3, hl, goInt]
    simp [execOp, resolve, invoke, builtin, e1, q2, hln])
theorem j_mapSetI {tt kt et : TypeId} {x y z : Operand} {id ver : Nat} {ks : List Int} {n : Int} (ht : C.P.underlying tt = some (.map kt et)) (hkt : C.P.underlying kt = some (.int .i64)) (hx : Ab.ev s.sl x = .own id ver) (ho : look s.hp id = some (ver, .map (mapK ks))) (hy : Ab.ev s.sl y = .p (.int .i64 n)) (hz : Ab.ev s.sl z = .p (.bool true)) :
    OpJ C all ⟨none, .mapUpdate tt x y z, ty, pos, aft, none⟩ s [id] (ES id ver (.map (mapK (insK ks n)))) :=
  j_eff (hp' := [(id, some (ver, .map (mapK (insK ks n))))]) fun s' hs a w g hr => by
    have hx := (hs.e (x := x) (by simp [Op.operands])).trans hx
    have hy := (hs.e (x := y) (by simp [Op.operands])).trans hy
    have hz := (hs.e (x := z) (by simp [Op.operands])).trans hz
    have ho := (hs.hp id (by simp)).trans ho
    obtain ⟨e1, _⟩ := hr.ownv hx ho
    have e2 := (hr.ev y); rw [hy] at e2
    have e3 := (hr.ev z); rw [hz] at e3
    have e2 := e2.plain
    have e3 := e3.plain
    obtain ⟨b, es, clock, q1, q2, q3, q4⟩ := (hr.hr.obj id ver _ ho).map_at
    have hf := findNow_ints (n := n) es.toList ks 0 q4
    have hck : (Instr.checkKey false 10000 kt (.int .i64 n)).run C.P w = .ok () w := by
      exact MapKept.run_checkKey hkt (show MapKept.IsKey (.int .i64) (.int .i64 n) from rfl) false 9999
    by_cases hm : n ∈ ks
    · obtain ⟨j, h1, e, h2, h3, h4⟩ := hf.1 hm
      rw [Nat.zero_add] at h1
      have hfk : (Instr.findKey kt (.int .i64 n) es.toList).run C.P w = .ok (some (j, .bool true)) w := by
        simp [Instr.findKey, run_underlying hkt, h1]
      have h2' : es[j]? = some e := by simpa using h2
      have hsb : (Instr.keyThatStays (((es[j]?).map (·.key)).getD (.int .i64 n)) (.int .i64 n)).run C.P w = .ok (.int .i64 n) w := by
        rw [h2']
        simp [Instr.keyThatStays, h3, Instr.sameBits]
      have hset := hr.hr.setMap (clock' := clock) (es' := es.modify j fun e => { e with key := .int .i64 n, val := .bool true }) (kvs' := mapK (insK ks n)) ho q1 (by
        rw [insK, if_pos hm, ← q4]
        apply List.ext_getElem?
        intro i
        simp only [Array.toList_modify, List.getElem?_map, List.getElem?_modify]
        by_cases e0 : j = i
        · subst e0
          have : es.toList[j]? = some e := h2
          simp [this, h3, h4]
        · cases es.toList[i]? <;> simp [e0])
      refine ⟨_, g, ?_, hset.1, hset.2, fun _ => rfl⟩
      simp only [execOp, e1, e2, e3, q2, Instr.mapUpdate, Sem.run_bind, run_underlying ht, Result.andThen_ok, MapKept.run_getObj_map q3, hck, hfk, hsb, MapKept.run_setObj_map _ q3, Sem.run_pure]
    · have h1 := hf.2 hm
      have hfk : (Instr.findKey kt (.int .i64 n) es.toList).run C.P w = .ok none w := by
        simp [Instr.findKey, run_underlying hkt, h1]
      have hset := hr.hr.setMap (clock' := clock + 1) (es' := es.push { key := .int .i64 n, val := .bool true, born := clock }) (kvs' := mapK (insK ks n)) ho q1 (by
        rw [insK, if_neg hm, mapK, List.map_append, Array.toList_push, List.map_append, q4]; rfl)
      refine ⟨_, g, ?_, hset.1, hset.2, fun _ => rfl⟩
      simp only [execOp, e1, e2, e3, q2, Instr.mapUpdate, Sem.run_bind, run_underlying ht, Result.andThen_ok, MapKept.run_getObj_map q3, hck, hfk, MapKept.run_setObj_map _ q3, Sem.run_pure]
end
theorem mapEq {v : Nat} {ks ks' : List Int} (h : ks = ks') : (some (v, Obj.map (mapK ks)) : Option (Nat × Obj)) = some (v, .map (mapK ks')) := by rw [h]
end Go.Ab

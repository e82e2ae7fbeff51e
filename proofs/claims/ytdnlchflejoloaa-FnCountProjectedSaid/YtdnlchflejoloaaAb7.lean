/- make, append, cuts, conversions, min and max, over the abstract state. -/
import Derived.Test.YtdnlchflejoloaaAb6
set_option linter.unusedSimpArgs false
set_option linter.unusedVariables false
namespace Go.Ab
section
variable {C : Ctx} {all : Array Oper} {s : St} {d : Nat} {ty : TypeId} {pos : String} {aft : Array Edge}

/-- 'make([]T, n)'. -/
theorem j_make {t e sz bytes : TypeId} {n ver : Nat} {x y : Operand} {z : Value} {zs : List V} {k k' : IntKind} {i j : Int} (ht : SlT C.P t e sz) (hz : ElT C.P e sz bytes z) (hzs : z.cells.toList.map V.p = zs) (hzl : zs.length = sz) (hsz0 : 0 < sz) (hx : Ab.ev s.sl x = .p (.int k i)) (hy : Ab.ev s.sl y = .p (.int k' j))
    (hi : i = n) (hj : j = n) (hb : n * bytes ≤ 281474976710656) (hm : n ≤ maxLen) :
    OpJ C all ⟨some d, .makeSlice t x y, ty, pos, aft, none⟩ s [] (EN d (.own d ver) d ver (.row e sz (List.replicate n zs))) :=
  j_step (hp' := [(d, some (ver, .row e sz (List.replicate n zs)))]) (bp := some (d, ver)) fun s' hs a w g hr hbp => by
    obtain rfl := bump_eq hbp
    have hx := (hs.e (x := x) (by simp [Op.operands])).trans hx
    have hy := (hs.e (x := y) (by simp [Op.operands])).trans hy
    subst hi; subst hj
    obtain ⟨ht1, ht2⟩ := ht
    obtain ⟨ii, h1, h2, h3, h4⟩ := info_parts hz
    have hzsz : z.cells.size = sz := by rw [← Array.length_toList, ← hzl, ← hzs]; simp
    have hes : ∀ x ∈ List.replicate n zs, x.length = sz := fun x hx => by rw [List.eq_of_mem_replicate hx]; exact hzl
    have hmm := hm
    unfold maxLen at hmm
    have hb' : (ii.bytes : Int) * (n : Int) ≤ 281474976710656 := by
      have h : ((n * bytes : Nat) : Int) ≤ 281474976710656 := by omega
      rw [h4, Int.mul_comm]; rwa [Int.natCast_mul] at h
    have hrun := run_make (P := C.P) w t e ii z ht1 h1 h2 k k' n n (by omega) (Int.le_refl _) hb' (by omega)
    simp only [Int.toNat_natCast, h3] at hrun
    obtain ⟨h5, h6⟩ := hr.hr.new (i := d) (o := .row e sz (List.replicate n zs)) (cur := madeCells z.cells (n * sz)) (e := e) (w1 := w) rfl rfl rfl rfl (.slice (some ⟨w.heap.size, 0, none⟩) n n) sz (fun g' X' w' hff e1 e2 e3 e4 e5 => row_or e4 hes (by rw [e1]; simp) e2 e3 e5 (by simp) hm (size_madeCells _ _) (fun j v u hj hu => by
      have hjl : j < n * sz := by
        have := (List.getElem?_eq_some_iff.1 hj).1
        rw [flatten_len hes] at this; simpa using this
      have h7 := flatten_at hes (k := j / sz) (f := j % sz) (x := zs) (by rw [List.getElem?_replicate, if_pos ((Nat.div_lt_iff_lt_mul hsz0).2 hjl)]) (Nat.mod_lt _ hsz0)
      rw [show j / sz * sz + j % sz = j from by rw [Nat.mul_comm]; exact Nat.div_add_mod j sz] at h7
      rw [h7, ← hzs, List.getElem?_map] at hj
      have hm' : j % sz < z.cells.size := by rw [hzsz]; exact Nat.mod_lt _ hsz0
      have h8 : z.cells.toList[j % sz]? = some z.cells[j % sz] := by simp [hm']
      rw [h8] at hj
      simp only [Option.map_some, Option.some.injEq] at hj
      simp [madeCells, hjl, hzsz] at hu
      rw [getElem!_pos z.cells (j % sz) hm'] at hu
      subst hj; subst hu; exact .p _))
    refine ⟨.slice (some ⟨w.heap.size, 0, none⟩) n n, _, _, ?_, h5, h6, .own d _ _ rfl (by simp [Gh.upd]) (fun _ => by simp [Gh.upd]), fun j hj => upd_cur j hj⟩
    simp only [execOp, hr.evp hx, hr.evp hy, Sem.run_bind, hrun, Result.andThen_ok, Sem.run_pure]

/-- The cells of a slice that is appended. -/
structure Src (C : Ctx) (hp : Heap) (g : Gh) (w : World) (u : Value) (sz : Nat) (es : List (List V)) : Prop where
  len : ∀ x ∈ es, x.length = sz
  cs : ∃ (ad : Option Addr) (c : Nat) (cs : List Value), u = .slice ad es.length c ∧ cs.length = es.flatten.length ∧ (es ≠ [] → ∃ a, ad = some a ∧ ∀ (j : Nat) (v : Value), cs[j]? = some v → w.cell? (a.add j) = some v) ∧
    (∀ (j : Nat) (v : V) (u : Value), es.flatten[j]? = some v → cs[j]? = some u → SR (XX C hp g w) w v u)

theorem SR.src {hp : Heap} {g : Gh} {w : World} {u : Value} {sz : Nat} {es : List (List V)} (h : SR (XX C hp g w) w (.sl es) u) (hsz : ∀ x ∈ es, x.length = sz) : Src C hp g w u sz es := by
  refine ⟨hsz, ?_⟩
  cases h with
  | nil a c => exact ⟨a, c, [], rfl, rfl, fun h => absurd rfl h, fun j v u h => by simp at h⟩
  | sl es s b o c cs hs hc hm hX hl hr he => exact ⟨_, c, cs, rfl, hl, fun _ => ⟨_, rfl, fun j v hv => by rw [add_lit]; exact hr j v hv⟩, he⟩

theorem OR.src {hp : Heap} {g : Gh} {w : World} {id e sz : Nat} {es : List (List V)} (h : OR g (XX C hp g w) w id (.row e sz es)) : Src C hp g w (g.val id) sz es := by
  obtain ⟨_, h1, h2⟩ := h
  refine ⟨h1, ?_⟩
  rcases h2 with ⟨rfl, h3, _⟩ | ⟨b, c, cur, h3, _, _, h4, h5, h6, h7, h8⟩
  · exact ⟨none, 0, [], h3, rfl, fun h => absurd rfl h, fun j v u h => by simp at h⟩
  · have hle : es.flatten.length ≤ cur.size := by rw [flatten_len h1, h7]; exact Nat.mul_le_mul_right _ h5
    have hcl : cur.toList.length = cur.size := Array.length_toList
    refine ⟨_, c, cur.toList.take es.flatten.length, h3, by rw [List.length_take, hcl]; omega, fun _ => ⟨_, rfl, fun j v hv => ?_⟩, fun j v u hj hu => ?_⟩
    · rw [add_lit, Nat.zero_add, cellOf h4]
      rw [List.getElem?_take] at hv
      split at hv
      · simpa using hv
      · cases hv
    · obtain ⟨u', e1, e2⟩ := h8 j v hj
      rw [List.getElem?_take] at hu
      split at hu
      · have : u = u' := by
          have h9 : cur[j]? = some u := by simpa using hu
          rw [e1] at h9; exact (Option.some.inj h9).symm
        rw [this]; exact e2
      · cases hu

theorem run_append_none {P : Program} {t e : TypeId} {sz : Nat} (ht : SlT P t e sz) (ty : TypeId) (base : Option Addr) (n c : Nat) (hn : n ≤ c) (ad : Option Addr) (c' : Nat) (w : World) :
    (Builtin.append_ #[t, t] ty #[.slice base n c, .slice ad 0 c']).run P w = .ok (.slice base n c) w := by
  obtain ⟨h1, h2⟩ := ht
  cases ad <;> cases base <;> simp [Builtin.append_, run_underlying h1, run_sizeOf h2, Builtin.lenOf, hn, Builtin.firstCells, loadCells, loadCellsFrom, storeCells]

theorem all_one {hp : Heap} {g : Gh} {w : World} {es : List (List V)} {cs : List Value} (hl : es.flatten.all lf = true) (hlen : cs.length = es.flatten.length) (h : ∀ (j : Nat) (v : V) (u : Value), es.flatten[j]? = some v → cs[j]? = some u → SR (XX C hp g w) w v u) : ∀ u ∈ cs, u.oneCell' = true := by
  intro u hu
  obtain ⟨j, hj⟩ := List.mem_iff_getElem?.1 hu
  have hjl : j < es.flatten.length := by rw [← hlen]; exact (List.getElem?_eq_some_iff.1 hj).1
  exact (h j es.flatten[j] u (List.getElem?_eq_getElem hjl) hj).one (List.all_eq_true.1 hl _ (List.getElem_mem hjl))

/-- The heart of append: a row of the call's own goes on. -/
theorem append_go {t e sz bytes : TypeId} {z : Value} {hp : Heap} {g : Gh} {w : World} {id ver0 e' : Nat} {es es2 : List (List V)} {u2 : Value} (h : HR C w hp g) (ht : SlT C.P t e sz) (hz : ElT C.P e sz bytes z) (hzsz : z.cells.size = sz)
    (ho : look hp id = some (ver0, .row e sz es)) (hs : Src C hp g w u2 sz es2) (hl2 : es2.flatten.all lf = true) (hm : es.length + es2.length ≤ maxLen) (hb : (es.length + es2.length) * bytes ≤ 140737488355328) :
    ∃ u' w' g', (Builtin.append_ #[t, t] e' #[g.val id, u2]).run C.P w = .ok u' w' ∧ HR C w' ((id, some (g.cur id + 1, .row e sz (es ++ es2))) :: hp) g' ∧ Fits g (XX C hp g w) w g' (XX C ((id, some (g.cur id + 1, .row e sz (es ++ es2))) :: hp) g' w') w' ∧
      g'.cur id = g.cur id + 1 ∧ g'.val id = u' ∧ u'.oneCell' = true ∧ (∀ j, j ≠ id → g'.cur j = g.cur j) := by
  have hor := h.obj id ver0 _ ho
  obtain ⟨h0, hlen, h2⟩ := hor
  obtain ⟨hlen2, ad, c2, cs, e1, e2, e3, e4⟩ := hs
  subst e1
  have hlenA : ∀ x ∈ es ++ es2, x.length = sz := fun x hx => (List.mem_append.1 hx).elim (hlen x) (hlen2 x)
  obtain ⟨ii, hi1, hi2, hi3, hi4⟩ := info_parts hz
  have hone := all_one hl2 e2 e4
  have hmm := hm
  unfold maxLen at hmm
  by_cases hnil : es2 = []
  · subst hnil
    have hcap : ∃ base c, g.val id = .slice base es.length c ∧ es.length ≤ c := by
      rcases h2 with ⟨rfl, h3, _⟩ | ⟨b, c, cur, h3, _, _, _, h5, _⟩
      · exact ⟨none, 0, h3, Nat.le_refl _⟩
      · exact ⟨_, c, h3, h5⟩
    obtain ⟨base, c, hv, hc⟩ := hcap
    rw [List.append_nil]
    have hgo := h.go (w' := w) (g' := g.upd id (g.cur id + 1) (g.val id) (g.blk id) (g.fp id) (g.sz id)) (i := id) (ver := g.cur id + 1) (o := .row e sz es) rfl rfl rfl (Nat.le_refl _) (fun _ _ _ => rfl) (fun j hj => Gh.upd_other j hj) (by simp [Gh.upd]) (by omega) (fun e => by omega)
      (fun b hb => by
        have hb' : b ∈ g.fp id := by simpa [Gh.upd] using hb
        exact ⟨(h.blk id _ b ho hb').1, .inl ⟨_, ho, hb'⟩⟩)
      (fun hf => by
        refine ⟨by simp [Gh.upd, h0], hlen, ?_⟩
        rcases h2 with ⟨h3, h4, h5⟩ | ⟨b, cc, cur, h3, h3', h4, h5, h6, h7, h8, h9⟩
        · exact .inl ⟨h3, by simp [Gh.upd, h4], by simp [Gh.upd, h5]⟩
        · exact .inr ⟨b, cc, cur, by simp [Gh.upd, h3], by simp [Gh.upd, h3'], by simp [Gh.upd, h4], h5, h6, h7, h8, fun j v hj => let ⟨u, a1, a2⟩ := h9 j v hj; ⟨u, a1, a2.fits hf.set hf.heap⟩⟩)
    exact ⟨g.val id, w, _, by rw [hv]; exact run_append_none ht _ _ _ _ hc _ _ _, hgo.1, hgo.2, by simp [Gh.upd], by simp [Gh.upd], by rw [hv]; rfl, fun j hj => by simp [Gh.upd, hj]⟩
  · obtain ⟨a2, rfl, e5⟩ := e3 hnil
    have hm0 : 0 < es2.length := List.length_pos_iff.2 hnil
    have hl : cs.length = es2.length * sz := by rw [e2, flatten_len hlen2]
    obtain ⟨ht1, ht2⟩ := ht
    -- a new block
    have fresh : ∀ (cur : Array Value) (cap : Nat) (w1 : World), w1.heap = w.heap → w1.os = w.os → w1.tape = w.tape → w1.output = w.output → es.length + es2.length ≤ cap → cap ≤ maxLen → cur.size = cap * sz →
        (∀ (j : Nat) (v : V) (u : Value), (es ++ es2).flatten[j]? = some v → cur[j]? = some u → SR (XX C hp g w) w v u) →
        HR C (w1.alloc (.cells cur e)) ((id, some (g.cur id + 1, .row e sz (es ++ es2))) :: hp) (g.upd id (g.cur id + 1) (.slice (some ⟨w.heap.size, 0, none⟩) (es.length + es2.length) cap) (some w.heap.size) [w.heap.size] sz) ∧
        Fits g (XX C hp g w) w (g.upd id (g.cur id + 1) (.slice (some ⟨w.heap.size, 0, none⟩) (es.length + es2.length) cap) (some w.heap.size) [w.heap.size] sz) (XX C ((id, some (g.cur id + 1, .row e sz (es ++ es2))) :: hp) (g.upd id (g.cur id + 1) (.slice (some ⟨w.heap.size, 0, none⟩) (es.length + es2.length) cap) (some w.heap.size) [w.heap.size] sz) (w1.alloc (.cells cur e))) (w1.alloc (.cells cur e)) := by
      intro cur cap w1 k1 k2 k3 k4 k5 k6 k7 k8
      exact h.new (i := id) (o := .row e sz (es ++ es2)) (cur := cur) (e := e) k1 k2 k3 k4 (.slice (some ⟨w.heap.size, 0, none⟩) (es.length + es2.length) cap) sz (fun g' X' w' hff q1 q2 q3 q4 q5 => row_or q4 hlenA (by rw [q1]; simp) q2 q3 q5 (by simpa using k5) k6 k7 (fun j v u hj hu => (k8 j v u hj hu).fits hff.set hff.heap))
    have flat : (es ++ es2).flatten = es.flatten ++ es2.flatten := List.flatten_append
    rcases h2 with ⟨rfl, h3, h4⟩ | ⟨b, c, cur, h3, h3', h4, h5, h6, h7, h8, h9⟩
    · have hrun := run_append_nil (P := C.P) w t e' e ii z ht1 hi1 hi2 a2 es2.length c2 cs (by rw [hi3]; exact hl) e5 hm0 (by omega) (by rw [hi4]; simp at hb; omega)
      have hcap := grownCap_ge w es2.length 0 e
      obtain ⟨q1, q2⟩ := fresh (cs.toArray ++ Builtin.zeroCells z.cells (grownCap w es2.length 0 e - es2.length)) (grownCap w es2.length 0 e) w.drew rfl rfl rfl rfl (by simpa using hcap) (grownCap_le_maxLen w _ _ e (by simpa using hm)) (by
        simp only [Array.size_append, List.size_toArray, size_zeroCells, hl, hzsz, ← Nat.add_mul]; congr 1; omega) (fun j v u hj hu => by
        simp only [List.nil_append] at hj
        have hjl : j < cs.length := by rw [e2]; exact (List.getElem?_eq_some_iff.1 hj).1
        rw [Array.getElem?_append_left (by simpa using hjl)] at hu
        exact e4 j v u hj (by simpa using hu))
      simp only [List.length_nil, Nat.zero_add] at q1 q2
      exact ⟨_, _, _, by rw [h3]; exact hrun, q1, q2, by simp [Gh.upd], by simp [Gh.upd], rfl, fun j hj => by simp [Gh.upd, hj]⟩
    · have hflen : es.flatten.length = es.length * sz := flatten_len hlen
      by_cases hroom : es.length + es2.length ≤ c
      · have hfit : es.length * sz + cs.length ≤ cur.size := by rw [hl, h8, ← Nat.add_mul]; exact Nat.mul_le_mul_right _ hroom
        have hrun := run_append_room (P := C.P) w t e' e ii ht1 hi1 b es.length c cur h5 a2 es2.length c2 cs (by rw [hi3]; exact hl) e5 hone hroom (by rw [hi3]; exact hfit)
        rw [hi3] at hrun
        have hgo := h.go (w' := w.setRow b (cur.toList.take (es.length * sz) ++ cs ++ cur.toList.drop (es.length * sz + cs.length)).toArray) (g' := g.upd id (g.cur id + 1) (.slice (some ⟨b, 0, none⟩) (es.length + es2.length) c) (some b) [b] sz) (i := id) (ver := g.cur id + 1) (o := .row e sz (es ++ es2)) rfl rfl rfl (by simp [World.setRow])
          (fun k hk hn => setRow_other w b k _ (fun e => hn _ ho (by rw [h4, e]; simp))) (fun j hj => Gh.upd_other j hj) (by simp [Gh.upd]) (by omega) (fun e => by omega)
          (fun k hk => by
            have hk' : k = b := by simpa [Gh.upd] using hk
            subst hk'
            have hin : k ∈ g.fp id := by rw [h4]; simp
            exact ⟨by have := (h.blk id _ k ho hin).1; simpa [World.setRow] using this, .inl ⟨_, ho, hin⟩⟩)
          (fun hf => row_or (by simp [Gh.upd]) hlenA (by simp [Gh.upd]) (by simp [Gh.upd]) (by simp [Gh.upd]) (setRow_heap w b cur _ e _ h5) (by simpa using hroom) h7 (by simp; omega) (fun j v u hj hu => by
            rw [List.getElem?_toArray, get_seg (by simp; omega)] at hu
            rw [flat] at hj
            by_cases e6 : j < es.length * sz
            · rw [if_pos e6] at hu
              rw [List.getElem?_append_left (by omega)] at hj
              obtain ⟨u', a1, a2⟩ := h9 j v hj
              have : u = u' := by simpa [a1] using hu.symm
              rw [this]; exact a2.fits hf.set hf.heap
            · rw [if_neg e6] at hu
              rw [List.getElem?_append_right (by omega), hflen] at hj
              have hjl : j - es.length * sz < cs.length := by rw [e2]; exact (List.getElem?_eq_some_iff.1 hj).1
              rw [if_pos (by omega)] at hu
              exact (e4 _ v u hj hu).fits hf.set hf.heap))
        exact ⟨_, _, _, by rw [h3]; exact hrun, hgo.1, hgo.2, by simp [Gh.upd], by simp [Gh.upd], rfl, fun j hj => by simp [Gh.upd, hj]⟩
      · have hle : es.flatten.length ≤ cur.size := by rw [hflen, h8]; exact Nat.mul_le_mul_right _ h6
        have hcl : cur.toList.length = cur.size := Array.length_toList
        have hol : (cur.toList.take es.flatten.length).length = es.flatten.length := by rw [List.length_take, hcl]; omega
        have hrun := run_append_grow (P := C.P) w t e' e ii z ht1 hi1 hi2 ⟨b, 0, none⟩ es.length c (cur.toList.take es.flatten.length) (by rw [hi3, hol, hflen])
          (fun j v hv => by
            rw [add_lit, Nat.zero_add, cellOf h5]
            rw [List.getElem?_take] at hv
            split at hv
            · simpa using hv
            · cases hv) a2 es2.length c2 cs (by rw [hi3]; exact hl) e5 (by omega) (by omega) (growslice_fits (by omega) (by rw [hi4]; exact hb))
        have hcap := grownCap_ge w (es.length + es2.length) c e
        obtain ⟨q1, q2⟩ := fresh ((cur.toList.take es.flatten.length).toArray ++ cs.toArray ++ Builtin.zeroCells z.cells (grownCap w (es.length + es2.length) c e - (es.length + es2.length))) (grownCap w (es.length + es2.length) c e) w.drew rfl rfl rfl rfl hcap (grownCap_le_maxLen w _ _ e hm) (by
          simp only [Array.size_append, List.size_toArray, size_zeroCells, hl, hzsz, hol]
          rw [hflen, ← Nat.add_mul, ← Nat.add_mul]; congr 1; omega) (fun j v u hj hu => by
          rw [flat] at hj
          have hjl : j < es.flatten.length + cs.length := by
            have := (List.getElem?_eq_some_iff.1 hj).1
            rw [List.length_append] at this; omega
          rw [Array.getElem?_append_left (by rw [Array.size_append, List.size_toArray, List.size_toArray, hol]; omega)] at hu
          by_cases e6 : j < es.flatten.length
          · rw [List.getElem?_append_left e6] at hj
            rw [Array.getElem?_append_left (by rw [List.size_toArray, hol]; omega)] at hu
            obtain ⟨u', a1, a2⟩ := h9 j v hj
            have : u = u' := by
              have h10 : cur[j]? = some u := by
                rw [List.getElem?_toArray, List.getElem?_take, if_pos e6] at hu
                simpa using hu
              rw [a1] at h10; exact (Option.some.inj h10).symm
            rw [this]; exact a2
          · rw [List.getElem?_append_right (by omega)] at hj
            rw [Array.getElem?_append_right (by rw [List.size_toArray, hol]; omega)] at hu
            refine e4 _ v u hj ?_
            rw [← hu, List.getElem?_toArray, List.size_toArray, hol])
        exact ⟨_, _, _, by rw [h3]; exact hrun, q1, q2, by simp [Gh.upd], by simp [Gh.upd], rfl, fun j hj => by simp [Gh.upd, hj]⟩

theorem row_val {w : World} {hp : Heap} {g : Gh} {id ver e sz : Nat} {es : List (List V)} (h : HR C w hp g) (ho : look hp id = some (ver, .row e sz es)) : g.cur id = ver ∧ OR g (XX C hp g w) w id (.row e sz es) := ⟨h.cur id ver _ ho, h.obj id ver _ ho⟩

/-- 'append(x, y...)', x a row of the call's own, y another. -/
theorem j_append_own {t e sz bytes : TypeId} {z : Value} {x y : Operand} {id ver0 id2 ver2 e2 ver : Nat} {es es2 : List (List V)} (ht : SlT C.P t e sz) (hz : ElT C.P e sz bytes z) (hzsz : z.cells.size = sz) (hx : Ab.ev s.sl x = .own id ver0) (ho : look s.hp id = some (ver0, .row e sz es))
    (hy : Ab.ev s.sl y = .own id2 ver2) (ho2 : look s.hp id2 = some (ver2, .row e2 sz es2)) (hl2 : es2.flatten.all lf = true) (hm : es.length + es2.length ≤ maxLen) (hb : (es.length + es2.length) * bytes ≤ 140737488355328) :
    OpJ C all ⟨some d, .call { callee := .builtin .append, args := #[x, y], argTypes := #[t, t] }, ty, pos, aft, none⟩ s [id, id2] (EN d (.own id ver) id ver (.row e sz (es ++ es2))) :=
  j_step (hp' := [(id, some (ver, .row e sz (es ++ es2)))]) (bp := some (id, ver)) fun s' hs a w g hr hbp => by
    obtain rfl := bump_eq hbp
    have hx := (hs.e (x := x) (by simp [Op.operands, Call.operands])).trans hx
    have hy := (hs.e (x := y) (by simp [Op.operands, Call.operands])).trans hy
    have ho := (hs.hp id (by simp)).trans ho
    have ho2 := (hs.hp id2 (by simp)).trans ho2
    obtain ⟨e1, _, _⟩ := hr.row hx ho
    obtain ⟨e2, e3, _⟩ := hr.row hy ho2
    obtain ⟨u', w', g', h1, h2, h3, h4, h5, h6, h7⟩ := append_go (e' := ty) hr.hr ht hz hzsz ho e3.src hl2 hm hb
    refine ⟨u', w', g', ?_, h2, h3, .own id _ _ h6 (by omega) (fun _ => h5.symm), fun j hj => h7 j (hj _ rfl)⟩
    simp [execOp, resolve, invoke, builtin, e1, e2, h1]

/-- 'append(x, y...)', y a slice that is only read. -/
theorem j_append_sl {t e sz bytes : TypeId} {z : Value} {x y : Operand} {id ver0 ver : Nat} {es es2 : List (List V)} (ht : SlT C.P t e sz) (hz : ElT C.P e sz bytes z) (hzsz : z.cells.size = sz) (hx : Ab.ev s.sl x = .own id ver0) (ho : look s.hp id = some (ver0, .row e sz es))
    (hy : Ab.ev s.sl y = .sl es2) (hes2 : ∀ x ∈ es2, x.length = sz) (hl2 : es2.flatten.all lf = true) (hm : es.length + es2.length ≤ maxLen) (hb : (es.length + es2.length) * bytes ≤ 140737488355328) :
    OpJ C all ⟨some d, .call { callee := .builtin .append, args := #[x, y], argTypes := #[t, t] }, ty, pos, aft, none⟩ s [id] (EN d (.own id ver) id ver (.row e sz (es ++ es2))) :=
  j_step (hp' := [(id, some (ver, .row e sz (es ++ es2)))]) (bp := some (id, ver)) fun s' hs a w g hr hbp => by
    obtain rfl := bump_eq hbp
    have hx := (hs.e (x := x) (by simp [Op.operands, Call.operands])).trans hx
    have hy := (hs.e (x := y) (by simp [Op.operands, Call.operands])).trans hy
    have ho := (hs.hp id (by simp)).trans ho
    obtain ⟨e1, _, _⟩ := hr.row hx ho
    have hv := hr.ev y
    rw [hy] at hv
    obtain ⟨u', w', g', h1, h2, h3, h4, h5, h6, h7⟩ := append_go (e' := ty) hr.hr ht hz hzsz ho (hv.slc.src hes2) hl2 hm hb
    refine ⟨u', w', g', ?_, h2, h3, .own id _ _ h6 (by omega) (fun _ => h5.symm), fun j hj => h7 j (hj _ rfl)⟩
    simp [execOp, resolve, invoke, builtin, e1, h1]

/-! ### Steps of the telling alone -/

theorem a_rel {s' : St} {c : Code} {Q : Exit → St → Prop} (f : ∀ a w g, Rel C a w s g → ∃ g', Rel C a w s' g') (h : AWp C c Q s') : AWp C c Q s := fun a w g hr => let ⟨g', hr'⟩ := f a w g hr; h a w g' hr'
theorem op_rel {s' : St} {l : List Oper} {K : St → Prop} (f : ∀ a w g, Rel C a w s g → ∃ g', Rel C a w s' g') (h : AOps C all l K s') : AOps C all l K s := fun hb Q hQ a w g hr => let ⟨g', hr'⟩ := f a w g hr; h hb Q hQ a w g' hr'

theorem HR.adopt {w : World} {hp : Heap} {g : Gh} (h : HR C w hp g) (i e sz : Nat) :
    HR C w ((i, some (g.cur i + 1, .row e sz [])) :: hp) (g.upd i (g.cur i + 1) (.slice none 0 0) none [] sz) ∧ Fits g (XX C hp g w) w (g.upd i (g.cur i + 1) (.slice none 0 0) none [] sz) (XX C ((i, some (g.cur i + 1, .row e sz [])) :: hp) (g.upd i (g.cur i + 1) (.slice none 0 0) none [] sz) w) w :=
  h.go rfl rfl rfl (Nat.le_refl _) (fun _ _ _ => rfl) (fun j hj => Gh.upd_other j hj) (by simp [Gh.upd]) (by omega) (fun e => by omega) (fun b hb => by simp [Gh.upd] at hb) (fun _ => ⟨by simp [Gh.upd], by simp, .inl ⟨rfl, by simp [Gh.upd], by simp [Gh.upd]⟩⟩)

theorem Rel.adopt {a : Act} {w : World} {g : Gh} (hr : Rel C a w s g) {t : Nat} (i e sz : Nat) (ht : get s.sl t = .p (.slice none 0 0)) :
    Rel C a w ⟨(t, .own i (g.cur i + 1)) :: s.sl, (i, some (g.cur i + 1, .row e sz [])) :: s.hp⟩ (g.upd i (g.cur i + 1) (.slice none 0 0) none [] sz) := by
  obtain ⟨h1, h2⟩ := hr.hr.adopt i e sz
  refine ⟨hr.size, hr.defers, h1, fun t' => ?_⟩
  simp only [get]
  by_cases e : t = t'
  · subst e
    have h3 := hr.slots t
    rw [ht] at h3
    rw [h3.plain]
    simp only [Nat.beq_refl, cond_true]
    exact .own i _ _ rfl (by simp [Gh.upd]) (fun _ => by simp [Gh.upd])
  · rw [beq_ne e]; exact (hr.slots t').fits h2

theorem a_adopt {c : Code} {Q : Exit → St → Prop} (t i e sz : Nat) (ht : get s.sl t = .p (.slice none 0 0)) (h : ∀ ver, AWp C c Q ⟨(t, .own i ver) :: s.sl, (i, some (ver, .row e sz [])) :: s.hp⟩) : AWp C c Q s :=
  fun a w _ hr => h _ a w _ (hr.adopt i e sz ht)
theorem op_adopt {l : List Oper} {K : St → Prop} (t i e sz : Nat) (ht : get s.sl t = .p (.slice none 0 0)) (h : ∀ ver, AOps C all l K ⟨(t, .own i ver) :: s.sl, (i, some (ver, .row e sz [])) :: s.hp⟩) : AOps C all l K s :=
  fun hb Q hQ a w _ hr => h _ hb Q hQ a w _ (hr.adopt i e sz ht)

/-- The ghost's numbers of a box's cells. -/
theorem Rel.boxset {a : Act} {w : World} {g : Gh} (hr : Rel C a w s g) {id ver e j : Nat} {xs : List V} {v : V} (ho : look s.hp id = some (ver, .box e xs)) (hv : ∀ u, (∃ v0, xs[j]? = some v0 ∧ VR g (XX C s.hp g w) w v0 u) → VR g (XX C s.hp g w) w v u) :
    Rel C a w ⟨s.sl, (id, some (ver, .box e (xs.set j v))) :: s.hp⟩ g := by
  obtain ⟨b, cur, h1, h2, h3, h4, h5⟩ := hr.hr.obj id ver _ ho
  have hgo := hr.hr.go (w' := w) (g' := g) (i := id) (ver := ver) (o := .box e (xs.set j v)) rfl rfl rfl (Nat.le_refl _) (fun _ _ _ => rfl) (fun _ _ => ⟨rfl, rfl, rfl, rfl, rfl⟩) (hr.hr.cur id ver _ ho) (by have := hr.hr.cur id ver _ ho; omega) (fun _ => ⟨rfl, rfl, rfl⟩)
    (fun b hb => ⟨(hr.hr.blk id _ b ho hb).1, .inl ⟨_, ho, hb⟩⟩)
    (fun hf => ⟨b, cur, h1, h2, h3, by simpa using h4, fun k v' hk => by
      rw [List.getElem?_set] at hk
      by_cases e : j = k
      · subst e
        rw [if_pos rfl] at hk
        split at hk
        · rename_i hlt
          simp at hk; subst hk
          obtain ⟨u, e1, e2⟩ := h5 j xs[j] (by simp [hlt])
          exact ⟨u, e1, (hv u ⟨xs[j], by simp [hlt], e2⟩).fits hf⟩
        · cases hk
      · rw [if_neg e] at hk
        obtain ⟨u, e1, e2⟩ := h5 k v' hk
        exact ⟨u, e1, e2.fits hf⟩⟩)
  exact hr.mem hgo.1 hgo.2

theorem Rel.adopt_box {a : Act} {w : World} {g : Gh} (hr : Rel C a w s g) {id ver eb j : Nat} {xs : List V} (i e sz : Nat) (hi : i ≠ id) (ho : look s.hp id = some (ver, .box eb xs)) (hj : xs[j]? = some (.p (.slice none 0 0))) :
    Rel C a w ⟨s.sl, (id, some (ver, .box eb (xs.set j (.own i (g.cur i + 1))))) :: (i, some (g.cur i + 1, .row e sz [])) :: s.hp⟩ (g.upd i (g.cur i + 1) (.slice none 0 0) none [] sz) := by
  obtain ⟨h1, h2⟩ := hr.hr.adopt i e sz
  have hr2 : Rel C a w ⟨s.sl, (i, some (g.cur i + 1, .row e sz [])) :: s.hp⟩ (g.upd i (g.cur i + 1) (.slice none 0 0) none [] sz) := hr.mem h1 h2
  refine hr2.boxset (by simp only [look, beq_ne hi, cond_false]; exact ho) ?_
  rintro u ⟨v0, h3, h4⟩
  rw [hj] at h3
  simp at h3; subst h3
  rw [h4.plain]
  exact .own i _ _ rfl (by simp [Gh.upd]) (fun _ => by simp [Gh.upd])

theorem a_adopt_box {c : Code} {Q : Exit → St → Prop} {id ver eb : Nat} {xs : List V} (j i e sz : Nat) (hi : i ≠ id) (ho : look s.hp id = some (ver, .box eb xs)) (hj : xs[j]? = some (.p (.slice none 0 0))) (h : ∀ v, AWp C c Q ⟨s.sl, (id, some (ver, .box eb (xs.set j (.own i v)))) :: (i, some (v, .row e sz [])) :: s.hp⟩) : AWp C c Q s :=
  fun a w _ hr => h _ a w _ (hr.adopt_box i e sz hi ho hj)
theorem op_adopt_box {l : List Oper} {K : St → Prop} {id ver eb : Nat} {xs : List V} (j i e sz : Nat) (hi : i ≠ id) (ho : look s.hp id = some (ver, .box eb xs)) (hj : xs[j]? = some (.p (.slice none 0 0))) (h : ∀ v, AOps C all l K ⟨s.sl, (id, some (ver, .box eb (xs.set j (.own i v)))) :: (i, some (v, .row e sz [])) :: s.hp⟩) : AOps C all l K s :=
  fun hb Q hQ a w _ hr => h _ hb Q hQ a w _ (hr.adopt_box i e sz hi ho hj)

/-- A row that nobody will write any more. -/
theorem row_sl {w : World} {hp hp' : Heap} {g : Gh} {id ver e sz : Nat} {es : List (List V)} (h : HR C w hp g) (ho : look hp id = some (ver, .row e sz es)) (hX : ∀ b, XX C hp g w b → XX C hp' g w b) (hb : ∀ b ∈ g.fp id, XX C hp' g w b) : SR (XX C hp' g w) w (.sl es) (g.val id) := by
  obtain ⟨h0, h1, h2⟩ := h.obj id ver _ ho
  rcases h2 with ⟨rfl, h3, _⟩ | ⟨b, c, cur, h3, _, h3', h4, h5, h6, h7, h8⟩
  · rw [h3]; exact .nil _ _
  · have hle : es.flatten.length ≤ cur.size := by rw [flatten_len h1, h7]; exact Nat.mul_le_mul_right _ h5
    have hcl : cur.toList.length = cur.size := Array.length_toList
    rw [h3]
    refine .sl es sz b 0 c (cur.toList.take es.flatten.length) h1 h5 h6 (hb b (by rw [h3']; simp)) (by rw [List.length_take, hcl]; omega) (fun j v hv => ?_) (fun j v u hj hu => ?_)
    · rw [Nat.zero_add, cellOf h4]
      rw [List.getElem?_take] at hv
      split at hv
      · simpa using hv
      · cases hv
    · obtain ⟨u', e1, e2⟩ := h8 j v hj
      rw [List.getElem?_take] at hu
      split at hu
      · have : u = u' := by
          have h9 : cur[j]? = some u := by simpa using hu
          rw [e1] at h9; exact (Option.some.inj h9).symm
        rw [this]; exact e2.fits hX (fun _ _ => rfl)
      · cases hu

theorem drop_look {hp : Heap} {id : Nat} : ∀ i io, look ((id, none) :: hp) i = some io → look hp i = some io := by
  intro i io h
  simp only [look] at h
  cases e : Nat.beq id i
  · rw [e] at h; exact h
  · rw [e] at h; simp at h

theorem drop_XX {w : World} {hp : Heap} {g : Gh} {id ver : Nat} {o : Obj} (h : HR C w hp g) (ho : look hp id = some (ver, o)) (hA : ∀ b ∈ g.fp id, C.w0.heap.size ≤ b) : ∀ b ∈ g.fp id, XX C ((id, none) :: hp) g w b := by
  intro b hb
  refine ⟨.inr ⟨hA b hb, (h.blk id _ b ho hb).1⟩, fun i io hi hin => ?_⟩
  have hne : i ≠ id := by
    intro e; subst e; simp [look] at hi
  exact h.dis i id _ _ (drop_look _ _ hi) ho hne b hin hb

/-- The object is let go: what was its slice is only read from here on. (The objects that the caller handed over are not let go so.) -/
theorem Rel.freeze {a : Act} {w : World} {g : Gh} (hr : Rel C a w s g) {t id ver e sz : Nat} {es : List (List V)} (hA : ∀ b, ¬ C.A b) (ht : get s.sl t = .own id ver) (ho : look s.hp id = some (ver, .row e sz es)) :
    Rel C a w ⟨(t, .sl es) :: s.sl, (id, none) :: s.hp⟩ g := by
  have hk := drop_look (hp := s.hp) (id := id)
  have hX : ∀ b, XX C s.hp g w b → XX C ((id, none) :: s.hp) g w b := fun b hb => hb.mono hk
  have hb := drop_XX hr.hr ho (fun b hb => ((hr.hr.blk id _ b ho hb).2).resolve_right (hA b))
  refine ⟨hr.size, hr.defers, hr.hr.weaken hk, fun t' => ?_⟩
  simp only [get]
  by_cases e : t = t'
  · subst e
    simp only [Nat.beq_refl, cond_true]
    obtain ⟨h1, _, _⟩ := hr.row (x := .tmp t) ht ho
    have : a.tmps.getD t undef = g.val id := h1
    rw [this]
    exact .sh (row_sl hr.hr ho hX hb)
  · rw [beq_ne e]
    exact (hr.slots t').fits ⟨fun _ => Nat.le_refl _, fun _ _ => rfl, fun _ _ => rfl, fun _ _ => rfl, hX, fun _ _ => rfl⟩

theorem a_freeze {c : Code} {Q : Exit → St → Prop} {id ver e sz : Nat} {es : List (List V)} (t : Nat) (hA : ∀ b, ¬ C.A b) (ht : get s.sl t = .own id ver) (ho : look s.hp id = some (ver, .row e sz es)) (h : AWp C c Q ⟨(t, .sl es) :: s.sl, (id, none) :: s.hp⟩) : AWp C c Q s :=
  fun a w g hr => h a w g (hr.freeze hA ht ho)
theorem op_freeze {l : List Oper} {K : St → Prop} {id ver e sz : Nat} {es : List (List V)} (t : Nat) (hA : ∀ b, ¬ C.A b) (ht : get s.sl t = .own id ver) (ho : look s.hp id = some (ver, .row e sz es)) (h : AOps C all l K ⟨(t, .sl es) :: s.sl, (id, none) :: s.hp⟩) : AOps C all l K s :=
  fun hb Q hQ a w g hr => h hb Q hQ a w g (hr.freeze hA ht ho)

/-- The same for a slice inside a struct's value. -/
theorem Rel.freezea {a : Act} {w : World} {g : Gh} (hr : Rel C a w s g) {t j id ver e sz : Nat} {xs : List V} {es : List (List V)} (hA : ∀ b, ¬ C.A b) (ht : get s.sl t = .agg xs) (hj : xs[j]? = some (.own id ver)) (ho : look s.hp id = some (ver, .row e sz es)) :
    Rel C a w ⟨(t, .agg (xs.set j (.sl es))) :: s.sl, (id, none) :: s.hp⟩ g := by
  have hk := drop_look (hp := s.hp) (id := id)
  have hX : ∀ b, XX C s.hp g w b → XX C ((id, none) :: s.hp) g w b := fun b hb => hb.mono hk
  have hb := drop_XX hr.hr ho (fun b hb => ((hr.hr.blk id _ b ho hb).2).resolve_right (hA b))
  have hfit : Fits g (XX C s.hp g w) w g (XX C ((id, none) :: s.hp) g w) w := ⟨fun _ => Nat.le_refl _, fun _ _ => rfl, fun _ _ => rfl, fun _ _ => rfl, hX, fun _ _ => rfl⟩
  refine ⟨hr.size, hr.defers, hr.hr.weaken hk, fun t' => ?_⟩
  simp only [get]
  by_cases e : t = t'
  · subst e
    simp only [Nat.beq_refl, cond_true]
    obtain ⟨cs, h1, h2, h3⟩ := hr.agg (x := .tmp t) ht
    have h4 : a.tmps.getD t undef = .agg cs := h1
    rw [h4]
    refine .agg _ cs (by simpa using h2) (fun i v u hv hu => ?_)
    rw [List.getElem?_set] at hv
    by_cases e2 : j = i
    · subst e2
      rw [if_pos rfl] at hv
      split at hv
      · simp at hv; subst hv
        have h5 := h3 j _ u hj hu
        have hcur := hr.hr.cur id ver _ ho
        have h6 : u = g.val id := by
          cases h5 with
          | sh h => cases h
          | own _ _ _ _ _ h => exact h hcur.symm
        rw [h6]; exact .sh (row_sl hr.hr ho hX hb)
      · cases hv
    · rw [if_neg e2] at hv
      exact (h3 i v u hv hu).fits hfit
  · rw [beq_ne e]
    exact (hr.slots t').fits hfit

theorem a_freezea {c : Code} {Q : Exit → St → Prop} {id ver e sz : Nat} {xs : List V} {es : List (List V)} (t j : Nat) (hA : ∀ b, ¬ C.A b) (ht : get s.sl t = .agg xs) (hj : xs[j]? = some (.own id ver)) (ho : look s.hp id = some (ver, .row e sz es)) (h : AWp C c Q ⟨(t, .agg (xs.set j (.sl es))) :: s.sl, (id, none) :: s.hp⟩) : AWp C c Q s :=
  fun a w g hr => h a w g (hr.freezea hA ht hj ho)
theorem op_freezea {l : List Oper} {K : St → Prop} {id ver e sz : Nat} {xs : List V} {es : List (List V)} (t j : Nat) (hA : ∀ b, ¬ C.A b) (ht : get s.sl t = .agg xs) (hj : xs[j]? = some (.own id ver)) (ho : look s.hp id = some (ver, .row e sz es)) (h : AOps C all l K ⟨(t, .agg (xs.set j (.sl es))) :: s.sl, (id, none) :: s.hp⟩) : AOps C all l K s :=
  fun hb Q hQ a w g hr => h hb Q hQ a w g (hr.freezea hA ht hj ho)

/-! ### Cuts -/
theorem run_cut {P : Program} {t e sz : Nat} (ht : SlT P t e sz) (ad : Option Addr) (n c lo hi : Nat) (h1 : lo ≤ hi) (h2 : hi ≤ n) (h3 : n ≤ c) (vl vh : Option Value) (hl : vl = some (.int .i64 lo) ∨ (vl = none ∧ lo = 0)) (hh : vh = some (.int .i64 hi) ∨ (vh = none ∧ hi = n)) (w : World) :
    (Instr.sliceAt t (.slice ad n c) vl vh none).run P w = .ok (.slice (if c = lo then ad else ad.map (·.add (lo * sz))) (hi - lo) (c - lo)) w := by
  obtain ⟨ht1, ht2⟩ := ht
  have hb : (Instr.sliceBounds true n c vl vh none).run P w = .ok (lo, hi, c) w := by
    have e1 : ((hi : Nat) : Int) ≤ (c : Int) := by omega
    have e2 : ((lo : Nat) : Int) ≤ (hi : Int) := by omega
    rcases hl with rfl | ⟨rfl, rfl⟩ <;> rcases hh with rfl | ⟨rfl, rfl⟩ <;> simp [Instr.sliceBounds, Instr.sliceBound, asIntOf, h1, show hi ≤ c from by omega]
  simp only [Instr.sliceAt, Sem.run_bind, run_underlying ht1, Result.andThen_ok, Instr.slice, hb, run_sizeOf ht2, Sem.run_pure]

/-- A bound of a cut: given, or not. -/
def Bd (sl : Slots) (o : Option Operand) (dflt n : Nat) : Prop := (∃ x, o = some x ∧ Ab.ev sl x = .p (.int .i64 n)) ∨ (o = none ∧ n = dflt)
theorem Bd.some {sl : Slots} {x : Operand} {dflt n : Nat} {i : Int} (h : Ab.ev sl x = .p (.int .i64 i)) (hi : i = n) : Bd sl (some x) dflt n := .inl ⟨x, rfl, by rw [h, hi]⟩
theorem Bd.none {sl : Slots} {dflt : Nat} : Bd sl none dflt dflt := .inr ⟨rfl, rfl⟩

theorem Bd.run {a : Act} {w : World} {g : Gh} (hr : Rel C a w s g) {o : Option Operand} {dflt n : Nat} (h : Bd s.sl o dflt n) : o.map a.eval = Option.some (.int .i64 n) ∨ (o.map a.eval = Option.none ∧ n = dflt) := by
  rcases h with ⟨x, rfl, h⟩ | ⟨rfl, h⟩
  · exact .inl (by simp [hr.evp h])
  · exact .inr ⟨rfl, h⟩

theorem Bd.agree {o : Oper} {ids : List Nat} {s' : St} (hs : Agree all o ids s s') {b : Option Operand} (hb : ∀ x, b = Option.some x → x ∈ o.op.operands.toList) {dflt n : Nat} (h : Bd s.sl b dflt n) : Bd s'.sl b dflt n := by
  rcases h with ⟨x, rfl, h⟩ | h
  · exact .inl ⟨x, rfl, (hs.e (hb x rfl)).trans h⟩
  · exact .inr h

theorem j_cut {t e sz : TypeId} {x : Operand} {lo hi : Option Operand} {es : List (List V)} {l h : Nat} (ht : SlT C.P t e sz) (hx : Ab.ev s.sl x = .sl es) (hsz : ∀ x ∈ es, x.length = sz) (hl : Bd s.sl lo 0 l) (hh : Bd s.sl hi es.length h) (h1 : l ≤ h) (h2 : h ≤ es.length) :
    OpJ C all ⟨some d, .slice t x lo hi none, ty, pos, aft, none⟩ s [] (EV d (.sl ((es.take h).drop l))) :=
  j_pure fun s' hs a w g hr => by
    have hx := (hs.e (x := x) (by simp [Op.operands])).trans hx
    have hl := (hl.agree hs (by simp [Op.operands]; intro x h; simp [h])).run hr
    have hh := (hh.agree hs (by simp [Op.operands]; intro x h; simp [h])).run hr
    have hv := hr.ev x
    rw [hx] at hv
    have hv := hv.slc
    generalize hu : a.eval x = u at hv
    cases hv with
    | nil ad c =>
      simp only [List.length_nil] at h2 hh
      obtain rfl : h = 0 := by omega
      obtain rfl : l = 0 := by omega
      refine ⟨.slice (if c = 0 then ad else ad.map (·.add (0 * sz))) 0 (c - 0), ?_, .sh (.nil _ _)⟩
      · simp only [execOp, hu, Option.map_none, Sem.run_bind, run_cut ht ad 0 c 0 0 (Nat.le_refl _) (Nat.le_refl _) (Nat.zero_le _) _ _ hl hh w, Result.andThen_ok, Sem.run_pure]
    | sl es s b o c cs hs' hc hm hX hlen hrr he =>
      have hrun := run_cut ht (some ⟨b, o, none⟩) es.length c l h h1 h2 hc _ _ hl hh w
      by_cases heq : l = h
      · subst heq
        have e0 : (es.take l).drop l = [] := by rw [List.drop_eq_nil_iff]; simp; omega
        rw [e0]
        refine ⟨_, ?_, .sh (.nil (if c = l then some ⟨b, o, none⟩ else (some (⟨b, o, none⟩ : Addr)).map (·.add (l * sz))) (c - l))⟩
        simp only [execOp, hu, Option.map_none, Sem.run_bind, hrun, Result.andThen_ok, Sem.run_pure, Nat.sub_self]
      · have hne : ¬ c = l := by omega
        have hflen := flatten_len hsz
        have hmem : ∀ x ∈ (es.take h).drop l, x.length = sz := fun x hx => hsz x (List.mem_of_mem_take (List.mem_of_mem_drop hx))
        have hlen2 : ((es.take h).drop l).length = h - l := by simp; omega
        have hflen2 : ((es.take h).drop l).flatten.length = (h - l) * sz := by rw [flatten_len hmem, hlen2]
        have hls : l * sz + (h - l) * sz ≤ es.length * sz := by rw [← Nat.add_mul]; exact Nat.mul_le_mul_right _ (by omega)
        have key : ∀ j, j < (h - l) * sz → ((es.take h).drop l).flatten[j]? = es.flatten[l * sz + j]? := by
          intro j hj
          have hsz0 : 0 < sz := Nat.pos_of_ne_zero fun e => by subst e; simp at hj
          have hq : j / sz < h - l := (Nat.div_lt_iff_lt_mul hsz0).2 hj
          have hm : j % sz < sz := Nat.mod_lt _ hsz0
          have hjd : j / sz * sz + j % sz = j := by rw [Nat.mul_comm]; exact Nat.div_add_mod j sz
          have hql : l + j / sz < es.length := by omega
          have e1 := flatten_at hmem (k := j / sz) (f := j % sz) (x := es[l + j / sz]) (by rw [List.getElem?_drop, List.getElem?_take, if_pos (by omega)]; simp [hql]) hm
          have e2 := flatten_at hsz (k := l + j / sz) (f := j % sz) (x := es[l + j / sz]) (by simp [hql]) hm
          rw [hjd] at e1
          rw [e1, ← e2, Nat.add_mul]; congr 1; omega
        have hres := SR.sl (X := XX C s'.hp g w) (w := w) ((es.take h).drop l) sz b (o + l * sz) (c - l) ((cs.drop (l * sz)).take ((h - l) * sz)) hmem (by rw [hlen2]; omega) (by omega) hX
          (by rw [hflen2, List.length_take, List.length_drop, hlen, hflen]; omega)
          (fun i u hi => by
            rw [List.getElem?_take] at hi
            split at hi
            · rw [List.getElem?_drop] at hi
              have := hrr _ _ hi
              rw [← this]; congr 2; omega
            · cases hi)
          (fun i v u hv hu => by
            have hi : i < (h - l) * sz := by rw [← hflen2]; exact (List.getElem?_eq_some_iff.1 hv).1
            rw [key i hi] at hv
            rw [List.getElem?_take, if_pos hi, List.getElem?_drop] at hu
            exact he _ v u hv hu)
        refine ⟨_, ?_, .sh hres⟩
        rw [if_neg hne] at hrun
        simp only [execOp, hu, Option.map_none, Sem.run_bind, hrun, Result.andThen_ok, Sem.run_pure, Option.map_some, add_lit, hlen2]

theorem j_cut_str {t : TypeId} {x : Operand} {lo hi : Option Operand} {b : ByteArray} {l h : Nat} (ht : C.P.underlying t = some .string) (hx : Ab.ev s.sl x = .p (.string b)) (hl : Bd s.sl lo 0 l) (hh : Bd s.sl hi b.size h) (h1 : l ≤ h) (h2 : h ≤ b.size) :
    OpJ C all ⟨some d, .slice t x lo hi none, ty, pos, aft, none⟩ s [] (EV d (.p (.string (b.extract l h)))) :=
  j_pure fun s' hs a w g hr => by
    have hx := (hs.e (x := x) (by simp [Op.operands])).trans hx
    have hl := (hl.agree hs (by simp [Op.operands]; intro x h; simp [h])).run hr
    have hh := (hh.agree hs (by simp [Op.operands]; intro x h; simp [h])).run hr
    have hb : (Instr.sliceBounds false b.size b.size (lo.map a.eval) (hi.map a.eval) none).run C.P w = .ok (l, h, b.size) w := by
      have e1 : ((h : Nat) : Int) ≤ (b.size : Int) := by omega
      have e2 : ((l : Nat) : Int) ≤ (h : Int) := by omega
      rcases hl with e | ⟨e, rfl⟩ <;> rcases hh with e' | ⟨e', rfl⟩ <;> simp [e, e', Instr.sliceBounds, Instr.sliceBound, asIntOf, h1, h2]
    refine ⟨_, ?_, .sh (.p _)⟩
    simp only [execOp, hr.evp hx, Option.map_none, Instr.sliceAt, Instr.slice, Sem.run_bind, run_underlying ht, Result.andThen_ok, Option.isSome_none, Sem.run_pure]
    simp [hb]

/-- A conversion between integers. -/
theorem j_conv {src dst : TypeId} {x : Operand} {k k' : IntKind} {n : Int} {d0 : TypeDesc} (h0 : C.P.underlying src = some d0) (h1 : C.P.underlying dst = some (.int k')) (hx : Ab.ev s.sl x = .p (.int k n)) :
    OpJ C all ⟨some d, .convert src dst x, ty, pos, aft, none⟩ s [] (EV d (.p (.int k' (k'.wrap n)))) :=
  j_pure fun s' hs a w g hr => by
    have hx := (hs.e (x := x) (by simp [Op.operands])).trans hx
    refine ⟨_, ?_, .sh (.p _)⟩
    simp only [execOp, hr.evp hx, convert, Sem.run_bind, run_underlying h0, run_underlying h1, Result.andThen_ok]
    cases d0 <;> simp [Conv.intToInt]

theorem j_max {x y : Operand} {k : IntKind} {m n : Int} {ats : Array TypeId} (hx : Ab.ev s.sl x = .p (.int k m)) (hy : Ab.ev s.sl y = .p (.int k n)) :
    OpJ C all ⟨some d, .call { callee := .builtin .max, args := #[x, y], argTypes := ats }, ty, pos, aft, none⟩ s [] (EV d (.p (.int k (max m n)))) :=
  j_pure fun s' hs a w g hr => by
    have hx := (hs.e (x := x) (by simp [Op.operands, Call.operands])).trans hx
    have hy := (hs.e (x := y) (by simp [Op.operands, Call.operands])).trans hy
    refine ⟨.int k (max m n), ?_, .sh (.p _)⟩
    have : (if m < n then n else m) = max m n := by rw [Int.max_def]; split <;> split <;> omega
    simp [execOp, resolve, invoke, builtin, hr.evp hx, hr.evp hy, Builtin.max_, Builtin.max2, this]
theorem j_min {x y : Operand} {k : IntKind} {m n : Int} {ats : Array TypeId} (hx : Ab.ev s.sl x = .p (.int k m)) (hy : Ab.ev s.sl y = .p (.int k n)) :
    OpJ C all ⟨some d, .call { callee := .builtin .min, args := #[x, y], argTypes := ats }, ty, pos, aft, none⟩ s [] (EV d (.p (.int k (min m n)))) :=
  j_pure fun s' hs a w g hr => by
    have hx := (hs.e (x := x) (by simp [Op.operands, Call.operands])).trans hx
    have hy := (hs.e (x := y) (by simp [Op.operands, Call.operands])).trans hy
    refine ⟨.int k (min m n), ?_, .sh (.p _)⟩
    have : (if n < m then n else m) = min m n := by rw [Int.min_def]; split <;> split <;> omega
    simp [execOp, resolve, invoke, builtin, hr.evp hx, hr.evp hy, Builtin.min_, Builtin.min2, this]

/-- A pointer that is none of nil's. -/
theorem j_nil_ptr {x : Operand} {id ver off : Nat} {o : Obj} (hx : Ab.ev s.sl x = .ptr id ver off) (ho : look s.hp id = some (ver, o)) :
    OpJ C all ⟨some d, .nilCheck x, ty, pos, aft, none⟩ s [id] (EV d (.ptr id ver off)) :=
  j_pure fun s' hs a w g hr => by
    have hx := (hs.e (x := x) (by simp [Op.operands])).trans hx
    have ho := (hs.hp id (by simp)).trans ho
    obtain ⟨b, h1, h2⟩ := hr.ptr hx ho
    have h3 := hr.ev x
    rw [hx] at h3
    exact ⟨a.eval x, by simp [execOp, h2], h3⟩
end
end Go.Ab

/- make, append, cuts, conversions, min and max, over the abstract state. -/
import Derived.Test.YtoodaakcfelaaaaAb6
set_option linter.unusedSimpArgs false
set_option linter.unusedVariables false
namespace Go.Ab
section
variable {C : Ctx} {all : Array Oper} {s : St} {d : Nat} {ty : TypeId} {pos : String} {aft : Array Edge}
theorem j_make {t e sz bytes : TypeId} {n ver : Nat} {x y : Operand} {z : Value} {zs : List V} {k k' : IntKind} {i j : Int} (ht : SlT C.P t e sz) (hz : ElT C.P e sz bytes z) (hzs : z.cells.toList.map V.p = zs) (hzl : zs.length = sz) (hsz0 : 0 < sz) (hx : Ab.ev s.sl x = .p (.int k i)) (hy : Ab.ev s.sl y = .p (.int k' j))
    (hi : i = n) (hj : j = n) (hb : n * bytes ≤ 281474976710656) (hm : n ≤ maxLen) :
    OpJ C all ⟨some d, .makeSlice t x y, ty, pos, aft, none⟩ s [] (EN d (.own d ver) d ver (.row e sz (List.replicate n zs))) :=
  j_step (hp' := [(d, some (ver, .row e sz (List.replicate n zs)))]) (bp := [(d, ver)]) fun s' hs a w g hr hbp => by
    obtain rfl := qxb hbp
    have hx := (hs.e (x := x) (by simp [Op.operands])).trans hx
    have hy := (hs.e (x := y) (by simp [Op.operands])).trans hy
    subst hi; subst hj
    obtain ⟨ht1, ht2⟩ := ht
    obtain ⟨ii, h1, h2, h3, h4⟩ := info_parts hz
    have hzsz : z.cells.size = sz := by rw [← Array.length_toList, ← hzl, ← hzs]; simp
    have hes : ∀ x ∈ List.replicate n zs, x.length = sz := fun x hx => by rw [List.eq_of_mem_replicate hx]; exact hzl
    have hmm := hm
    unfold maxLen at hmm
    have hb' : (ii.bytes : Int) * (n : Int) ≤ 281474976710656 := by
      have h : ((n * bytes : Nat) : Int) ≤ 281474976710656 := by omega
      rw [h4, Int.mul_comm]; rwa [Int.natCast_mul] at h
    have hrun := run_make (P := C.P) w t e ii z ht1 h1 h2 k k' n n (by omega) (Int.le_refl _) hb' (by omega)
    simp only [Int.toNat_natCast, h3] at hrun
    obtain ⟨h5, h6⟩ := hr.hr.new (i := d) (o := .row e sz (List.replicate n zs)) (cur := madeCells z.cells (n * sz)) (e := e) (w1 := w) rfl rfl rfl rfl (.slice (some ⟨w.heap.size, 0, none⟩) n n) sz (fun g' X' w' hff e1 e2 e3 e4 e5 => row_or e4 hes (by rw [e1]; simp) e2 e3 e5 (by simp) hm (size_madeCells _ _) (fun j v u hj hu => by
      have hjl : j < n * sz := by
        have := (List.getElem?_eq_some_iff.1 hj).1
        rw [qq1 hes] at this; simpa using this
      have h7 := qj3 hes (k := j / sz) (f := j % sz) (x := zs) (by rw [List.getElem?_replicate, if_pos ((Nat.div_lt_iff_lt_mul hsz0).2 hjl)]) (Nat.mod_lt _ hsz0)
      rw [show j / sz * sz + j % sz = j from by rw [Nat.mul_comm]; exact Nat.div_add_mod j sz] at h7
      rw [h7, ← hzs, List.getElem?_map] at hj
      have hm' : j % sz < z.cells.size := by rw [hzsz]; exact Nat.mod_lt _ hsz0
      have h8 : z.cells.toList[j % sz]? = some z.cells[j % sz] := by simp [hm']
      rw [h8] at hj
      simp only [Option.map_some, Option.some.injEq] at hj
      simp [madeCells, hjl, hzsz] at hu
      rw [getElem!_pos z.cells (j % sz) hm'] at hu
      subst hj; subst hu; exact .p _))
    refine ⟨.slice (some ⟨w.heap.size, 0, none⟩) n n, _, _, ?_, h5, h6, .own d _ _ rfl (by simp [Gh.upd]) (fun _ => by simp [Gh.upd]), fun j hj => upd_cur j hj⟩
    simp only [execOp, hr.evp hx, hr.evp hy, Sem.run_bind, hrun, Result.andThen_ok, Sem.run_pure]
structure Src (C : Ctx) (hp : Heap) (g : Gh) (w : World) (u : Value) (sz : Nat) (es : List (List V)) : Prop where
  len : ∀ x ∈ es, x.length = sz
  cs : ∃ (ad : Option Addr) (c : Nat) (cs : List Value), u = .slice ad es.length c ∧ cs.length = es.flatten.length ∧ (es ≠ [] → ∃ a, ad = some a ∧ ∀ (j : Nat) (v : Value), cs[j]? = some v → w.cell? (a.add j) = some v) ∧
    (∀ (j : Nat) (v : V) (u : Value), es.flatten[j]? = some v → cs[j]? = some u → SR (XX C hp g w) w v u)
theorem SR.src {hp : Heap} {g : Gh} {w : World} {u : Value} {sz : Nat} {es : List (List V)} (h : SR (XX C hp g w) w (.sl es) u) (hsz : ∀ x ∈ es, x.length = sz) : Src C hp g w u sz es := by
  refine ⟨hsz, ?_⟩
  cases h with
  | nil a c => exact ⟨a, c, [], rfl, rfl, fun h => absurd rfl h, fun j v u h => by simp at h⟩
  | sl es s b o c cs hs hc hm hX hl hr he => exact ⟨_, c, cs, rfl, hl, fun _ => ⟨_, rfl, fun j v hv => by rw [qz2]; exact hr j v hv⟩, he⟩
theorem OR.src {hp : Heap} {g : Gh} {w : World} {id e sz : Nat} {es : List (List V)} (h : OR g (XX C hp g w) w id (.row e sz es)) : Src C hp g w (g.val id) sz es := by
  obtain ⟨_, h1, h2⟩ := h
  refine ⟨h1, ?_⟩
  rcases h2 with ⟨rfl, h3, _⟩ | ⟨b, c, cur, h3, _, _, h4, h5, h6, h7, h8⟩
  · exact ⟨none, 0, [], h3, rfl, fun h => absurd rfl h, fun j v u h => by simp at h⟩
  · have hle : es.flatten.length ≤ cur.size := by rw [qq1 h1, h7]; exact Nat.mul_le_mul_right _ h5
    have hcl : cur.toList.length = cur.size := Array.length_toList
    refine ⟨_, c, cur.toList.take es.flatten.length, h3, by rw [List.length_take, hcl]; omega, fun _ => ⟨_, rfl, fun j v hv => ?_⟩, fun j v u hj hu => ?_⟩
    · rw [qz2, Nat.zero_add, cellOf h4]
      rw [List.getElem?_take] at hv
      split at hv
      · simpa using hv
      · cases hv
    · obtain ⟨u', e1, e2⟩ := h8 j v hj
      rw [List.getElem?_take] at hu
      split at hu
      · have : u = u' := by
          have h9 : cur[j]? = some u := by simpa using hu
          rw [e1] at h9; exact (Option.some.inj h9).symm
        rw [this]; exact e2
      · cases hu
theorem run_append_none {P : Program} {t e : TypeId} {sz : Nat} (ht : SlT P t e sz) (ty : TypeId) (base : Option Addr) (n c : Nat) (hn : n ≤ c) (ad : Option Addr) (c' : Nat) (w : World) :
    (Builtin.append_ #[t, t] ty #[.slice base n c, .slice ad 0 c']).run P w = .ok (.slice base n c) w := by
  obtain ⟨h1, h2⟩ := ht
  cases ad <;> cases base <;> simp [Builtin.append_, run_underlying h1, qzt h2, Builtin.lenOf, hn, Builtin.firstCells, loadCells, loadCellsFrom, storeCells]
theorem all_one {hp : Heap} {g : Gh} {w : World} {es : List (List V)} {cs : List Value} (hl : es.flatten.all lf = true) (hlen : cs.length = es.flatten.length) (h : ∀ (j : Nat) (v : V) (u : Value), es.flatten[j]? = some v → cs[j]? = some u → SR (XX C hp g w) w v u) : ∀ u ∈ cs, u.oneCell' = true := by
  intro u hu
  obtain ⟨j, hj⟩ := List.mem_iff_getElem?.1 hu
  have hjl : j < es.flatten.length := by rw [← hlen]; exact (List.getElem?_eq_some_iff.1 hj).1
  exact (h j es.flatten[j] u (List.getElem?_eq_getElem hjl) hj).one (List.all_eq_true.1 hl _ (List.getElem_mem hjl))
theorem append_go {t e sz bytes : TypeId} {z : Value} {hp : Heap} {g : Gh} {w : World} {id ver0 e' : Nat} {es es2 : List (List V)} {u2 : Value} (h : HR C w hp g) (ht : SlT C.P t e sz) (hz : ElT C.P e sz bytes z) (hzsz : z.cells.size = sz)
    (ho : look hp id = some (ver0, .row e sz es)) (hs : Src C hp g w u2 sz es2) (hl2 : es2.flatten.all lf = true) (hm : es.length + es2.length ≤ maxLen) (hb : (es.length + es2.length) * bytes ≤ 140737488355328) :
    ∃ u' w' g', (Builtin.append_ #[t, t] e' #[g.val id, u2]).run C.P w = .ok u' w' ∧ HR C w' ((id, some (g.cur id + 1, .row e sz (es ++ es2))) :: hp) g' ∧ Fits g (XX C hp g w) w g' (XX C ((id, some (g.cur id + 1, .row e sz (es ++ es2))) :: hp) g' w') w' ∧
      g'.cur id = g.cur id + 1 ∧ g'.val id = u' ∧ u'.oneCell' = true ∧ (∀ j, j ≠ id → g'.cur j = g.cur j) := by
  have hor := h.obj id ver0 _ ho
  obtain ⟨h0, hlen, h2⟩ := hor
  obtain ⟨hlen2, ad, c2, cs, e1, e2, e3, e4⟩ := hs
  subst e1
  have hlenA : ∀ x ∈ es ++ es2, x.length = sz := fun x hx => (List.mem_append.1 hx).elim (hlen x) (hlen2 x)
  obtain ⟨ii, hi1, hi2, hi3, hi4⟩ := info_parts hz
  have hone := all_one hl2 e2 e4
  have hmm := hm
  unfold maxLen at hmm
  by_cases hnil : es2 = []
  · subst hnil
    have hcap : ∃ base c, g.val id = .slice base es.length c ∧ es.length ≤ c := by
      rcases h2 with ⟨rfl, h3, _⟩ | ⟨b, c, cur, h3, _, _, _, h5, _⟩
      · exact ⟨none, 0, h3, Nat.le_refl _⟩
      · exact ⟨_, c, h3, h5⟩
    obtain ⟨base, c, hv, hc⟩ := hcap
    rw [List.append_nil]
    have hgo := h.go (w' := w) (g' := g.upd id (g.cur id + 1) (g.val id) (g.blk id) (g.fp id) (g.sz id)) (i := id) (ver := g.cur id + 1) (o := .row e sz es) rfl rfl rfl (Nat.le_refl _) (fun _ _ _ => rfl) (fun j hj => Gh.upd_other j hj) (by simp [Gh.upd]) (by omega) (fun e => by omega)
      (fun b hb => by
        have hb' : b ∈ g.fp id := by simpa [Gh.upd] using hb
        exact ⟨(h.blk id _ b ho hb').1, .inl ⟨_, ho, hb'⟩⟩)
      (fun hf => by
        refine ⟨by simp [Gh.upd, h0], hlen, ?_⟩
        rcases h2 with ⟨h3, h4, h5⟩ | ⟨b, cc, cur, h3, h3', h4, h5, h6, h7, h8, h9⟩
        · exact .inl ⟨h3, by simp [Gh.upd, h4], by simp [Gh.upd, h5]⟩
        · exact .inr ⟨b, cc, cur, by simp [Gh.upd, h3], by simp [Gh.upd, h3'], by simp [Gh.upd, h4], h5, h6, h7, h8, fun j v hj => let ⟨u, a1, a2⟩ := h9 j v hj; ⟨u, a1, a2.fits hf.set hf.heap⟩⟩)
    exact ⟨g.val id, w, _, by rw [hv]; exact run_append_none ht _ _ _ _ hc _ _ _, hgo.1, hgo.2, by simp [Gh.upd], by simp [Gh.upd], by rw [hv]; rfl, fun j hj => by simp [Gh.upd, hj]⟩
  · obtain ⟨a2, rfl, e5⟩ := e3 hnil
    have hm0 : 0 < es2.length := List.length_pos_iff.2 hnil
    have hl : cs.length = es2.length * sz := by rw [e2, qq1 hlen2]
    obtain ⟨ht1, ht2⟩ := ht
    -- a new block
    have fresh : ∀ (cur : Array Value) (cap : Nat) (w1 : World), w1.heap = w.heap → w1.os = w.os → w1.tape = w.tape → w1.output = w.output → es.length + es2.length ≤ cap → cap ≤ maxLen → cur.size = cap * sz →
        (∀ (j : Nat) (v : V) (u : Value), (es ++ es2).flatten[j]? = some v → cur[j]? = some u → SR (XX C hp g w) w v u) →
        HR C (w1.alloc (.cells cur e)) ((id, some (g.cur id + 1, .row e sz (es ++ es2))) :: hp) (g.upd id (g.cur id + 1) (.slice (some ⟨w.heap.size, 0, none⟩) (es.length + es2.length) cap) (some w.heap.size) [w.heap.size] sz) ∧
        Fits g (XX C hp g w) w (g.upd id (g.cur id + 1) (.slice (some ⟨w.heap.size, 0, none⟩) (es.length + es2.length) cap) (some w.heap.size) [w.heap.size] sz) (XX C ((id, some (g.cur id + 1, .row e sz (es ++ es2))) :: hp) (g.upd id (g.cur id + 1) (.slice (some ⟨w.heap.size, 0, none⟩) (es.length + es2.length) cap) (some w.heap.size) [w.heap.size] sz) (w1.alloc (.cells cur e))) (w1.alloc (.cells cur e)) := by
      intro cur cap w1 k1 k2 k3 k4 k5 k6 k7 k8
      exact h.new (i := id) (o := .row e sz (es ++ es2)) (cur := cur) (e := e) k1 k2 k3 k4 (.slice (some ⟨w.heap.size, 0, none⟩) (es.length + es2.length) cap) sz (fun g' X' w' hff q1 q2 q3 q4 q5 => row_or q4 hlenA (by rw [q1]; simp) q2 q3 q5 (by simpa using k5) k6 k7 (fun j v u hj hu => (k8 j v u hj hu).fits hff.set hff.heap))
    have flat : (es ++ es2).flatten = es.flatten ++ es2.flatten := List.flatten_append
    rcases h2 with ⟨rfl, h3, h4⟩ | ⟨b, c, cur, h3, h3', h4, h5, h6, h7, h8, h9⟩
    · have hrun := run_append_nil (P := C.P) w t e' e ii z ht1 hi1 hi2 a2 es2.length c2 cs (by rw [hi3]; exact hl) e5 hm0 (by omega) (by rw [hi4]; simp at hb; omega)
      have hcap := grownCap_ge w es2.length 0 e
      obtain ⟨q1, q2⟩ := fresh (cs.toArray ++ Builtin.zeroCells z.cells (grownCap w es2.length 0 e - es2.length)) (grownCap w es2.length 0 e) w.drew rfl rfl rfl rfl (by simpa using hcap) (grownCap_le_maxLen w _ _ e (by simpa using hm)) (by
        simp only [Array.size_append, List.size_toArray, size_zeroCells, hl, hzsz, ← Nat.add_mul]; congr 1; omega) (fun j v u hj hu => by
        simp only [List.nil_append] at hj
        have hjl : j < cs.length := by rw [e2]; exact (List.getElem?_eq_some_iff.1 hj).1
        rw [Array.getElem?_append_left (by simpa using hjl)] at hu
        exact e4 j v u hj (by simpa using hu))
      simp only [List.length_nil, Nat.zero_add] at q1 q2
      exact ⟨_, _, _, by rw [h3]; exact hrun, q1, q2, by simp [Gh.upd], by simp [Gh.upd], rfl, fun j hj => by simp [Gh.upd, hj]⟩
    · have hflen : es.flatten.length = es.length * sz := qq1 hlen
      by_cases hroom : es.length + es2.length ≤ c
      · have hfit : es.length * sz + cs.length ≤ cur.size := by rw [hl, h8, ← Nat.add_mul]; exact Nat.mul_le_mul_right _ hroom
        have hrun := run_append_room (P := C.P) w t e' e ii ht1 hi1 b es.length c cur h5 a2 es2.length c2 cs (by rw [hi3]; exact hl) e5 hone hroom (by rw [hi3]; exact hfit)
        rw [hi3] at hrun
        have hgo := h.go (w' := w.setRow b (cur.toList.take (es.length * sz) ++ cs ++ cur.toList.drop (es.length * sz + cs.length)).toArray) (g' := g.upd id (g.cur id + 1) (.slice (some ⟨b, 0, none⟩) (es.length + es2.length) c) (some b) [b] sz) (i := id) (ver := g.cur id + 1) (o := .row e sz (es ++ es2)) rfl rfl rfl (by simp [World.setRow])
          (fun k hk hn => setRow_other w b k _ (fun e => hn _ ho (by rw [h4, e]; simp))) (fun j hj => Gh.upd_other j hj) (by simp [Gh.upd]) (by omega) (fun e => by omega)
          (fun k hk => by
            have hk' : k = b := by simpa [Gh.upd] using hk
            subst hk'
            have hin : k ∈ g.fp id := by rw [h4]; simp
            exact ⟨by have := (h.blk id _ k ho hin).1; simpa [World.setRow] using this, .inl ⟨_, ho, hin⟩⟩)
          (fun hf => row_or (by simp [Gh.upd]) hlenA (by simp [Gh.upd]) (by simp [Gh.upd]) (by simp [Gh.upd]) (setRow_heap w b cur _ e _ h5) (by simpa using hroom) h7 (by simp; omega) (fun j v u hj hu => by
            rw [List.getElem?_toArray, get_seg (by simp; omega)] at hu
            rw [flat] at hj
            by_cases e6 : j < es.length * sz
            · rw [if_pos e6] at hu
              rw [List.getElem?_append_left (by omega)] at hj
              obtain ⟨u', a1, a2⟩ := h9 j v hj
              have : u = u' := by simpa [a1] using hu.symm
              rw [this]; exact a2.fits hf.set hf.heap
            · rw [if_neg e6] at hu
              rw [List.getElem?_append_right (by omega), hflen] at hj
              have hjl : j - es.length * sz < cs.length := by rw [e2]; exact (List.getElem?_eq_some_iff.1 hj).1
              rw [if_pos (by omega)] at hu
              exact (e4 _ v u hj hu).fits hf.set hf.heap))
        exact ⟨_, _, _, by rw [h3]; exact hrun, hgo.1, hgo.2, by simp [Gh.upd], by simp [Gh.upd], rfl, fun j hj => by simp [Gh.upd, hj]⟩
      · have hle : es.flatten.length ≤ cur.size := by rw [hflen, h8]; exact Nat.mul_le_mul_right _ h6
        have hcl : cur.toList.length = cur.size := Array.length_toList
        have hol : (cur.toList.take es.flatten.length).length = es.flatten.length := by rw [List.length_take, hcl]; omega
        have hrun := run_append_grow (P := C.P) w t e' e ii z ht1 hi1 hi2 ⟨b, 0, none⟩ es.length c (cur.toList.take es.flatten.length) (by rw [hi3, hol, hflen])
          (fun j v hv => by
            rw [qz2, Nat.zero_add, cellOf h5]
            rw [List.getElem?_take] at hv
            split at hv
            · simpa using hv
            · cases hv) a2 es2.length c2 cs (by rw [hi3]; exact hl) e5 (by omega) (by omega) (growslice_fits (by omega) (by rw [hi4]; exact hb))
        have hcap := grownCap_ge w (es.length + es2.length) c e
        obtain ⟨q1, q2⟩ := fresh ((cur.toList.take es.flatten.length).toArray ++ cs.toArray ++ Builtin.zeroCells z.cells (grownCap w (es.length + es2.length) c e - (es.length + es2.length))) (grownCap w (es.length + es2.length) c e) w.drew rfl rfl rfl rfl hcap (grownCap_le_maxLen w _ _ e hm) (by
          simp only [Array.size_append, List.size_toArray, size_zeroCells, hl, hzsz, hol]
          rw [hflen, ← Nat.add_mul, ← Nat.add_mul]; congr 1; omega) (fun j v u hj hu => by
          rw [flat] at hj
          have hjl : j < es.flatten.length + cs.length := by
            have := (List.getElem?_eq_some_iff.1 hj).1
            rw [List.length_append] at this; omega
          rw [Array.getElem?_append_left (by rw [Array.size_append, List.size_toArray, List.size_toArray, hol]; omega)] at hu
          by_cases e6 : j < es.flatten.length
          · rw [List.getElem?_append_left e6] at hj
            rw [Array.getElem?_append_left (by rw [List.size_toArray, hol]; omega)] at hu
            obtain ⟨u', a1, a2⟩ := h9 j v hj
            have : u = u' := by
              have h10 : cur[j]? = some u := by
                rw [List.getElem?_toArray, List.getElem?_take, if_pos e6] at hu
                simpa using hu
              rw [a1] at h10; exact (Option.some.inj h10).symm
            rw [this]; exact a2
          · rw [List.getElem?_append_right (by omega)] at hj
            rw [Array.getElem?_append_right (by rw [List.size_toArray, hol]; omega)] at hu
            refine e4 _ v u hj ?_
            rw [← hu, List.getElem?_toArray, List.size_toArray, hol])
        exact ⟨_, _, _, by rw [h3]; exact hrun, q1, q2, by simp [Gh.upd], by simp [Gh.upd], rfl, fun j hj => by simp [Gh.upd, hj]⟩
theorem qq2 {t e sz bytes : TypeId} {z : Value} {x y : Operand} {id ver0 id2 ver2 e2 ver : Nat} {es es2 : List (List V)} (ht : SlT C.P t e sz) (hz : ElT C.P e sz bytes z) (hzsz : z.cells.size = sz) (hx : Ab.ev s.sl x = .own id ver0) (ho : look s.hp id = some (ver0, .row e sz es))
    (hy : Ab.ev s.sl y = .own id2 ver2) (ho2 : look s.hp id2 = some (ver2, .row e2 sz es2)) (hl2 : es2.flatten.all lf = true) (hm : es.length + es2.length ≤ maxLen) (hb : (es.length + es2.length) * bytes ≤ 140737488355328) :
    OpJ C all ⟨some d, .call { callee := .builtin .append, args := #[x, y], argTypes := #[t, t] }, ty, pos, aft, none⟩ s [id, id2] (EN d (.own id ver) id ver (.row e sz (es ++ es2))) :=
  j_step (hp' := [(id, some (ver, .row e sz (es ++ es2)))]) (bp := [(id, ver)]) fun s' hs a w g hr hbp => by
    obtain rfl := qxb hbp
    have hx := (hs.e (x := x) (by simp [Op.operands, Call.operands])).trans hx
    have hy := (hs.e (x := y) (by simp [Op.operands, Call.operands])).trans hy
    have ho := (hs.hp id (by simp)).trans ho
    have ho2 := (hs.hp id2 (by simp)).trans ho2
    obtain ⟨e1, _, _⟩ := hr.row hx ho
    obtain ⟨e2, e3, _⟩ := hr.row hy ho2
    obtain ⟨u', w', g', h1, h2, h3, h4, h5, h6, h7⟩ := append_go (e' := ty) hr.hr ht hz hzsz ho e3.src hl2 hm hb
    refine ⟨u', w', g', ?_, h2, h3, .own id _ _ h6 (by omega) (fun _ => h5.symm), fun j hj => h7 j (hj _ (List.mem_singleton.2 rfl))⟩
    simp [execOp, resolve, invoke, builtin, e1, e2, h1]
theorem j_append_sl {t e sz bytes : TypeId} {z : Value} {x y : Operand} {id ver0 ver : Nat} {es es2 : List (List V)} (ht : SlT C.P t e sz) (hz : ElT C.P e sz bytes z) (hzsz : z.cells.size = sz) (hx : Ab.ev s.sl x = .own id ver0) (ho : look s.hp id = some (ver0, .row e sz es))
    (hy : Ab.ev s.sl y = .sl es2) (hes2 : ∀ x ∈ es2, x.length = sz) (hl2 : es2.flatten.all lf = true) (hm : es.length + es2.length ≤ maxLen) (hb : (es.length + es2.length) * bytes ≤ 140737488355328) :
    OpJ C all ⟨some d, .call { callee := .builtin .append, args := #[x, y], argTypes := #[t, t] }, ty, pos, aft, none⟩ s [id] (EN d (.own id ver) id ver (.row e sz (es ++ es2))) :=
  j_step (hp' := [(id, some (ver, .row e sz (es ++ es2)))]) (bp := [(id, ver)]) fun s' hs a w g hr hbp => by
    obtain rfl := qxb hbp
    have hx := (hs.e (x := x) (by simp [Op.operands, Call.operands])).trans hx
    have hy := (hs.e (x := y) (by simp [Op.operands, Call.operands])).trans hy
    have ho := (hs.hp id (by simp)).trans ho
    obtain ⟨e1, _, _⟩ := hr.row hx ho
    have hv := hr.ev y
    rw [hy] at hv
    obtain ⟨u', w', g', h1, h2, h3, h4, h5, h6, h7⟩ := append_go (e' := ty) hr.hr ht hz hzsz ho (hv.slc.src hes2) hl2 hm hb
    refine ⟨u', w', g', ?_, h2, h3, .own id _ _ h6 (by omega) (fun _ => h5.symm), fun j hj => h7 j (hj _ (List.mem_singleton.2 rfl))⟩
    simp [execOp, resolve, invoke, builtin, e1, h1]
theorem a_rel {s' : St} {c : Code} {Q : Exit → St → Prop} (f : ∀ a w g, Rel C a w s g → ∃ g', Rel C a w s' g') (h : AWp C c Q s') : AWp C c Q s := fun a w g hr => let ⟨g', hr'⟩ := f a w g hr; h a w g' hr'
theorem op_rel {s' : St} {l : List Oper} {K : St → Prop} (f : ∀ a w g, Rel C a w s g → ∃ g', Rel C a w s' g') (h : AOps C all l K s') : AOps C all l K s := fun hb Q hQ a w g hr => let ⟨g', hr'⟩ := f a w g hr; h hb Q hQ a w g' hr'
theorem HR.adopt {w : World} {hp : Heap} {g : Gh} (h : HR C w hp g) (i e sz : Nat) :
    HR C w ((i, some (g.cur i + 1, .row e sz [])) :: hp) (g.upd i (g.cur i + 1) (.slice none 0 0) none [] sz) ∧ Fits g (XX C hp g w) w (g.upd i (g.cur i + 1) (.slice none 0 0) none [] sz) (XX C ((i, some (g.cur i + 1, .row e sz [])) :: hp) (g.upd i (g.cur i + 1) (.slice none 0 0) none [] sz) w) w :=
  h.go rfl rfl rfl (Nat.le_refl _) (fun _ _ _ => rfl) (fun j hj => Gh.upd_other j hj) (by simp [Gh.upd]) (by omega) (fun e => by omega) (fun b hb => by simp [Gh.upd] at hb) (fun _ => ⟨by simp [Gh.upd], by simp, .inl ⟨rfl, by simp [Gh.upd], by simp [Gh.upd]⟩⟩)
theorem Rel.adopt {a : Act} {w : World} {g : Gh} (hr : Rel C a w s g) {t : Nat} (i e sz : Nat) (ht : get s.sl t = .p (.slice none 0 0)) :
    Rel C a w ⟨(t, .own i (g.cur i + 1)) :: s.sl, (i, some (g.cur i + 1, .row e sz [])) :: s.hp⟩ (g.upd i (g.cur i + 1) (.slice none 0 0) none [] sz) := by
  obtain ⟨h1, h2⟩ := hr.hr.adopt i e sz
  refine ⟨hr.size, hr.defers, h1, fun t' => ?_⟩
  simp only [get]
  by_cases e : t = t'
  · subst e
    have h3 := hr.slots t
    rw [ht] at h3
    rw [h3.plain]
    simp only [Nat.beq_refl, cond_true]
    exact .own i _ _ rfl (by simp [Gh.upd]) (fun _ => by simp [Gh.upd])
  · rw [qjx e]; exact (hr.slots t').fits h2
theorem a_adopt {c : Code} {Q : Exit → St → Prop} (t i e sz : Nat) (ht : get s.sl t = .p (.slice none 0 0)) (h : ∀ ver, AWp C c Q ⟨(t, .own i ver) :: s.sl, (i, some (ver, .row e sz [])) :: s.hp⟩) : AWp C c Q s :=
  fun a w _ hr => h _ a w _ (hr.adopt i e sz ht)
theorem Rel.boxset {a : Act} {w : World} {g : Gh} (hr : Rel C a w s g) {id ver e j : Nat} {xs : List V} {v : V} (ho : look s.hp id = some (ver, .box e xs)) (hv : ∀ u, (∃ v0, xs[j]? = some v0 ∧ VR g (XX C s.hp g w) w v0 u) → VR g (XX C s.hp g w) w v u) :
    Rel C a w ⟨s.sl, (id, some (ver, .box e (xs.set j v))) :: s.hp⟩ g := by
  obtain ⟨b, cur, h1, h2, h3, h4, h5⟩ := hr.hr.obj id ver _ ho
  have hgo := hr.hr.go (w' := w) (g' := g) (i := id) (ver := ver) (o := .box e (xs.set j v)) rfl rfl rfl (Nat.le_refl _) (fun _ _ _ => rfl) (fun _ _ => ⟨rfl, rfl, rfl, rfl, rfl⟩) (hr.hr.cur id ver _ ho) (by have := hr.hr.cur id ver _ ho; omega) (fun _ => ⟨rfl, rfl, rfl⟩)
    (fun b hb => ⟨(hr.hr.blk id _ b ho hb).1, .inl ⟨_, ho, hb⟩⟩)
    (fun hf => ⟨b, cur, h1, h2, h3, by simpa using h4, fun k v' hk => by
      rw [List.getElem?_set] at hk
      by_cases e : j = k
      · subst e
        rw [if_pos rfl] at hk
        split at hk
        · rename_i hlt
          simp at hk; subst hk
          obtain ⟨u, e1, e2⟩ := h5 j xs[j] (by simp [hlt])
          exact ⟨u, e1, (hv u ⟨xs[j], by simp [hlt], e2⟩).fits hf⟩
        · cases hk
      · rw [if_neg e] at hk
        obtain ⟨u, e1, e2⟩ := h5 k v' hk
        exact ⟨u, e1, e2.fits hf⟩⟩)
  exact hr.mem hgo.1 hgo.2
theorem Rel.adopt_box {a : Act} {w : World} {g : Gh} (hr : Rel C a w s g) {id ver eb j : Nat} {xs : List V} (i e sz : Nat) (hi : i ≠ id) (ho : look s.hp id = some (ver, .box eb xs)) (hj : xs[j]? = some (.p (.slice none 0 0))) :
    Rel C a w ⟨s.sl, (id, some (ver, .box eb (xs.set j (.own i (g.cur i + 1))))) :: (i, some (g.cur i + 1, .row e sz [])) :: s.hp⟩ (g.upd i (g.cur i + 1) (.slice none 0 0) none [] sz) := by
  obtain ⟨h1, h2⟩ := hr.hr.adopt i e sz
  have hr2 : Rel C a w ⟨s.sl, (i, some (g.cur i + 1, .row e sz [])) :: s.hp⟩ (g.upd i (g.cur i + 1) (.slice none 0 0) none [] sz) := hr.mem h1 h2
  refine hr2.boxset (by simp only [look, qjx hi, cond_false]; exact ho) ?_
  rintro u ⟨v0, h3, h4⟩
  rw [hj] at h3
  simp at h3; subst h3
  rw [h4.plain]
  exact .own i _ _ rfl (by simp [Gh.upd]) (fun _ => by simp [Gh.upd])
theorem a_adopt_box {c : Code} {Q : Exit → St → Prop} {id ver eb : Nat} {xs : List V} (j i e sz : Nat) (hi : i ≠ id) (ho : look s.hp id = some (ver, .box eb xs)) (hj : xs[j]? = some (.p (.slice none 0 0))) (h : ∀ v, AWp C c Q ⟨s.sl, (id, some (ver, .box eb (xs.set j (.own i v)))) :: (i, some (v, .row e sz [])) :: s.hp⟩) : AWp C c Q s :=
  fun a w _ hr => h _ a w _ (hr.adopt_box i e sz hi ho hj)
theorem row_sl {w : World} {hp hp' : Heap} {g : Gh} {id ver e sz : Nat} {es : List (List V)} (h : HR C w hp g) (ho : look hp id = some (ver, .row e sz es)) (hX : ∀ b, XX C hp g w b → XX C hp' g w b) (hb : ∀ b ∈ g.fp id, XX C hp' g w b) : SR (XX C hp' g w) w (.sl es) (g.val id) := by
  obtain ⟨h0, h1, h2⟩ := h.obj id ver _ ho
  rcases h2 with ⟨rfl, h3, _⟩ | ⟨b, c, cur, h3, _, h3', h4, h5, h6, h7, h8⟩
  · rw [h3]; exact .nil _ _
  · have hle : es.flatten.length ≤ cur.size := by rw [qq1 h1, h7]; exact Nat.mul_le_mul_right _ h5
    have hcl : cur.toList.length = cur.size := Array.length_toList
    rw [h3]
    refine .sl es sz b 0 c (cur.toList.take es.flatten.length) h1 h5 h6 (hb b (by rw [h3']; simp)) (by rw [List.length_take, hcl]; omega) (fun j v hv => ?_) (fun j v u hj hu => ?_)
    · rw [Nat.zero_add, cellOf h4]
      rw [List.getElem?_take] at hv
      split at hv
      · simpa using hv
      · cases hv
    · obtain ⟨u', e1, e2⟩ := h8 j v hj
      rw [List.getElem?_take] at hu
      split at hu
      · have : u = u' := by
          have h9 : cur[j]? = some u := by simpa using hu
          rw [e1] at h9; exact (Option.some.inj h9).symm
        rw [this]; exact e2.fits hX (fun _ _ => rfl)
      · cases hu
theorem drop_look {hp : Heap} {id : Nat} : ∀ i io, look ((id, none) :: hp) i = some io → look hp i = some io := by
  intro i io h
  simp only [look] at h
  cases e : Nat.beq id i
  · rw [e] at h; exact h
  · rw [e] at h; simp at h
theorem drop_XX {w : World} {hp : Heap} {g : Gh} {id ver : Nat} {o : Obj} (h : HR C w hp g) (ho : look hp id = some (ver, o)) (hA : ∀ b ∈ g.fp id, C.w0.heap.size ≤ b) : ∀ b ∈ g.fp id, XX C ((id, none) :: hp) g w b := by
  intro b hb
  refine ⟨.inr ⟨hA b hb, (h.blk id _ b ho hb).1⟩, fun i io hi hin => ?_⟩
  have hne : i ≠ id := by
    intro e; subst e; simp [look] at hi
  exact h.dis i id _ _ (drop_look _ _ hi) ho hne b hin hb
theorem Rel.freeze {a : Act} {w : World} {g : Gh} (hr : Rel C a w s g) {t id ver e sz : Nat} {es : List (List V)} (hA : ∀ b, ¬ C.A b) (ht : get s.sl t = .own id ver) (ho : look s.hp id = some (ver, .row e sz es)) :
    Rel C a w ⟨(t, .sl es) :: s.sl, (id, none) :: s.hp⟩ g := by
  have hk := drop_look (hp := s.hp) (id := id)
  have hX : ∀ b, XX C s.hp g w b → XX C ((id, none) :: s.hp) g w b := fun b hb => hb.mono hk
  have hb := drop_XX hr.hr ho (fun b hb => ((hr.hr.blk id _ b ho hb).2).resolve_right (hA b))
  refine ⟨hr.size, hr.defers, hr.hr.weaken hk, fun t' => ?_⟩
  simp only [get]
  by_cases e : t = t'
  · subst e
    simp only [Nat.beq_refl, cond_true]
    obtain ⟨h1, _, _⟩ := hr.row (x := .tmp t) ht ho
    have : a.tmps.getD t undef = g.val id := h1
    rw [this]
    exact .sh (row_sl hr.hr ho hX hb)
  · rw [qjx e]
    exact (hr.slots t').fits ⟨fun _ => Nat.le_refl _, fun _ _ => rfl, fun _ _ => rfl, fun _ _ => rfl, hX, fun _ _ => rfl⟩
theorem a_freeze {c : Code} {Q : Exit → St → Prop} {id ver e sz : Nat} {es : List (List V)} (t : Nat) (hA : ∀ b, ¬ C.A b) (ht : get s.sl t = .own id ver) (ho : look s.hp id = some (ver, .row e sz es)) (h : AWp C c Q ⟨(t, .sl es) :: s.sl, (id, none) :: s.hp⟩) : AWp C c Q s :=
  fun a w g hr => h a w g (hr.freeze hA ht ho)
def Bd (sl : Slots) (o : Option Operand) (dflt n : Nat) : Prop := (∃ x, o = some x ∧ Ab.ev sl x = .p (.int .i64 n)) ∨ (o = none ∧ n = dflt)
theorem Bd.some {sl : Slots} {x : Operand} {dflt n : Nat} {i : Int} (h : Ab.ev sl x = .p (.int .i64 i)) (hi : i = n) : Bd sl (some x) dflt n := .inl ⟨x, rfl, by rw [h, hi]⟩
theorem Bd.none {sl : Slots} {dflt : Nat} : Bd sl none dflt dflt := .inr ⟨rfl, rfl⟩
theorem Bd.run {a : Act} {w : World} {g : Gh} (hr : Rel C a w s g) {o : Option Operand} {dflt n : Nat} (h : Bd s.sl o dflt n) : o.map a.eval = Option.some (.int .i64 n) ∨ (o.map a.eval = Option.none ∧ n = dflt) := by
  rcases h with ⟨x, rfl, h⟩ | ⟨rfl, h⟩
  · exact .inl (by simp [hr.evp h])
  · exact .inr ⟨rfl, h⟩
theorem Bd.agree {o : Oper} {ids : List Nat} {s' : St} (hs : Agree all o ids s s') {b : Option Operand} (hb : ∀ x, b = Option.some x → x ∈ o.op.operands.toList) {dflt n : Nat} (h : Bd s.sl b dflt n) : Bd s'.sl b dflt n := by
  rcases h with ⟨x, rfl, h⟩ | h
  · exact .inl ⟨x, rfl, (hs.e (hb x rfl)).trans h⟩
  · exact .inr h
theorem j_conv {src dst : TypeId} {x : Operand} {k k' : IntKind} {n : Int} {d0 : TypeDesc} (h0 : C.P.underlying src = some d0) (h1 : C.P.underlying dst = some (.int k')) (hx : Ab.ev s.sl x = .p (.int k n)) :
    OpJ C all ⟨some d, .convert src dst x, ty, pos, aft, none⟩ s [] (EV d (.p (.int k' (k'.wrap n)))) :=
  qzj fun s' hs a w g hr => by
    have hx := (hs.e (x := x) (by simp [Op.operands])).trans hx
    refine ⟨_, ?_, .sh (.p _)⟩
    simp only [execOp, hr.evp hx, convert, Sem.run_bind, run_underlying h0, run_underlying h1, Result.andThen_ok]
    cases d0 <;> simp [Conv.intToInt]
theorem j_max {x y : Operand} {k : IntKind} {m n : Int} {ats : Array TypeId} (hx : Ab.ev s.sl x = .p (.int k m)) (hy : Ab.ev s.sl y = .p (.int k n)) :
    OpJ C all ⟨some d, .call { callee := .builtin .max, args := #[x, y], argTypes := ats }, ty, pos, aft, none⟩ s [] (EV d (.p (.int k (max m n)))) :=
  qzj fun s' hs a w g hr => by
    have hx := (hs.e (x := x) (by simp [Op.operands, Call.operands])).trans hx
    have hy := (hs.e (x := y) (by simp [Op.operands, Call.operands])).trans hy
    refine ⟨.int k (max m n), ?_, .sh (.p _)⟩
    have : (if m < n then n else m) = max m n := by rw [Int.max_def]; split <;> split <;> omega
    simp [execOp, resolve, invoke, builtin, hr.evp hx, hr.evp hy, Builtin.max_, Builtin.max2, this]
theorem qji {x : Operand} {id ver off : Nat} {o : Obj} (hx : Ab.ev s.sl x = .ptr id ver off) (ho : look s.hp id = some (ver, o)) :
    OpJ C all ⟨some d, .nilCheck x, ty, pos, aft, none⟩ s [id] (EV d (.ptr id ver off)) :=
  qzj fun s' hs a w g hr => by
    have hx := (hs.e (x := x) (by simp [Op.operands])).trans hx
    have ho := (hs.hp id (by simp)).trans ho
    obtain ⟨b, h1, h2⟩ := hr.ptr hx ho
    have h3 := hr.ev x
    rw [hx] at h3
    exact ⟨a.eval x, by simp [execOp, h2], h3⟩
end
end Go.Ab
/- Regions that draw their order: one walk in the order of the text serves every order. -/
set_option linter.unusedSimpArgs false
set_option linter.unusedVariables false
namespace Go.Ab
def upd (S : Nat → Bool) : Nat → List Eff → St → St
  | _, [], s => s
  | k, E :: Es, s => upd S (k + 1) Es (bif S k then app E s else s)
def hasKey : Heap → Nat → Bool
  | [], _ => false
  | (d, _) :: r, i => Nat.beq d i || hasKey r i
def Eff.w (E : Eff) (t : Nat) : Bool := match E.dst with | some d => Nat.beq d t | none => false
def Eff.h (E : Eff) (i : Nat) : Bool := hasKey E.hp i
def Same (s s' : St) : Prop := (∀ t, get s.sl t = get s'.sl t) ∧ (∀ i, look s.hp i = look s'.hp i)
theorem Same.refl (s : St) : Same s s := ⟨fun _ => rfl, fun _ => rfl⟩
theorem Same.symm {s s' : St} (h : Same s s') : Same s' s := ⟨fun t => (h.1 t).symm, fun i => (h.2 i).symm⟩
theorem Same.trans {a b c : St} (h : Same a b) (k : Same b c) : Same a c := ⟨fun t => (h.1 t).trans (k.1 t), fun i => (h.2 i).trans (k.2 i)⟩
theorem look_app {l l' : Heap} {i : Nat} : look (l ++ l') i = if hasKey l i then look l i else look l' i := by
  induction l with
  | nil => simp [hasKey]
  | cons x l ih =>
    obtain ⟨d, v⟩ := x
    simp only [List.cons_append, look, hasKey]
    by_cases e : Nat.beq d i = true
    · simp only [e, cond_true, Bool.true_or, if_true]
    · simp only [Bool.not_eq_true] at e
      simp only [e, cond_false, Bool.false_or, ih]
theorem get_app (E : Eff) (s : St) (t : Nat) : get (app E s).sl t = if E.w t then E.v else get s.sl t := by
  unfold app Eff.w
  cases E.dst with
  | none => simp
  | some d =>
    simp only [get]
    by_cases e : Nat.beq d t = true
    · simp only [e, cond_true, if_true]
    · simp only [Bool.not_eq_true] at e
      simp only [e, cond_false, Bool.false_eq_true, if_false]
theorem qz5 (E : Eff) (s : St) (i : Nat) : look (app E s).hp i = if E.h i then look E.hp i else look s.hp i := by
  unfold app Eff.h; exact look_app
theorem Same.app {s s' : St} (h : Same s s') (E : Eff) : Same (Ab.app E s) (Ab.app E s') := by
  refine ⟨fun t => ?_, fun i => ?_⟩
  · rw [get_app, get_app, h.1]
  · rw [qz5, qz5, h.2]
theorem Same.upd {s s' : St} (h : Same s s') (S : Nat → Bool) : ∀ (k : Nat) (Es : List Eff), Same (Ab.upd S k Es s) (Ab.upd S k Es s') := by
  intro k Es
  induction Es generalizing k s s' with
  | nil => exact h
  | cons E Es ih =>
    simp only [Ab.upd]
    refine ih (k := k + 1) ?_
    cases S k
    · exact h
    · exact h.app E
theorem upd_get {S S' : Nat → Bool} {t : Nat} : ∀ {k : Nat} {Es : List Eff} {s s' : St}, get s.sl t = get s'.sl t → (∀ i E, Es[i]? = some E → E.w t = true → S (k + i) = S' (k + i)) → get (upd S k Es s).sl t = get (upd S' k Es s').sl t
  | k, [], s, s', h, _ => h
  | k, E :: Es, s, s', h, hw => by
    simp only [upd]
    refine upd_get (k := k + 1) ?_ (fun i E' hi hE => by rw [Nat.add_assoc, Nat.add_comm 1 i]; exact hw (i + 1) E' (by simpa using hi) hE)
    by_cases e : E.w t = true
    · have h0 := hw 0 E rfl e
      simp only [Nat.add_zero] at h0
      rw [h0]
      cases S' k
      · exact h
      · simp only [cond_true]; rw [get_app, get_app, if_pos e, if_pos e]
    · have h1 : ∀ (b : Bool) (x : St), get (bif b then app E x else x).sl t = get x.sl t := by
        intro b x; cases b
        · rfl
        · simp only [cond_true]; rw [get_app, if_neg e]
      rw [h1, h1]; exact h
theorem upd_look {S S' : Nat → Bool} {t : Nat} : ∀ {k : Nat} {Es : List Eff} {s s' : St}, look s.hp t = look s'.hp t → (∀ i E, Es[i]? = some E → E.h t = true → S (k + i) = S' (k + i)) → look (upd S k Es s).hp t = look (upd S' k Es s').hp t
  | k, [], s, s', h, _ => h
  | k, E :: Es, s, s', h, hw => by
    simp only [upd]
    refine upd_look (k := k + 1) ?_ (fun i E' hi hE => by rw [Nat.add_assoc, Nat.add_comm 1 i]; exact hw (i + 1) E' (by simpa using hi) hE)
    by_cases e : E.h t = true
    · have h0 := hw 0 E rfl e
      simp only [Nat.add_zero] at h0
      rw [h0]
      cases S' k
      · exact h
      · simp only [cond_true]; rw [qz5, qz5, if_pos e, if_pos e]
    · have h1 : ∀ (b : Bool) (x : St), look (bif b then app E x else x).hp t = look x.hp t := by
        intro b x; cases b
        · rfl
        · simp only [cond_true]; rw [qz5, if_neg e]
      rw [h1, h1]; exact h
theorem upd_next_get {S : Nat → Bool} {t j : Nat} {Ej : Eff} : ∀ {k : Nat} {Es : List Eff} {s : St}, k ≤ j → Es[j - k]? = some Ej → S j = false → (∀ i E, Es[i]? = some E → j < k + i → Ej.w t = true → E.w t = true → S (k + i) = false) →
    get (app Ej (upd S k Es s)).sl t = get (upd (fun i => S i || Nat.beq i j) k Es s).sl t
  | k, [], s, _, h, _, _ => by simp at h
  | k, E :: Es, s, hk, hE, hS, hw => by
    by_cases e : Ej.w t = true
    · rw [get_app, if_pos e]
      -- the value stays behind the later ones
      have later : ∀ (k : Nat) (Es : List Eff) (s : St), get s.sl t = Ej.v → (∀ i E, Es[i]? = some E → E.w t = true → (fun i => S i || Nat.beq i j) (k + i) = false) → get (upd (fun i => S i || Nat.beq i j) k Es s).sl t = Ej.v := by
        intro k Es
        induction Es generalizing k with
        | nil => intro s h _; exact h
        | cons E Es ih =>
          intro s h hw
          simp only [upd]
          refine ih (k + 1) _ ?_ (fun i E' hi hE' => by rw [Nat.add_assoc, Nat.add_comm 1 i]; exact hw (i + 1) E' (by simpa using hi) hE')
          by_cases e2 : E.w t = true
          · have := hw 0 E rfl e2
            simp only [Nat.add_zero] at this
            rw [this]; exact h
          · cases (S k || Nat.beq k j)
            · exact h
            · simp only [cond_true]; rw [get_app, if_neg e2]; exact h
      by_cases ek : k = j
      · subst ek
        simp only [Nat.sub_self] at hE
        simp at hE
        subst hE
        simp only [upd, Nat.beq_refl, Bool.or_true, cond_true]
        refine (later (k + 1) Es _ (by rw [get_app, if_pos e]) (fun i E' hi hE' => ?_)).symm
        have h1 := hw (i + 1) E' (by simpa using hi) (by omega) e hE'
        have h2 : Nat.beq (k + 1 + i) k = false := qjx (by omega)
        simp only [h2, Bool.or_false]
        rw [Nat.add_assoc, Nat.add_comm 1 i]; exact h1
      · simp only [upd]
        have hE' : Es[j - (k + 1)]? = some Ej := by
          rw [show j - k = (j - (k + 1)) + 1 from by omega] at hE
          simpa using hE
        have ih := upd_next_get (t := t) (k := k + 1) (Es := Es) (s := bif (S k || Nat.beq k j) then app E s else s) (by omega) hE' hS (fun i E' hi hj => by rw [Nat.add_assoc, Nat.add_comm 1 i]; exact hw (i + 1) E' (by simpa using hi) (by omega))
        rw [get_app, if_pos e] at ih
        exact ih
    · rw [get_app, if_neg e]
      refine upd_get rfl (fun i E' hi hE' => ?_)
      by_cases ei : k + i = j
      · exfalso
        have : (E :: Es)[j - k]? = some E' := by rw [show j - k = i from by omega]; exact hi
        rw [hE] at this
        obtain rfl := Option.some.inj this
        exact e hE'
      · simp [qjx ei]
theorem upd_next_look {S : Nat → Bool} {t j : Nat} {Ej : Eff} : ∀ {k : Nat} {Es : List Eff} {s : St}, k ≤ j → Es[j - k]? = some Ej → S j = false → (∀ i E, Es[i]? = some E → j < k + i → Ej.h t = true → E.h t = true → S (k + i) = false) →
    look (app Ej (upd S k Es s)).hp t = look (upd (fun i => S i || Nat.beq i j) k Es s).hp t
  | k, [], s, _, h, _, _ => by simp at h
  | k, E :: Es, s, hk, hE, hS, hw => by
    by_cases e : Ej.h t = true
    · rw [qz5, if_pos e]
      have later : ∀ (k : Nat) (Es : List Eff) (s : St), look s.hp t = look Ej.hp t → (∀ i E, Es[i]? = some E → E.h t = true → (fun i => S i || Nat.beq i j) (k + i) = false) → look (upd (fun i => S i || Nat.beq i j) k Es s).hp t = look Ej.hp t := by
        intro k Es
        induction Es generalizing k with
        | nil => intro s h _; exact h
        | cons E Es ih =>
          intro s h hw
          simp only [upd]
          refine ih (k + 1) _ ?_ (fun i E' hi hE' => by rw [Nat.add_assoc, Nat.add_comm 1 i]; exact hw (i + 1) E' (by simpa using hi) hE')
          by_cases e2 : E.h t = true
          · have := hw 0 E rfl e2
            simp only [Nat.add_zero] at this
            rw [this]; exact h
          · cases (S k || Nat.beq k j)
            · exact h
            · simp only [cond_true]; rw [qz5, if_neg e2]; exact h
      by_cases ek : k = j
      · subst ek
        simp only [Nat.sub_self] at hE
        simp at hE
        subst hE
        simp only [upd, Nat.beq_refl, Bool.or_true, cond_true]
        refine (later (k + 1) Es _ (by rw [qz5, if_pos e]) (fun i E' hi hE' => ?_)).symm
        have h1 := hw (i + 1) E' (by simpa using hi) (by omega) e hE'
        have h2 : Nat.beq (k + 1 + i) k = false := qjx (by omega)
        simp only [h2, Bool.or_false]
        rw [Nat.add_assoc, Nat.add_comm 1 i]; exact h1
      · simp only [upd]
        have hE' : Es[j - (k + 1)]? = some Ej := by
          rw [show j - k = (j - (k + 1)) + 1 from by omega] at hE
          simpa using hE
        have ih := upd_next_look (t := t) (k := k + 1) (Es := Es) (s := bif (S k || Nat.beq k j) then app E s else s) (by omega) hE' hS (fun i E' hi hj => by rw [Nat.add_assoc, Nat.add_comm 1 i]; exact hw (i + 1) E' (by simpa using hi) (by omega))
        rw [qz5, if_pos e] at ih
        exact ih
    · rw [qz5, if_neg e]
      refine upd_look rfl (fun i E' hi hE' => ?_)
      by_cases ei : k + i = j
      · exfalso
        have : (E :: Es)[j - k]? = some E' := by rw [show j - k = i from by omega]; exact hi
        rw [hE] at this
        obtain rfl := Option.some.inj this
        exact e hE'
      · simp [qjx ei]
theorem blt_lt {a b : Nat} (h : Nat.blt a b = true) : a < b := by simpa using h
theorem lt_blt {a b : Nat} (h : a < b) : Nat.blt a b = true := by simpa using h
def memN : Nat → List Nat → Bool
  | _, [] => false
  | i, x :: r => Nat.beq i x || memN i r
theorem memN_iff {i : Nat} : ∀ {l : List Nat}, memN i l = true ↔ i ∈ l
  | [] => by simp [memN]
  | x :: r => by
    simp only [memN, Bool.or_eq_true, List.mem_cons, memN_iff (l := r)]
    constructor
    · rintro (h | h)
      · exact .inl (Nat.eq_of_beq_eq_true h)
      · exact .inr h
    · rintro (h | h)
      · exact .inl (by rw [h]; exact Nat.beq_refl x)
      · exact .inr h
def predRow (acc : List (List Nat)) : List Edge → List Nat
  | [] => []
  | e :: r => bif Region.binds .any e then e.on :: (acc.getD e.on [] ++ predRow acc r) else predRow acc r
def dedup : List Nat → List Nat
  | [] => []
  | x :: r => bif memN x r then dedup r else x :: dedup r
theorem dedup_mem {i : Nat} : ∀ {l : List Nat}, i ∈ dedup l → i ∈ l
  | [], h => by simp [dedup] at h
  | x :: r, h => by
    simp only [dedup] at h
    cases e : memN x r
    · rw [e] at h
      simp only [cond_false, List.mem_cons] at h
      rcases h with h | h
      · simp [h]
      · exact List.mem_cons_of_mem _ (dedup_mem h)
    · rw [e] at h
      exact List.mem_cons_of_mem _ (dedup_mem h)
def predGo (acc : List (List Nat)) : List Oper → List (List Nat)
  | [] => acc
  | o :: r => predGo (acc ++ [dedup (predRow acc o.after.toList)]) r
def preds (ops : List Oper) : List (List Nat) := predGo [] ops
def before (pr : List (List Nat)) (i j : Nat) : Bool := memN i (pr.getD j [])
def GoodP (ops : List Oper) (acc : List (List Nat)) : Prop := ∀ j i, i ∈ acc.getD j [] → ∃ o, ops[j]? = some o ∧ ∃ e ∈ o.after.toList, Region.binds .any e = true ∧ (e.on = i ∨ i ∈ acc.getD e.on [])
theorem predRow_spec {acc : List (List Nat)} {i : Nat} : ∀ {l : List Edge}, i ∈ predRow acc l → ∃ e ∈ l, Region.binds .any e = true ∧ (e.on = i ∨ i ∈ acc.getD e.on [])
  | [], h => by simp [predRow] at h
  | e :: r, h => by
    simp only [predRow] at h
    cases hb : Region.binds .any e
    · rw [hb] at h
      obtain ⟨e', h1, h2⟩ := predRow_spec (l := r) h
      exact ⟨e', by simp [h1], h2⟩
    · rw [hb] at h
      simp only [cond_true, List.mem_cons, List.mem_append] at h
      rcases h with h | h | h
      · exact ⟨e, by simp, hb, .inl h.symm⟩
      · exact ⟨e, by simp, hb, .inr h⟩
      · obtain ⟨e', h1, h2⟩ := predRow_spec (l := r) h
        exact ⟨e', by simp [h1], h2⟩
theorem predGo_good {ops : List Oper} : ∀ {r : List Oper} {acc : List (List Nat)}, GoodP ops acc → (∀ k, r[k]? = ops[acc.length + k]?) → GoodP ops (predGo acc r)
  | [], acc, h, _ => h
  | o :: r, acc, h, hr => by
    simp only [predGo]
    refine predGo_good ?_ (fun k => by
      have := hr (k + 1)
      simp only [List.length_append, List.length_cons, List.length_nil]
      rw [show acc.length + (0 + 1) + k = acc.length + (k + 1) from by omega]
      simpa using this)
    intro j i hi
    have grow : ∀ x y, y ∈ acc.getD x [] → y ∈ (acc ++ [dedup (predRow acc o.after.toList)]).getD x [] := by
      intro x y hy
      have hx : x < acc.length := by
        rcases Nat.lt_or_ge x acc.length with h | h
        · exact h
        · simp [List.getD_eq_getElem?_getD, List.getElem?_eq_none h] at hy
      simp only [List.getD_eq_getElem?_getD] at hy ⊢
      rw [List.getElem?_append_left hx]; exact hy
    by_cases hj : j < acc.length
    · have hi' : i ∈ acc.getD j [] := by
        simp only [List.getD_eq_getElem?_getD] at hi ⊢
        rwa [List.getElem?_append_left hj] at hi
      obtain ⟨o', h1, e, h2, h3, h4⟩ := h j i hi'
      exact ⟨o', h1, e, h2, h3, h4.imp id (grow _ _)⟩
    · by_cases hj2 : j = acc.length
      · subst hj2
        have hi' : i ∈ predRow acc o.after.toList := by
          refine dedup_mem ?_
          simpa [List.getD_eq_getElem?_getD] using hi
        obtain ⟨e, h2, h3, h4⟩ := predRow_spec hi'
        exact ⟨o, by have := hr 0; simpa using this.symm, e, h2, h3, h4.imp id (grow _ _)⟩
      · have : (acc ++ [dedup (predRow acc o.after.toList)])[j]? = none := List.getElem?_eq_none (by simp; omega)
        simp [List.getD_eq_getElem?_getD, this] at hi
theorem preds_good (ops : List Oper) : GoodP ops (preds ops) := predGo_good (fun j i h => by simp at h) (fun k => by simp)
structure Rec where
  looks : List Nat
  ids : List Nat
  E : Eff
def keys : Heap → List Nat
  | [] => []
  | (d, _) :: r => d :: keys r
theorem hasKey_iff {i : Nat} : ∀ {l : Heap}, hasKey l i = true ↔ i ∈ keys l
  | [] => by simp [hasKey, keys]
  | (d, v) :: r => by
    simp only [hasKey, keys, Bool.or_eq_true, List.mem_cons, hasKey_iff (l := r)]
    constructor
    · rintro (h | h)
      · exact .inl (Nat.eq_of_beq_eq_true h).symm
      · exact .inr h
    · rintro (h | h)
      · exact .inl (by rw [h]; exact Nat.beq_refl d)
      · exact .inr h
def hitB (a b : Rec) : Bool :=
  (match a.E.dst with | some d => memN d b.looks || b.E.w d | none => false) || (keys a.E.hp).any (fun i => memN i b.ids || b.E.h i)
theorem hit_slot {a b : Rec} {t : Nat} (h : a.E.w t = true) (hb : t ∈ b.looks ∨ b.E.w t = true) : hitB a b = true := by
  unfold Eff.w at h
  unfold hitB
  cases hd : a.E.dst with
  | none => rw [hd] at h; cases h
  | some d =>
    rw [hd] at h
    have : d = t := Nat.eq_of_beq_eq_true h
    subst this
    rcases hb with hb | hb
    · simp [memN_iff.2 hb]
    · simp [hb]
theorem hit_obj {a b : Rec} {i : Nat} (h : a.E.h i = true) (hb : i ∈ b.ids ∨ b.E.h i = true) : hitB a b = true := by
  unfold hitB
  have : (keys a.E.hp).any (fun i => memN i b.ids || b.E.h i) = true := by
    refine List.any_eq_true.2 ⟨i, hasKey_iff.1 h, ?_⟩
    rcases hb with hb | hb
    · simp [memN_iff.2 hb]
    · simp [hb]
  simp [this]
def apartB (pr : List (List Nat)) (k : Nat) (r : Rec) : Nat → List Rec → Bool
  | _, [] => true
  | j, x :: xs => (before pr k j || (!hitB r x && !hitB x r)) && apartB pr k r (j + 1) xs
def drawB (pr : List (List Nat)) : Nat → List Rec → Bool
  | _, [] => true
  | k, r :: rs => apartB pr k r (k + 1) rs && drawB pr (k + 1) rs
theorem apartB_spec {pr : List (List Nat)} {k : Nat} {r : Rec} : ∀ {j : Nat} {xs : List Rec}, apartB pr k r j xs = true → ∀ i x, xs[i]? = some x → (hitB r x = true ∨ hitB x r = true) → before pr k (j + i) = true
  | j, [], _, i, x, hx, _ => by simp at hx
  | j, y :: xs, h, i, x, hx, hh => by
    simp only [apartB, Bool.and_eq_true, Bool.or_eq_true, Bool.not_eq_true'] at h
    cases i with
    | zero =>
      simp at hx; subst hx
      rcases h.1 with h1 | ⟨h1, h2⟩
      · exact h1
      · rcases hh with hh | hh
        · rw [h1] at hh; cases hh
        · rw [h2] at hh; cases hh
    | succ i =>
      have := apartB_spec h.2 i x (by simpa using hx) hh
      rw [show j + (i + 1) = j + 1 + i from by omega]; exact this
theorem drawB_spec {pr : List (List Nat)} : ∀ {k : Nat} {rs : List Rec}, drawB pr k rs = true → ∀ i j a b, i < j → rs[i]? = some a → rs[j]? = some b → (hitB a b = true ∨ hitB b a = true) → before pr (k + i) (k + j) = true
  | k, [], _, i, j, a, b, _, ha, _, _ => by simp at ha
  | k, r :: rs, h, i, j, a, b, hij, ha, hb, hh => by
    simp only [drawB, Bool.and_eq_true] at h
    cases i with
    | zero =>
      simp at ha; subst ha
      obtain ⟨j', rfl⟩ : ∃ j', j = j' + 1 := ⟨j - 1, by omega⟩
      have := apartB_spec h.1 j' b (by simpa using hb) hh
      rw [show k + (j' + 1) = k + 1 + j' from by omega]; exact this
    | succ i =>
      obtain ⟨j', rfl⟩ : ∃ j', j = j' + 1 := ⟨j - 1, by omega⟩
      have := drawB_spec h.2 i j' a b (by omega) (by simpa using ha) (by simpa using hb) hh
      rw [show k + (i + 1) = k + 1 + i from by omega, show k + (j' + 1) = k + 1 + j' from by omega]; exact this
def bumps : List Rec → List Nat
  | [] => []
  | r :: rs => r.E.bump.map (·.1) ++ bumps rs
def nodupB : List Nat → Bool
  | [] => true
  | x :: r => !memN x r && nodupB r
theorem bumps_mem {i : Nat} {r : Rec} {b : Nat × Nat} : ∀ {rs : List Rec}, rs[i]? = some r → b ∈ r.E.bump → b.1 ∈ bumps rs
  | [], h, _ => by simp at h
  | x :: rs, h, hb => by
    simp only [bumps]
    cases i with
    | zero => simp at h; subst h; exact List.mem_append_left _ (List.mem_map.2 ⟨b, hb, rfl⟩)
    | succ i => exact List.mem_append_right _ (bumps_mem (i := i) (rs := rs) (by simpa using h) hb)
theorem nodupB_app : ∀ {a b : List Nat}, nodupB (a ++ b) = true → nodupB b = true ∧ ∀ x ∈ a, x ∉ b
  | [], b, h => ⟨h, fun x hx => by cases hx⟩
  | y :: a, b, h => by
    simp only [List.cons_append, nodupB, Bool.and_eq_true, Bool.not_eq_true'] at h
    obtain ⟨h1, h2⟩ := nodupB_app h.2
    refine ⟨h1, fun x hx hb => ?_⟩
    rcases List.mem_cons.1 hx with rfl | hx
    · have := memN_iff.2 (List.mem_append_right a hb)
      rw [h.1] at this; cases this
    · exact h2 x hx hb
theorem bumps_apart : ∀ {rs : List Rec} {i j : Nat} {a b : Rec} {x y : Nat × Nat}, nodupB (bumps rs) = true → i < j → rs[i]? = some a → rs[j]? = some b → x ∈ a.E.bump → y ∈ b.E.bump → x.1 ≠ y.1
  | [], i, j, a, b, x, y, _, _, ha, _, _, _ => by simp at ha
  | r :: rs, i, j, a, b, x, y, h, hij, ha, hb, hx, hy => by
    obtain ⟨j', rfl⟩ : ∃ j', j = j' + 1 := ⟨j - 1, by omega⟩
    have hb' : rs[j']? = some b := by simpa using hb
    simp only [bumps] at h
    obtain ⟨h1, h2⟩ := nodupB_app h
    cases i with
    | zero =>
      simp at ha; subst ha
      intro e
      exact h2 x.1 (List.mem_map.2 ⟨x, hx, rfl⟩) (e ▸ bumps_mem hb' hy)
    | succ i => exact bumps_apart (rs := rs) (i := i) (j := j') h1 (by omega) (by simpa using ha) hb' hx hy
def backB : Nat → List Oper → Bool
  | _, [] => true
  | k, o :: r => o.after.toList.all (fun e => !Region.binds .any e || Nat.blt e.on k) && backB (k + 1) r
theorem backB_spec : ∀ {k : Nat} {l : List Oper}, backB k l = true → ∀ j o, l[j]? = some o → ∀ e ∈ o.after.toList, Region.binds .any e = true → e.on < k + j
  | k, [], _, j, o, h, _, _, _ => by simp at h
  | k, x :: l, h, j, o, ho, e, he, hb => by
    simp only [backB, Bool.and_eq_true, List.all_eq_true] at h
    cases j with
    | zero =>
      simp at ho; subst ho
      have := h.1 e he
      simpa [hb] using this
    | succ j =>
      have := backB_spec h.2 j o (by simpa using ho) e he hb
      omega
section
variable {C : Ctx} {all : Array Oper} {vf : Nat → Nat}
inductive Chain (C : Ctx) (all : Array Oper) (vf : Nat → Nat) : List Oper → St → List Rec → St → Prop
  | nil (s : St) : Chain C all vf [] s [] s
  | cons {o : Oper} {l : List Oper} {s s' : St} {ids : List Nat} {E : Eff} {rs : List Rec} (hJ : OpJ C all o s ids E) (hb : ∀ b, b ∈ E.bump → b.2 = vf b.1) (h : Chain C all vf l (app E s) rs s') : Chain C all vf (o :: l) s (⟨o.looksAt all, ids, E⟩ :: rs) s'
theorem upd_all_false {S : Nat → Bool} : ∀ {k : Nat} {Es : List Eff} {s : St}, (∀ i, k ≤ i → S i = false) → upd S k Es s = s
  | k, [], s, _ => rfl
  | k, E :: Es, s, h => by
    simp only [upd, h k (Nat.le_refl _), cond_false]
    exact upd_all_false fun i hi => h i (by omega)
theorem Chain.len {l : List Oper} {s s' : St} {rs : List Rec} (h : Chain C all vf l s rs s') : rs.length = l.length := by
  induction h with
  | nil => rfl
  | cons _ _ _ ih => simp [ih]
theorem Chain.last {l : List Oper} {s s' : St} {rs : List Rec} (h : Chain C all vf l s rs s') : ∀ {S : Nat → Bool} {k : Nat}, (∀ i, k ≤ i → S i = true) → upd S k (rs.map (·.E)) s = s' := by
  induction h with
  | nil s => intro S k _; rfl
  | cons _ _ _ ih =>
    intro S k hS
    simp only [List.map_cons, upd, hS k (Nat.le_refl _), cond_true]
    exact ih fun i hi => hS i (by omega)
theorem Chain.get {l : List Oper} {s s' : St} {rs : List Rec} (h : Chain C all vf l s rs s') : ∀ {k j : Nat} {r : Rec}, rs[j]? = some r → ∃ o, l[j]? = some o ∧ r.looks = o.looksAt all ∧ (∀ b, b ∈ r.E.bump → b.2 = vf b.1) ∧ OpJ C all o (upd (fun i => Nat.blt i (k + j)) k (rs.map (·.E)) s) r.ids r.E := by
  induction h with
  | nil s => intro k j r hr; simp at hr
  | @cons o l s s' ids E rs hJ hb h ih =>
    intro k j r hr
    cases j with
    | zero =>
      simp at hr; subst hr
      refine ⟨o, rfl, rfl, hb, ?_⟩
      have : upd (fun i => Nat.blt i (k + 0)) k (List.map (·.E) (⟨o.looksAt all, ids, E⟩ :: rs)) s = s := upd_all_false fun i hi => by
        simp only [Nat.add_zero]
        cases e : Nat.blt i k
        · rfl
        · have := blt_lt e; omega
      rw [this]; exact hJ
    | succ j =>
      obtain ⟨o', h1, h2, h3, h4⟩ := ih (k := k + 1) (j := j) (r := r) (by simpa using hr)
      refine ⟨o', by simpa using h1, h2, h3, ?_⟩
      have e : Nat.blt k (k + (j + 1)) = true := lt_blt (by omega)
      simp only [List.map_cons, upd, e, cond_true]
      rw [show k + (j + 1) = k + 1 + j from by omega]; exact h4
def left (S : Nat → Bool) : Nat → Nat
  | 0 => 0
  | n + 1 => left S n + (bif S n then 0 else 1)
theorem left_zero {S : Nat → Bool} : ∀ {n : Nat}, left S n = 0 → ∀ i, i < n → S i = true
  | 0, _, i, hi => by omega
  | n + 1, h, i, hi => by
    simp only [left] at h
    cases e : S n
    · rw [e] at h; simp at h
    · by_cases e2 : i = n
      · rw [e2]; exact e
      · exact left_zero (n := n) (by omega) i (by omega)
theorem left_same {S S' : Nat → Bool} : ∀ {n : Nat}, (∀ i, i < n → S i = S' i) → left S n = left S' n
  | 0, _ => rfl
  | n + 1, h => by simp only [left, h n (Nat.lt_succ_self n), left_same (n := n) fun i hi => h i (by omega)]
theorem left_next {S : Nat → Bool} {j : Nat} : ∀ {n : Nat}, j < n → S j = false → left (fun i => S i || Nat.beq i j) n + 1 = left S n
  | 0, h, _ => by omega
  | n + 1, h, hS => by
    simp only [left]
    by_cases e : j = n
    · subst e
      have : left (fun i => S i || Nat.beq i j) j = left S j := left_same fun i hi => by simp [qjx (show i ≠ j by omega)]
      simp [this, hS]
    · have := left_next (n := n) (by omega) hS
      rw [qjx (show n ≠ j from fun h => e h.symm), Bool.or_false]
      omega
theorem Rel.same {s s' : St} {a : Act} {w : World} {g : Gh} (h : Rel C a w s g) (hs : Same s s') : Rel C a w s' g := by
  have hk : ∀ i io, look s'.hp i = some io → look s.hp i = some io := fun i io hi => by rw [hs.2]; exact hi
  refine ⟨h.size, h.defers, h.hr.weaken hk, fun t => ?_⟩
  rw [← hs.1]
  exact (h.slots t).fits ⟨fun _ => Nat.le_refl _, fun _ _ => rfl, fun _ _ => rfl, fun _ _ => rfl, fun _ hb => hb.mono hk, fun _ _ => rfl⟩
theorem any_order {l : List Oper} {s s' : St} {rs : List Rec} (hc : Chain C l.toArray vf l s rs s') (hd : drawB (preds l) 0 rs = true) (hn : nodupB (bumps rs) = true) (hbk : backB 0 l = true) (hok : okDst C.n l = true) {Q : Exit → Act → World → Prop} (hQ : ∀ a w g, Rel C a w s' g → Q .normal a w) :
    ∀ (fuel : Nat) (listed : Array Bool) (a : Act) (w : World) (σ : St) (g : Gh), listed.size = l.length → left (fun i => listed.getD i false) l.length ≤ fuel →
      (∀ j i, listed.getD j false = true → before (preds l) i j = true → listed.getD i false = true) → Rel C a w σ g → Same σ (upd (fun i => listed.getD i false) 0 (rs.map (·.E)) s) →
      (∀ (i : Nat) (r : Rec) (b : Nat × Nat), rs[i]? = some r → b ∈ r.E.bump → listed.getD i false = false → b.2 = g.cur b.1 + 1) → wpAny C.P .any l.toArray Q fuel listed a w := by
  have hlen := hc.len
  have hpre : ∀ (listed : Array Bool), (∀ j i, listed.getD j false = true → before (preds l) i j = true → listed.getD i false = true) → ∀ j o, l[j]? = some o → (∀ e ∈ o.after, Region.binds .any e = true → listed.getD e.on false = true) → ∀ i, before (preds l) i j = true → listed.getD i false = true := by
    intro listed hcl j o ho hall i hb
    obtain ⟨o', h1, e, h2, h3, h4⟩ := preds_good l j i (memN_iff.1 hb)
    rw [ho] at h1; obtain rfl := Option.some.inj h1
    have he := hall e (by simpa using h2) h3
    rcases h4 with h4 | h4
    · rw [← h4]; exact he
    · exact hcl e.on i he (memN_iff.2 h4)
  have hfin : ∀ (listed : Array Bool) (a : Act) (w : World) (σ : St) (g : Gh), (∀ i, i < l.length → listed.getD i false = true) → Rel C a w σ g → Same σ (upd (fun i => listed.getD i false) 0 (rs.map (·.E)) s) → Q .normal a w := by
    intro listed a w σ g hall hr hs
    refine hQ a w g (hr.same (hs.trans ?_))
    have := hc.last (S := fun _ => true) (k := 0) (fun _ _ => rfl)
    rw [← this]
    have hlt : ∀ i E, (rs.map (·.E))[i]? = some E → i < l.length := fun i E hi => by rw [← hlen]; have := (List.getElem?_eq_some_iff.1 hi).1; simpa using this
    exact ⟨fun t => upd_get rfl (fun i E hi _ => by simp only [Nat.zero_add]; exact hall i (hlt i E hi)), fun t => upd_look rfl (fun i E hi _ => by simp only [Nat.zero_add]; exact hall i (hlt i E hi))⟩
  intro fuel
  induction fuel with
  | zero =>
    intro listed a w σ g hsz hleft hcl hr hs hv
    have hall := left_zero (Nat.le_zero.1 hleft)
    refine ⟨?_, hfin listed a w σ g hall hr hs⟩
    rw [List.eq_nil_iff_forall_not_mem]
    intro j hj
    rw [mem_ready] at hj
    obtain ⟨h0, o, ho, _⟩ := hj
    have hjl : j < l.length := by have := (List.getElem?_eq_some_iff.1 (show l[j]? = some o by simpa using ho)).1; exact this
    have h1 := hall j hjl
    simp [Array.getD_eq_getD_getElem?, hsz, hjl] at h0 h1
    rw [h0] at h1; cases h1
  | succ fuel ih =>
    intro listed a w σ g hsz hleft hcl hr hs hv
    refine ⟨fun hready => ?_, fun j hj => ?_⟩
    · refine hfin listed a w σ g ?_ hr hs
      intro i
      induction i using Nat.strongRecOn with
      | _ i ihi =>
        intro hi
        cases e : listed.getD i false
        · exfalso
          have : i ∈ Region.ready .any l.toArray listed := by
            rw [mem_ready]
            refine ⟨by simp [Array.getD_eq_getD_getElem?, hsz, hi] at e ⊢; exact e, l[i], by simp [hi], fun e' he' hb => ?_⟩
            have := backB_spec hbk i l[i] (by simp [hi]) e' (by simpa using he') hb
            exact ihi e'.on (by omega) (by omega)
          rw [hready] at this; cases this
        · rfl
    · rw [mem_ready] at hj
      obtain ⟨h0, o, ho, hall⟩ := hj
      have ho' : l[j]? = some o := by simpa using ho
      have hjl : j < l.length := (List.getElem?_eq_some_iff.1 ho').1
      have hSj : listed.getD j false = false := by
        simp [Array.getD_eq_getD_getElem?, hsz, hjl] at h0 ⊢; exact h0
      have hpj := hpre listed hcl j o ho' hall
      have hrj : rs[j]? = some rs[j] := by simp [hlen, hjl]
      obtain ⟨o2, k1, k2, k3, k4⟩ := hc.get (k := 0) hrj
      rw [ho'] at k1; obtain rfl := Option.some.inj k1
      simp only [Nat.zero_add] at k4
      have hEs : ∀ (i : Nat) (E : Eff), (rs.map (·.E))[i]? = some E → ∃ r : Rec, rs[i]? = some r ∧ r.E = E := fun i E hi => by
        rw [List.getElem?_map] at hi
        cases hri : rs[i]? with
        | none => rw [hri] at hi; simp at hi
        | some r => rw [hri] at hi; simp at hi; exact ⟨r, rfl, hi⟩
      -- who writes what j looks at has run if it stands before, and has not if it stands behind
      have hside : ∀ (i : Nat) (r : Rec), rs[i]? = some r → (hitB r rs[j] = true ∨ (i ≠ j ∧ hitB rs[j] r = true)) → listed.getD i false = Nat.blt i j := by
        intro i r hri hh
        rcases Nat.lt_trichotomy i j with h | h | h
        · have := drawB_spec hd i j r rs[j] h hri hrj (hh.imp id (·.2))
          simp only [Nat.zero_add] at this
          rw [hpj i this, lt_blt h]
        · subst h
          rw [hSj]
          cases e : Nat.blt i i
          · rfl
          · have := blt_lt e; omega
        · have := drawB_spec hd j i rs[j] r h hrj hri (hh.symm.imp (·.2) id)
          simp only [Nat.zero_add] at this
          have h2 : Nat.blt i j = false := by
            cases e : Nat.blt i j
            · rfl
            · have := blt_lt e; omega
          rw [h2]
          cases e : listed.getD i false
          · rfl
          · have := hcl i j e this
            rw [hSj] at this; cases this
      have hagree : Agree l.toArray o rs[j].ids (upd (fun i => Nat.blt i j) 0 (rs.map (·.E)) s) σ := by
        constructor
        · intro t ht
          rw [hs.1 t]
          refine upd_get rfl (fun i E hi hw => ?_)
          obtain ⟨r, hri, rfl⟩ := hEs i E hi
          simp only [Nat.zero_add]
          exact hside i r hri (.inl (hit_slot hw (.inl (by rw [k2]; exact ht))))
        · intro t ht
          rw [hs.2 t]
          refine upd_look rfl (fun i E hi hw => ?_)
          obtain ⟨r, hri, rfl⟩ := hEs i E hi
          simp only [Nat.zero_add]
          exact hside i r hri (.inl (hit_obj hw (.inl ht)))
      have hdst : ∀ d, o.dst = some d → d < C.n := by
        have : ∀ {l : List Oper} {j : Nat}, okDst C.n l = true → l[j]? = some o → ∀ d, o.dst = some d → d < C.n := by
          intro l
          induction l with
          | nil => intro j _ h; simp at h
          | cons x l ih =>
            intro j h hj
            cases j with
            | zero => simp at hj; subst hj; exact okDst_head h
            | succ j => exact ih (okDst_tail h) (by simpa using hj)
        exact this hok ho'
      have key := k4 σ hagree hdst a w g hr (fun b hb => hv j rs[j] b hrj hb hSj) (wpAny C.P .any l.toArray Q fuel (listed.setIfInBounds j true)) Q (fun a' w' g' hr' hcur => by
        have hS' : ∀ i, (listed.setIfInBounds j true).getD i false = (listed.getD i false || Nat.beq i j) := by
          intro i
          by_cases e : i = j
          · subst e; simp [Array.getD_eq_getD_getElem?, hsz, hjl]
          · rw [getD_set_ne false (fun h => e h.symm), qjx e, Bool.or_false]
        have hfun : (fun i => (listed.setIfInBounds j true).getD i false) = (fun i => listed.getD i false || Nat.beq i j) := funext hS'
        refine ih _ a' w' (app rs[j].E σ) g' (by simpa using hsz) ?_ ?_ hr' ?_ ?_
        · rw [hfun]
          have := left_next (S := fun i => listed.getD i false) (n := l.length) hjl hSj
          omega
        · intro j' i h1 h2
          rw [hS'] at h1 ⊢
          simp only [Bool.or_eq_true] at h1 ⊢
          left
          rcases h1 with h1 | h1
          · exact hcl j' i h1 h2
          · have := Nat.eq_of_beq_eq_true h1
            subst this
            exact hpj i h2
        · rw [hfun]
          refine (hs.app rs[j].E).trans ?_
          have hE' : (rs.map (·.E))[j - 0]? = some rs[j].E := by simp [hrj]
          refine ⟨fun t => upd_next_get (Nat.zero_le j) hE' hSj (fun i E hi hlt h1 h2 => ?_), fun t => upd_next_look (Nat.zero_le j) hE' hSj (fun i E hi hlt h1 h2 => ?_)⟩
          · obtain ⟨r, hri, rfl⟩ := hEs i E hi
            simp only [Nat.zero_add] at hlt ⊢
            rw [hside i r hri (.inr ⟨by omega, hit_slot h1 (.inr h2)⟩)]
            cases e : Nat.blt i j
            · rfl
            · have := blt_lt e; omega
          · obtain ⟨r, hri, rfl⟩ := hEs i E hi
            simp only [Nat.zero_add] at hlt ⊢
            rw [hside i r hri (.inr ⟨by omega, hit_obj h1 (.inr h2)⟩)]
            cases e : Nat.blt i j
            · rfl
            · have := blt_lt e; omega
        · intro i r b hri hb hSi
          rw [hS'] at hSi
          simp only [Bool.or_eq_false_iff] at hSi
          have hij : i ≠ j := fun e => by subst e; simp at hSi
          rw [hcur b.1 (fun b' hb' => ?_)]
          · exact hv i r b hri hb hSi.1
          · rcases Nat.lt_or_gt_of_ne hij with h | h
            · exact bumps_apart hn h hri hrj hb hb'
            · exact (bumps_apart hn h hrj hri hb' hb).symm)
      unfold wpOp
      have ho3 : l.toArray[j]? = some o := ho
      rw [ho3]
      unfold opWp at key
      exact key
end
def Drw (C : Ctx) (l0 : List Oper) (vf : Nat → Nat) (K : St → Prop) (l : List Oper) (s : St) (acc : List Rec) : Prop :=
  ∃ rs s', Chain C l0.toArray vf l s rs s' ∧ drawB (preds l0) 0 (acc ++ rs) = true ∧ nodupB (bumps (acc ++ rs)) = true ∧ K s'
section
variable {C : Ctx} {l0 : List Oper} {vf : Nat → Nat} {K : St → Prop} {l : List Oper} {s : St} {acc : List Rec} {o : Oper} {ids : List Nat} {E : Eff}
theorem d_nil (h : drawB (preds l0) 0 acc = true) (hn : nodupB (bumps acc) = true) (hK : K s) : Drw C l0 vf K [] s acc := ⟨[], s, .nil s, by simpa using h, by simpa using hn, hK⟩
theorem d_cons (hb : ∀ b, b ∈ E.bump → b.2 = vf b.1) (hJ : OpJ C l0.toArray o s ids E) (h : Drw C l0 vf K l (app E s) (acc ++ [⟨o.looksAt l0.toArray, ids, E⟩])) : Drw C l0 vf K (o :: l) s acc := by
  obtain ⟨rs, s', h1, h2, h3, h4⟩ := h
  refine ⟨_, s', .cons hJ hb h1, ?_, ?_, h4⟩
  · simpa using h2
  · simpa using h3
theorem d_v {d : Nat} {v : V} (hJ : OpJ C l0.toArray o s ids (EV d v)) (h : Drw C l0 vf K l ⟨(d, v) :: s.sl, s.hp⟩ (acc ++ [⟨o.looksAt l0.toArray, ids, EV d v⟩])) : Drw C l0 vf K (o :: l) s acc := d_cons (fun b hb => by cases hb) hJ h
theorem d_s {id ver : Nat} {ob : Obj} (hJ : OpJ C l0.toArray o s ids (ES id ver ob)) (h : Drw C l0 vf K l ⟨s.sl, (id, some (ver, ob)) :: s.hp⟩ (acc ++ [⟨o.looksAt l0.toArray, ids, ES id ver ob⟩])) : Drw C l0 vf K (o :: l) s acc := d_cons (fun b hb => by cases hb) hJ h
theorem d_n {d id : Nat} {v : Nat → V} {ob : Obj} (hJ : ∀ ver, OpJ C l0.toArray o s ids (EN d (v ver) id ver ob)) (h : Drw C l0 vf K l ⟨(d, v (vf id)) :: s.sl, (id, some (vf id, ob)) :: s.hp⟩ (acc ++ [⟨o.looksAt l0.toArray, ids, EN d (v (vf id)) id (vf id) ob⟩])) : Drw C l0 vf K (o :: l) s acc := d_cons (fun b hb => by obtain rfl := List.mem_singleton.1 hb; rfl) (hJ _) h
theorem a_draw {id : Nat} {Q : Exit → St → Prop} (hm : C.P.follows .mixedOrders = true) (hok : okDst C.n l = true) (hbk : backB 0 l = true) (h : ∀ vf, Drw C l vf (fun s => Q .normal s) l s []) : AWp C (.region id l.toArray true) Q s := by
  intro a w g hr
  obtain ⟨rs, s', h1, h2, h3, h4⟩ := h (fun d => g.cur d + 1)
  refine wp_region_any hm ?_
  have hr' : Rel C a { w with drawn := w.drawn + 1 } s g := by
    refine hr.mem (w' := { w with drawn := w.drawn + 1 }) (g' := g) ?_ ⟨fun _ => Nat.le_refl _, fun _ _ => rfl, fun _ _ => rfl, fun _ _ => rfl, fun _ hb => hb, fun _ _ => rfl⟩
    exact ⟨⟨hr.hr.ext.os, hr.hr.ext.tape, hr.hr.ext.output, hr.hr.ext.size, hr.hr.ext.old⟩, hr.hr.wf, hr.hr.lnk, hr.hr.dis, hr.hr.cur, hr.hr.blk, fun i ver o hi => OR.fits (w := w) (X := XX C s.hp g w) (X' := XX C s.hp g { w with drawn := w.drawn + 1 }) (w' := { w with drawn := w.drawn + 1 }) ⟨fun _ => Nat.le_refl _, fun _ _ => rfl, fun _ _ => rfl, fun _ _ => rfl, fun _ hb => hb, fun _ _ => rfl⟩ rfl rfl (fun _ _ => rfl) (hr.hr.obj i ver o hi)⟩
  refine any_order h1 (by simpa using h2) (by simpa using h3) hbk hok (fun a w g hr => ⟨s', g, hr, h4⟩) _ _ a _ s g (by simp) ?_ ?_ hr' ?_ ?_
  · have : ∀ n, left (fun i => (Array.replicate l.toArray.size false).getD i false) n ≤ n := by
      intro n
      induction n with
      | zero => exact Nat.le_refl _
      | succ n ih =>
        simp only [left]
        cases (Array.replicate l.toArray.size false).getD n false
        · simp only [cond_false]; omega
        · simp only [cond_true]; omega
    simpa using this l.length
  · intro j i hj _
    have : (Array.replicate l.toArray.size false).getD j false = false := by
      simp [Array.getD_eq_getD_getElem?, Array.getElem?_replicate]; split <;> simp
    rw [this] at hj; cases hj
  · have : upd (fun i => (Array.replicate l.toArray.size false).getD i false) 0 (rs.map (·.E)) s = s := upd_all_false fun i _ => by
      simp [Array.getD_eq_getD_getElem?, Array.getElem?_replicate]; split <;> simp
    rw [this]; exact Same.refl s
  · intro i r b hri hb _
    obtain ⟨o, _, _, h5, _⟩ := h1.get (k := 0) hri
    exact h5 b hb
end
end Go.Ab
/- Contracts: what a call of a function does, told without addresses; how a walk gives one, and how a walk uses one. -/
set_option linter.unusedSimpArgs false
set_option linter.unusedVariables false
namespace Go.Ab
def num : Nat → List Obj → Heap
  | _, [] => []
  | k, o :: r => (k, some (0, o)) :: num (k + 1) r
def numS : Nat → List V → Slots
  | _, [] => []
  | k, v :: r => (k, v) :: numS (k + 1) r
theorem num_look : ∀ {k i : Nat} {os : List Obj}, look (num k os) i = if k ≤ i then (os[i - k]?).map (fun o => (0, o)) else none
  | k, i, [] => by simp [num, look]
  | k, i, o :: r => by
    simp only [num, look]
    by_cases e : k = i
    · subst e; simp
    · rw [qjx e, cond_false, num_look]
      by_cases h : k + 1 ≤ i
      · rw [if_pos h, if_pos (by omega), show i - k = (i - (k + 1)) + 1 from by omega]; simp
      · rw [if_neg h, if_neg (by omega)]
theorem num_look0 {i : Nat} {os : List Obj} : look (num 0 os) i = (os[i]?).map (fun o => (0, o)) := by rw [num_look]; simp
theorem numS_get : ∀ {k t : Nat} {vs : List V}, get (numS k vs) t = if k ≤ t then vs.getD (t - k) .any else .any
  | k, t, [] => by simp [numS, get]
  | k, t, v :: r => by
    simp only [numS, get]
    by_cases e : k = t
    · subst e; simp
    · rw [qjx e, cond_false, numS_get]
      by_cases h : k + 1 ≤ t
      · rw [if_pos h, if_pos (by omega), show t - k = (t - (k + 1)) + 1 from by omega]; simp
      · rw [if_neg h, if_neg (by omega)]
def fpOf (hp : Heap) (g : Gh) (b : Nat) : Prop := ∃ i io, look hp i = some io ∧ b ∈ g.fp i
def fnCtx (P : Program) (n : Nat) (w : World) (ins : List Obj) (g : Gh) (X : Nat → Prop) : Ctx := ⟨P, n, w, fpOf (num 0 ins) g, X, g, ins⟩
def Fn (P : Program) (f : FuncId) (args : List V) (ins : List Obj) (post : V → List Obj → List Obj → Prop) : Prop :=
  ∀ (w : World) (X : Nat → Prop) (g : Gh) (vals : Array Value), HR (fnCtx P 0 w ins g X) w (num 0 ins) g → vals.size = args.length →
    (∀ (i : Nat) (v : V) (u : Value), args[i]? = some v → vals[i]? = some u → VR g (XX (fnCtx P 0 w ins g X) (num 0 ins) g w) w v u) →
    Calls P f vals w (fun e w' => ∃ u r ins' new g', e = .returned u ∧ post r ins' new ∧ ins'.length = ins.length ∧ (∀ i, i < ins.length → g'.val i = g.val i ∧ g'.blk i = g.blk i ∧ g'.sz i = g.sz i) ∧ HR { fnCtx P 0 w ins g X with g0 := { g' with cur := fun _ => 0 }, ins := [] } w' (num 0 (ins' ++ new)) { g' with cur := fun _ => 0 } ∧ VR { g' with cur := fun _ => 0 } (XX (fnCtx P 0 w ins g X) (num 0 (ins' ++ new)) g' w') w' r u)
theorem Fn.mono {P : Program} {f : FuncId} {args : List V} {ins : List Obj} {post post' : V → List Obj → List Obj → Prop} (h : Fn P f args ins post) (hp : ∀ r i n, post r i n → post' r i n) : Fn P f args ins post' :=
  fun w X g vals h1 h2 h3 => (h w X g vals h1 h2 h3).mono fun _ _ ⟨u, r, ins', new, g', a, b, c⟩ => ⟨u, r, ins', new, g', a, hp _ _ _ b, c⟩
def ren (ids : List (Nat × Nat)) : V → V
  | .own i _ => .own (ids.getD i (0, 0)).1 (ids.getD i (0, 0)).2
  | .ptr i _ off => .ptr (ids.getD i (0, 0)).1 (ids.getD i (0, 0)).2 off
  | .agg xs => .agg (renL xs)
  | .tup xs => .tup (renL xs)
  | .fn f xs => .fn f (renL xs)
  | v => v
where renL : List V → List V
  | [] => []
  | x :: r => ren ids x :: renL r
def okV (n : Nat) : V → Bool
  | .own i k => Nat.beq k 0 && Nat.blt i n
  | .ptr i k _ => Nat.beq k 0 && Nat.blt i n
  | .agg xs => okL xs
  | .tup xs => okL xs
  | .pel _ _ _ _ => false
  | .fn _ xs => okL xs
  | _ => true
where okL : List V → Bool
  | [] => true
  | x :: r => okV n x && okL r
def renO (ids : List (Nat × Nat)) : Obj → Obj
  | .row e s es => .row e s es
  | .box e xs => .box e (ren.renL ids xs)
  | .deep t es h => .deep t es h
  | .map kvs => .map kvs
  | .gone => .gone
def okO (n : Nat) : Obj → Bool
  | .row _ _ _ => true
  | .box _ xs => okV.okL n xs
  | .deep _ _ h => h.isNone
  | .map _ => true
  | .gone => true
theorem qz1 {ids : List (Nat × Nat)} : ∀ {xs : List V} {i : Nat}, (ren.renL ids xs)[i]? = (xs[i]?).map (ren ids)
  | [], i => by simp [ren.renL]
  | x :: r, 0 => by simp [ren.renL]
  | x :: r, i + 1 => by simp [ren.renL, qz1 (xs := r)]
theorem qzl {ids : List (Nat × Nat)} : ∀ {xs : List V}, (ren.renL ids xs).length = xs.length
  | [] => rfl
  | x :: r => by simp [ren.renL, qzl (xs := r)]
theorem okL_at {n : Nat} : ∀ {xs : List V}, okV.okL n xs = true → ∀ {i : Nat} {v : V}, xs[i]? = some v → okV n v = true
  | [], _, i, v, h => by simp at h
  | x :: r, h, 0, v, hv => by simp at hv; subst hv; simp [okV.okL] at h; exact h.1
  | x :: r, h, i + 1, v, hv => okL_at (xs := r) (by simp [okV.okL] at h; exact h.2) (by simpa using hv)
theorem sr_back {ids : List (Nat × Nat)} {n : Nat} {X X' : Nat → Prop} {w w' : World} (hX : ∀ b, X b → X' b) (hw : ∀ b, X b → w'.heap[b]? = w.heap[b]?) :
    ∀ {v : V} {u : Value}, SR X w v u → ∀ r, v = ren ids r → okV n r = true → SR X' w' r u := by
  intro v u h
  induction h with
  | p v =>
    intro r hr hok
    cases r <;> first | (simp [ren] at hr; done) | (simp [okV] at hok; done) | (simp only [ren, V.p.injEq] at hr; subst hr; exact .p _)
  | any v =>
    intro r hr hok
    cases r <;> first | (simp [ren] at hr; done) | (simp [okV] at hok; done) | exact .any _
  | nil a c =>
    intro r hr hok
    cases r <;> first | (simp [ren] at hr; done) | (simp [okV] at hok; done) | (simp only [ren, V.sl.injEq] at hr; subst hr; exact .nil _ _)
  | sl es s b o c cs hs hc hm hX0 hl hr0 he ih =>
    intro r hr hok
    cases r <;> first | (simp [ren] at hr; done) | (simp [okV] at hok; done) | (simp only [ren, V.sl.injEq] at hr; subst hr; exact (SR.sl _ s b o c cs hs hc hm hX0 hl hr0 he).fits hX hw)
  | el es k f s b o cs hs hX0 hl hr0 he hk ih =>
    intro r hr hok
    cases r <;> first | (simp [ren] at hr; done) | (simp [okV] at hok; done) | (simp only [ren, V.el.injEq] at hr; obtain ⟨rfl, rfl, rfl⟩ := hr; exact (SR.el _ _ _ s b o cs hs hX0 hl hr0 he hk).fits hX hw)
  | agg xs cs hl he ih =>
    intro r hr hok
    cases r with
    | agg ys =>
      simp only [ren, V.agg.injEq] at hr
      subst hr
      refine .agg ys cs (by rw [hl, qzl]) fun i v u h1 h2 => ?_
      exact ih i (ren ids v) u (by rw [qz1, h1]; rfl) h2 v rfl (okL_at (by simpa [okV] using hok) h1)
    | _ => simp [ren] at hr
  | tup xs cs hl he ih =>
    intro r hr hok
    cases r with
    | tup ys =>
      simp only [ren, V.tup.injEq] at hr
      subst hr
      refine .tup ys cs (by rw [hl, qzl]) fun i v u h1 h2 => ?_
      exact ih i (ren ids v) u (by rw [qz1, h1]; rfl) h2 v rfl (okL_at (by simpa [okV] using hok) h1)
    | _ => simp [ren] at hr
  | fn f xs cs hl he ih =>
    intro r hr hok
    cases r with
    | fn f' ys =>
      simp only [ren, V.fn.injEq] at hr
      obtain ⟨rfl, hr⟩ := hr
      subst hr
      refine .fn _ ys cs (by rw [hl, qzl]) fun i v u h1 h2 => ?_
      exact ih i (ren ids v) u (by rw [qz1, h1]; rfl) h2 v rfl (okL_at (by simpa [okV] using hok) h1)
    | _ => simp [ren] at hr
theorem ren_back {ids : List (Nat × Nat)} {n : Nat} {g g' : Gh} {X X' : Nat → Prop} {w w' : World} (hX : ∀ b, X b → X' b) (hw : ∀ b, X b → w'.heap[b]? = w.heap[b]?)
    (hg : ∀ i, i < n → g'.cur i = 0 ∧ g.cur (ids.getD i (0, 0)).1 = (ids.getD i (0, 0)).2 ∧ g'.val i = g.val (ids.getD i (0, 0)).1 ∧ g'.blk i = g.blk (ids.getD i (0, 0)).1) :
    ∀ {v : V} {u : Value}, VR g X w v u → ∀ r, v = ren ids r → okV n r = true → VR g' X' w' r u := by
  intro v u h
  induction h with
  | sh h => exact fun r hr hok => .sh (sr_back hX hw h r hr hok)
  | own id ver v h0 h1 h2 =>
    intro r hr hok
    cases r with
    | own i k =>
      simp only [ren, V.own.injEq] at hr
      simp only [okV, Bool.and_eq_true, Nat.beq_eq, Nat.blt_eq] at hok
      obtain ⟨e1, e2, e3, _⟩ := hg i hok.2
      obtain ⟨h3, h4⟩ := hr
      exact .own i k v h0 (by omega) (fun _ => by rw [e3, ← h3]; exact h2 (by rw [h3, h4]; exact e2.symm))
    | _ => simp [ren] at hr
  | ptr id ver off v h0 h1 h2 =>
    intro r hr hok
    cases r with
    | ptr i k off' =>
      simp only [ren, V.ptr.injEq] at hr
      simp only [okV, Bool.and_eq_true, Nat.beq_eq, Nat.blt_eq] at hok
      obtain ⟨e1, e2, _, e3⟩ := hg i hok.2
      obtain ⟨h3, h4, h5⟩ := hr
      subst h5
      exact .ptr i k off v h0 (by omega) (fun _ => by rw [e3, ← h3]; exact h2 (by rw [h3, h4]; exact e2.symm))
    | _ => simp [ren] at hr
  | pel id ver k f v =>
    intro r hr hok
    cases r <;> first | (simp [ren] at hr; done) | (simp [okV] at hok; done)
  | agg xs cs hl he ih =>
    intro r hr hok
    cases r with
    | agg ys =>
      simp only [ren, V.agg.injEq] at hr
      subst hr
      refine .agg ys cs (by rw [hl, qzl]) fun i v u h1 h2 => ?_
      exact ih i (ren ids v) u (by rw [qz1, h1]; rfl) h2 v rfl (okL_at (by simpa [okV] using hok) h1)
    | _ => simp [ren] at hr
  | tup xs cs hl he ih =>
    intro r hr hok
    cases r with
    | tup ys =>
      simp only [ren, V.tup.injEq] at hr
      subst hr
      refine .tup ys cs (by rw [hl, qzl]) fun i v u h1 h2 => ?_
      exact ih i (ren ids v) u (by rw [qz1, h1]; rfl) h2 v rfl (okL_at (by simpa [okV] using hok) h1)
    | _ => simp [ren] at hr
  | fn f xs cs hl he ih =>
    intro r hr hok
    cases r with
    | fn f' ys =>
      simp only [ren, V.fn.injEq] at hr
      obtain ⟨rfl, hr⟩ := hr
      subst hr
      refine .fn _ ys cs (by rw [hl, qzl]) fun i v u h1 h2 => ?_
      exact ih i (ren ids v) u (by rw [qz1, h1]; rfl) h2 v rfl (okL_at (by simpa [okV] using hok) h1)
    | _ => simp [ren] at hr
def ResV (P : Program) (s : St) : List ResultVar → List V → Prop
  | [], [] => True
  | .tmp t :: r, v :: vs => get s.sl t = v ∧ ResV P s r vs
  | .cell a ty :: r, v :: vs => (∃ id ver e xs, get s.sl a = .ptr id ver 0 ∧ look s.hp id = some (ver, .box e xs) ∧ AggT P ty xs.length ∧ v = .agg xs) ∧ ResV P s r vs
  | _, _ => False
def resOf : List V → V
  | [v] => v
  | vs => .tup vs
def ObjsOk (n : Nat) (ids0 : List (Nat × Nat)) (hp : Heap) : List (Nat × Nat) → List Obj → Prop
  | [], [] => True
  | (id, ver) :: r, o :: os => (look hp id = some (ver, renO ids0 o) ∧ okO n o = true) ∧ ObjsOk n ids0 hp r os
  | _, _ => False
theorem ObjsOk.len {n : Nat} {ids0 : List (Nat × Nat)} {hp : Heap} : ∀ {ids : List (Nat × Nat)} {os : List Obj}, ObjsOk n ids0 hp ids os → os.length = ids.length
  | [], [], _ => rfl
  | (id, ver) :: r, o :: os, h => by simp [ObjsOk.len h.2]
  | [], o :: os, h => h.elim
  | (id, ver) :: r, [], h => h.elim
theorem ObjsOk.at {n : Nat} {ids0 : List (Nat × Nat)} {hp : Heap} : ∀ {ids : List (Nat × Nat)} {os : List Obj}, ObjsOk n ids0 hp ids os → ∀ {i : Nat} {o : Obj}, os[i]? = some o → ∃ id ver, ids[i]? = some (id, ver) ∧ look hp id = some (ver, renO ids0 o) ∧ okO n o = true
  | [], [], _, i, o, h => by simp at h
  | (id, ver) :: r, o :: os, h, 0, o', ho => by simp at ho; subst ho; exact ⟨id, ver, rfl, h.1⟩
  | (id, ver) :: r, o :: os, h, i + 1, o', ho => by
    obtain ⟨a, b, c, d⟩ := ObjsOk.at h.2 (i := i) (by simpa using ho)
    exact ⟨a, b, by simpa using c, d⟩
  | [], o :: os, h, _, _, _ => h.elim
  | (id, ver) :: r, [], h, _, _, _ => h.elim
def Fin (P : Program) (rs : List ResultVar) (m : Nat) (post : V → List Obj → List Obj → Prop) (s : St) : Prop :=
  ∃ vs r ins' new ids, ResV P s rs vs ∧ resOf vs = ren ((List.range m).map (fun i => (i, 0)) ++ ids) r ∧ okV (m + ids.length) r = true ∧
    ObjsOk (m + ids.length) ((List.range m).map (fun i => (i, 0)) ++ ids) s.hp ((List.range m).map (fun i => (i, 0)) ++ ids) (ins' ++ new) ∧ nodupB (((List.range m).map (fun i => (i, 0)) ++ ids).map (·.1)) = true ∧ ins'.length = m ∧ post r ins' new
def finQ (P : Program) (rs : List ResultVar) (m : Nat) (post : V → List Obj → List Obj → Prop) : Exit → St → Prop
  | .ret, s | .normal, s => Fin P rs m post s
  | _, _ => False
section
variable {C : Ctx}
def resOne (tmps : Array Value) : ResultVar → Sem Value
  | .tmp t => pure (tmps.getD t undef)
  | .cell a t => do loadVar t (← asAddr (tmps.getD a undef))
theorem results_eq (fn : Func) (tmps : Array Value) : results fn tmps = (do
    let vs ← fn.results.mapM (resOne tmps)
    pure (if h : vs.size = 1 then vs[0] else .tuple vs)) := rfl
theorem run_res {s : St} {a : Act} {w : World} {g : Gh} (hr : Rel C a w s g) : ∀ {rs : List ResultVar} {vs : List V}, ResV C.P s rs vs →
    ∃ us : List Value, (rs.mapM (resOne a.tmps)).run C.P w = .ok us w ∧ us.length = vs.length ∧
      ∀ (i : Nat) (v : V) (u : Value), vs[i]? = some v → us[i]? = some u → VR g (XX C s.hp g w) w v u
  | [], [], _ => ⟨[], by simp, rfl, fun i v u h => by simp at h⟩
  | .tmp t :: r, v :: vs, h => by
    obtain ⟨us, h1, h2, h3⟩ := run_res hr h.2
    refine ⟨a.tmps.getD t undef :: us, ?_, by simp [h2], fun i v' u hv hu => ?_⟩
    · rw [List.mapM_cons]
      simp only [resOne, Sem.run_bind, Sem.run_pure, Result.andThen_ok, h1]
    · cases i with
      | zero => simp at hv hu; subst hv; subst hu; rw [← h.1]; have := hr.slots t; simpa using this
      | succ i => exact h3 i v' u (by simpa using hv) (by simpa using hu)
  | .cell b ty :: r, v :: vs, h => by
    obtain ⟨us, h1, h2, h3⟩ := run_res hr h.2
    obtain ⟨id, ver, e, xs, h4, h5, h6, rfl⟩ := h.1
    obtain ⟨blk, h7, h8⟩ := hr.ptr (x := .tmp b) h4 h5
    obtain ⟨b', cur, h9, h10, h11, h12, h13⟩ := hr.hr.obj id ver _ h5
    rw [h9] at h7; obtain rfl : b' = blk := by simpa using h7
    have h8' : a.tmps.getD b undef = .pointer (some ⟨b', 0, none⟩) := h8
    obtain ⟨dd, k1, k2, k3⟩ := h6
    have hrun := run_loadVar_mid (P := C.P) w b' 0 ty cur.toList dd (fun j u hj => by rw [Nat.zero_add, cellOf h11]; simpa using hj) k1 k2 (by rw [k3]; simp [h12])
    simp only [Array.toArray_toList] at hrun
    refine ⟨.agg cur :: us, ?_, by simp [h2], fun i v' u hv hu => ?_⟩
    · have hA : (asAddr (a.tmps.getD b undef)).run C.P w = .ok ⟨b', 0, none⟩ w := by rw [h8']; rfl
      rw [List.mapM_cons]
      simp only [resOne, Sem.run_bind, Sem.run_pure, Result.andThen_ok, h1, hA, hrun]
    · cases i with
      | zero =>
        simp at hv hu; subst hv; subst hu
        refine .agg xs cur h12 fun j v' u' hv' hu' => ?_
        obtain ⟨u2, e1, e2⟩ := h13 j v' hv'
        rw [hu'] at e1; obtain rfl := Option.some.inj e1
        exact e2
      | succ i => exact h3 i v' u (by simpa using hv) (by simpa using hu)
  | [], v :: vs, h => h.elim
  | .tmp t :: r, [], h => h.elim
  | .cell b t :: r, [], h => h.elim
theorem run_results {fn : Func} {s : St} {a : Act} {w : World} {g : Gh} (hr : Rel C a w s g) {vs : List V} (h : ResV C.P s fn.results.toList vs) : ∃ u, (results fn a.tmps).run C.P w = .ok u w ∧ VR g (XX C s.hp g w) w (resOf vs) u := by
  obtain ⟨us, h1, h2, h3⟩ := run_res hr h
  have hm : (fn.results.mapM (resOne a.tmps)).run C.P w = .ok us.toArray w := by
    rw [Array.mapM_eq_mapM_toList, Sem.run_map, h1]; rfl
  refine ⟨if h : us.toArray.size = 1 then us.toArray[0] else .tuple us.toArray, ?_, ?_⟩
  · rw [results_eq]
    simp only [Sem.run_bind, hm, Result.andThen_ok, Sem.run_pure]
  · match vs, us, h2, h3 with
    | [v], [u], _, h3 => simpa [resOf] using h3 0 v u rfl rfl
    | [], [], _, h3 => exact .tup [] _ rfl (fun i v u h => by simp at h)
    | v :: v2 :: vs, us, h2, h3 =>
      have hl : ¬ us.toArray.size = 1 := by simp [h2]
      rw [dif_neg hl]
      exact .tup _ _ (by simpa using h2) (fun i v u hv hu => h3 i v u hv (by simpa using hu))
end
theorem HR.ctx {P : Program} {n m : Nat} {w0 w : World} {A X : Nat → Prop} {g0 g : Gh} {ins : List Obj} {hp : Heap} (h : HR ⟨P, n, w0, A, X, g0, ins⟩ w hp g) : HR ⟨P, m, w0, A, X, g0, ins⟩ w hp g :=
  ⟨⟨h.ext.os, h.ext.tape, h.ext.output, h.ext.size, h.ext.old⟩, h.wf, h.lnk, h.dis, h.cur, h.blk, h.obj⟩
theorem range_getD {m : Nat} {ids : List (Nat × Nat)} {i : Nat} (h : i < m) : ((List.range m).map (fun i => (i, 0)) ++ ids)[i]? = some (i, 0) := by
  rw [List.getElem?_append_left (by simpa using h)]; simp [h]
theorem OR.deepTo {g g' : Gh} {X X' : Nat → Prop} {w : World} {i i' : Nat} {t : DTy} {es : List (List V)} (h : OR g X w i (.deep t es none)) (h1 : g'.val i' = g.val i) (h2 : g'.blk i' = g.blk i) (h3 : g'.fp i' = g.fp i) (h4 : g'.sz i' = g.sz i) (hX : ∀ b, X b → X' b) : OR g' X' w i' (.deep t es none) := by
  obtain ⟨k0, k1, ⟨n, k2⟩, k3, _⟩ := h
  refine ⟨h4.trans k0, by rw [h3]; exact k1, ⟨n, ?_⟩, fun b o k c e => ?_, fun j ff d ver e => by cases e⟩
  · rw [h3, h1]
    exact k2.fits hX (fun _ _ => rfl) (fun _ _ => rfl) (fun t F' es u hs h => DR.fits hX (fun _ _ => rfl) (fun _ _ => rfl) h)
  · rw [h2]; rw [h1] at e; exact k3 b o k c e
theorem qjj {P : Program} {f : FuncId} {fn : Func} {c : Code} {args : List V} {ins : List Obj} {post : V → List Obj → List Obj → Prop} (hf : P.funcs[f]? = some fn) (hbody : fn.body = some c) (hargs : args.length ≤ fn.ntmps)
    (h : ∀ w X g, AWp (fnCtx P fn.ntmps w ins g X) c (finQ P fn.results.toList ins.length post) ⟨numS 0 args, num 0 ins⟩) : Fn P f args ins post := by
  intro w X g vals hHR hsz hvals
  refine calls_of_wp hf hbody ?_
  have hrel : Rel (fnCtx P fn.ntmps w ins g X) { tmps := vals ++ Array.replicate (fn.ntmps - vals.size) undef, defers := [] } w ⟨numS 0 args, num 0 ins⟩ g := by
    refine ⟨by simp [fnCtx]; omega, rfl, hHR.ctx, fun t => ?_⟩
    simp only [numS_get, Nat.zero_le, if_true, Nat.sub_zero]
    by_cases ht : t < args.length
    · have e1 : args.getD t .any = args[t] := by simp [ht]
      have e2 : (vals ++ Array.replicate (fn.ntmps - vals.size) undef).getD t undef = vals[t] := by
        rw [Array.getD_eq_getD_getElem?, Array.getElem?_append_left (by omega)]; simp [show t < vals.size by omega]
      rw [e1, e2]
      exact hvals t _ _ (by simp [ht]) (by simp [show t < vals.size by omega])
    · have e1 : args.getD t .any = .any := by simp [List.getElem?_eq_none (show args.length ≤ t by omega)]
      rw [e1]; exact .sh (.any _)
  refine Code.wp_mono ?_ (h w X g _ w g hrel)
  rintro e a w' ⟨s, g', hr, hq⟩
  have main : Fin P fn.results.toList ins.length post s → a.defers = [] ∧ ∃ v, (results fn a.tmps).run P w' = .ok v w' ∧
      ∃ u r ins' new, ∃ g'' : Gh, Ending.returned v = .returned u ∧ post r ins' new ∧ ins'.length = ins.length ∧ (∀ i, i < ins.length → g''.val i = g.val i ∧ g''.blk i = g.blk i ∧ g''.sz i = g.sz i) ∧ HR { fnCtx P 0 w ins g X with g0 := { g'' with cur := fun _ => 0 }, ins := [] } w' (num 0 (ins' ++ new)) { g'' with cur := fun _ => 0 } ∧ VR { g'' with cur := fun _ => 0 } (XX (fnCtx P 0 w ins g X) (num 0 (ins' ++ new)) { g'' with cur := fun _ => 0 } w') w' r u := by
    rintro ⟨vs, r, ins', new, ids, h1, h2, h3, h4, h5, h6, h7⟩
    obtain ⟨v, h8, h9⟩ := run_results (fn := fn) hr h1
    refine ⟨hr.defers, v, h8, v, r, ins', new, ?_⟩
    generalize hids : (List.range ins.length).map (fun i => (i, 0)) ++ ids = I at *
    have hIlen : I.length = ins.length + ids.length := by rw [← hids]; simp
    have hol := h4.len
    let g1 : Gh := ⟨fun _ => 0, fun i => g'.val (I.getD i (0, 0)).1, fun i => g'.blk (I.getD i (0, 0)).1, fun i => g'.fp (I.getD i (0, 0)).1, fun i => g'.sz (I.getD i (0, 0)).1⟩
    have hat : ∀ {i : Nat} {o : Obj}, (ins' ++ new)[i]? = some o → ∃ id ver, I[i]? = some (id, ver) ∧ look s.hp id = some (ver, renO I o) ∧ okO (ins.length + ids.length) o = true := fun ho => h4.at ho
    have hgetD : ∀ {i : Nat} {x : Nat × Nat}, I[i]? = some x → I.getD i (0, 0) = x := fun h => by simp [h]
    have hlive : ∀ i, i < ins.length + ids.length → ∃ o, look s.hp (I.getD i (0, 0)).1 = some ((I.getD i (0, 0)).2, o) := by
      intro i hi
      have hi' : i < (ins' ++ new).length := by rw [hol, hIlen]; exact hi
      obtain ⟨id, ver, k1, k2, _⟩ := hat (i := i) (List.getElem?_eq_getElem hi')
      rw [hgetD k1]; exact ⟨_, k2⟩
    have hcur : ∀ i, i < ins.length + ids.length → g'.cur (I.getD i (0, 0)).1 = (I.getD i (0, 0)).2 := fun i hi => let ⟨o, ho⟩ := hlive i hi; hr.hr.cur _ _ _ ho
    have hinj : ∀ i j, i < I.length → j < I.length → (I.getD i (0, 0)).1 = (I.getD j (0, 0)).1 → i = j := by
      have : ∀ {l : List Nat}, nodupB l = true → ∀ i j, i < l.length → j < l.length → l[i]? = l[j]? → i = j := by
        intro l
        induction l with
        | nil => intro _ i j hi; simp at hi
        | cons x l ih =>
          intro hn i j hi hj he
          simp only [nodupB, Bool.and_eq_true, Bool.not_eq_true'] at hn
          have hx : ∀ k, l[k]? ≠ some x := fun k hk => by
            have := memN_iff.2 (List.mem_iff_getElem?.2 ⟨k, hk⟩)
            rw [hn.1] at this; cases this
          cases i with
          | zero => cases j with
            | zero => rfl
            | succ j => simp at he; exact absurd he.symm (hx j)
          | succ i => cases j with
            | zero => simp at he; exact absurd he (hx i)
            | succ j => rw [ih hn.2 i j (by simpa using hi) (by simpa using hj) (by simpa using he)]
      intro i j hi hj he
      refine this h5 i j (by simpa using hi) (by simpa using hj) ?_
      have k : ∀ i, i < I.length → (I.map (·.1))[i]? = some (I.getD i (0, 0)).1 := fun i hi => by simp [hi]
      rw [k i hi, k j hj, he]
    have hlook : ∀ {i : Nat} {io : Nat × Obj}, look (num 0 (ins' ++ new)) i = some io → ∃ o, (ins' ++ new)[i]? = some o ∧ io = (0, o) := by
      intro i io hi
      rw [num_look0] at hi
      cases ho : (ins' ++ new)[i]? with
      | none => rw [ho] at hi; simp at hi
      | some o => rw [ho] at hi; simp at hi; exact ⟨o, rfl, hi.symm⟩
    have hlt : ∀ {i : Nat} {o : Obj}, (ins' ++ new)[i]? = some o → i < ins.length + ids.length := fun ho => by
      have := (List.getElem?_eq_some_iff.1 ho).1; rw [hol, hIlen] at this; exact this
    have hX : ∀ b, XX (fnCtx P fn.ntmps w ins g X) s.hp g' w' b → XX (fnCtx P 0 w ins g X) (num 0 (ins' ++ new)) g1 w' b := by
      rintro b ⟨hb, hb2⟩
      refine ⟨hb, fun i io hi => ?_⟩
      obtain ⟨o, ho, _⟩ := hlook hi
      obtain ⟨o', ho'⟩ := hlive i (hlt ho)
      exact hb2 _ _ ho'
    have hback : ∀ {v : V} {u : Value}, VR g' (XX (fnCtx P fn.ntmps w ins g X) s.hp g' w') w' v u → ∀ r, v = ren I r → okV (ins.length + ids.length) r = true → VR g1 (XX (fnCtx P 0 w ins g X) (num 0 (ins' ++ new)) g1 w') w' r u :=
      fun h => ren_back hX (fun _ _ => rfl) (fun i hi => ⟨rfl, hcur i hi, rfl, rfl⟩) h
    refine ⟨g1, rfl, h7, h6, ?_, ?_, hback h9 r h2 h3⟩
    · intro i hi
      have e : I[i]? = some (i, 0) := by rw [← hids]; exact range_getD hi
      have e2 : g1.val i = g'.val i ∧ g1.blk i = g'.blk i ∧ g1.sz i = g'.sz i := by simp [g1, e]
      have e3 := hcur i (by omega)
      rw [hgetD e] at e3
      simp only at e3
      have e4 := hHR.cur i 0 ins[i] (by rw [num_look0]; simp [hi])
      have e5 := (hr.hr.lnk i).2 (by show g.cur i = _; omega)
      exact ⟨e2.1.trans e5.1, e2.2.1.trans e5.2.1, e2.2.2.trans e5.2.2⟩
    · refine ⟨⟨hr.hr.ext.os, hr.hr.ext.tape, hr.hr.ext.output, hr.hr.ext.size, hr.hr.ext.old⟩, ⟨hr.hr.wf.1, fun i o h => by simp at h⟩, ?_, ?_, ?_, ?_, ?_⟩
      · exact fun i => ⟨Nat.le_refl _, fun _ => ⟨rfl, rfl, rfl⟩⟩
      · intro i j io jo hi hj hne b hb
        obtain ⟨o, ho, _⟩ := hlook hi
        obtain ⟨o', ho', _⟩ := hlook hj
        obtain ⟨_, k1⟩ := hlive i (hlt ho)
        obtain ⟨_, k2⟩ := hlive j (hlt ho')
        exact hr.hr.dis _ _ _ _ k1 k2 (fun e => hne (hinj i j (by rw [hIlen]; exact hlt ho) (by rw [hIlen]; exact hlt ho') e)) b hb
      · intro i ver o hi
        obtain ⟨o', _, e⟩ := hlook hi
        simp at e; exact e.1.symm
      · intro i io b hi hb
        obtain ⟨o, ho, _⟩ := hlook hi
        obtain ⟨_, k1⟩ := hlive i (hlt ho)
        exact hr.hr.blk _ _ b k1 hb
      · intro i ver o hi
        obtain ⟨o', ho, e⟩ := hlook hi
        simp at e; obtain ⟨rfl, rfl⟩ := e
        obtain ⟨id, ver', k1, k2, k3⟩ := hat ho
        have hor := hr.hr.obj id ver' _ k2
        have e1 := hgetD k1
        cases o with
        | row e sz es =>
          obtain ⟨q0, q1, q2⟩ := hor
          refine ⟨by simpa [g1, k1] using q0, q1, ?_⟩
          rcases q2 with ⟨q3, q4, q5⟩ | ⟨b, cc, cur, q3, q4, q5, q6, q7, q8, q9, q10⟩
          · exact .inl ⟨q3, by simpa [g1, k1] using q4, by simpa [g1, k1] using q5⟩
          · exact .inr ⟨b, cc, cur, by simpa [g1, k1] using q3, by simpa [g1, k1] using q4, by simpa [g1, k1] using q5, q6, q7, q8, q9, fun j v hj => let ⟨u, a1, a2⟩ := q10 j v hj; ⟨u, a1, a2.fits hX (fun _ _ => rfl)⟩⟩
        | box e xs =>
          obtain ⟨b, cur, q3, q4, q5, q6, q7⟩ := hor
          refine ⟨b, cur, by simpa [g1, k1] using q3, by simpa [g1, k1] using q4, q5, by rw [q6, qzl], fun j v hj => ?_⟩
          obtain ⟨u, a1, a2⟩ := q7 j (ren I v) (by rw [qz1, hj]; rfl)
          exact ⟨u, a1, hback a2 v rfl (okL_at (by simpa [okO] using k3) hj)⟩
        | deep t es hh =>
          have hn : hh = none := by simpa [okO] using k3
          subst hn
          refine OR.deepTo hor ?_ ?_ ?_ ?_ hX <;> simp [g1, k1]
        | map kvs =>
          obtain ⟨b, es, c, q3, q4, q5, q6, q7⟩ := hor
          exact ⟨b, es, c, by simpa [g1, k1] using q3, by simpa [g1, k1] using q4, by simpa [g1, k1] using q5, q6, q7⟩
        | gone =>
          have q : g'.fp id = [] := hor
          simpa [OR, g1, k1] using q
  cases e with
  | normal => exact main hq
  | ret => exact main hq
  | _ => exact hq.elim
end Go.Ab

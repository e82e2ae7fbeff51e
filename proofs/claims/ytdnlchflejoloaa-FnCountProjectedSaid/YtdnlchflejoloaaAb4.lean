/- The laws of the operations that make or write memory, over the abstract state. -/
import Derived.Test.YtdnlchflejoloaaAb3
set_option linter.unusedSimpArgs false
set_option linter.unusedVariables false
namespace Go.Ab

def Gh.upd (g : Gh) (i ver : Nat) (val : Value) (blk : Option Nat) (fp : List Nat) (sz : Nat) : Gh where
  cur j := if j = i then ver else g.cur j
  val j := if j = i then val else g.val j
  blk j := if j = i then blk else g.blk j
  fp j := if j = i then fp else g.fp j
  sz j := if j = i then sz else g.sz j

section
variable {C : Ctx}

/-- One object of the call's own is made anew, or goes on. -/
theorem HR.go {w w' : World} {hp : Heap} {g g' : Gh} {i ver : Nat} {o : Obj} (h : HR C w hp g)
    (hos : w'.os = w.os) (htp : w'.tape = w.tape) (hout : w'.output = w.output) (hsz : w.heap.size ≤ w'.heap.size)
    (hheap : ∀ b, b < w.heap.size → (∀ io, look hp i = some io → b ∉ g.fp i) → w'.heap[b]? = w.heap[b]?)
    (hoth : ∀ j, j ≠ i → g'.cur j = g.cur j ∧ g'.val j = g.val j ∧ g'.blk j = g.blk j ∧ g'.fp j = g.fp j ∧ g'.sz j = g.sz j)
    (hi : g'.cur i = ver) (hle : g.cur i ≤ ver) (heq : ver = g.cur i → g'.val i = g.val i ∧ g'.blk i = g.blk i ∧ g'.sz i = g.sz i)
    (hnew : ∀ b ∈ g'.fp i, b < w'.heap.size ∧ ((∃ io, look hp i = some io ∧ b ∈ g.fp i) ∨ w.heap.size ≤ b))
    (ho : Fits g (XX C hp g w) w g' (XX C ((i, some (ver, o)) :: hp) g' w') w' → OR g' (XX C ((i, some (ver, o)) :: hp) g' w') w' i o) :
    HR C w' ((i, some (ver, o)) :: hp) g' ∧ Fits g (XX C hp g w) w g' (XX C ((i, some (ver, o)) :: hp) g' w') w' := by
  have hlk : ∀ j, j ≠ i → look ((i, some (ver, o)) :: hp) j = look hp j := fun j hj => by simp only [look, beq_ne (Ne.symm hj), cond_false]
  have hli : look ((i, some (ver, o)) :: hp) i = some (ver, o) := by simp [look]
  have hX : ∀ b, XX C hp g w b → XX C ((i, some (ver, o)) :: hp) g' w' b := by
    intro b ⟨hb, hb2⟩
    refine ⟨hb.imp id (fun hb => ⟨hb.1, Nat.lt_of_lt_of_le hb.2 hsz⟩), fun j io hj => ?_⟩
    by_cases e : j = i
    · subst e
      intro hin
      obtain ⟨_, h2⟩ := hnew b hin
      rcases h2 with ⟨io', h3, h4⟩ | h2
      · exact hb2 _ io' h3 h4
      · rcases hb with hb | hb
        · have := (h.wf.1 b hb).1; have := h.ext.size; omega
        · omega
    · rw [hlk j e] at hj
      rw [(hoth j e).2.2.2.1]; exact hb2 j io hj
  have hXw : ∀ b, XX C hp g w b → b < w.heap.size := by
    intro b ⟨hb, _⟩
    rcases hb with hb | hb
    · have := (h.wf.1 b hb).1; have := h.ext.size; omega
    · exact hb.2
  have hf : Fits g (XX C hp g w) w g' (XX C ((i, some (ver, o)) :: hp) g' w') w' := by
    refine ⟨fun j => ?_, fun j e => ?_, fun j e => ?_, fun j e => ?_, hX, fun b hb => hheap b (hXw b hb) (fun io hio => hb.2 i io hio)⟩
    · by_cases e : j = i
      · subst e; omega
      · rw [(hoth j e).1]; exact Nat.le_refl _
    · by_cases e' : j = i
      · subst e'; exact (heq (by omega)).1
      · exact (hoth j e').2.1
    · by_cases e' : j = i
      · subst e'; exact (heq (by omega)).2.1
      · exact (hoth j e').2.2.1
    · by_cases e' : j = i
      · subst e'; exact (heq (by omega)).2.2
      · exact (hoth j e').2.2.2.2
  refine ⟨⟨⟨hos.trans h.ext.os, htp.trans h.ext.tape, hout.trans h.ext.output, Nat.le_trans h.ext.size hsz, ?_⟩, h.wf, ?_, ?_, ?_, ?_, ?_⟩, hf⟩
  · intro b hb hA
    refine (hheap b (Nat.lt_of_lt_of_le hb h.ext.size) (fun io hio hin => ?_)).trans (h.ext.old b hb hA)
    rcases (h.blk i io b hio hin).2 with h1 | h1
    · omega
    · exact hA h1
  · intro j
    have h1 := h.lnk j
    have h2 := hf.cur j
    refine ⟨Nat.le_trans h1.1 h2, fun e => ?_⟩
    have e1 : C.g0.cur j = g.cur j := by omega
    have e2 : g.cur j = g'.cur j := by omega
    obtain ⟨k1, k2, k4⟩ := h1.2 e1
    exact ⟨(hf.val j e2).trans k1, (hf.blk j e2).trans k2, (hf.sz j e2).trans k4⟩
  · intro j k io ko hj hk hne b hb
    by_cases ej : j = i
    · subst ej
      have ek : k ≠ j := Ne.symm hne
      rw [hlk k ek] at hk
      rw [(hoth k ek).2.2.2.1]
      rcases (hnew b hb).2 with ⟨io', h3, h4⟩ | h2
      · exact h.dis j k io' ko h3 hk hne b h4
      · intro hin; have := (h.blk k ko b hk hin).1; omega
    · rw [hlk j ej] at hj
      rw [(hoth j ej).2.2.2.1] at hb
      by_cases ek : k = i
      · subst ek
        intro hin
        rcases (hnew b hin).2 with ⟨io', h3, h4⟩ | h2
        · exact h.dis j k io io' hj h3 hne b hb h4
        · have := (h.blk j io b hj hb).1; omega
      · rw [hlk k ek] at hk
        rw [(hoth k ek).2.2.2.1]
        exact h.dis j k io ko hj hk hne b hb
  · intro j v ob hj
    by_cases e : j = i
    · subst e; rw [hli] at hj; simp at hj; rw [hi]; exact hj.1
    · rw [hlk j e] at hj; rw [(hoth j e).1]; exact h.cur j v ob hj
  · intro j io b hj hb
    by_cases e : j = i
    · subst e
      refine ⟨(hnew b hb).1, ?_⟩
      rcases (hnew b hb).2 with ⟨io', h3, h4⟩ | h2
      · exact (h.blk j io' b h3 h4).2
      · exact .inl (Nat.le_trans h.ext.size h2)
    · rw [hlk j e] at hj
      rw [(hoth j e).2.2.2.1] at hb
      exact ⟨Nat.lt_of_lt_of_le (h.blk j io b hj hb).1 hsz, (h.blk j io b hj hb).2⟩
  · intro j v ob hj
    by_cases e : j = i
    · subst e; rw [hli] at hj; simp at hj
      obtain ⟨_, rfl⟩ := hj
      exact ho hf
    · rw [hlk j e] at hj
      refine (h.obj j v ob hj).fits hf (hoth j e).1.symm (hoth j e).2.2.2.1 (fun b hb => hheap b (h.blk j _ b hj hb).1 (fun io hio hin => h.dis j i _ io hj hio e b hb hin))

theorem XX.lt {w : World} {hp : Heap} {g : Gh} (h : HR C w hp g) {b : Nat} (hb : XX C hp g w b) : b < w.heap.size := by
  obtain ⟨hb, _⟩ := hb
  rcases hb with hb | hb
  · have := (h.wf.1 b hb).1; have := h.ext.size; omega
  · exact hb.2

theorem Gh.upd_other {g : Gh} {i ver : Nat} {val : Value} {blk : Option Nat} {fp : List Nat} {sz : Nat} (j : Nat) (hj : j ≠ i) :
    (g.upd i ver val blk fp sz).cur j = g.cur j ∧ (g.upd i ver val blk fp sz).val j = g.val j ∧ (g.upd i ver val blk fp sz).blk j = g.blk j ∧ (g.upd i ver val blk fp sz).fp j = g.fp j ∧ (g.upd i ver val blk fp sz).sz j = g.sz j := by
  simp [Gh.upd, hj]

/-- A new block: the object is made anew. -/
theorem HR.new {w w1 : World} {hp : Heap} {g : Gh} {i : Nat} {o : Obj} {cur : Array Value} {e : TypeId} (h : HR C w hp g) (h1 : w1.heap = w.heap) (h2 : w1.os = w.os) (h3 : w1.tape = w.tape) (h4 : w1.output = w.output) (val : Value) (sz : Nat)
    (ho : ∀ g' X' w', Fits g (XX C hp g w) w g' X' w' → g'.val i = val → g'.blk i = some w.heap.size → g'.fp i = [w.heap.size] → g'.sz i = sz → w'.heap[w.heap.size]? = some (.cells cur e (0, 0)) → OR g' X' w' i o) :
    HR C (w1.alloc (.cells cur e)) ((i, some (g.cur i + 1, o)) :: hp) (g.upd i (g.cur i + 1) val (some w.heap.size) [w.heap.size] sz) ∧
      Fits g (XX C hp g w) w (g.upd i (g.cur i + 1) val (some w.heap.size) [w.heap.size] sz) (XX C ((i, some (g.cur i + 1, o)) :: hp) (g.upd i (g.cur i + 1) val (some w.heap.size) [w.heap.size] sz) (w1.alloc (.cells cur e))) (w1.alloc (.cells cur e)) := by
  have hh : (w1.alloc (.cells cur e)).heap = w.heap.push (.cells cur e) := by rw [← h1]; rfl
  refine h.go h2 h3 h4 (by rw [hh]; simp) (fun b hb _ => by rw [hh, Array.getElem?_push, if_neg (by omega)]) (fun j hj => Gh.upd_other j hj) (by simp [Gh.upd]) (by omega) (fun e => by omega) ?_ ?_
  · intro b hb
    have : b = w.heap.size := by simpa [Gh.upd] using hb
    subst this
    exact ⟨by rw [hh]; simp, .inr (Nat.le_refl _)⟩
  · intro hf
    exact ho _ _ _ hf (by simp [Gh.upd]) (by simp [Gh.upd]) (by simp [Gh.upd]) (by simp [Gh.upd]) (by rw [hh]; simp)

/-- The block of an object is written: the object goes on. -/
theorem HR.write {w : World} {hp : Heap} {g : Gh} {i ver b : Nat} {o o' : Obj} {cur cur' : Array Value} {e : TypeId} (h : HR C w hp g) (hl : look hp i = some (ver, o)) (hb : g.fp i = [b]) (hc : w.heap[b]? = some (.cells cur e (0, 0)))
    (ho : ∀ X' w', Fits g (XX C hp g w) w g X' w' → w'.heap[b]? = some (.cells cur' e (0, 0)) → OR g X' w' i o') :
    HR C (w.setRow b cur') ((i, some (ver, o')) :: hp) g ∧ Fits g (XX C hp g w) w g (XX C ((i, some (ver, o')) :: hp) g (w.setRow b cur')) (w.setRow b cur') := by
  have hv := h.cur i ver o hl
  refine h.go rfl rfl rfl (by simp [World.setRow]) (fun k hk hn => setRow_other w b k _ (fun e => hn _ hl (by rw [hb, e]; simp))) (fun _ _ => ⟨rfl, rfl, rfl, rfl, rfl⟩) hv (by omega) (fun _ => ⟨rfl, rfl, rfl⟩) ?_ ?_
  · intro k hk
    exact ⟨by have := (h.blk i _ k hl hk).1; simpa [World.setRow] using this, .inl ⟨_, hl, hk⟩⟩
  · intro hf
    exact ho _ _ hf (setRow_heap w b cur _ e _ hc)
end

def lf : V → Bool
  | .p v => v.oneCell'
  | .sl _ | .own _ _ | .ptr _ _ _ | .pel _ _ _ _ | .el _ _ _ | .fn _ _ => true
  | _ => false

theorem SR.one {X : Nat → Prop} {w : World} {v : V} {u : Value} (h : SR X w v u) (hl : lf v = true) : u.oneCell' = true := by
  cases h <;> first | exact hl | rfl | (simp [lf] at hl; done)

/-- A value that leads to no object of the call's own. -/
def shl : V → Bool
  | .p _ | .sl _ | .el _ _ _ | .any => true
  | .agg xs => shlL xs
  | .tup xs => shlL xs
  | _ => false
where shlL : List V → Bool
  | [] => true
  | x :: r => shl x && shlL r

theorem shlL_at : ∀ {xs : List V} (_ : shl.shlL xs = true) {i : Nat} {v : V} (_ : xs[i]? = some v), shl v = true
  | x :: r, h, 0, v, hv => by simp at hv; subst hv; simp [shl.shlL] at h; exact h.1
  | x :: r, h, i + 1, v, hv => shlL_at (xs := r) (by simp [shl.shlL] at h; exact h.2) (i := i) (by simpa using hv)

theorem VR.shr {g : Gh} {X : Nat → Prop} {w : World} {v : V} {u : Value} (h : VR g X w v u) (hs : shl v = true) : SR X w v u := by
  induction h with
  | sh h => exact h
  | own => simp [shl] at hs
  | ptr => simp [shl] at hs
  | pel => simp [shl] at hs
  | agg xs cs hl he ih => exact .agg xs cs hl fun i v u h1 h2 => ih i v u h1 h2 (shlL_at (by simpa [shl] using hs) h1)
  | tup xs cs hl he ih => exact .tup xs cs hl fun i v u h1 h2 => ih i v u h1 h2 (shlL_at (by simpa [shl] using hs) h1)
  | fn => simp [shl] at hs

theorem VR.one {g : Gh} {X : Nat → Prop} {w : World} {v : V} {u : Value} (h : VR g X w v u) (hl : lf v = true) : u.oneCell' = true := by
  cases h with
  | sh h => exact h.one hl
  | own _ _ _ h => exact h
  | ptr _ _ _ _ h => exact h
  | pel _ _ _ _ _ h => exact h
  | agg => simp [lf] at hl
  | tup => simp [lf] at hl
  | fn => rfl

theorem cells_one {u : Value} (h : u.oneCell' = true) : u.cells = #[u] := by cases u <;> first | rfl | (simp [Value.oneCell'] at h; done)

section
variable {C : Ctx} {all : Array Oper} {s : St} {d : Nat} {ty : TypeId} {pos : String} {aft : Array Edge}

theorem bump_eq {d ver : Nat} {g : Gh} (h : ∀ b, (some (d, ver) : Option (Nat × Nat)) = some b → b.2 = g.cur b.1 + 1) : ver = g.cur d + 1 := h (d, ver) rfl

theorem upd_cur {g : Gh} {i ver : Nat} {val : Value} {blk : Option Nat} {fp : List Nat} {sz : Nat} (j : Nat) (h : ∀ b, (some (i, ver) : Option (Nat × Nat)) = some b → j ≠ b.1) : (g.upd i ver val blk fp sz).cur j = g.cur j := by
  have := h (i, ver) rfl
  simp only [ne_eq] at this
  simp [Gh.upd, this]

theorem box_or {g : Gh} {X : Nat → Prop} {w : World} {i e b : Nat} {xs : List V} {cur : Array Value} (h1 : g.blk i = some b) (h2 : g.fp i = [b]) (h3 : w.heap[b]? = some (.cells cur e (0, 0))) (h4 : cur.size = xs.length) (h5 : ∀ (j : Nat) (v : V) (u : Value), xs[j]? = some v → cur[j]? = some u → VR g X w v u) : OR g X w i (.box e xs) :=
  ⟨b, cur, h1, h2, h3, h4, fun j v hv => by
    have hj : j < cur.size := by rw [h4]; exact (List.getElem?_eq_some_iff.1 hv).1
    exact ⟨cur[j], by simp [hj], h5 j v _ hv (by simp [hj])⟩⟩

theorem j_box {e : TypeId} {x : Operand} {v : V} {ver : Nat} (hx : Ab.ev s.sl x = v) (hl : lf v = true) :
    OpJ C all ⟨some d, .box e x, ty, pos, aft, none⟩ s [] (EN d (.ptr d ver 0) d ver (.box e [v])) :=
  j_step (hp' := [(d, some (ver, .box e [v]))]) (bp := some (d, ver)) fun s' hs a w g hr hbp => by
    have hx := (hs.e (x := x) (by simp [Op.operands])).trans hx
    have hv := hr.ev x
    rw [hx] at hv
    obtain rfl := bump_eq hbp
    have h1 := cells_one (hv.one hl)
    obtain ⟨h2, h3⟩ := hr.hr.new (i := d) (o := .box e [v]) (cur := #[a.eval x]) (e := e) (w1 := w) rfl rfl rfl rfl .nilFunc 0 (fun g' X' w' hf _ e2 e3 _ e5 => box_or e2 e3 e5 rfl (fun j v' u hj hu => by
      match j, hj, hu with
      | 0, hj, hu => simp at hj hu; subst hj; subst hu; exact hv.fits hf))
    refine ⟨_, _, _, ?_, h2, h3, .ptr d _ 0 _ rfl (by simp [Gh.upd]) (fun _ => ⟨w.heap.size, by simp [Gh.upd], rfl⟩), fun j hj => upd_cur j hj⟩
    simp [execOp, Instr.box, newVar, newRow, h1]

theorem j_boxa {e : TypeId} {x : Operand} {xs : List V} {ver : Nat} (hx : Ab.ev s.sl x = .agg xs) :
    OpJ C all ⟨some d, .box e x, ty, pos, aft, none⟩ s [] (EN d (.ptr d ver 0) d ver (.box e xs)) :=
  j_step (hp' := [(d, some (ver, .box e xs))]) (bp := some (d, ver)) fun s' hs a w g hr hbp => by
    have hx := (hs.e (x := x) (by simp [Op.operands])).trans hx
    obtain ⟨cs, h1, h1', h1''⟩ := hr.agg hx
    obtain rfl := bump_eq hbp
    obtain ⟨h2, h3⟩ := hr.hr.new (i := d) (o := .box e xs) (cur := cs) (e := e) (w1 := w) rfl rfl rfl rfl .nilFunc 0 (fun g' X' w' hf _ e2 e3 _ e5 => box_or e2 e3 e5 h1' (fun j v' u hj hu => (h1'' j v' u hj hu).fits hf))
    refine ⟨_, _, _, ?_, h2, h3, .ptr d _ 0 _ rfl (by simp [Gh.upd]) (fun _ => ⟨w.heap.size, by simp [Gh.upd], rfl⟩), fun j hj => upd_cur j hj⟩
    simp [execOp, Instr.box, newVar, newRow, h1, Value.cells]

theorem run_zeroValue {P : Program} {e sz bytes : Nat} {z : Value} (h : ElT P e sz bytes z) (w : World) : (zeroValue e).run P w = .ok z w := by
  obtain ⟨i, hi, hz, _, _⟩ := info_parts h
  simp [zeroValue, typeInfo, hi, hz]

theorem j_alloc {e sz bytes : TypeId} {z : Value} {xs : List V} {ver : Nat} (he : ElT C.P e sz bytes z) (hz : z.cells.toList.map V.p = xs) :
    OpJ C all ⟨some d, .alloc e, ty, pos, aft, none⟩ s [] (EN d (.ptr d ver 0) d ver (.box e xs)) :=
  j_step (hp' := [(d, some (ver, .box e xs))]) (bp := some (d, ver)) fun s' hs a w g hr hbp => by
    obtain rfl := bump_eq hbp
    obtain ⟨h2, h3⟩ := hr.hr.new (i := d) (o := .box e xs) (cur := z.cells) (e := e) (w1 := w) rfl rfl rfl rfl .nilFunc 0 (fun g' X' w' hf _ e2 e3 _ e5 => box_or e2 e3 e5 (by rw [← hz]; simp) (fun j v' u hj hu => by
      rw [← hz] at hj
      have hu' : z.cells.toList[j]? = some u := by simpa using hu
      rw [List.getElem?_map, hu'] at hj
      simp at hj; subst hj; exact .sh (.p _)))
    refine ⟨_, _, _, ?_, h2, h3, .ptr d _ 0 _ rfl (by simp [Gh.upd]) (fun _ => ⟨w.heap.size, by simp [Gh.upd], rfl⟩), fun j hj => upd_cur j hj⟩
    simp [execOp, Instr.alloc, run_zeroValue he, newVar, newRow]
end
end Go.Ab

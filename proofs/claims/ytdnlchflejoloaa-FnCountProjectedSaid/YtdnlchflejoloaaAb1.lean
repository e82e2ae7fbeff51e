/- An abstract state for the walk: slots and objects that the call itself made are told by plain values; the laws of the operations over it. It holds for every program. -/
import Derived.OwnWalk
set_option linter.unusedSimpArgs false
set_option linter.unusedVariables false
namespace Go.Ab

/-- What a slot or a cell holds, told without addresses. -/
inductive V where
  | p (v : Value)
  | sl (es : List (List V))
  | own (id ver : Nat)
  | ptr (id ver off : Nat)
  | pel (id ver k f : Nat)
  | el (es : List (List V)) (k f : Nat)
  | agg (xs : List V)
  | tup (xs : List V)
  | fn (f : FuncId) (caps : List V)
  | any

/-- The elements of a row whose own cells may lead to rows of its own: type, size, and the cells that do. -/
inductive DTy where
  | mk (e s : Nat) (subs : List (Nat × DTy))
def DTy.e : DTy → Nat
  | .mk e _ _ => e
def DTy.s : DTy → Nat
  | .mk _ s _ => s
def subOf : List (Nat × DTy) → Nat → Option DTy
  | [], _ => none
  | (f, t) :: r, i => bif Nat.beq f i then some t else subOf r i
def DTy.sub : DTy → Nat → Option DTy
  | .mk _ _ subs, f => subOf subs f

/-- An object that the call itself owns: a row behind a slice, the block of a variable, a row with rows of its own (of which one may be out, under a name). -/
inductive Obj where
  | row (e s : Nat) (es : List (List V))
  | box (e : Nat) (xs : List V)
  | deep (t : DTy) (es : List (List V)) (h : Option (Nat × Nat × Nat × Nat))
  | map (kvs : List (Value × Value))

abbrev Slots := List (Nat × V)
abbrev Heap := List (Nat × Option (Nat × Obj))

theorem beq_ne {a b : Nat} (h : a ≠ b) : Nat.beq a b = false := by
  cases hb : Nat.beq a b
  · rfl
  · exact absurd (Nat.eq_of_beq_eq_true hb) h

def get : Slots → Nat → V
  | [], _ => .any
  | (d, v) :: r, t => bif Nat.beq d t then v else get r t

def look : Heap → Nat → Option (Nat × Obj)
  | [], _ => none
  | (d, v) :: r, t => bif Nat.beq d t then v else look r t

structure St where
  sl : Slots
  hp : Heap

/-- The ghost of a state: an object's present number, its value (a row's slice), its block. -/
structure Gh where
  cur : Nat → Nat
  val : Nat → Value
  blk : Nat → Option Nat
  fp : Nat → List Nat
  sz : Nat → Nat

/-- A value that holds no object of the call's own. -/
inductive SR (X : Nat → Prop) (w : World) : V → Value → Prop
  | p (v : Value) : SR X w (.p v) v
  | any (v : Value) : SR X w .any v
  | nil (a : Option Addr) (c : Nat) : SR X w (.sl []) (.slice a 0 c)
  | sl (es : List (List V)) (s b o c : Nat) (cs : List Value) (hs : ∀ e ∈ es, e.length = s) (hc : es.length ≤ c) (hm : c ≤ maxLen) (hX : X b)
      (hl : cs.length = es.flatten.length) (hr : ∀ (i : Nat) (u : Value), cs[i]? = some u → w.cell? ⟨b, o + i, none⟩ = some u)
      (he : ∀ (i : Nat) (v : V) (u : Value), es.flatten[i]? = some v → cs[i]? = some u → SR X w v u) : SR X w (.sl es) (.slice (some ⟨b, o, none⟩) es.length c)
  | el (es : List (List V)) (k f s b o : Nat) (cs : List Value) (hs : ∀ e ∈ es, e.length = s) (hX : X b)
      (hl : cs.length = es.flatten.length) (hr : ∀ (i : Nat) (u : Value), cs[i]? = some u → w.cell? ⟨b, o + i, none⟩ = some u)
      (he : ∀ (i : Nat) (v : V) (u : Value), es.flatten[i]? = some v → cs[i]? = some u → SR X w v u) (hk : k < es.length) : SR X w (.el es k f) (.pointer (some ⟨b, o + (k * s + f), none⟩))
  | agg (xs : List V) (cs : Array Value) (hl : cs.size = xs.length) (he : ∀ (i : Nat) (v : V) (u : Value), xs[i]? = some v → cs[i]? = some u → SR X w v u) : SR X w (.agg xs) (.agg cs)
  | tup (xs : List V) (cs : Array Value) (hl : cs.size = xs.length) (he : ∀ (i : Nat) (v : V) (u : Value), xs[i]? = some v → cs[i]? = some u → SR X w v u) : SR X w (.tup xs) (.tuple cs)
  | fn (f : FuncId) (xs : List V) (cs : Array Value) (hl : cs.size = xs.length) (he : ∀ (i : Nat) (v : V) (u : Value), xs[i]? = some v → cs[i]? = some u → SR X w v u) : SR X w (.fn f xs) (.func (.func f) #[] cs)

/-- Any value. -/
inductive VR (g : Gh) (X : Nat → Prop) (w : World) : V → Value → Prop
  | sh {v : V} {u : Value} (h : SR X w v u) : VR g X w v u
  | own (id ver : Nat) (v : Value) (h0 : v.oneCell' = true) (h1 : ver ≤ g.cur id) (h2 : ver = g.cur id → v = g.val id) : VR g X w (.own id ver) v
  | ptr (id ver off : Nat) (v : Value) (h0 : v.oneCell' = true) (h1 : ver ≤ g.cur id) (h2 : ver = g.cur id → ∃ b, g.blk id = some b ∧ v = .pointer (some ⟨b, off, none⟩)) : VR g X w (.ptr id ver off) v
  | pel (id ver k f : Nat) (v : Value) (h0 : v.oneCell' = true) (h1 : ver ≤ g.cur id) (h2 : ver = g.cur id → ∃ b, g.blk id = some b ∧ v = .pointer (some ⟨b, k * g.sz id + f, none⟩)) : VR g X w (.pel id ver k f) v
  | agg (xs : List V) (cs : Array Value) (hl : cs.size = xs.length) (he : ∀ (i : Nat) (v : V) (u : Value), xs[i]? = some v → cs[i]? = some u → VR g X w v u) : VR g X w (.agg xs) (.agg cs)
  | tup (xs : List V) (cs : Array Value) (hl : cs.size = xs.length) (he : ∀ (i : Nat) (v : V) (u : Value), xs[i]? = some v → cs[i]? = some u → VR g X w v u) : VR g X w (.tup xs) (.tuple cs)
  | fn (f : FuncId) (xs : List V) (cs : Array Value) (hl : cs.size = xs.length) (he : ∀ (i : Nat) (v : V) (u : Value), xs[i]? = some v → cs[i]? = some u → VR g X w v u) : VR g X w (.fn f xs) (.func (.func f) #[] cs)

/-- How a ghost and a world may go on so that what was told stays true. -/
structure Fits (g : Gh) (X : Nat → Prop) (w : World) (g' : Gh) (X' : Nat → Prop) (w' : World) : Prop where
  cur : ∀ i, g.cur i ≤ g'.cur i
  val : ∀ i, g.cur i = g'.cur i → g'.val i = g.val i
  blk : ∀ i, g.cur i = g'.cur i → g'.blk i = g.blk i
  sz : ∀ i, g.cur i = g'.cur i → g'.sz i = g.sz i
  set : ∀ b, X b → X' b
  heap : ∀ b, X b → w'.heap[b]? = w.heap[b]?

theorem Fits.refl (g : Gh) (X : Nat → Prop) (w : World) : Fits g X w g X w := ⟨fun _ => Nat.le_refl _, fun _ _ => rfl, fun _ _ => rfl, fun _ _ => rfl, fun _ h => h, fun _ _ => rfl⟩

theorem Fits.trans {g1 g2 g3 : Gh} {X1 X2 X3 : Nat → Prop} {w1 w2 w3 : World} (h : Fits g1 X1 w1 g2 X2 w2) (k : Fits g2 X2 w2 g3 X3 w3) : Fits g1 X1 w1 g3 X3 w3 where
  cur i := Nat.le_trans (h.cur i) (k.cur i)
  val i e := by
    have h1 := h.cur i; have h2 := k.cur i
    rw [k.val i (by omega), h.val i (by omega)]
  blk i e := by
    have h1 := h.cur i; have h2 := k.cur i
    rw [k.blk i (by omega), h.blk i (by omega)]
  sz i e := by
    have h1 := h.cur i; have h2 := k.cur i
    rw [k.sz i (by omega), h.sz i (by omega)]
  set b hb := k.set b (h.set b hb)
  heap b hb := (k.heap b (h.set b hb)).trans (h.heap b hb)

theorem SR.fits {X X' : Nat → Prop} {w w' : World} (fs : ∀ b, X b → X' b) (fh : ∀ b, X b → w'.heap[b]? = w.heap[b]?) {v : V} {u : Value} (h : SR X w v u) : SR X' w' v u := by
  induction h with
  | p v => exact .p v
  | any v => exact .any v
  | nil a c => exact .nil a c
  | sl es s b o c cs hs hc hm hX hl hr _ ih =>
    exact .sl es s b o c cs hs hc hm (fs b hX) hl (fun i u hu => (World.cell?_of_block (fh b hX)).trans (hr i u hu)) ih
  | el es k ff s b o cs hs hX hl hr _ hk ih =>
    exact .el es k ff s b o cs hs (fs b hX) hl (fun i u hu => (World.cell?_of_block (fh b hX)).trans (hr i u hu)) ih hk
  | agg xs cs hl _ ih => exact .agg xs cs hl ih
  | tup xs cs hl _ ih => exact .tup xs cs hl ih
  | fn ff xs cs hl _ ih => exact .fn ff xs cs hl ih

theorem VR.fits {g g' : Gh} {X X' : Nat → Prop} {w w' : World} (f : Fits g X w g' X' w') {v : V} {u : Value} (h : VR g X w v u) : VR g' X' w' v u := by
  induction h with
  | sh h => exact .sh (h.fits f.set f.heap)
  | own id ver v h0 h1 h2 =>
    exact .own id ver v h0 (Nat.le_trans h1 (f.cur id)) (fun e => by
      have := f.cur id
      rw [f.val id (by omega)]; exact h2 (by omega))
  | ptr id ver off v h0 h1 h2 =>
    exact .ptr id ver off v h0 (Nat.le_trans h1 (f.cur id)) (fun e => by
      have := f.cur id
      rw [f.blk id (by omega)]; exact h2 (by omega))
  | pel id ver k ff v h0 h1 h2 =>
    exact .pel id ver k ff v h0 (Nat.le_trans h1 (f.cur id)) (fun e => by
      have := f.cur id
      rw [f.blk id (by omega), f.sz id (by omega)]; exact h2 (by omega))
  | agg xs cs hl _ ih => exact .agg xs cs hl ih
  | tup xs cs hl _ ih => exact .tup xs cs hl ih
  | fn ff xs cs hl _ ih => exact .fn ff xs cs hl ih

/-- A cell of a row with rows of its own. -/
def CellD (R : DTy → List Nat → List (List V) → Value → Prop) (X : Nat → Prop) (w : World) (t : DTy) (j : Nat) (v : V) (u : Value) (F : List Nat) : Prop :=
  match t.sub (j % t.s) with
  | none => F = [] ∧ SR X w v u
  | some t' => ∃ es', v = .sl es' ∧ R t' F es' u
/-- Its cells; 'sk' is the one that is out. -/
def DC (R : DTy → List Nat → List (List V) → Value → Prop) (X : Nat → Prop) (w : World) (t : DTy) (sk : Option Nat) (es : List (List V)) (cur : Array Value) (fps : List (List Nat)) : Prop :=
  fps.length = es.flatten.length ∧ ∀ (j : Nat) (v : V), es.flatten[j]? = some v → ∃ u F, cur[j]? = some u ∧ fps[j]? = some F ∧ ((sk = some j ∧ F = []) ∨ (sk ≠ some j ∧ CellD R X w t j v u F))
def DB (R : DTy → List Nat → List (List V) → Value → Prop) (X : Nat → Prop) (w : World) (t : DTy) (sk : Option Nat) (F : List Nat) (es : List (List V)) (u : Value) : Prop :=
  (∀ x ∈ es, x.length = t.s) ∧ ((es = [] ∧ u = .slice none 0 0 ∧ F = []) ∨
    ∃ b c cur fps, u = .slice (some ⟨b, 0, none⟩) es.length c ∧ F = b :: fps.flatten ∧ w.heap[b]? = some (.cells cur t.e (0, 0)) ∧ es.length ≤ c ∧ c ≤ maxLen ∧ cur.size = c * t.s ∧ DC R X w t sk es cur fps)
/-- A row with rows of its own, as it lies in memory: its blocks are those in F. -/
def DR (X : Nat → Prop) (w : World) : Nat → DTy → List Nat → List (List V) → Value → Prop
  | 0 => fun _ _ _ _ => False
  | n + 1 => fun t F es u => DB (DR X w n) X w t none F es u

theorem CellD.fits {R R' : DTy → List Nat → List (List V) → Value → Prop} {X X' : Nat → Prop} {w w' : World} {t : DTy} {j : Nat} {v : V} {u : Value} {F : List Nat} (fs : ∀ b, X b → X' b) (fh : ∀ b, X b → w'.heap[b]? = w.heap[b]?)
    (hR : ∀ t es u, R t F es u → R' t F es u) (h : CellD R X w t j v u F) : CellD R' X' w' t j v u F := by
  cases e : t.sub (j % t.s) with
  | none => simp only [CellD, e] at h ⊢; exact ⟨h.1, h.2.fits fs fh⟩
  | some t' => simp only [CellD, e] at h ⊢; obtain ⟨es', h1, h2⟩ := h; exact ⟨es', h1, hR _ _ _ h2⟩

theorem mem_fps {fps : List (List Nat)} {j : Nat} {F : List Nat} (h : fps[j]? = some F) {b : Nat} (hb : b ∈ F) : b ∈ fps.flatten :=
  List.mem_flatten.2 ⟨F, List.mem_iff_getElem?.2 ⟨j, h⟩, hb⟩

theorem DC.fits {R R' : DTy → List Nat → List (List V) → Value → Prop} {X X' : Nat → Prop} {w w' : World} {t : DTy} {sk : Option Nat} {es : List (List V)} {cur : Array Value} {fps : List (List Nat)} (fs : ∀ b, X b → X' b) (fh : ∀ b, X b → w'.heap[b]? = w.heap[b]?)
    (hR : ∀ t F es u, (∀ b ∈ F, b ∈ fps.flatten) → R t F es u → R' t F es u) (h : DC R X w t sk es cur fps) : DC R' X' w' t sk es cur fps :=
  ⟨h.1, fun j v hj => let ⟨u, F, h1, h2, h3⟩ := h.2 j v hj; ⟨u, F, h1, h2, h3.imp id (fun k => ⟨k.1, k.2.fits fs fh (fun t es u => hR t F es u (fun b hb => mem_fps h2 hb))⟩)⟩⟩

theorem DB.fits {R R' : DTy → List Nat → List (List V) → Value → Prop} {X X' : Nat → Prop} {w w' : World} {t : DTy} {sk : Option Nat} {F : List Nat} {es : List (List V)} {u : Value} (fs : ∀ b, X b → X' b) (fh : ∀ b, X b → w'.heap[b]? = w.heap[b]?) (hF : ∀ b ∈ F, w'.heap[b]? = w.heap[b]?)
    (hR : ∀ t F' es u, (∀ b ∈ F', b ∈ F) → R t F' es u → R' t F' es u) (h : DB R X w t sk F es u) : DB R' X' w' t sk F es u := by
  obtain ⟨h0, h⟩ := h
  refine ⟨h0, ?_⟩
  rcases h with h | ⟨b, c, cur, fps, h1, rfl, h3, h4, h5, h6, h7⟩
  · exact .inl h
  · exact .inr ⟨b, c, cur, fps, h1, rfl, (hF b (by simp)).trans h3, h4, h5, h6, h7.fits fs fh (fun t F es u hs => hR t F es u (fun b hb => by simp [hs b hb]))⟩

theorem DR.fits {X X' : Nat → Prop} {w w' : World} (fs : ∀ b, X b → X' b) (fh : ∀ b, X b → w'.heap[b]? = w.heap[b]?) : ∀ {n : Nat} {t : DTy} {F : List Nat} {es : List (List V)} {u : Value}, (∀ b ∈ F, w'.heap[b]? = w.heap[b]?) → DR X w n t F es u → DR X' w' n t F es u
  | 0, _, _, _, _, _, h => h.elim
  | n + 1, t, F, es, u, hF, h => DB.fits fs fh hF (fun t F' es u hs h => DR.fits (n := n) fs fh (fun b hb => hF b (hs b hb)) h) h

/-- What an object is in memory. -/
def OR (g : Gh) (X : Nat → Prop) (w : World) (i : Nat) : Obj → Prop
  | .row e s es => g.sz i = s ∧ (∀ x ∈ es, x.length = s) ∧
      ((es = [] ∧ g.val i = .slice none 0 0 ∧ g.fp i = []) ∨
        ∃ b c cur, g.val i = .slice (some ⟨b, 0, none⟩) es.length c ∧ g.blk i = some b ∧ g.fp i = [b] ∧ w.heap[b]? = some (.cells cur e (0, 0)) ∧ es.length ≤ c ∧ c ≤ maxLen ∧ cur.size = c * s ∧
          ∀ (j : Nat) (v : V), es.flatten[j]? = some v → ∃ u, cur[j]? = some u ∧ SR X w v u)
  | .box e xs => ∃ b cur, g.blk i = some b ∧ g.fp i = [b] ∧ w.heap[b]? = some (.cells cur e (0, 0)) ∧ cur.size = xs.length ∧ ∀ (j : Nat) (v : V), xs[j]? = some v → ∃ u, cur[j]? = some u ∧ VR g X w v u
  | .deep t es h => g.sz i = t.s ∧ (g.fp i).Nodup ∧ (∃ n, DB (DR X w n) X w t (h.map (fun x => x.1 * t.s + x.2.1)) (g.fp i) es (g.val i)) ∧ (∀ b o k c, g.val i = .slice (some ⟨b, o, none⟩) k c → g.blk i = some b) ∧
      ∀ k f d ver, h = some (k, f, d, ver) → k < es.length ∧ f < t.s ∧ (t.sub f).isSome = true ∧ ver ≤ g.cur d ∧ (ver = g.cur d → ∀ b n c, g.val i = .slice (some ⟨b, 0, none⟩) n c → w.cell? ⟨b, k * t.s + f, none⟩ = some (g.val d))
  | .map kvs => ∃ b es clock, g.blk i = some b ∧ g.fp i = [b] ∧ g.val i = .map (some b) ∧ w.heap[b]? = some (.map es clock) ∧ es.toList.map (fun x => (x.key, x.val)) = kvs

structure Ctx where
  P : Program
  n : Nat
  w0 : World
  A : Nat → Prop
  X0 : Nat → Prop
  g0 : Gh
  ins : List Obj

/-- The blocks that nothing may write and that may be read. -/
def XX (C : Ctx) (hp : Heap) (g : Gh) (w : World) (b : Nat) : Prop := (C.X0 b ∨ (C.w0.heap.size ≤ b ∧ b < w.heap.size)) ∧ ∀ i io, look hp i = some io → b ∉ g.fp i

structure WExt (C : Ctx) (w : World) : Prop where
  os : w.os = C.w0.os
  tape : w.tape = C.w0.tape
  output : w.output = C.w0.output
  size : C.w0.heap.size ≤ w.heap.size
  old : ∀ b, b < C.w0.heap.size → ¬ C.A b → w.heap[b]? = C.w0.heap[b]?

/-- The blocks of an object without rows of its own, as its value tells them. -/
def FlatE (g : Gh) (i : Nat) : Obj → Prop
  | .row _ _ _ => (g.val i = .slice none 0 0 ∧ g.fp i = []) ∨ ∃ b o k c, g.val i = .slice (some ⟨b, o, none⟩) k c ∧ g.fp i = [b]
  | .box _ _ => ∃ b, g.blk i = some b ∧ g.fp i = [b]
  | .deep _ _ _ => True
  | .map _ => ∃ b, g.blk i = some b ∧ g.fp i = [b]
theorem OR.flat {g : Gh} {X : Nat → Prop} {w : World} {i : Nat} {o : Obj} (h : OR g X w i o) : FlatE g i o := by
  cases o with
  | row e s es =>
    obtain ⟨_, _, h⟩ := h
    rcases h with ⟨_, h1, h2⟩ | ⟨b, c, cur, h1, _, h2, _⟩
    · exact .inl ⟨h1, h2⟩
    · exact .inr ⟨b, 0, _, c, h1, h2⟩
  | box e xs => obtain ⟨b, cur, h1, h2, _⟩ := h; exact ⟨b, h1, h2⟩
  | deep => trivial
  | map kvs => obtain ⟨b, es, c, h1, h2, _⟩ := h; exact ⟨b, h1, h2⟩

structure HR (C : Ctx) (w : World) (hp : Heap) (g : Gh) : Prop where
  ext : WExt C w
  wf : (∀ b, C.X0 b → b < C.w0.heap.size ∧ ¬ C.A b) ∧ ∀ i o, C.ins[i]? = some o → FlatE C.g0 i o
  lnk : ∀ i, C.g0.cur i ≤ g.cur i ∧ (C.g0.cur i = g.cur i → g.val i = C.g0.val i ∧ g.blk i = C.g0.blk i ∧ g.sz i = C.g0.sz i)
  dis : ∀ i j io jo, look hp i = some io → look hp j = some jo → i ≠ j → ∀ b, b ∈ g.fp i → b ∉ g.fp j
  cur : ∀ i ver o, look hp i = some (ver, o) → g.cur i = ver
  blk : ∀ i io b, look hp i = some io → b ∈ g.fp i → b < w.heap.size ∧ (C.w0.heap.size ≤ b ∨ C.A b)
  obj : ∀ i ver o, look hp i = some (ver, o) → OR g (XX C hp g w) w i o

structure Rel (C : Ctx) (a : Act) (w : World) (s : St) (g : Gh) : Prop where
  size : a.tmps.size = C.n
  defers : a.defers = []
  hr : HR C w s.hp g
  slots : ∀ t, VR g (XX C s.hp g w) w (get s.sl t) (a.tmps.getD t undef)

def CQ (C : Ctx) (Q : Exit → St → Prop) (e : Exit) (a : Act) (w : World) : Prop := ∃ s g, Rel C a w s g ∧ Q e s

def AWp (C : Ctx) (c : Code) (Q : Exit → St → Prop) (s : St) : Prop := ∀ a w g, Rel C a w s g → c.wp C.P (CQ C Q) a w

def thenQ (C : Ctx) (y : Code) (Q : Exit → St → Prop) : Exit → St → Prop
  | .normal, s => AWp C y Q s
  | e, s => Q e s

def blockQ (id : Nat) (Q : Exit → St → Prop) : Exit → St → Prop
  | .exit i, s => bif Nat.beq i id then Q .normal s else Q (.exit i) s
  | e, s => Q e s

section
variable {C : Ctx} {Q : Exit → St → Prop} {s : St}

theorem AWp.mono {c : Code} {Q' : Exit → St → Prop} (h : AWp C c Q s) (hq : ∀ e s, Q e s → Q' e s) : AWp C c Q' s :=
  fun a w g hr => Code.wp_mono (fun _ _ _ ⟨s, g, r, q⟩ => ⟨s, g, r, hq _ _ q⟩) (h a w g hr)

theorem a_seq {x y : Code} (h : AWp C x (thenQ C y Q) s) : AWp C (.seq x y) Q s := by
  intro a w g hr
  refine wp_seq (Code.wp_mono ?_ (h a w g hr))
  intro e a' w' ⟨s', g', r, q⟩
  cases e <;> first | exact q a' w' g' r | exact ⟨s', g', r, q⟩

theorem a_skip (h : Q .normal s) : AWp C .skip Q s := fun _ _ g hr => wp_skip ⟨s, g, hr, h⟩
theorem a_label {l : Nat} (h : Q .normal s) : AWp C (.label l) Q s := fun _ _ g hr => wp_label ⟨s, g, hr, h⟩
theorem a_ret (h : Q .ret s) : AWp C .ret Q s := fun _ _ g hr => wp_ret ⟨s, g, hr, h⟩
theorem a_exit {id : Nat} (h : Q (.exit id) s) : AWp C (.exit id) Q s := fun _ _ g hr => wp_exit ⟨s, g, hr, h⟩
theorem a_block {id : Nat} {c : Code} (h : AWp C c (blockQ id Q) s) : AWp C (.block id c) Q s := by
  intro a w g hr
  refine wp_block (Code.wp_mono ?_ (h a w g hr))
  intro e a' w' ⟨s', g', r, q⟩
  cases e with
  | exit i =>
    simp only [Exit.inBlock, blockQ] at *
    by_cases e : i = id
    · subst e; simp at q; simp; exact ⟨s', g', r, q⟩
    · have e2 : Nat.beq i id = false := beq_ne e
      simp only [e, if_false]; simp only [e2, cond_false] at q; exact ⟨s', g', r, q⟩
  | _ => exact ⟨s', g', r, q⟩

/-- An operand's value. -/
def ev (s : Slots) : Operand → V
  | .tmp t => get s t
  | .const v => .p v
  | .global g => .p (.pointer (some ⟨g, 0, none⟩))
  | .func f => .fn f []

theorem Rel.ev {a : Act} {w : World} {g : Gh} (h : Rel C a w s g) (x : Operand) : VR g (XX C s.hp g w) w (ev s.sl x) (a.eval x) := by
  cases x with
  | tmp t => exact h.slots t
  | const v => exact .sh (.p v)
  | global _ => exact .sh (.p _)
  | func _ => exact .sh (.fn _ [] #[] rfl (fun i v u h => by simp at h))

theorem VR.plain {g : Gh} {X : Nat → Prop} {w : World} {v u : Value} (h : VR g X w (.p v) u) : u = v := by
  cases h with
  | sh h => cases h; rfl

theorem a_cond {c : Operand} {x y : Code} {b : Bool} (hc : ev s.sl c = .p (.bool b)) (ht : b = true → AWp C x Q s) (hf : b = false → AWp C y Q s) : AWp C (.cond c x y) Q s := by
  intro a w g hr
  have h := hr.ev c
  rw [hc] at h
  exact wp_cond_split h.plain (fun e => ht e a w g hr) (fun e => hf e a w g hr)

/-- s tells at least what s' tells. -/
def Ent (s s' : St) : Prop := (∀ p ∈ s'.sl, get s.sl p.1 = get s'.sl p.1) ∧ (∀ p ∈ s'.hp, look s.hp p.1 = look s'.hp p.1)

theorem get_none {l : Slots} {t : Nat} (h : ∀ p ∈ l, p.1 ≠ t) : get l t = .any := by
  induction l with
  | nil => rfl
  | cons x l ih =>
    obtain ⟨d, v⟩ := x
    have hd : Nat.beq d t = false := beq_ne (h (d, v) (by simp))
    simp only [get, hd, cond_false]
    exact ih fun p hp => h p (by simp [hp])

theorem look_none {l : Heap} {t : Nat} (h : ∀ p ∈ l, p.1 ≠ t) : look l t = none := by
  induction l with
  | nil => rfl
  | cons x l ih =>
    obtain ⟨d, v⟩ := x
    have hd : Nat.beq d t = false := beq_ne (h (d, v) (by simp))
    simp only [look, hd, cond_false]
    exact ih fun p hp => h p (by simp [hp])

theorem Ent.get {s s' : St} (h : Ent s s') (t : Nat) : get s'.sl t = .any ∨ Ab.get s.sl t = Ab.get s'.sl t := by
  by_cases hx : ∃ p ∈ s'.sl, p.1 = t
  · obtain ⟨p, hp, rfl⟩ := hx; exact .inr (h.1 p hp)
  · exact .inl (get_none fun p hp e => hx ⟨p, hp, e⟩)

theorem Ent.look {s s' : St} (h : Ent s s') (t : Nat) : look s'.hp t = none ∨ Ab.look s.hp t = Ab.look s'.hp t := by
  by_cases hx : ∃ p ∈ s'.hp, p.1 = t
  · obtain ⟨p, hp, rfl⟩ := hx; exact .inr (h.2 p hp)
  · exact .inl (look_none fun p hp e => hx ⟨p, hp, e⟩)

theorem OR.fits {g g' : Gh} {X X' : Nat → Prop} {w w' : World} (f : Fits g X w g' X' w') {i : Nat} (hc : g.cur i = g'.cur i) (hfp : g'.fp i = g.fp i) (hb : ∀ b, b ∈ g.fp i → w'.heap[b]? = w.heap[b]?) {o : Obj} (h : OR g X w i o) : OR g' X' w' i o := by
  cases o with
  | row e s es =>
    obtain ⟨h0, h1, h2⟩ := h
    refine ⟨(f.sz i hc).trans h0, h1, ?_⟩
    rcases h2 with ⟨h2, h3, h4⟩ | ⟨b, c, cur, h2, h3, h3', h4, h5, h6, h7, h8⟩
    · exact .inl ⟨h2, (f.val i hc).trans h3, hfp.trans h4⟩
    · exact .inr ⟨b, c, cur, (f.val i hc).trans h2, (f.blk i hc).trans h3, hfp.trans h3', (hb b (by rw [h3']; simp)).trans h4, h5, h6, h7, fun j v hv => let ⟨u, hu, hvr⟩ := h8 j v hv; ⟨u, hu, hvr.fits f.set f.heap⟩⟩
  | box e xs =>
    obtain ⟨b, cur, h3, h3', h4, h5, h6⟩ := h
    exact ⟨b, cur, (f.blk i hc).trans h3, hfp.trans h3', (hb b (by rw [h3']; simp)).trans h4, h5, fun j v hv => let ⟨u, hu, hvr⟩ := h6 j v hv; ⟨u, hu, hvr.fits f⟩⟩
  | map kvs => obtain ⟨b, es, c, h1, h2, h3, h4, h5⟩ := h; exact ⟨b, es, c, (f.blk i hc).trans h1, hfp.trans h2, (f.val i hc).trans h3, (hb b (by rw [h2]; simp)).trans h4, h5⟩
  | deep t es h' =>
    obtain ⟨h0, h1, ⟨n, h2⟩, h3, h4⟩ := h
    refine ⟨(f.sz i hc).trans h0, by rw [hfp]; exact h1, ⟨n, ?_⟩, fun b o k c e => ?_, fun j ff d ver e => ?_⟩
    · rw [hfp, f.val i hc]
      exact h2.fits f.set f.heap hb (fun t F' es u hs h => DR.fits f.set f.heap (fun b hF => hb b (hs b hF)) h)
    · rw [f.blk i hc]; rw [f.val i hc] at e; exact h3 b o k c e
    · obtain ⟨k1, k1', k1'', k2, k3⟩ := h4 j ff d ver e
      have hcd := f.cur d
      refine ⟨k1, k1', k1'', by omega, fun ev b k c e2 => ?_⟩
      rw [f.val i hc] at e2
      rw [f.val d (by omega), ← k3 (by omega) b k c e2]
      refine World.cell?_of_block (hb b ?_)
      rcases h2.2 with ⟨_, q, _⟩ | ⟨b', c', cur, fps, q1, q2, _⟩
      · rw [e2] at q; cases q
      · rw [e2] at q1; simp at q1; rw [q2, q1.1]; simp

theorem XX.mono {hp hp' : Heap} {g : Gh} {w : World} (h : ∀ i io, look hp' i = some io → look hp i = some io) {b : Nat} (hx : XX C hp g w b) : XX C hp' g w b :=
  ⟨hx.1, fun i io hi => hx.2 i io (h i io hi)⟩

theorem HR.weaken {w : World} {hp hp' : Heap} {g : Gh} (h : HR C w hp g) (hk : ∀ i io, look hp' i = some io → look hp i = some io) : HR C w hp' g where
  ext := h.ext
  wf := h.wf
  lnk := h.lnk
  dis i j io jo hi hj := h.dis i j io jo (hk _ _ hi) (hk _ _ hj)
  cur i ver o hi := h.cur i ver o (hk _ _ hi)
  blk i io b hi := h.blk i io b (hk _ _ hi)
  obj i ver o hi := (h.obj i ver o (hk _ _ hi)).fits ⟨fun _ => Nat.le_refl _, fun _ _ => rfl, fun _ _ => rfl, fun _ _ => rfl, fun _ hb => hb.mono hk, fun _ _ => rfl⟩ rfl rfl (fun _ _ => rfl)

theorem Rel.ent {s' : St} {a : Act} {w : World} {g : Gh} (h : Rel C a w s g) (he : Ent s s') : Rel C a w s' g := by
  have hk : ∀ i io, Ab.look s'.hp i = some io → Ab.look s.hp i = some io := fun i io hi => by
    rcases he.look i with e | e
    · rw [e] at hi; cases hi
    · rw [e]; exact hi
  refine ⟨h.size, h.defers, h.hr.weaken hk, fun t => ?_⟩
  rcases he.get t with e | e
  · rw [e]; exact .sh (.any _)
  · rw [← e]; exact (h.slots t).fits ⟨fun _ => Nat.le_refl _, fun _ _ => rfl, fun _ _ => rfl, fun _ _ => rfl, fun _ hb => hb.mono hk, fun _ _ => rfl⟩

theorem a_ent {c : Code} (s' : St) (he : Ent s s') (h : AWp C c Q s') : AWp C c Q s := fun a w g hr => h a w g (hr.ent he)

theorem least {p : Nat → Prop} (h : ∃ n, p n) : ∃ n, p n ∧ ∀ m, p m → n ≤ m := by
  obtain ⟨n, hn⟩ := h
  induction n using Nat.strongRecOn with
  | _ n ih =>
    by_cases hm : ∃ m, m < n ∧ p m
    · obtain ⟨m, h1, h2⟩ := hm; exact ih m h1 h2
    · exact ⟨n, hn, fun m hp => Nat.le_of_not_lt fun hlt => hm ⟨m, hlt, hp⟩⟩

/-- A loop: the states at its head are told by 'inv', where 'pre' holds; a round lowers the measure. -/
theorem a_loop {c : Code} {ι : Type} (pre : ι → Prop) (inv : ι → St) (μ : ι → Nat) (i0 : ι) (hp : pre i0) (h0 : Ent s (inv i0))
    (round : ∀ i, pre i → AWp C c (fun e s' => match e with | .normal => ∃ i', pre i' ∧ Ent s' (inv i') ∧ μ i' < μ i | e => Q e s') (inv i)) : AWp C (.loop c) Q s := by
  intro a w g hr
  let at_ : Act → World → Nat → Prop := fun a w n => ∃ i g, pre i ∧ Rel C a w (inv i) g ∧ μ i = n
  let low : Act → World → Nat := fun a w => open Classical in if h : ∃ n, at_ a w n then Classical.choose (least h) else 0
  have hlow : ∀ a w (h : ∃ n, at_ a w n), at_ a w (low a w) ∧ ∀ m, at_ a w m → low a w ≤ m := by
    intro a w h
    have := Classical.choose_spec (least h)
    simp only [low, dif_pos h]
    exact this
  refine wp_loop (fun a w => ∃ n, at_ a w n) low ⟨μ i0, i0, g, hp, hr.ent h0, rfl⟩ ?_
  intro a w hI
  obtain ⟨⟨i, g, hpi, hri, hmu⟩, _⟩ := hlow a w hI
  refine Code.wp_mono ?_ (round i hpi a w g hri)
  intro e a' w' ⟨s', g', r, q⟩
  cases e with
  | normal =>
    obtain ⟨i', hp', he', hlt⟩ := q
    have h' : at_ a' w' (μ i') := ⟨i', g', hp', r.ent he', rfl⟩
    exact ⟨⟨_, h'⟩, Nat.lt_of_le_of_lt ((hlow a' w' ⟨_, h'⟩).2 _ h') (hmu ▸ hlt)⟩
  | _ => exact ⟨s', g', r, q⟩
end
end Go.Ab

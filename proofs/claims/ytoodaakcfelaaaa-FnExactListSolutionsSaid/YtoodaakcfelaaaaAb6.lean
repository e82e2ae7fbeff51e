/- An abstract state for the walk: slots and objects that the call itself made are told by plain values; the laws of the operations over it. It holds for every program. -/
import Derived.OwnWalk
import Derived.WalkKit
import Derived.Orders
import Derived.Deep.MidRow
set_option linter.unusedSimpArgs false
set_option linter.unusedVariables false
namespace Go.Ab
inductive V where
  | p (v : Value)
  | sl (es : List (List V))
  | own (id ver : Nat)
  | ptr (id ver off : Nat)
  | pel (id ver k f : Nat)
  | el (es : List (List V)) (k f : Nat)
  | agg (xs : List V)
  | tup (xs : List V)
  | fn (f : FuncId) (caps : List V)
  | any
inductive DTy where
  | mk (e s : Nat) (subs : List (Nat × DTy))
def DTy.e : DTy → Nat
  | .mk e _ _ => e
def DTy.s : DTy → Nat
  | .mk _ s _ => s
def subOf : List (Nat × DTy) → Nat → Option DTy
  | [], _ => none
  | (f, t) :: r, i => bif Nat.beq f i then some t else subOf r i
def DTy.sub : DTy → Nat → Option DTy
  | .mk _ _ subs, f => subOf subs f
inductive Obj where
  | row (e s : Nat) (es : List (List V))
  | box (e : Nat) (xs : List V)
  | deep (t : DTy) (es : List (List V)) (h : Option (Nat × Nat × Nat × Nat))
  | map (kvs : List (Value × Value))
  | gone
abbrev Slots := List (Nat × V)
abbrev Heap := List (Nat × Option (Nat × Obj))
theorem qjx {a b : Nat} (h : a ≠ b) : Nat.beq a b = false := by
  cases hb : Nat.beq a b
  · rfl
  · exact absurd (Nat.eq_of_beq_eq_true hb) h
def get : Slots → Nat → V
  | [], _ => .any
  | (d, v) :: r, t => bif Nat.beq d t then v else get r t
def look : Heap → Nat → Option (Nat × Obj)
  | [], _ => none
  | (d, v) :: r, t => bif Nat.beq d t then v else look r t
structure St where
  sl : Slots
  hp : Heap
structure Gh where
  cur : Nat → Nat
  val : Nat → Value
  blk : Nat → Option Nat
  fp : Nat → List Nat
  sz : Nat → Nat
inductive SR (X : Nat → Prop) (w : World) : V → Value → Prop
  | p (v : Value) : SR X w (.p v) v
  | any (v : Value) : SR X w .any v
  | nil (a : Option Addr) (c : Nat) : SR X w (.sl []) (.slice a 0 c)
  | sl (es : List (List V)) (s b o c : Nat) (cs : List Value) (hs : ∀ e ∈ es, e.length = s) (hc : es.length ≤ c) (hm : c ≤ maxLen) (hX : X b)
      (hl : cs.length = es.flatten.length) (hr : ∀ (i : Nat) (u : Value), cs[i]? = some u → w.cell? ⟨b, o + i, none⟩ = some u)
      (he : ∀ (i : Nat) (v : V) (u : Value), es.flatten[i]? = some v → cs[i]? = some u → SR X w v u) : SR X w (.sl es) (.slice (some ⟨b, o, none⟩) es.length c)
  | el (es : List (List V)) (k f s b o : Nat) (cs : List Value) (hs : ∀ e ∈ es, e.length = s) (hX : X b)
      (hl : cs.length = es.flatten.length) (hr : ∀ (i : Nat) (u : Value), cs[i]? = some u → w.cell? ⟨b, o + i, none⟩ = some u)
      (he : ∀ (i : Nat) (v : V) (u : Value), es.flatten[i]? = some v → cs[i]? = some u → SR X w v u) (hk : k < es.length) : SR X w (.el es k f) (.pointer (some ⟨b, o + (k * s + f), none⟩))
  | agg (xs : List V) (cs : Array Value) (hl : cs.size = xs.length) (he : ∀ (i : Nat) (v : V) (u : Value), xs[i]? = some v → cs[i]? = some u → SR X w v u) : SR X w (.agg xs) (.agg cs)
  | tup (xs : List V) (cs : Array Value) (hl : cs.size = xs.length) (he : ∀ (i : Nat) (v : V) (u : Value), xs[i]? = some v → cs[i]? = some u → SR X w v u) : SR X w (.tup xs) (.tuple cs)
  | fn (f : FuncId) (xs : List V) (cs : Array Value) (hl : cs.size = xs.length) (he : ∀ (i : Nat) (v : V) (u : Value), xs[i]? = some v → cs[i]? = some u → SR X w v u) : SR X w (.fn f xs) (.func (.func f) #[] cs)
inductive VR (g : Gh) (X : Nat → Prop) (w : World) : V → Value → Prop
  | sh {v : V} {u : Value} (h : SR X w v u) : VR g X w v u
  | own (id ver : Nat) (v : Value) (h0 : v.oneCell' = true) (h1 : ver ≤ g.cur id) (h2 : ver = g.cur id → v = g.val id) : VR g X w (.own id ver) v
  | ptr (id ver off : Nat) (v : Value) (h0 : v.oneCell' = true) (h1 : ver ≤ g.cur id) (h2 : ver = g.cur id → ∃ b, g.blk id = some b ∧ v = .pointer (some ⟨b, off, none⟩)) : VR g X w (.ptr id ver off) v
  | pel (id ver k f : Nat) (v : Value) (h0 : v.oneCell' = true) (h1 : ver ≤ g.cur id) (h2 : ver = g.cur id → ∃ b, g.blk id = some b ∧ v = .pointer (some ⟨b, k * g.sz id + f, none⟩)) : VR g X w (.pel id ver k f) v
  | agg (xs : List V) (cs : Array Value) (hl : cs.size = xs.length) (he : ∀ (i : Nat) (v : V) (u : Value), xs[i]? = some v → cs[i]? = some u → VR g X w v u) : VR g X w (.agg xs) (.agg cs)
  | tup (xs : List V) (cs : Array Value) (hl : cs.size = xs.length) (he : ∀ (i : Nat) (v : V) (u : Value), xs[i]? = some v → cs[i]? = some u → VR g X w v u) : VR g X w (.tup xs) (.tuple cs)
  | fn (f : FuncId) (xs : List V) (cs : Array Value) (hl : cs.size = xs.length) (he : ∀ (i : Nat) (v : V) (u : Value), xs[i]? = some v → cs[i]? = some u → VR g X w v u) : VR g X w (.fn f xs) (.func (.func f) #[] cs)
structure Fits (g : Gh) (X : Nat → Prop) (w : World) (g' : Gh) (X' : Nat → Prop) (w' : World) : Prop where
  cur : ∀ i, g.cur i ≤ g'.cur i
  val : ∀ i, g.cur i = g'.cur i → g'.val i = g.val i
  blk : ∀ i, g.cur i = g'.cur i → g'.blk i = g.blk i
  sz : ∀ i, g.cur i = g'.cur i → g'.sz i = g.sz i
  set : ∀ b, X b → X' b
  heap : ∀ b, X b → w'.heap[b]? = w.heap[b]?
theorem Fits.refl (g : Gh) (X : Nat → Prop) (w : World) : Fits g X w g X w := ⟨fun _ => Nat.le_refl _, fun _ _ => rfl, fun _ _ => rfl, fun _ _ => rfl, fun _ h => h, fun _ _ => rfl⟩
theorem Fits.trans {g1 g2 g3 : Gh} {X1 X2 X3 : Nat → Prop} {w1 w2 w3 : World} (h : Fits g1 X1 w1 g2 X2 w2) (k : Fits g2 X2 w2 g3 X3 w3) : Fits g1 X1 w1 g3 X3 w3 where
  cur i := Nat.le_trans (h.cur i) (k.cur i)
  val i e := by
    have h1 := h.cur i; have h2 := k.cur i
    rw [k.val i (by omega), h.val i (by omega)]
  blk i e := by
    have h1 := h.cur i; have h2 := k.cur i
    rw [k.blk i (by omega), h.blk i (by omega)]
  sz i e := by
    have h1 := h.cur i; have h2 := k.cur i
    rw [k.sz i (by omega), h.sz i (by omega)]
  set b hb := k.set b (h.set b hb)
  heap b hb := (k.heap b (h.set b hb)).trans (h.heap b hb)
theorem SR.fits {X X' : Nat → Prop} {w w' : World} (fs : ∀ b, X b → X' b) (fh : ∀ b, X b → w'.heap[b]? = w.heap[b]?) {v : V} {u : Value} (h : SR X w v u) : SR X' w' v u := by
  induction h with
  | p v => exact .p v
  | any v => exact .any v
  | nil a c => exact .nil a c
  | sl es s b o c cs hs hc hm hX hl hr _ ih =>
    exact .sl es s b o c cs hs hc hm (fs b hX) hl (fun i u hu => (World.cell?_of_block (fh b hX)).trans (hr i u hu)) ih
  | el es k ff s b o cs hs hX hl hr _ hk ih =>
    exact .el es k ff s b o cs hs (fs b hX) hl (fun i u hu => (World.cell?_of_block (fh b hX)).trans (hr i u hu)) ih hk
  | agg xs cs hl _ ih => exact .agg xs cs hl ih
  | tup xs cs hl _ ih => exact .tup xs cs hl ih
  | fn ff xs cs hl _ ih => exact .fn ff xs cs hl ih
theorem VR.fits {g g' : Gh} {X X' : Nat → Prop} {w w' : World} (f : Fits g X w g' X' w') {v : V} {u : Value} (h : VR g X w v u) : VR g' X' w' v u := by
  induction h with
  | sh h => exact .sh (h.fits f.set f.heap)
  | own id ver v h0 h1 h2 =>
    exact .own id ver v h0 (Nat.le_trans h1 (f.cur id)) (fun e => by
      have := f.cur id
      rw [f.val id (by omega)]; exact h2 (by omega))
  | ptr id ver off v h0 h1 h2 =>
    exact .ptr id ver off v h0 (Nat.le_trans h1 (f.cur id)) (fun e => by
      have := f.cur id
      rw [f.blk id (by omega)]; exact h2 (by omega))
  | pel id ver k ff v h0 h1 h2 =>
    exact .pel id ver k ff v h0 (Nat.le_trans h1 (f.cur id)) (fun e => by
      have := f.cur id
      rw [f.blk id (by omega), f.sz id (by omega)]; exact h2 (by omega))
  | agg xs cs hl _ ih => exact .agg xs cs hl ih
  | tup xs cs hl _ ih => exact .tup xs cs hl ih
  | fn ff xs cs hl _ ih => exact .fn ff xs cs hl ih
def CellD (R : DTy → List Nat → List (List V) → Value → Prop) (X : Nat → Prop) (w : World) (t : DTy) (j : Nat) (v : V) (u : Value) (F : List Nat) : Prop :=
  match t.sub (j % t.s) with
  | none => F = [] ∧ SR X w v u
  | some t' => ∃ es', v = .sl es' ∧ R t' F es' u
def DC (R : DTy → List Nat → List (List V) → Value → Prop) (X : Nat → Prop) (w : World) (t : DTy) (sk : Option Nat) (es : List (List V)) (cur : Array Value) (fps : List (List Nat)) : Prop :=
  fps.length = es.flatten.length ∧ ∀ (j : Nat) (v : V), es.flatten[j]? = some v → ∃ u F, cur[j]? = some u ∧ fps[j]? = some F ∧ ((sk = some j ∧ F = []) ∨ (sk ≠ some j ∧ CellD R X w t j v u F))
def DB (R : DTy → List Nat → List (List V) → Value → Prop) (X : Nat → Prop) (w : World) (t : DTy) (sk : Option Nat) (F : List Nat) (es : List (List V)) (u : Value) : Prop :=
  (∀ x ∈ es, x.length = t.s) ∧ ((es = [] ∧ u = .slice none 0 0 ∧ F = []) ∨
    ∃ b c cur fps, u = .slice (some ⟨b, 0, none⟩) es.length c ∧ F = b :: fps.flatten ∧ w.heap[b]? = some (.cells cur t.e (0, 0)) ∧ es.length ≤ c ∧ c ≤ maxLen ∧ cur.size = c * t.s ∧ DC R X w t sk es cur fps)
def DR (X : Nat → Prop) (w : World) : Nat → DTy → List Nat → List (List V) → Value → Prop
  | 0 => fun _ _ _ _ => False
  | n + 1 => fun t F es u => DB (DR X w n) X w t none F es u
theorem CellD.fits {R R' : DTy → List Nat → List (List V) → Value → Prop} {X X' : Nat → Prop} {w w' : World} {t : DTy} {j : Nat} {v : V} {u : Value} {F : List Nat} (fs : ∀ b, X b → X' b) (fh : ∀ b, X b → w'.heap[b]? = w.heap[b]?)
    (hR : ∀ t es u, R t F es u → R' t F es u) (h : CellD R X w t j v u F) : CellD R' X' w' t j v u F := by
  cases e : t.sub (j % t.s) with
  | none => simp only [CellD, e] at h ⊢; exact ⟨h.1, h.2.fits fs fh⟩
  | some t' => simp only [CellD, e] at h ⊢; obtain ⟨es', h1, h2⟩ := h; exact ⟨es', h1, hR _ _ _ h2⟩
theorem mem_fps {fps : List (List Nat)} {j : Nat} {F : List Nat} (h : fps[j]? = some F) {b : Nat} (hb : b ∈ F) : b ∈ fps.flatten :=
  List.mem_flatten.2 ⟨F, List.mem_iff_getElem?.2 ⟨j, h⟩, hb⟩
theorem DC.fits {R R' : DTy → List Nat → List (List V) → Value → Prop} {X X' : Nat → Prop} {w w' : World} {t : DTy} {sk : Option Nat} {es : List (List V)} {cur : Array Value} {fps : List (List Nat)} (fs : ∀ b, X b → X' b) (fh : ∀ b, X b → w'.heap[b]? = w.heap[b]?)
    (hR : ∀ t F es u, (∀ b ∈ F, b ∈ fps.flatten) → R t F es u → R' t F es u) (h : DC R X w t sk es cur fps) : DC R' X' w' t sk es cur fps :=
  ⟨h.1, fun j v hj => let ⟨u, F, h1, h2, h3⟩ := h.2 j v hj; ⟨u, F, h1, h2, h3.imp id (fun k => ⟨k.1, k.2.fits fs fh (fun t es u => hR t F es u (fun b hb => mem_fps h2 hb))⟩)⟩⟩
theorem DB.fits {R R' : DTy → List Nat → List (List V) → Value → Prop} {X X' : Nat → Prop} {w w' : World} {t : DTy} {sk : Option Nat} {F : List Nat} {es : List (List V)} {u : Value} (fs : ∀ b, X b → X' b) (fh : ∀ b, X b → w'.heap[b]? = w.heap[b]?) (hF : ∀ b ∈ F, w'.heap[b]? = w.heap[b]?)
    (hR : ∀ t F' es u, (∀ b ∈ F', b ∈ F) → R t F' es u → R' t F' es u) (h : DB R X w t sk F es u) : DB R' X' w' t sk F es u := by
  obtain ⟨h0, h⟩ := h
  refine ⟨h0, ?_⟩
  rcases h with h | ⟨b, c, cur, fps, h1, rfl, h3, h4, h5, h6, h7⟩
  · exact .inl h
  · exact .inr ⟨b, c, cur, fps, h1, rfl, (hF b (by simp)).trans h3, h4, h5, h6, h7.fits fs fh (fun t F es u hs => hR t F es u (fun b hb => by simp [hs b hb]))⟩
theorem DR.fits {X X' : Nat → Prop} {w w' : World} (fs : ∀ b, X b → X' b) (fh : ∀ b, X b → w'.heap[b]? = w.heap[b]?) : ∀ {n : Nat} {t : DTy} {F : List Nat} {es : List (List V)} {u : Value}, (∀ b ∈ F, w'.heap[b]? = w.heap[b]?) → DR X w n t F es u → DR X' w' n t F es u
  | 0, _, _, _, _, _, h => h.elim
  | n + 1, t, F, es, u, hF, h => DB.fits fs fh hF (fun t F' es u hs h => DR.fits (n := n) fs fh (fun b hb => hF b (hs b hb)) h) h
def OR (g : Gh) (X : Nat → Prop) (w : World) (i : Nat) : Obj → Prop
  | .row e s es => g.sz i = s ∧ (∀ x ∈ es, x.length = s) ∧
      ((es = [] ∧ g.val i = .slice none 0 0 ∧ g.fp i = []) ∨
        ∃ b c cur, g.val i = .slice (some ⟨b, 0, none⟩) es.length c ∧ g.blk i = some b ∧ g.fp i = [b] ∧ w.heap[b]? = some (.cells cur e (0, 0)) ∧ es.length ≤ c ∧ c ≤ maxLen ∧ cur.size = c * s ∧
          ∀ (j : Nat) (v : V), es.flatten[j]? = some v → ∃ u, cur[j]? = some u ∧ SR X w v u)
  | .box e xs => ∃ b cur, g.blk i = some b ∧ g.fp i = [b] ∧ w.heap[b]? = some (.cells cur e (0, 0)) ∧ cur.size = xs.length ∧ ∀ (j : Nat) (v : V), xs[j]? = some v → ∃ u, cur[j]? = some u ∧ VR g X w v u
  | .deep t es h => g.sz i = t.s ∧ (g.fp i).Nodup ∧ (∃ n, DB (DR X w n) X w t (h.map (fun x => x.1 * t.s + x.2.1)) (g.fp i) es (g.val i)) ∧ (∀ b o k c, g.val i = .slice (some ⟨b, o, none⟩) k c → g.blk i = some b) ∧
      ∀ k f d ver, h = some (k, f, d, ver) → k < es.length ∧ f < t.s ∧ (t.sub f).isSome = true ∧ ver ≤ g.cur d ∧ (ver = g.cur d → ∀ b n c, g.val i = .slice (some ⟨b, 0, none⟩) n c → w.cell? ⟨b, k * t.s + f, none⟩ = some (g.val d))
  | .map kvs => ∃ b es clock, g.blk i = some b ∧ g.fp i = [b] ∧ g.val i = .map (some b) ∧ w.heap[b]? = some (.map es clock) ∧ es.toList.map (fun x => (x.key, x.val)) = kvs
  | .gone => g.fp i = []
structure Ctx where
  P : Program
  n : Nat
  w0 : World
  A : Nat → Prop
  X0 : Nat → Prop
  g0 : Gh
  ins : List Obj
def XX (C : Ctx) (hp : Heap) (g : Gh) (w : World) (b : Nat) : Prop := (C.X0 b ∨ (C.w0.heap.size ≤ b ∧ b < w.heap.size)) ∧ ∀ i io, look hp i = some io → b ∉ g.fp i
structure WExt (C : Ctx) (w : World) : Prop where
  os : w.os = C.w0.os
  tape : w.tape = C.w0.tape
  output : w.output = C.w0.output
  size : C.w0.heap.size ≤ w.heap.size
  old : ∀ b, b < C.w0.heap.size → ¬ C.A b → w.heap[b]? = C.w0.heap[b]?
def FlatE (g : Gh) (i : Nat) : Obj → Prop
  | .row _ _ _ => (g.val i = .slice none 0 0 ∧ g.fp i = []) ∨ ∃ b o k c, g.val i = .slice (some ⟨b, o, none⟩) k c ∧ g.fp i = [b]
  | .box _ _ => ∃ b, g.blk i = some b ∧ g.fp i = [b]
  | .deep _ _ _ => True
  | .map _ => ∃ b, g.blk i = some b ∧ g.fp i = [b]
  | .gone => True
theorem OR.flat {g : Gh} {X : Nat → Prop} {w : World} {i : Nat} {o : Obj} (h : OR g X w i o) : FlatE g i o := by
  cases o with
  | row e s es =>
    obtain ⟨_, _, h⟩ := h
    rcases h with ⟨_, h1, h2⟩ | ⟨b, c, cur, h1, _, h2, _⟩
    · exact .inl ⟨h1, h2⟩
    · exact .inr ⟨b, 0, _, c, h1, h2⟩
  | box e xs => obtain ⟨b, cur, h1, h2, _⟩ := h; exact ⟨b, h1, h2⟩
  | deep => trivial
  | map kvs => obtain ⟨b, es, c, h1, h2, _⟩ := h; exact ⟨b, h1, h2⟩
  | gone => trivial
structure HR (C : Ctx) (w : World) (hp : Heap) (g : Gh) : Prop where
  ext : WExt C w
  wf : (∀ b, C.X0 b → b < C.w0.heap.size ∧ ¬ C.A b) ∧ ∀ i o, C.ins[i]? = some o → FlatE C.g0 i o
  lnk : ∀ i, C.g0.cur i ≤ g.cur i ∧ (C.g0.cur i = g.cur i → g.val i = C.g0.val i ∧ g.blk i = C.g0.blk i ∧ g.sz i = C.g0.sz i)
  dis : ∀ i j io jo, look hp i = some io → look hp j = some jo → i ≠ j → ∀ b, b ∈ g.fp i → b ∉ g.fp j
  cur : ∀ i ver o, look hp i = some (ver, o) → g.cur i = ver
  blk : ∀ i io b, look hp i = some io → b ∈ g.fp i → b < w.heap.size ∧ (C.w0.heap.size ≤ b ∨ C.A b)
  obj : ∀ i ver o, look hp i = some (ver, o) → OR g (XX C hp g w) w i o
structure Rel (C : Ctx) (a : Act) (w : World) (s : St) (g : Gh) : Prop where
  size : a.tmps.size = C.n
  defers : a.defers = []
  hr : HR C w s.hp g
  slots : ∀ t, VR g (XX C s.hp g w) w (get s.sl t) (a.tmps.getD t undef)
def CQ (C : Ctx) (Q : Exit → St → Prop) (e : Exit) (a : Act) (w : World) : Prop := ∃ s g, Rel C a w s g ∧ Q e s
def AWp (C : Ctx) (c : Code) (Q : Exit → St → Prop) (s : St) : Prop := ∀ a w g, Rel C a w s g → c.wp C.P (CQ C Q) a w
def thenQ (C : Ctx) (y : Code) (Q : Exit → St → Prop) : Exit → St → Prop
  | .normal, s => AWp C y Q s
  | e, s => Q e s
def blockQ (id : Nat) (Q : Exit → St → Prop) : Exit → St → Prop
  | .exit i, s => bif Nat.beq i id then Q .normal s else Q (.exit i) s
  | e, s => Q e s
section
variable {C : Ctx} {Q : Exit → St → Prop} {s : St}
theorem AWp.mono {c : Code} {Q' : Exit → St → Prop} (h : AWp C c Q s) (hq : ∀ e s, Q e s → Q' e s) : AWp C c Q' s :=
  fun a w g hr => Code.wp_mono (fun _ _ _ ⟨s, g, r, q⟩ => ⟨s, g, r, hq _ _ q⟩) (h a w g hr)
theorem qqd {x y : Code} (h : AWp C x (thenQ C y Q) s) : AWp C (.seq x y) Q s := by
  intro a w g hr
  refine wp_seq (Code.wp_mono ?_ (h a w g hr))
  intro e a' w' ⟨s', g', r, q⟩
  cases e <;> first | exact q a' w' g' r | exact ⟨s', g', r, q⟩
theorem qqg (h : Q .normal s) : AWp C .skip Q s := fun _ _ g hr => wp_skip ⟨s, g, hr, h⟩
theorem qql (h : Q .ret s) : AWp C .ret Q s := fun _ _ g hr => wp_ret ⟨s, g, hr, h⟩
theorem qjf {id : Nat} (h : Q (.exit id) s) : AWp C (.exit id) Q s := fun _ _ g hr => wp_exit ⟨s, g, hr, h⟩
theorem qqh {id : Nat} {c : Code} (h : AWp C c (blockQ id Q) s) : AWp C (.block id c) Q s := by
  intro a w g hr
  refine wp_block (Code.wp_mono ?_ (h a w g hr))
  intro e a' w' ⟨s', g', r, q⟩
  cases e with
  | exit i =>
    simp only [Exit.inBlock, blockQ] at *
    by_cases e : i = id
    · subst e; simp at q; simp; exact ⟨s', g', r, q⟩
    · have e2 : Nat.beq i id = false := qjx e
      simp only [e, if_false]; simp only [e2, cond_false] at q; exact ⟨s', g', r, q⟩
  | _ => exact ⟨s', g', r, q⟩
def ev (s : Slots) : Operand → V
  | .tmp t => get s t
  | .const v => .p v
  | .global g => .p (.pointer (some ⟨g, 0, none⟩))
  | .func f => .fn f []
theorem Rel.ev {a : Act} {w : World} {g : Gh} (h : Rel C a w s g) (x : Operand) : VR g (XX C s.hp g w) w (ev s.sl x) (a.eval x) := by
  cases x with
  | tmp t => exact h.slots t
  | const v => exact .sh (.p v)
  | global _ => exact .sh (.p _)
  | func _ => exact .sh (.fn _ [] #[] rfl (fun i v u h => by simp at h))
theorem VR.plain {g : Gh} {X : Nat → Prop} {w : World} {v u : Value} (h : VR g X w (.p v) u) : u = v := by
  cases h with
  | sh h => cases h; rfl
theorem a_cond {c : Operand} {x y : Code} {b : Bool} (hc : ev s.sl c = .p (.bool b)) (ht : b = true → AWp C x Q s) (hf : b = false → AWp C y Q s) : AWp C (.cond c x y) Q s := by
  intro a w g hr
  have h := hr.ev c
  rw [hc] at h
  exact wp_cond_split h.plain (fun e => ht e a w g hr) (fun e => hf e a w g hr)
def Ent (s s' : St) : Prop := (∀ p ∈ s'.sl, get s.sl p.1 = get s'.sl p.1) ∧ (∀ p ∈ s'.hp, look s.hp p.1 = look s'.hp p.1)
theorem get_none {l : Slots} {t : Nat} (h : ∀ p ∈ l, p.1 ≠ t) : get l t = .any := by
  induction l with
  | nil => rfl
  | cons x l ih =>
    obtain ⟨d, v⟩ := x
    have hd : Nat.beq d t = false := qjx (h (d, v) (by simp))
    simp only [get, hd, cond_false]
    exact ih fun p hp => h p (by simp [hp])
theorem look_none {l : Heap} {t : Nat} (h : ∀ p ∈ l, p.1 ≠ t) : look l t = none := by
  induction l with
  | nil => rfl
  | cons x l ih =>
    obtain ⟨d, v⟩ := x
    have hd : Nat.beq d t = false := qjx (h (d, v) (by simp))
    simp only [look, hd, cond_false]
    exact ih fun p hp => h p (by simp [hp])
theorem Ent.get {s s' : St} (h : Ent s s') (t : Nat) : get s'.sl t = .any ∨ Ab.get s.sl t = Ab.get s'.sl t := by
  by_cases hx : ∃ p ∈ s'.sl, p.1 = t
  · obtain ⟨p, hp, rfl⟩ := hx; exact .inr (h.1 p hp)
  · exact .inl (get_none fun p hp e => hx ⟨p, hp, e⟩)
theorem Ent.look {s s' : St} (h : Ent s s') (t : Nat) : look s'.hp t = none ∨ Ab.look s.hp t = Ab.look s'.hp t := by
  by_cases hx : ∃ p ∈ s'.hp, p.1 = t
  · obtain ⟨p, hp, rfl⟩ := hx; exact .inr (h.2 p hp)
  · exact .inl (look_none fun p hp e => hx ⟨p, hp, e⟩)
theorem OR.fits {g g' : Gh} {X X' : Nat → Prop} {w w' : World} (f : Fits g X w g' X' w') {i : Nat} (hc : g.cur i = g'.cur i) (hfp : g'.fp i = g.fp i) (hb : ∀ b, b ∈ g.fp i → w'.heap[b]? = w.heap[b]?) {o : Obj} (h : OR g X w i o) : OR g' X' w' i o := by
  cases o with
  | row e s es =>
    obtain ⟨h0, h1, h2⟩ := h
    refine ⟨(f.sz i hc).trans h0, h1, ?_⟩
    rcases h2 with ⟨h2, h3, h4⟩ | ⟨b, c, cur, h2, h3, h3', h4, h5, h6, h7, h8⟩
    · exact .inl ⟨h2, (f.val i hc).trans h3, hfp.trans h4⟩
    · exact .inr ⟨b, c, cur, (f.val i hc).trans h2, (f.blk i hc).trans h3, hfp.trans h3', (hb b (by rw [h3']; simp)).trans h4, h5, h6, h7, fun j v hv => let ⟨u, hu, hvr⟩ := h8 j v hv; ⟨u, hu, hvr.fits f.set f.heap⟩⟩
  | box e xs =>
    obtain ⟨b, cur, h3, h3', h4, h5, h6⟩ := h
    exact ⟨b, cur, (f.blk i hc).trans h3, hfp.trans h3', (hb b (by rw [h3']; simp)).trans h4, h5, fun j v hv => let ⟨u, hu, hvr⟩ := h6 j v hv; ⟨u, hu, hvr.fits f⟩⟩
  | map kvs => obtain ⟨b, es, c, h1, h2, h3, h4, h5⟩ := h; exact ⟨b, es, c, (f.blk i hc).trans h1, hfp.trans h2, (f.val i hc).trans h3, (hb b (by rw [h2]; simp)).trans h4, h5⟩
  | gone => exact hfp.trans h
  | deep t es h' =>
    obtain ⟨h0, h1, ⟨n, h2⟩, h3, h4⟩ := h
    refine ⟨(f.sz i hc).trans h0, by rw [hfp]; exact h1, ⟨n, ?_⟩, fun b o k c e => ?_, fun j ff d ver e => ?_⟩
    · rw [hfp, f.val i hc]
      exact h2.fits f.set f.heap hb (fun t F' es u hs h => DR.fits f.set f.heap (fun b hF => hb b (hs b hF)) h)
    · rw [f.blk i hc]; rw [f.val i hc] at e; exact h3 b o k c e
    · obtain ⟨k1, k1', k1'', k2, k3⟩ := h4 j ff d ver e
      have hcd := f.cur d
      refine ⟨k1, k1', k1'', by omega, fun ev b k c e2 => ?_⟩
      rw [f.val i hc] at e2
      rw [f.val d (by omega), ← k3 (by omega) b k c e2]
      refine World.cell?_of_block (hb b ?_)
      rcases h2.2 with ⟨_, q, _⟩ | ⟨b', c', cur, fps, q1, q2, _⟩
      · rw [e2] at q; cases q
      · rw [e2] at q1; simp at q1; rw [q2, q1.1]; simp
theorem XX.mono {hp hp' : Heap} {g : Gh} {w : World} (h : ∀ i io, look hp' i = some io → look hp i = some io) {b : Nat} (hx : XX C hp g w b) : XX C hp' g w b :=
  ⟨hx.1, fun i io hi => hx.2 i io (h i io hi)⟩
theorem HR.weaken {w : World} {hp hp' : Heap} {g : Gh} (h : HR C w hp g) (hk : ∀ i io, look hp' i = some io → look hp i = some io) : HR C w hp' g where
  ext := h.ext
  wf := h.wf
  lnk := h.lnk
  dis i j io jo hi hj := h.dis i j io jo (hk _ _ hi) (hk _ _ hj)
  cur i ver o hi := h.cur i ver o (hk _ _ hi)
  blk i io b hi := h.blk i io b (hk _ _ hi)
  obj i ver o hi := (h.obj i ver o (hk _ _ hi)).fits ⟨fun _ => Nat.le_refl _, fun _ _ => rfl, fun _ _ => rfl, fun _ _ => rfl, fun _ hb => hb.mono hk, fun _ _ => rfl⟩ rfl rfl (fun _ _ => rfl)
theorem Rel.ent {s' : St} {a : Act} {w : World} {g : Gh} (h : Rel C a w s g) (he : Ent s s') : Rel C a w s' g := by
  have hk : ∀ i io, Ab.look s'.hp i = some io → Ab.look s.hp i = some io := fun i io hi => by
    rcases he.look i with e | e
    · rw [e] at hi; cases hi
    · rw [e]; exact hi
  refine ⟨h.size, h.defers, h.hr.weaken hk, fun t => ?_⟩
  rcases he.get t with e | e
  · rw [e]; exact .sh (.any _)
  · rw [← e]; exact (h.slots t).fits ⟨fun _ => Nat.le_refl _, fun _ _ => rfl, fun _ _ => rfl, fun _ _ => rfl, fun _ hb => hb.mono hk, fun _ _ => rfl⟩
theorem a_ent {c : Code} (s' : St) (he : Ent s s') (h : AWp C c Q s') : AWp C c Q s := fun a w g hr => h a w g (hr.ent he)
theorem least {p : Nat → Prop} (h : ∃ n, p n) : ∃ n, p n ∧ ∀ m, p m → n ≤ m := by
  obtain ⟨n, hn⟩ := h
  induction n using Nat.strongRecOn with
  | _ n ih =>
    by_cases hm : ∃ m, m < n ∧ p m
    · obtain ⟨m, h1, h2⟩ := hm; exact ih m h1 h2
    · exact ⟨n, hn, fun m hp => Nat.le_of_not_lt fun hlt => hm ⟨m, hlt, hp⟩⟩
theorem a_loop {c : Code} {ι : Type} (pre : ι → Prop) (inv : ι → St) (μ : ι → Nat) (i0 : ι) (hp : pre i0) (h0 : Ent s (inv i0))
    (round : ∀ i, pre i → AWp C c (fun e s' => match e with | .normal => ∃ i', pre i' ∧ Ent s' (inv i') ∧ μ i' < μ i | e => Q e s') (inv i)) : AWp C (.loop c) Q s := by
  intro a w g hr
  let at_ : Act → World → Nat → Prop := fun a w n => ∃ i g, pre i ∧ Rel C a w (inv i) g ∧ μ i = n
  let low : Act → World → Nat := fun a w => open Classical in if h : ∃ n, at_ a w n then Classical.choose (least h) else 0
  have hlow : ∀ a w (h : ∃ n, at_ a w n), at_ a w (low a w) ∧ ∀ m, at_ a w m → low a w ≤ m := by
    intro a w h
    have := Classical.choose_spec (least h)
    simp only [low, dif_pos h]
    exact this
  refine wp_loop (fun a w => ∃ n, at_ a w n) low ⟨μ i0, i0, g, hp, hr.ent h0, rfl⟩ ?_
  intro a w hI
  obtain ⟨⟨i, g, hpi, hri, hmu⟩, _⟩ := hlow a w hI
  refine Code.wp_mono ?_ (round i hpi a w g hri)
  intro e a' w' ⟨s', g', r, q⟩
  cases e with
  | normal =>
    obtain ⟨i', hp', he', hlt⟩ := q
    have h' : at_ a' w' (μ i') := ⟨i', g', hp', r.ent he', rfl⟩
    exact ⟨⟨_, h'⟩, Nat.lt_of_le_of_lt ((hlow a' w' ⟨_, h'⟩).2 _ h') (hmu ▸ hlt)⟩
  | _ => exact ⟨s', g', r, q⟩
end
end Go.Ab
/- The laws of the operations that write no memory, over the abstract state. -/
set_option linter.unusedSimpArgs false
set_option linter.unusedVariables false
namespace Go.Ab
structure Eff where
  dst : Option Nat
  v : V
  hp : Heap
  bump : List (Nat × Nat)
def app (E : Eff) (s : St) : St := ⟨match E.dst with | some d => (d, E.v) :: s.sl | none => s.sl, E.hp ++ s.hp⟩
def opWp (P : Program) (all : Array Oper) (o : Oper) (K : Act → World → Prop) (Q : Exit → Act → World → Prop) (a : Act) (w : World) : Prop :=
  if Region.wanted o (yielded all a.tmps) then o.wp P a w K Q ∨ (o.asks P a w ∧ LetsOut Q) else K (a.put o.dst undef) w
structure Agree (all : Array Oper) (o : Oper) (ids : List Nat) (s s' : St) : Prop where
  sl : ∀ t ∈ o.looksAt all, get s'.sl t = get s.sl t
  hp : ∀ i ∈ ids, look s'.hp i = look s.hp i
def OpJ (C : Ctx) (all : Array Oper) (o : Oper) (s : St) (ids : List Nat) (E : Eff) : Prop :=
  ∀ s', Agree all o ids s s' → (∀ d, o.dst = some d → d < C.n) → ∀ a w g, Rel C a w s' g → (∀ b, b ∈ E.bump → b.2 = g.cur b.1 + 1) →
    ∀ K Q, (∀ a' w' g', Rel C a' w' (app E s') g' → (∀ j, (∀ b, b ∈ E.bump → j ≠ b.1) → g'.cur j = g.cur j) → K a' w') → opWp C.P all o K Q a w
def okDst (n : Nat) : List Oper → Bool
  | [] => true
  | o :: l => (match o.dst with | some d => Nat.blt d n | none => true) && okDst n l
def AOps (C : Ctx) (all : Array Oper) (l : List Oper) (K : St → Prop) (s : St) : Prop :=
  okDst C.n l = true → ∀ (Q : Exit → Act → World → Prop), (∀ a w g s', Rel C a w s' g → K s' → Q .normal a w) → ∀ a w g, Rel C a w s g → wpList C.P all Q l a w
section
variable {C : Ctx} {all : Array Oper} {l : List Oper} {K : St → Prop} {s : St} {o : Oper} {ids : List Nat} {E : Eff}
theorem a_region {id : Nat} {l : List Oper} {Q : Exit → St → Prop} (hb : okDst C.n l = true) (h : AOps C l.toArray l (fun s => Q .normal s) s) : AWp C (.region id l.toArray false) Q s :=
  fun a w g hr => wp_region_lit (h hb _ (fun _ _ g s' r q => ⟨s', g, r, q⟩) a w g hr)
theorem op_nil (h : K s) : AOps C all [] K s := fun _ _ hQ a w g hr => wpList_nil (hQ a w g s hr h)
theorem okDst_head (h : okDst C.n (o :: l) = true) : ∀ d, o.dst = some d → d < C.n := by
  intro d hd
  simp only [okDst, hd, Bool.and_eq_true, Nat.blt_eq] at h; exact h.1
theorem okDst_tail {n : Nat} {o : Oper} {l : List Oper} (h : okDst n (o :: l) = true) : okDst n l = true := by
  simp only [okDst, Bool.and_eq_true] at h; exact h.2
theorem Agree.rfl' : Agree all o ids s s := ⟨fun _ _ => rfl, fun _ _ => rfl⟩
theorem op_cons0 (hb : E.bump = []) (hJ : OpJ C all o s ids E) (h : AOps C all l K (app E s)) : AOps C all (o :: l) K s := by
  intro hd Q hQ a w g hr
  have := hJ s Agree.rfl' (okDst_head hd) a w g hr (by rw [hb]; intro b hb; cases hb) (wpList C.P all Q l) Q (fun a' w' g' r _ => h (okDst_tail hd) Q hQ a' w' g' r)
  unfold wpList
  exact this
theorem op_consb {E : Nat → Eff} {d : Nat} (hb : ∀ v, (E v).bump = [(d, v)]) (hJ : ∀ v, OpJ C all o s ids (E v)) (h : ∀ v, AOps C all l K (app (E v) s)) : AOps C all (o :: l) K s := by
  intro hd Q hQ a w g hr
  have := hJ (g.cur d + 1) s Agree.rfl' (okDst_head hd) a w g hr (by rw [hb]; intro b hb; obtain rfl := List.mem_singleton.1 hb; rfl) (wpList C.P all Q l) Q (fun a' w' g' r _ => h _ (okDst_tail hd) Q hQ a' w' g' r)
  unfold wpList
  exact this
abbrev EV (d : Nat) (v : V) : Eff := ⟨some d, v, [], []⟩
abbrev EN (d : Nat) (v : V) (id ver : Nat) (ob : Obj) : Eff := ⟨some d, v, [(id, some (ver, ob))], [(id, ver)]⟩
abbrev ES (id ver : Nat) (ob : Obj) : Eff := ⟨none, .any, [(id, some (ver, ob))], []⟩
theorem op_v {d : Nat} {v : V} (hJ : OpJ C all o s ids (EV d v)) (h : AOps C all l K ⟨(d, v) :: s.sl, s.hp⟩) : AOps C all (o :: l) K s := op_cons0 rfl hJ h
theorem op_s {id ver : Nat} {ob : Obj} (hJ : OpJ C all o s ids (ES id ver ob)) (h : AOps C all l K ⟨s.sl, (id, some (ver, ob)) :: s.hp⟩) : AOps C all (o :: l) K s := op_cons0 rfl hJ h
theorem op_n {d id : Nat} {v : Nat → V} {ob : Obj} (hJ : ∀ ver, OpJ C all o s ids (EN d (v ver) id ver ob)) (h : ∀ ver, AOps C all l K ⟨(d, v ver) :: s.sl, (id, some (ver, ob)) :: s.hp⟩) : AOps C all (o :: l) K s := op_consb (fun _ => rfl) hJ h
theorem Rel.put {a : Act} {w : World} {g : Gh} {d : Nat} {v : V} {u : Value} (h : Rel C a w s g) (hd : d < C.n) (hv : VR g (XX C s.hp g w) w v u) : Rel C (a.put (some d) u) w ⟨(d, v) :: s.sl, s.hp⟩ g where
  size := by simp [Act.put, h.size]
  defers := h.defers
  hr := h.hr
  slots t := by
    have hs := h.size
    simp only [Act.put, get]
    by_cases e : d = t
    · subst e
      simp [Array.getD_eq_getD_getElem?, hs, hd]
      exact hv
    · rw [qjx e]
      have := h.slots t
      simp only [Array.getD_eq_getD_getElem?, cond_false] at *
      rw [Array.getElem?_setIfInBounds_ne e]
      exact this
theorem Rel.mem {a : Act} {w w' : World} {g g' : Gh} {hp' : Heap} (h : Rel C a w s g) (hr : HR C w' hp' g') (hf : Fits g (XX C s.hp g w) w g' (XX C hp' g' w') w') : Rel C a w' ⟨s.sl, hp'⟩ g' :=
  ⟨h.size, h.defers, hr, fun t => (h.slots t).fits hf⟩
theorem Agree.e {s' : St} {x : Operand} (h : Agree all o ids s s') (hx : x ∈ o.op.operands.toList) : ev s'.sl x = ev s.sl x := by
  cases x with
  | tmp t =>
    refine h.sl t ?_
    unfold Oper.looksAt
    exact List.mem_append_left _ (List.mem_filterMap.2 ⟨.tmp t, hx, rfl⟩)
  | _ => rfl
theorem j_step {d : Nat} {op : Op} {ty : TypeId} {pos : String} {aft : Array Edge} {v : V} {hp' : Heap} {bp : List (Nat × Nat)}
    (hrun : ∀ s', Agree all ⟨some d, op, ty, pos, aft, none⟩ ids s s' → ∀ a w g, Rel C a w s' g → (∀ b, b ∈ bp → b.2 = g.cur b.1 + 1) →
      ∃ u w' g', (execOp a.eval ⟨some d, op, ty, pos, aft, none⟩).run C.P w = .ok (.value u) w' ∧ HR C w' (hp' ++ s'.hp) g' ∧ Fits g (XX C s'.hp g w) w g' (XX C (hp' ++ s'.hp) g' w') w' ∧ VR g' (XX C (hp' ++ s'.hp) g' w') w' v u ∧ (∀ j, (∀ b, b ∈ bp → j ≠ b.1) → g'.cur j = g.cur j)) :
    OpJ C all ⟨some d, op, ty, pos, aft, none⟩ s ids ⟨some d, v, hp', bp⟩ := by
  intro s' ha hd a w g hr hbp K Q hK
  obtain ⟨u, w', g', e, h1, h2, h3, h4⟩ := hrun s' ha a w g hr hbp
  unfold opWp
  rw [if_pos (by simp [Region.wanted])]
  refine .inl ?_
  unfold Oper.wp
  rw [e, Oper.upon_value]
  exact hK _ _ g' ((hr.mem h1 h2).put (hd d rfl) h3) h4
theorem qzj {d : Nat} {op : Op} {ty : TypeId} {pos : String} {aft : Array Edge} {v : V}
    (hrun : ∀ s', Agree all ⟨some d, op, ty, pos, aft, none⟩ ids s s' → ∀ a w g, Rel C a w s' g → ∃ u, (execOp a.eval ⟨some d, op, ty, pos, aft, none⟩).run C.P w = .ok (.value u) w ∧ VR g (XX C s'.hp g w) w v u) :
    OpJ C all ⟨some d, op, ty, pos, aft, none⟩ s ids (EV d v) :=
  j_step (hp' := []) (bp := []) fun s' ha a w g hr _ => let ⟨u, e, hv⟩ := hrun s' ha a w g hr; ⟨u, w, g, e, hr.hr, Fits.refl _ _ _, hv, fun _ _ => rfl⟩
theorem j_eff {op : Op} {ty : TypeId} {pos : String} {aft : Array Edge} {v : V} {hp' : Heap}
    (hrun : ∀ s', Agree all ⟨none, op, ty, pos, aft, none⟩ ids s s' → ∀ a w g, Rel C a w s' g → ∃ w' g', (execOp a.eval ⟨none, op, ty, pos, aft, none⟩).run C.P w = .ok .skip w' ∧ HR C w' (hp' ++ s'.hp) g' ∧ Fits g (XX C s'.hp g w) w g' (XX C (hp' ++ s'.hp) g' w') w' ∧ (∀ j, g'.cur j = g.cur j)) :
    OpJ C all ⟨none, op, ty, pos, aft, none⟩ s ids ⟨none, v, hp', []⟩ := by
  intro s' ha hd a w g hr _ K Q hK
  obtain ⟨w', g', e, h1, h2, h4⟩ := hrun s' ha a w g hr
  unfold opWp
  rw [if_pos (by simp [Region.wanted])]
  refine .inl ?_
  unfold Oper.wp
  rw [e, Oper.upon_skip]
  exact hK _ _ g' (hr.mem h1 h2) (fun j _ => h4 j)
theorem Rel.bool {a : Act} {w : World} {g : Gh} {t : Nat} {b : Bool} (hr : Rel C a w s g) (hv : get s.sl t = .p (.bool b)) : a.tmps[t]? = some (.bool b) := by
  have := hr.slots t
  rw [hv] at this
  have := this.plain
  rw [Array.getD_eq_getD_getElem?] at this
  cases h : a.tmps[t]? with
  | none => rw [h] at this; simp [undef] at this
  | some x => rw [h] at this; simpa using this
theorem looks_guard {dst : Option Tmp} {op : Op} {ty : TypeId} {pos : String} {aft : Array Edge} {j : Nat} {want : Bool} {t : Nat} (hj : (all[j]?).bind (·.dst) = some t) : t ∈ (⟨dst, op, ty, pos, aft, some (j, want)⟩ : Oper).looksAt all := by
  unfold Oper.looksAt
  refine List.mem_append_right _ ?_
  simp [hj]
theorem qqf {dst : Option Tmp} {op : Op} {ty : TypeId} {pos : String} {aft : Array Edge} {j : Nat} {want : Bool} {t : Nat} {b : Bool} (hj : (all[j]?).bind (·.dst) = some t) (hv : get s.sl t = .p (.bool b)) (hb : b = want)
    (h : OpJ C all ⟨dst, op, ty, pos, aft, none⟩ s ids E) : OpJ C all ⟨dst, op, ty, pos, aft, some (j, want)⟩ s ids E := by
  intro s' ha hd a w g hr hbp K Q hK
  have h0 := h s' ⟨fun t ht => ha.sl t (by
    unfold Oper.looksAt at ht ⊢
    rcases List.mem_append.1 ht with h | h
    · exact List.mem_append_left _ h
    · simp at h), ha.hp⟩ hd a w g hr hbp K Q hK
  have hv' : get s'.sl t = .p (.bool b) := (ha.sl t (looks_guard hj)).trans hv
  have hw : Region.wanted ⟨dst, op, ty, pos, aft, some (j, want)⟩ (yielded all a.tmps) = true := by
    have e : (all[j]?).bind (·.dst) = some t := hj
    simp [Region.wanted, yielded, e, hr.bool hv', hb]
  unfold opWp at h0 ⊢
  rw [if_pos hw]
  rw [if_pos (by simp [Region.wanted])] at h0
  exact h0
section ops
variable {d : Nat} {ty : TypeId} {pos : String} {aft : Array Edge}
theorem qqn {x : Operand} {v : V} (hx : ev s.sl x = v) :
    OpJ C all ⟨some d, .move x, ty, pos, aft, none⟩ s [] (EV d (v)) :=
  qzj (fun s' hs a _ _ hr => have hx := (hs.e (x := x) (by simp [Op.operands])).trans hx; ⟨a.eval x, rfl, hx ▸ hr.ev x⟩)
theorem j_assign {x : Operand} {v : V} (hx : ev s.sl x = v) :
    OpJ C all ⟨some d, .assign x, ty, pos, aft, none⟩ s [] (EV d (v)) :=
  qzj (fun s' hs a _ _ hr => have hx := (hs.e (x := x) (by simp [Op.operands])).trans hx; ⟨a.eval x, rfl, hx ▸ hr.ev x⟩)
theorem Rel.evp {a : Act} {w : World} {g : Gh} {x : Operand} {v : Value} (h : Rel C a w s g) (hx : Ab.ev s.sl x = .p v) : a.eval x = v := by
  have := h.ev x
  rw [hx] at this
  exact this.plain
theorem j_pick {c x y : Operand} {b : Bool} {v : V} (hc : ev s.sl c = .p (.bool b)) (hv : (if b then ev s.sl x else ev s.sl y) = v) :
    OpJ C all ⟨some d, .pick c x y, ty, pos, aft, none⟩ s [] (EV d (v)) :=
  qzj (fun s' hs a w g hr => have hc := (hs.e (x := c) (by simp [Op.operands])).trans hc; ⟨if b then a.eval x else a.eval y, by simp [execOp, hr.evp hc, asBool], by
    have e1 := hs.e (x := x) (by simp [Op.operands])
    have e2 := hs.e (x := y) (by simp [Op.operands])
    subst hv
    cases b
    · rw [← e2]; exact hr.ev y
    · rw [← e1]; exact hr.ev x⟩)
theorem qq6 {c x y : Operand} {b : Bool} {v : V} (hc : ev s.sl c = .p (.bool b)) (hb : b = true) (hv : ev s.sl x = v) :
    OpJ C all ⟨some d, .pick c x y, ty, pos, aft, none⟩ s [] (EV d (v)) :=
  j_pick hc (by rw [hb]; exact hv)
theorem qq3 {c x y : Operand} {b : Bool} {v : V} (hc : ev s.sl c = .p (.bool b)) (hb : b = false) (hv : ev s.sl y = v) :
    OpJ C all ⟨some d, .pick c x y, ty, pos, aft, none⟩ s [] (EV d (v)) :=
  j_pick hc (by rw [hb]; exact hv)
theorem wrap64_of {n : Int} (h1 : -9223372036854775808 ≤ n) (h2 : n ≤ 9223372036854775807) : IntKind.i64.wrap n = n := IntWalk.i64_in n ⟨h1, h2⟩
theorem j_int {op : BinOp} {xt yt : TypeId} {x y : Operand} {k : IntKind} {m n : Int} {r : Value} (hx : ev s.sl x = .p (.int k m)) (hy : ev s.sl y = .p (.int k n))
    (hrun : ∀ w, (Go.binOp op xt (.int k m) (.int k n)).run C.P w = .ok r w) :
    OpJ C all ⟨some d, .binOp op xt x y yt, ty, pos, aft, none⟩ s [] (EV d (.p r)) :=
  qzj (fun s' hs a w g hr => have hx := (hs.e (x := x) (by simp [Op.operands])).trans hx; have hy := (hs.e (x := y) (by simp [Op.operands])).trans hy; ⟨r, by
    have e : (eqGuard op xt x y (.int k m) (.int k n)).run C.P w = .ok () w := by
      unfold eqGuard; split <;> simp
    simp [execOp, hr.evp hx, hr.evp hy, e, hrun w], .sh (.p _)⟩)
section ints
variable {xt yt : TypeId} {x y : Operand} {k : IntKind} {m n : Int}
theorem j_addw (hx : ev s.sl x = .p (.int k m)) (hy : ev s.sl y = .p (.int k n)) :
    OpJ C all ⟨some d, .binOp .add xt x y yt, ty, pos, aft, none⟩ s [] (EV d (.p (.int k (k.wrap (m + n))))) :=
  j_int hx hy (fun w => by simp [Go.binOp, Op.intArith])
theorem j_subw (hx : ev s.sl x = .p (.int k m)) (hy : ev s.sl y = .p (.int k n)) :
    OpJ C all ⟨some d, .binOp .sub xt x y yt, ty, pos, aft, none⟩ s [] (EV d (.p (.int k (k.wrap (m - n))))) :=
  j_int hx hy (fun w => by simp [Go.binOp, Op.intArith])
theorem qje (hx : ev s.sl x = .p (.int .i64 m)) (hy : ev s.sl y = .p (.int .i64 n)) (h1 : -9223372036854775808 ≤ m + n) (h2 : m + n ≤ 9223372036854775807) :
    OpJ C all ⟨some d, .binOp .add xt x y yt, ty, pos, aft, none⟩ s [] (EV d (.p (.int .i64 (m + n)))) :=
  by have := (j_addw hx hy : OpJ C all ⟨some d, .binOp .add xt x y yt, ty, pos, aft, none⟩ s [] _); rwa [wrap64_of h1 h2] at this
theorem j_sub (hx : ev s.sl x = .p (.int .i64 m)) (hy : ev s.sl y = .p (.int .i64 n)) (h1 : -9223372036854775808 ≤ m - n) (h2 : m - n ≤ 9223372036854775807) :
    OpJ C all ⟨some d, .binOp .sub xt x y yt, ty, pos, aft, none⟩ s [] (EV d (.p (.int .i64 (m - n)))) :=
  by have := (j_subw hx hy : OpJ C all ⟨some d, .binOp .sub xt x y yt, ty, pos, aft, none⟩ s [] _); rwa [wrap64_of h1 h2] at this
theorem j_rem (hx : ev s.sl x = .p (.int k m)) (hy : ev s.sl y = .p (.int k n)) (h0 : 0 ≤ m) (h1 : 0 < n) :
    OpJ C all ⟨some d, .binOp .rem xt x y yt, ty, pos, aft, none⟩ s [] (EV d (.p (.int k (m % n)))) :=
  j_int hx hy (fun w => by
    have e : m.tmod n = m % n := Int.tmod_eq_emod_of_nonneg h0
    have e3 : n ≠ 0 := by omega
    simp [Go.binOp, Op.intDiv, e, e3])
theorem int_beq (m n : Int) : (m == n) = decide (m = n) := by rw [Bool.eq_iff_iff]; simp
theorem j_eq (hx : ev s.sl x = .p (.int k m)) (hy : ev s.sl y = .p (.int k n)) :
    OpJ C all ⟨some d, .binOp .eql xt x y yt, ty, pos, aft, none⟩ s [] (EV d (.p (.bool (decide (m = n))))) :=
  j_int hx hy (fun w => by simp [Go.binOp, Op.intCmp, int_beq])
theorem j_ne (hx : ev s.sl x = .p (.int k m)) (hy : ev s.sl y = .p (.int k n)) :
    OpJ C all ⟨some d, .binOp .neq xt x y yt, ty, pos, aft, none⟩ s [] (EV d (.p (.bool (decide (m ≠ n))))) :=
  j_int hx hy (fun w => by
    have : (m != n) = decide (m ≠ n) := by simp [bne, int_beq]
    simp [Go.binOp, Op.intCmp, this])
theorem qzk (hx : ev s.sl x = .p (.int k m)) (hy : ev s.sl y = .p (.int k n)) :
    OpJ C all ⟨some d, .binOp .lss xt x y yt, ty, pos, aft, none⟩ s [] (EV d (.p (.bool (decide (m < n))))) :=
  j_int hx hy (fun w => by simp [Go.binOp, Op.intCmp])
theorem j_le (hx : ev s.sl x = .p (.int k m)) (hy : ev s.sl y = .p (.int k n)) :
    OpJ C all ⟨some d, .binOp .leq xt x y yt, ty, pos, aft, none⟩ s [] (EV d (.p (.bool (decide (m ≤ n))))) :=
  j_int hx hy (fun w => by simp [Go.binOp, Op.intCmp])
theorem j_gt (hx : ev s.sl x = .p (.int k m)) (hy : ev s.sl y = .p (.int k n)) :
    OpJ C all ⟨some d, .binOp .gtr xt x y yt, ty, pos, aft, none⟩ s [] (EV d (.p (.bool (decide (n < m))))) :=
  j_int hx hy (fun w => by simp [Go.binOp, Op.intCmp])
theorem j_ge (hx : ev s.sl x = .p (.int k m)) (hy : ev s.sl y = .p (.int k n)) :
    OpJ C all ⟨some d, .binOp .geq xt x y yt, ty, pos, aft, none⟩ s [] (EV d (.p (.bool (decide (n ≤ m))))) :=
  j_int hx hy (fun w => by simp [Go.binOp, Op.intCmp])
end ints
theorem j_not {xt : TypeId} {x : Operand} {b : Bool} (hx : ev s.sl x = .p (.bool b)) :
    OpJ C all ⟨some d, .unOp .not xt x, ty, pos, aft, none⟩ s [] (EV d (.p (.bool (!b)))) :=
  qzj (fun s' hs a w g hr => have hx := (hs.e (x := x) (by simp [Op.operands])).trans hx; ⟨.bool (!b), by simp [execOp, hr.evp hx, Op.unary], .sh (.p _)⟩)
theorem j_neg {xt : TypeId} {x : Operand} {m : Int} (hx : ev s.sl x = .p (.int .i64 m)) (h1 : -9223372036854775807 ≤ m) (h2 : m ≤ 9223372036854775807) :
    OpJ C all ⟨some d, .unOp .neg xt x, ty, pos, aft, none⟩ s [] (EV d (.p (.int .i64 (-m)))) :=
  qzj (fun s' hs a w g hr => have hx := (hs.e (x := x) (by simp [Op.operands])).trans hx; ⟨.int .i64 (-m), by
    have e : IntKind.i64.wrap (0 - m) = -m := by rw [wrap64_of (by omega) (by omega)]; omega
    simp only [Int.zero_sub] at e
    simp [execOp, hr.evp hx, Op.unary, Op.intArith, e], .sh (.p _)⟩)
theorem run_equalIn_bool {P : Program} {t : TypeId} (ht : P.underlying t = some .bool) (b c : Bool) (w : World) (n : Nat) : (Op.equalIn (n + 1) t (.bool b) (.bool c)).run P w = .ok (b == c) w := by
  simp [Op.equalIn, run_underlying ht]
theorem run_equal_bool {P : Program} {t : TypeId} (ht : P.underlying t = some .bool) (b c : Bool) (w : World) : (Op.equal t (.bool b) (.bool c)).run P w = .ok (b == c) w := by
  have := run_equalIn_bool ht b c w 9999
  simpa only [Op.equal, Op.maxDepth] using this
theorem j_neb {xt yt : TypeId} {x y : Operand} {b c : Bool} (ht : C.P.underlying xt = some .bool) (hx : ev s.sl x = .p (.bool b)) (hy : ev s.sl y = .p (.bool c)) :
    OpJ C all ⟨some d, .binOp .neq xt x y yt, ty, pos, aft, none⟩ s [] (EV d (.p (.bool (b != c)))) :=
  qzj (fun s' hs a w g hr => have hx := (hs.e (x := x) (by simp [Op.operands])).trans hx; have hy := (hs.e (x := y) (by simp [Op.operands])).trans hy; ⟨.bool (b != c), by
    have e : (eqGuard .neq xt x y (.bool b) (.bool c)).run C.P w = .ok () w := rfl
    have e2 : (Go.binOp .neq xt (.bool b) (.bool c)).run C.P w = .ok (.bool (b != c)) w := by
      simp only [Go.binOp, Sem.run_bind, run_equal_bool ht, Result.andThen_ok, Sem.run_pure]; rfl
    simp only [execOp, hr.evp hx, hr.evp hy, Sem.run_bind, e, e2, Result.andThen_ok, Sem.run_pure], .sh (.p _)⟩)
theorem qqy {x : Operand} {i : Nat} {xs : List V} {v : V} (hx : ev s.sl x = .tup xs) (hi : xs[i]? = some v) :
    OpJ C all ⟨some d, .extract x i, ty, pos, aft, none⟩ s [] (EV d (v)) :=
  qzj (fun s' hs a w g hr => have hx := (hs.e (x := x) (by simp [Op.operands])).trans hx; by
    have hv := hr.ev x
    rw [hx] at hv
    have key : ∃ cs : Array Value, a.eval x = .tuple cs ∧ cs.size = xs.length ∧ ∀ (i : Nat) (v : V) (u : Value), xs[i]? = some v → cs[i]? = some u → VR g (XX C s'.hp g w) w v u := by
      generalize a.eval x = u at hv
      cases hv with
      | sh h0 => cases h0 with
        | tup _ cs hl he => exact ⟨cs, rfl, hl, fun i v u h1 h2 => .sh (he i v u h1 h2)⟩
      | tup _ cs hl he => exact ⟨cs, rfl, hl, he⟩
    obtain ⟨cs, e, hl, he⟩ := key
    have hlt : i < cs.size := by rw [hl]; exact (List.getElem?_eq_some_iff.1 hi).1
    refine ⟨cs[i], ?_, he i v _ hi (by simp [hlt])⟩
    simp [execOp, e, Instr.extract, hlt])
end ops
end
end Go.Ab
/- The laws of the operations that read memory, over the abstract state. -/
set_option linter.unusedSimpArgs false
set_option linter.unusedVariables false
namespace Go.Ab
def LeafT (P : Program) (t : TypeId) : Prop := ∃ d, P.underlying t = some d ∧ d.isRow = false ∧ (P.info? t).map (·.size) = some 1
def AggT (P : Program) (t n : Nat) : Prop := ∃ d, P.underlying t = some d ∧ d.isRow = true ∧ (P.info? t).map (·.size) = some n
def SlT (P : Program) (t e sz : Nat) : Prop := P.underlying t = some (.slice e) ∧ (P.info? e).map (·.size) = some sz
def ElT (P : Program) (e sz bytes : Nat) (z : Value) : Prop := (P.info? e).map (fun i => (i.zero, i.size, i.bytes)) = some (some z, sz, bytes)
theorem run_isAgg_leaf {P : Program} {t : TypeId} (h : LeafT P t) (w : World) : (isAgg t).run P w = .ok false w := by
  obtain ⟨d, hu, hd, _⟩ := h
  unfold isAgg
  rw [Sem.run_bind, run_underlying hu w]
  cases d <;> simp_all
theorem qzt {P : Program} {t n : Nat} (h : (P.info? t).map (·.size) = some n) (w : World) : (sizeOf t).run P w = .ok n w := by
  cases hq : P.info? t with
  | none => simp [hq] at h
  | some i =>
    have : i.size = n := by simpa [hq] using h
    simp [sizeOf, typeInfo, hq, this]
theorem qj3 {α : Type} {s : Nat} : ∀ {es : List (List α)} (_ : ∀ x ∈ es, x.length = s) {k f : Nat} {x : List α} (_ : es[k]? = some x) (_ : f < s), es.flatten[k * s + f]? = x[f]?
  | [], _, k, f, x, hx, _ => by simp at hx
  | y :: es, hs, 0, f, x, hx, hf => by
    simp at hx; subst hx
    have : y.length = s := hs y (by simp)
    simp only [List.flatten_cons, Nat.zero_mul, Nat.zero_add]
    rw [List.getElem?_append_left (by omega)]
  | y :: es, hs, k + 1, f, x, hx, hf => by
    have hy : y.length = s := hs y (by simp)
    have ih := qj3 (es := es) (fun x hx => hs x (by simp [hx])) (k := k) (f := f) (x := x) (by simpa using hx) hf
    rw [List.flatten_cons, List.getElem?_append_right (by rw [hy, Nat.add_mul]; omega), ← ih]
    congr 1
    rw [hy, Nat.add_mul]; omega
theorem qq1 {α : Type} {s : Nat} : ∀ {es : List (List α)} (_ : ∀ x ∈ es, x.length = s), es.flatten.length = es.length * s
  | [], _ => by simp
  | y :: es, hs => by
    have hy : y.length = s := hs y (by simp)
    rw [List.flatten_cons, List.length_append, qq1 (fun x hx => hs x (by simp [hx])), hy, List.length_cons, Nat.add_mul]; omega
section
variable {C : Ctx} {all : Array Oper} {s : St} {d : Nat} {ty : TypeId} {pos : String} {aft : Array Edge}
theorem VR.slc {g : Gh} {X : Nat → Prop} {w : World} {es : List (List V)} {u : Value} (h : VR g X w (.sl es) u) : SR X w (.sl es) u := by
  cases h with
  | sh h => exact h
theorem SR.shape {X : Nat → Prop} {w : World} {es : List (List V)} {u : Value} (h : SR X w (.sl es) u) : ∃ a c, u = .slice a es.length c := by
  cases h with
  | nil a c => exact ⟨a, c, rfl⟩
  | sl es s b o c => exact ⟨_, c, rfl⟩
theorem Rel.slice {a : Act} {w : World} {g : Gh} {x : Operand} {es : List (List V)} (hr : Rel C a w s g) (hx : Ab.ev s.sl x = .sl es) : ∃ ad c, a.eval x = .slice ad es.length c := by
  have := hr.ev x
  rw [hx] at this
  exact this.slc.shape
theorem Rel.row {a : Act} {w : World} {g : Gh} {x : Operand} {id ver e sz : Nat} {es : List (List V)} (hr : Rel C a w s g) (hx : Ab.ev s.sl x = .own id ver) (ho : look s.hp id = some (ver, .row e sz es)) :
    a.eval x = g.val id ∧ OR g (XX C s.hp g w) w id (.row e sz es) ∧ g.cur id = ver := by
  have h1 := hr.hr.cur id ver _ ho
  have h2 := hr.hr.obj id ver _ ho
  have h3 := hr.ev x
  rw [hx] at h3
  refine ⟨?_, h2, h1⟩
  generalize a.eval x = u at h3
  cases h3 with
  | sh h => cases h
  | own _ _ _ _ _ h => exact h h1.symm
theorem OR.shape {g : Gh} {X : Nat → Prop} {w : World} {id e sz : Nat} {es : List (List V)} (h : OR g X w id (.row e sz es)) : ∃ ad c, g.val id = .slice ad es.length c := by
  obtain ⟨_, _, h⟩ := h
  rcases h with ⟨rfl, h, _⟩ | ⟨b, c, cur, h, _⟩
  · exact ⟨none, 0, h⟩
  · exact ⟨_, c, h⟩
theorem run_len_slice {P : Program} {t e : TypeId} (ht : P.underlying t = some (.slice e)) (ty : TypeId) (ad : Option Addr) (n c : Nat) (w : World) : (Builtin.len_ #[t] ty #[.slice ad n c]).run P w = .ok (.int .i64 n) w := by
  simp [Builtin.len_, run_underlying ht, goInt]
theorem j_len {t e : TypeId} {x : Operand} {es : List (List V)} (ht : C.P.underlying t = some (.slice e)) (hx : Ab.ev s.sl x = .sl es) :
    OpJ C all ⟨some d, .call { callee := .builtin .len, args := #[x], argTypes := #[t] }, ty, pos, aft, none⟩ s [] (EV d (.p (.int .i64 es.length))) :=
  qzj (fun s' hs a w g hr => have hx := (hs.e (x := x) (by simp [Op.operands, Call.operands])).trans hx; by
    obtain ⟨ad, c, e⟩ := hr.slice hx
    exact ⟨.int .i64 es.length, by simp [execOp, resolve, invoke, builtin, e, run_len_slice ht], .sh (.p _)⟩)
theorem j_len_own {t e : TypeId} {x : Operand} {id ver e' sz : Nat} {es : List (List V)} (ht : C.P.underlying t = some (.slice e)) (hx : Ab.ev s.sl x = .own id ver) (ho : look s.hp id = some (ver, .row e' sz es)) :
    OpJ C all ⟨some d, .call { callee := .builtin .len, args := #[x], argTypes := #[t] }, ty, pos, aft, none⟩ s [id] (EV d (.p (.int .i64 es.length))) :=
  qzj (fun s' hs a w g hr => have hx := (hs.e (x := x) (by simp [Op.operands, Call.operands])).trans hx; have ho := (hs.hp id (by simp)).trans ho; by
    obtain ⟨e1, e2, _⟩ := hr.row hx ho
    obtain ⟨ad, c, e3⟩ := e2.shape
    exact ⟨.int .i64 es.length, by simp [execOp, resolve, invoke, builtin, e1, e3, run_len_slice ht], .sh (.p _)⟩)
theorem j_index_str {t : TypeId} {x y : Operand} {b : ByteArray} {k : IntKind} {i : Int} {c : UInt8} (ht : C.P.underlying t = some .string) (hx : Ab.ev s.sl x = .p (.string b)) (hy : Ab.ev s.sl y = .p (.int k i)) (h0 : 0 ≤ i) (hi : b.data.toList[i.toNat]? = some c) :
    OpJ C all ⟨some d, .index t x y, ty, pos, aft, none⟩ s [] (EV d (.p (.int .u8 c.toNat))) :=
  qzj (fun s' hs a w g hr => have hx := (hs.e (x := x) (by simp [Op.operands])).trans hx; have hy := (hs.e (x := y) (by simp [Op.operands])).trans hy; ⟨.int .u8 c.toNat, by
    have e : b[i.toNat]? = some c := by
      have hlt : i.toNat < b.data.toList.length := (List.getElem?_eq_some_iff.1 hi).1
      have hv := (List.getElem?_eq_some_iff.1 hi).2
      have hs : i.toNat < b.size := by simpa using hlt
      rw [getElem?_pos b i.toNat hs]
      have : b[i.toNat] = b.data[i.toNat] := rfl
      rw [this]
      simpa using hv
    simp [execOp, hr.evp hx, hr.evp hy, Instr.index, asIntOf, run_underlying ht, h0, e], .sh (.p _)⟩)
theorem SR.elem {X : Nat → Prop} {w : World} {es : List (List V)} {u : Value} {k : Nat} {x : List V} {sz : Nat} (h : SR X w (.sl es) u) (hk : es[k]? = some x) (hsz : x.length = sz) :
    ∃ (b o c : Nat) (cs : List Value), u = .slice (some ⟨b, o, none⟩) es.length c ∧ (∀ e ∈ es, e.length = sz) ∧ X b ∧ cs.length = es.flatten.length ∧ (∀ (i : Nat) (u : Value), cs[i]? = some u → w.cell? ⟨b, o + i, none⟩ = some u) ∧
      (∀ (i : Nat) (v : V) (u : Value), es.flatten[i]? = some v → cs[i]? = some u → SR X w v u) := by
  cases h with
  | nil a c => simp at hk
  | sl es s b o c cs hs hc hm hX hl hr he =>
    have : x.length = s := hs x (List.mem_iff_getElem?.2 ⟨k, hk⟩)
    exact ⟨b, o, c, cs, rfl, fun e he => by rw [hs e he]; omega, hX, hl, hr, he⟩
theorem run_indexAt {P : Program} {t e sz : Nat} (ht : SlT P t e sz) (ad : Addr) (n c : Nat) (k : IntKind) (i : Int) (h0 : 0 ≤ i) (h1 : i < n) (w : World) :
    (Instr.indexAt t (.slice (some ad) n c) (.int k i)).run P w = .ok (.pointer (some (ad.add (i.toNat * sz)))) w := by
  obtain ⟨h2, h3⟩ := ht
  simp [Instr.indexAt, asIntOf, run_underlying h2, h0, h1, qzt h3]
theorem qz2 (b o j : Nat) : (⟨b, o, none⟩ : Addr).add j = ⟨b, o + j, none⟩ := Addr.add_mid b o j
theorem j_elem {t e sz : Nat} {x y : Operand} {es : List (List V)} {k : IntKind} {i : Int} {xs : List V} (ht : SlT C.P t e sz) (hx : Ab.ev s.sl x = .sl es) (hy : Ab.ev s.sl y = .p (.int k i)) (h0 : 0 ≤ i) (hi : es[i.toNat]? = some xs) (hsz : xs.length = sz) :
    OpJ C all ⟨some d, .indexAddr t x y, ty, pos, aft, none⟩ s [] (EV d (.el es i.toNat 0)) :=
  qzj (fun s' hs a w g hr => have hx := (hs.e (x := x) (by simp [Op.operands])).trans hx; have hy := (hs.e (x := y) (by simp [Op.operands])).trans hy; by
    have hv := hr.ev x
    rw [hx] at hv
    obtain ⟨b, o, c, cs, e1, hs, hX, hl, hrr, he⟩ := hv.slc.elem hi hsz
    have hlt : i.toNat < es.length := (List.getElem?_eq_some_iff.1 hi).1
    refine ⟨_, ?_, .sh (.el es i.toNat 0 sz b o cs hs hX hl hrr he hlt)⟩
    simp only [execOp, e1, hr.evp hy, Sem.run_bind, run_indexAt ht ⟨b, o, none⟩ es.length c k i h0 (by omega) w, Result.andThen_ok, Sem.run_pure, qz2, Nat.add_zero])
theorem j_elem_own {t e sz : Nat} {x y : Operand} {id ver e' : Nat} {es : List (List V)} {k : IntKind} {i : Int} (ht : SlT C.P t e sz) (hx : Ab.ev s.sl x = .own id ver) (ho : look s.hp id = some (ver, .row e' sz es)) (hy : Ab.ev s.sl y = .p (.int k i)) (h0 : 0 ≤ i) (hi : i.toNat < es.length) :
    OpJ C all ⟨some d, .indexAddr t x y, ty, pos, aft, none⟩ s [id] (EV d (.pel id ver i.toNat 0)) :=
  qzj (fun s' hs a w g hr => have hx := (hs.e (x := x) (by simp [Op.operands])).trans hx; have hy := (hs.e (x := y) (by simp [Op.operands])).trans hy; have ho := (hs.hp id (by simp)).trans ho; by
    obtain ⟨e1, ⟨e0, e2, e3⟩, e4⟩ := hr.row hx ho
    rcases e3 with ⟨e5, _⟩ | ⟨b, c, cur, e5, e6, _⟩
    · subst e5; simp at hi
    · refine ⟨_, ?_, .pel id ver i.toNat 0 _ rfl (by omega) (fun _ => ⟨b, e6, rfl⟩)⟩
      simp only [execOp, e1, e5, hr.evp hy, Sem.run_bind, run_indexAt ht ⟨b, 0, none⟩ es.length c k i h0 (by omega) w, Result.andThen_ok, Sem.run_pure, qz2, Nat.add_zero, Nat.zero_add, e0])
theorem Rel.ptr {a : Act} {w : World} {g : Gh} {x : Operand} {id ver off : Nat} {o : Obj} (hr : Rel C a w s g) (hx : Ab.ev s.sl x = .ptr id ver off) (ho : look s.hp id = some (ver, o)) :
    ∃ b, g.blk id = some b ∧ a.eval x = .pointer (some ⟨b, off, none⟩) := by
  have h1 := hr.hr.cur id ver _ ho
  have h3 := hr.ev x
  rw [hx] at h3
  generalize a.eval x = u at h3
  cases h3 with
  | sh h => cases h
  | ptr _ _ _ _ _ _ h => exact h h1.symm
theorem Rel.pel {a : Act} {w : World} {g : Gh} {x : Operand} {id ver k f : Nat} {o : Obj} (hr : Rel C a w s g) (hx : Ab.ev s.sl x = .pel id ver k f) (ho : look s.hp id = some (ver, o)) :
    ∃ b, g.blk id = some b ∧ a.eval x = .pointer (some ⟨b, k * g.sz id + f, none⟩) := by
  have h1 := hr.hr.cur id ver _ ho
  have h3 := hr.ev x
  rw [hx] at h3
  generalize a.eval x = u at h3
  cases h3 with
  | sh h => cases h
  | pel _ _ _ _ _ _ _ h => exact h h1.symm
theorem run_fieldAt {P : Program} {t : TypeId} {fs : Array Field} {i : Nat} {fld : Field} {n : Nat} (ht : P.underlying t = some (.struct fs)) (hi : fs[i]? = some fld) (hn : (P.info? fld.type).map (·.size) = some (n + 1)) (ad : Addr) (w : World) :
    (Instr.fieldAt t (.pointer (some ad)) i).run P w = .ok (.pointer (some (ad.add fld.offset))) w := by
  simp [Instr.fieldAt, run_underlying ht, hi, Instr.sureAddr, fieldPlace, qzt hn]
def FldT (P : Program) (t i off : Nat) : Prop := ∃ fs fld n, P.underlying t = some (.struct fs) ∧ fs[i]? = some fld ∧ fld.offset = off ∧ (P.info? fld.type).map (·.size) = some (n + 1)
theorem qqm {t i fo : Nat} {x : Operand} {id ver off : Nat} {o : Obj} (ht : FldT C.P t i fo) (hx : Ab.ev s.sl x = .ptr id ver off) (ho : look s.hp id = some (ver, o)) :
    OpJ C all ⟨some d, .fieldAddr t x i, ty, pos, aft, none⟩ s [id] (EV d (.ptr id ver (off + fo))) :=
  qzj (fun s' hs a w g hr => have hx := (hs.e (x := x) (by simp [Op.operands])).trans hx; have ho := (hs.hp id (by simp)).trans ho; by
    obtain ⟨b, h4, h5⟩ := hr.ptr hx ho
    obtain ⟨fs, fld, n, h6, h7, rfl, h8⟩ := ht
    have h1 := hr.hr.cur id ver _ ho
    refine ⟨_, ?_, .ptr id ver _ _ rfl (by omega) (fun _ => ⟨b, h4, rfl⟩)⟩
    simp only [execOp, h5, Sem.run_bind, run_fieldAt h6 h7 h8, Result.andThen_ok, Sem.run_pure, qz2])
theorem j_fldpel {t i fo : Nat} {x : Operand} {id ver k f : Nat} {o : Obj} (ht : FldT C.P t i fo) (hx : Ab.ev s.sl x = .pel id ver k f) (ho : look s.hp id = some (ver, o)) :
    OpJ C all ⟨some d, .fieldAddr t x i, ty, pos, aft, none⟩ s [id] (EV d (.pel id ver k (f + fo))) :=
  qzj (fun s' hs a w g hr => have hx := (hs.e (x := x) (by simp [Op.operands])).trans hx; have ho := (hs.hp id (by simp)).trans ho; by
    obtain ⟨b, h4, h5⟩ := hr.pel hx ho
    obtain ⟨fs, fld, n, h6, h7, rfl, h8⟩ := ht
    have h1 := hr.hr.cur id ver _ ho
    refine ⟨_, ?_, .pel id ver k _ _ rfl (by omega) (fun _ => ⟨b, h4, rfl⟩)⟩
    simp only [execOp, h5, Sem.run_bind, run_fieldAt h6 h7 h8, Result.andThen_ok, Sem.run_pure, qz2, Nat.add_assoc])
theorem Rel.el {a : Act} {w : World} {g : Gh} {x : Operand} {es : List (List V)} {k f : Nat} (hr : Rel C a w s g) (hx : Ab.ev s.sl x = .el es k f) : SR (XX C s.hp g w) w (.el es k f) (a.eval x) := by
  have := hr.ev x
  rw [hx] at this
  cases this with
  | sh h => exact h
theorem qxa {t i fo : Nat} {x : Operand} {es : List (List V)} {k f : Nat} (ht : FldT C.P t i fo) (hx : Ab.ev s.sl x = .el es k f) :
    OpJ C all ⟨some d, .fieldAddr t x i, ty, pos, aft, none⟩ s [] (EV d (.el es k (f + fo))) :=
  qzj (fun s' hs a w g hr => have hx := (hs.e (x := x) (by simp [Op.operands])).trans hx; by
    have hv := hr.el hx
    obtain ⟨fs, fld, n, h6, h7, rfl, h8⟩ := ht
    generalize hu : a.eval x = u at hv
    cases hv with
    | el _ _ _ sz b o cs hs hX hl hrr he hk =>
      refine ⟨_, ?_, .sh (.el es k (f + fld.offset) sz b o cs hs hX hl hrr he hk)⟩
      simp only [execOp, hu, Sem.run_bind, run_fieldAt h6 h7 h8, Result.andThen_ok, Sem.run_pure, qz2, Nat.add_assoc])
theorem run_loadAt_leaf {P : Program} {t : TypeId} (ht : LeafT P t) (ad : Addr) (u : Value) (w : World) (h : w.cell? ad = some u) : (Instr.loadAt t (.pointer (some ad))).run P w = .ok u w := by
  simp [Instr.loadAt, Instr.sureAddr, loadVar, run_isAgg_leaf ht, h]
theorem cs_at {α β : Type} {xs : List α} {cs : List β} (hl : cs.length = xs.length) {i : Nat} {v : α} (h : xs[i]? = some v) : ∃ u, cs[i]? = some u := by
  have : i < cs.length := by rw [hl]; exact (List.getElem?_eq_some_iff.1 h).1
  exact ⟨cs[i], by simp [this]⟩
theorem qqz {t : TypeId} {x : Operand} {es : List (List V)} {k f : Nat} {xs : List V} {v : V} (ht : LeafT C.P t) (hx : Ab.ev s.sl x = .el es k f) (hk : es[k]? = some xs) (hf : xs[f]? = some v) :
    OpJ C all ⟨some d, .load t x, ty, pos, aft, none⟩ s [] (EV d (v)) :=
  qzj (fun s' hs a w g hr => have hx := (hs.e (x := x) (by simp [Op.operands])).trans hx; by
    have hv := hr.el hx
    generalize hu : a.eval x = u at hv
    cases hv with
    | el _ _ _ sz b o cs hs hX hl hrr he hk' =>
      have hxl : xs.length = sz := hs xs (List.mem_iff_getElem?.2 ⟨k, hk⟩)
      have hfl : f < sz := by rw [← hxl]; exact (List.getElem?_eq_some_iff.1 hf).1
      have e1 : es.flatten[k * sz + f]? = some v := (qj3 hs hk hfl).trans hf
      obtain ⟨u, e2⟩ := cs_at hl e1
      refine ⟨u, ?_, .sh (he _ _ _ e1 e2)⟩
      simp only [execOp, hu, Sem.run_bind, run_loadAt_leaf ht _ u w (hrr _ _ e2), Result.andThen_ok, Sem.run_pure])
theorem qjq {t n : Nat} {x : Operand} {es : List (List V)} {k f : Nat} {xs ys : List V} (ht : AggT C.P t n) (hx : Ab.ev s.sl x = .el es k f) (hk : es[k]? = some xs) (hf : (xs.drop f).take n = ys) (hn : f + n ≤ xs.length) :
    OpJ C all ⟨some d, .load t x, ty, pos, aft, none⟩ s [] (EV d (.agg ys)) :=
  qzj (fun s' hs a w g hr => have hx := (hs.e (x := x) (by simp [Op.operands])).trans hx; by
    have hv := hr.el hx
    generalize hu : a.eval x = u at hv
    cases hv with
    | el _ _ _ sz b o cs hs hX hl hrr he hk' =>
      have hxl : xs.length = sz := hs xs (List.mem_iff_getElem?.2 ⟨k, hk⟩)
      obtain ⟨dd, h1, h2, h3⟩ := ht
      have hlen : (k + 1) * sz ≤ es.flatten.length := by
        rw [qq1 hs]; exact Nat.mul_le_mul_right _ (by have := (List.getElem?_eq_some_iff.1 hk).1; omega)
      have hkm : (k + 1) * sz = k * sz + sz := by rw [Nat.add_mul]; omega
      have hcl : ((cs.drop (k * sz + f)).take n).length = n := by
        rw [List.length_take, List.length_drop, hl]; omega
      have hcell : w.rangeAt b (o + (k * sz + f)) ((cs.drop (k * sz + f)).take n) := fun j u hj => by
        rw [List.getElem?_take] at hj
        split at hj
        · rw [List.getElem?_drop] at hj
          have := hrr _ _ hj
          rw [← this]; congr 2; omega
        · cases hj
      have hrun := run_loadAt_mid (P := C.P) w b (o + (k * sz + f)) t _ dd hcell h1 h2 (by rw [hcl]; exact h3)
      refine ⟨.agg ((cs.drop (k * sz + f)).take n).toArray, by simp only [execOp, hu, Sem.run_bind, hrun, Result.andThen_ok, Sem.run_pure], .sh (.agg ys _ ?_ ?_)⟩
      · rw [← hf]; simp only [List.size_toArray, hcl, List.length_take, List.length_drop]; omega
      · intro i v u hv hu2
        rw [← hf] at hv
        rw [List.getElem?_take] at hv
        split at hv
        · rename_i hi
          rw [List.getElem?_drop] at hv
          have e1 : es.flatten[k * sz + (f + i)]? = some v := (qj3 hs hk (by omega)).trans hv
          simp only [List.getElem?_toArray] at hu2
          rw [List.getElem?_take, if_pos hi, List.getElem?_drop] at hu2
          exact he _ _ _ e1 (by rw [← hu2]; congr 1; omega)
        · cases hv)
theorem cellOf {w : World} {b : Nat} {cur : Array Value} {e : TypeId} {fr : Nat × Nat} (h : w.heap[b]? = some (.cells cur e fr)) (o : Nat) : w.cell? ⟨b, o, none⟩ = cur[o]? := by
  simp [World.cell?, h]
theorem qjl {t : TypeId} {x : Operand} {id ver k f e sz : Nat} {es : List (List V)} {xs : List V} {v : V} (ht : LeafT C.P t) (hx : Ab.ev s.sl x = .pel id ver k f) (ho : look s.hp id = some (ver, .row e sz es)) (hk : es[k]? = some xs) (hf : xs[f]? = some v) :
    OpJ C all ⟨some d, .load t x, ty, pos, aft, none⟩ s [id] (EV d (v)) :=
  qzj (fun s' hs a w g hr => have hx := (hs.e (x := x) (by simp [Op.operands])).trans hx; have ho := (hs.hp id (by simp)).trans ho; by
    obtain ⟨b, h4, h5⟩ := hr.pel hx ho
    obtain ⟨h6, h7, h8⟩ := hr.hr.obj id ver _ ho
    rcases h8 with ⟨h8, _⟩ | ⟨b', c, cur, _, h9, _, h10, _, _, _, h11⟩
    · subst h8; simp at hk
    · rw [h9] at h4; obtain rfl : b' = b := by simpa using h4
      have hxl : xs.length = sz := h7 xs (List.mem_iff_getElem?.2 ⟨k, hk⟩)
      have hfl : f < sz := by rw [← hxl]; exact (List.getElem?_eq_some_iff.1 hf).1
      have e1 : es.flatten[k * sz + f]? = some v := (qj3 h7 hk hfl).trans hf
      obtain ⟨u, e2, e3⟩ := h11 _ _ e1
      refine ⟨u, ?_, .sh e3⟩
      rw [h6] at h5
      simp only [execOp, h5, Sem.run_bind, run_loadAt_leaf ht ⟨b', k * sz + f, none⟩ u w (by rw [cellOf h10]; exact e2), Result.andThen_ok, Sem.run_pure])
theorem j_loada_pel {t n : Nat} {x : Operand} {id ver k f e sz : Nat} {es : List (List V)} {xs ys : List V} (ht : AggT C.P t n) (hx : Ab.ev s.sl x = .pel id ver k f) (ho : look s.hp id = some (ver, .row e sz es)) (hk : es[k]? = some xs) (hf : (xs.drop f).take n = ys) (hn : f + n ≤ xs.length) :
    OpJ C all ⟨some d, .load t x, ty, pos, aft, none⟩ s [id] (EV d (.agg ys)) :=
  qzj (fun s' hs a w g hr => have hx := (hs.e (x := x) (by simp [Op.operands])).trans hx; have ho := (hs.hp id (by simp)).trans ho; by
    obtain ⟨b, h4, h5⟩ := hr.pel hx ho
    obtain ⟨h6, h7, h8⟩ := hr.hr.obj id ver _ ho
    rcases h8 with ⟨h8, _⟩ | ⟨b', c, cur, _, h9, _, h10, hc1, hc2, hc3, h11⟩
    · subst h8; simp at hk
    · rw [h9] at h4; obtain rfl : b' = b := by simpa using h4
      have hxl : xs.length = sz := h7 xs (List.mem_iff_getElem?.2 ⟨k, hk⟩)
      obtain ⟨dd, h1, h2, h3⟩ := ht
      have hkl := (List.getElem?_eq_some_iff.1 hk).1
      have hkm : (k + 1) * sz = k * sz + sz := by rw [Nat.add_mul]; omega
      have hlen : (k + 1) * sz ≤ c * sz := Nat.mul_le_mul_right _ (by omega)
      have hcl : ((cur.toList.drop (k * sz + f)).take n).length = n := by
        rw [List.length_take, List.length_drop, Array.length_toList]; omega
      have hcell : w.rangeAt b' (k * sz + f) ((cur.toList.drop (k * sz + f)).take n) := fun j u hj => by
        rw [List.getElem?_take] at hj
        split at hj
        · rw [List.getElem?_drop] at hj
          rw [cellOf h10]; simpa using hj
        · cases hj
      have hrun := run_loadAt_mid (P := C.P) w b' (k * sz + f) t _ dd hcell h1 h2 (by rw [hcl]; exact h3)
      rw [h6] at h5
      refine ⟨.agg ((cur.toList.drop (k * sz + f)).take n).toArray, by simp only [execOp, h5, Sem.run_bind, hrun, Result.andThen_ok, Sem.run_pure], .agg ys _ ?_ ?_⟩
      · rw [← hf]; simp only [List.size_toArray, hcl, List.length_take, List.length_drop]; omega
      · intro i v u hv hu2
        rw [← hf] at hv
        rw [List.getElem?_take] at hv
        split at hv
        · rename_i hi
          rw [List.getElem?_drop] at hv
          have e1 : es.flatten[k * sz + (f + i)]? = some v := (qj3 h7 hk (by omega)).trans hv
          simp only [List.getElem?_toArray] at hu2
          rw [List.getElem?_take, if_pos hi, List.getElem?_drop] at hu2
          obtain ⟨u', e2, e3⟩ := h11 _ _ e1
          have : u = u' := by
            have e4 : cur[k * sz + f + i]? = some u := by simpa using hu2
            rw [show k * sz + f + i = k * sz + (f + i) from by omega, e2] at e4
            simpa using e4.symm
          rw [this]; exact .sh e3
        · cases hv)
theorem qqe {t : TypeId} {x : Operand} {id ver off e : Nat} {xs : List V} {v : V} (ht : LeafT C.P t) (hx : Ab.ev s.sl x = .ptr id ver off) (ho : look s.hp id = some (ver, .box e xs)) (hf : xs[off]? = some v) :
    OpJ C all ⟨some d, .load t x, ty, pos, aft, none⟩ s [id] (EV d (v)) :=
  qzj (fun s' hs a w g hr => have hx := (hs.e (x := x) (by simp [Op.operands])).trans hx; have ho := (hs.hp id (by simp)).trans ho; by
    obtain ⟨b, h4, h5⟩ := hr.ptr hx ho
    obtain ⟨b', cur, h9, _, h10, hc, h11⟩ := hr.hr.obj id ver _ ho
    rw [h9] at h4; obtain rfl : b' = b := by simpa using h4
    obtain ⟨u, e2, e3⟩ := h11 _ _ hf
    refine ⟨u, ?_, e3⟩
    simp only [execOp, h5, Sem.run_bind, run_loadAt_leaf ht _ u w (by rw [cellOf h10]; exact e2), Result.andThen_ok, Sem.run_pure])
theorem qqr {t n : Nat} {x : Operand} {id ver off e : Nat} {xs ys : List V} (ht : AggT C.P t n) (hx : Ab.ev s.sl x = .ptr id ver off) (ho : look s.hp id = some (ver, .box e xs)) (hf : (xs.drop off).take n = ys) (hn : off + n ≤ xs.length) :
    OpJ C all ⟨some d, .load t x, ty, pos, aft, none⟩ s [id] (EV d (.agg ys)) :=
  qzj (fun s' hs a w g hr => have hx := (hs.e (x := x) (by simp [Op.operands])).trans hx; have ho := (hs.hp id (by simp)).trans ho; by
    obtain ⟨b, h4, h5⟩ := hr.ptr hx ho
    obtain ⟨b', cur, h9, _, h10, hc, h11⟩ := hr.hr.obj id ver _ ho
    rw [h9] at h4; obtain rfl : b' = b := by simpa using h4
    obtain ⟨dd, h1, h2, h3⟩ := ht
    have hcl : ((cur.toList.drop off).take n).length = n := by
      rw [List.length_take, List.length_drop, Array.length_toList]; omega
    have hcell : w.rangeAt b' off ((cur.toList.drop off).take n) := fun j u hj => by
      rw [List.getElem?_take] at hj
      split at hj
      · rw [List.getElem?_drop] at hj
        rw [cellOf h10]; simpa using hj
      · cases hj
    have hrun := run_loadAt_mid (P := C.P) w b' off t _ dd hcell h1 h2 (by rw [hcl]; exact h3)
    refine ⟨.agg ((cur.toList.drop off).take n).toArray, by simp only [execOp, h5, Sem.run_bind, hrun, Result.andThen_ok, Sem.run_pure], .agg ys _ ?_ ?_⟩
    · rw [← hf]; simp only [List.size_toArray, hcl, List.length_take, List.length_drop]; omega
    · intro i v u hv hu2
      rw [← hf] at hv
      rw [List.getElem?_take] at hv
      split at hv
      · rename_i hi
        rw [List.getElem?_drop] at hv
        simp only [List.getElem?_toArray] at hu2
        rw [List.getElem?_take, if_pos hi, List.getElem?_drop] at hu2
        obtain ⟨u', e2, e3⟩ := h11 _ _ hv
        have : u = u' := by
          have e4 : cur[off + i]? = some u := by simpa using hu2
          rw [e2] at e4
          simpa using e4.symm
        rw [this]; exact e3
      · cases hv)
theorem Rel.agg {a : Act} {w : World} {g : Gh} {x : Operand} {xs : List V} (hr : Rel C a w s g) (hx : Ab.ev s.sl x = .agg xs) : ∃ cs : Array Value, a.eval x = .agg cs ∧ cs.size = xs.length ∧ ∀ (i : Nat) (v : V) (u : Value), xs[i]? = some v → cs[i]? = some u → VR g (XX C s.hp g w) w v u := by
  have hv := hr.ev x
  rw [hx] at hv
  generalize a.eval x = u at hv
  cases hv with
  | sh h0 => cases h0 with
    | agg _ cs hl he => exact ⟨cs, rfl, hl, fun i v u h1 h2 => .sh (he i v u h1 h2)⟩
  | agg _ cs hl he => exact ⟨cs, rfl, hl, he⟩
def FldV (P : Program) (t i off ft : Nat) : Prop := ∃ fs fld, P.underlying t = some (.struct fs) ∧ fs[i]? = some fld ∧ fld.offset = off ∧ fld.type = ft
end
end Go.Ab
/- The laws of the operations that make or write memory, over the abstract state. -/
set_option linter.unusedSimpArgs false
set_option linter.unusedVariables false
namespace Go.Ab
def Gh.upd (g : Gh) (i ver : Nat) (val : Value) (blk : Option Nat) (fp : List Nat) (sz : Nat) : Gh where
  cur j := if j = i then ver else g.cur j
  val j := if j = i then val else g.val j
  blk j := if j = i then blk else g.blk j
  fp j := if j = i then fp else g.fp j
  sz j := if j = i then sz else g.sz j
section
variable {C : Ctx}
theorem HR.go {w w' : World} {hp : Heap} {g g' : Gh} {i ver : Nat} {o : Obj} (h : HR C w hp g)
    (hos : w'.os = w.os) (htp : w'.tape = w.tape) (hout : w'.output = w.output) (hsz : w.heap.size ≤ w'.heap.size)
    (hheap : ∀ b, b < w.heap.size → (∀ io, look hp i = some io → b ∉ g.fp i) → w'.heap[b]? = w.heap[b]?)
    (hoth : ∀ j, j ≠ i → g'.cur j = g.cur j ∧ g'.val j = g.val j ∧ g'.blk j = g.blk j ∧ g'.fp j = g.fp j ∧ g'.sz j = g.sz j)
    (hi : g'.cur i = ver) (hle : g.cur i ≤ ver) (heq : ver = g.cur i → g'.val i = g.val i ∧ g'.blk i = g.blk i ∧ g'.sz i = g.sz i)
    (hnew : ∀ b ∈ g'.fp i, b < w'.heap.size ∧ ((∃ io, look hp i = some io ∧ b ∈ g.fp i) ∨ w.heap.size ≤ b))
    (ho : Fits g (XX C hp g w) w g' (XX C ((i, some (ver, o)) :: hp) g' w') w' → OR g' (XX C ((i, some (ver, o)) :: hp) g' w') w' i o) :
    HR C w' ((i, some (ver, o)) :: hp) g' ∧ Fits g (XX C hp g w) w g' (XX C ((i, some (ver, o)) :: hp) g' w') w' := by
  have hlk : ∀ j, j ≠ i → look ((i, some (ver, o)) :: hp) j = look hp j := fun j hj => by simp only [look, qjx (Ne.symm hj), cond_false]
  have hli : look ((i, some (ver, o)) :: hp) i = some (ver, o) := by simp [look]
  have hX : ∀ b, XX C hp g w b → XX C ((i, some (ver, o)) :: hp) g' w' b := by
    intro b ⟨hb, hb2⟩
    refine ⟨hb.imp id (fun hb => ⟨hb.1, Nat.lt_of_lt_of_le hb.2 hsz⟩), fun j io hj => ?_⟩
    by_cases e : j = i
    · subst e
      intro hin
      obtain ⟨_, h2⟩ := hnew b hin
      rcases h2 with ⟨io', h3, h4⟩ | h2
      · exact hb2 _ io' h3 h4
      · rcases hb with hb | hb
        · have := (h.wf.1 b hb).1; have := h.ext.size; omega
        · omega
    · rw [hlk j e] at hj
      rw [(hoth j e).2.2.2.1]; exact hb2 j io hj
  have hXw : ∀ b, XX C hp g w b → b < w.heap.size := by
    intro b ⟨hb, _⟩
    rcases hb with hb | hb
    · have := (h.wf.1 b hb).1; have := h.ext.size; omega
    · exact hb.2
  have hf : Fits g (XX C hp g w) w g' (XX C ((i, some (ver, o)) :: hp) g' w') w' := by
    refine ⟨fun j => ?_, fun j e => ?_, fun j e => ?_, fun j e => ?_, hX, fun b hb => hheap b (hXw b hb) (fun io hio => hb.2 i io hio)⟩
    · by_cases e : j = i
      · subst e; omega
      · rw [(hoth j e).1]; exact Nat.le_refl _
    · by_cases e' : j = i
      · subst e'; exact (heq (by omega)).1
      · exact (hoth j e').2.1
    · by_cases e' : j = i
      · subst e'; exact (heq (by omega)).2.1
      · exact (hoth j e').2.2.1
    · by_cases e' : j = i
      · subst e'; exact (heq (by omega)).2.2
      · exact (hoth j e').2.2.2.2
  refine ⟨⟨⟨hos.trans h.ext.os, htp.trans h.ext.tape, hout.trans h.ext.output, Nat.le_trans h.ext.size hsz, ?_⟩, h.wf, ?_, ?_, ?_, ?_, ?_⟩, hf⟩
  · intro b hb hA
    refine (hheap b (Nat.lt_of_lt_of_le hb h.ext.size) (fun io hio hin => ?_)).trans (h.ext.old b hb hA)
    rcases (h.blk i io b hio hin).2 with h1 | h1
    · omega
    · exact hA h1
  · intro j
    have h1 := h.lnk j
    have h2 := hf.cur j
    refine ⟨Nat.le_trans h1.1 h2, fun e => ?_⟩
    have e1 : C.g0.cur j = g.cur j := by omega
    have e2 : g.cur j = g'.cur j := by omega
    obtain ⟨k1, k2, k4⟩ := h1.2 e1
    exact ⟨(hf.val j e2).trans k1, (hf.blk j e2).trans k2, (hf.sz j e2).trans k4⟩
  · intro j k io ko hj hk hne b hb
    by_cases ej : j = i
    · subst ej
      have ek : k ≠ j := Ne.symm hne
      rw [hlk k ek] at hk
      rw [(hoth k ek).2.2.2.1]
      rcases (hnew b hb).2 with ⟨io', h3, h4⟩ | h2
      · exact h.dis j k io' ko h3 hk hne b h4
      · intro hin; have := (h.blk k ko b hk hin).1; omega
    · rw [hlk j ej] at hj
      rw [(hoth j ej).2.2.2.1] at hb
      by_cases ek : k = i
      · subst ek
        intro hin
        rcases (hnew b hin).2 with ⟨io', h3, h4⟩ | h2
        · exact h.dis j k io io' hj h3 hne b hb h4
        · have := (h.blk j io b hj hb).1; omega
      · rw [hlk k ek] at hk
        rw [(hoth k ek).2.2.2.1]
        exact h.dis j k io ko hj hk hne b hb
  · intro j v ob hj
    by_cases e : j = i
    · subst e; rw [hli] at hj; simp at hj; rw [hi]; exact hj.1
    · rw [hlk j e] at hj; rw [(hoth j e).1]; exact h.cur j v ob hj
  · intro j io b hj hb
    by_cases e : j = i
    · subst e
      refine ⟨(hnew b hb).1, ?_⟩
      rcases (hnew b hb).2 with ⟨io', h3, h4⟩ | h2
      · exact (h.blk j io' b h3 h4).2
      · exact .inl (Nat.le_trans h.ext.size h2)
    · rw [hlk j e] at hj
      rw [(hoth j e).2.2.2.1] at hb
      exact ⟨Nat.lt_of_lt_of_le (h.blk j io b hj hb).1 hsz, (h.blk j io b hj hb).2⟩
  · intro j v ob hj
    by_cases e : j = i
    · subst e; rw [hli] at hj; simp at hj
      obtain ⟨_, rfl⟩ := hj
      exact ho hf
    · rw [hlk j e] at hj
      refine (h.obj j v ob hj).fits hf (hoth j e).1.symm (hoth j e).2.2.2.1 (fun b hb => hheap b (h.blk j _ b hj hb).1 (fun io hio hin => h.dis j i _ io hj hio e b hb hin))
theorem XX.lt {w : World} {hp : Heap} {g : Gh} (h : HR C w hp g) {b : Nat} (hb : XX C hp g w b) : b < w.heap.size := by
  obtain ⟨hb, _⟩ := hb
  rcases hb with hb | hb
  · have := (h.wf.1 b hb).1; have := h.ext.size; omega
  · exact hb.2
theorem Gh.upd_other {g : Gh} {i ver : Nat} {val : Value} {blk : Option Nat} {fp : List Nat} {sz : Nat} (j : Nat) (hj : j ≠ i) :
    (g.upd i ver val blk fp sz).cur j = g.cur j ∧ (g.upd i ver val blk fp sz).val j = g.val j ∧ (g.upd i ver val blk fp sz).blk j = g.blk j ∧ (g.upd i ver val blk fp sz).fp j = g.fp j ∧ (g.upd i ver val blk fp sz).sz j = g.sz j := by
  simp [Gh.upd, hj]
theorem HR.new {w w1 : World} {hp : Heap} {g : Gh} {i : Nat} {o : Obj} {cur : Array Value} {e : TypeId} (h : HR C w hp g) (h1 : w1.heap = w.heap) (h2 : w1.os = w.os) (h3 : w1.tape = w.tape) (h4 : w1.output = w.output) (val : Value) (sz : Nat)
    (ho : ∀ g' X' w', Fits g (XX C hp g w) w g' X' w' → g'.val i = val → g'.blk i = some w.heap.size → g'.fp i = [w.heap.size] → g'.sz i = sz → w'.heap[w.heap.size]? = some (.cells cur e (0, 0)) → OR g' X' w' i o) :
    HR C (w1.alloc (.cells cur e)) ((i, some (g.cur i + 1, o)) :: hp) (g.upd i (g.cur i + 1) val (some w.heap.size) [w.heap.size] sz) ∧
      Fits g (XX C hp g w) w (g.upd i (g.cur i + 1) val (some w.heap.size) [w.heap.size] sz) (XX C ((i, some (g.cur i + 1, o)) :: hp) (g.upd i (g.cur i + 1) val (some w.heap.size) [w.heap.size] sz) (w1.alloc (.cells cur e))) (w1.alloc (.cells cur e)) := by
  have hh : (w1.alloc (.cells cur e)).heap = w.heap.push (.cells cur e) := by rw [← h1]; rfl
  refine h.go h2 h3 h4 (by rw [hh]; simp) (fun b hb _ => by rw [hh, Array.getElem?_push, if_neg (by omega)]) (fun j hj => Gh.upd_other j hj) (by simp [Gh.upd]) (by omega) (fun e => by omega) ?_ ?_
  · intro b hb
    have : b = w.heap.size := by simpa [Gh.upd] using hb
    subst this
    exact ⟨by rw [hh]; simp, .inr (Nat.le_refl _)⟩
  · intro hf
    exact ho _ _ _ hf (by simp [Gh.upd]) (by simp [Gh.upd]) (by simp [Gh.upd]) (by simp [Gh.upd]) (by rw [hh]; simp)
theorem HR.write {w : World} {hp : Heap} {g : Gh} {i ver b : Nat} {o o' : Obj} {cur cur' : Array Value} {e : TypeId} (h : HR C w hp g) (hl : look hp i = some (ver, o)) (hb : g.fp i = [b]) (hc : w.heap[b]? = some (.cells cur e (0, 0)))
    (ho : ∀ X' w', Fits g (XX C hp g w) w g X' w' → w'.heap[b]? = some (.cells cur' e (0, 0)) → OR g X' w' i o') :
    HR C (w.setRow b cur') ((i, some (ver, o')) :: hp) g ∧ Fits g (XX C hp g w) w g (XX C ((i, some (ver, o')) :: hp) g (w.setRow b cur')) (w.setRow b cur') := by
  have hv := h.cur i ver o hl
  refine h.go rfl rfl rfl (by simp [World.setRow]) (fun k hk hn => setRow_other w b k _ (fun e => hn _ hl (by rw [hb, e]; simp))) (fun _ _ => ⟨rfl, rfl, rfl, rfl, rfl⟩) hv (by omega) (fun _ => ⟨rfl, rfl, rfl⟩) ?_ ?_
  · intro k hk
    exact ⟨by have := (h.blk i _ k hl hk).1; simpa [World.setRow] using this, .inl ⟨_, hl, hk⟩⟩
  · intro hf
    exact ho _ _ hf (setRow_heap w b cur _ e _ hc)
end
def lf : V → Bool
  | .p v => v.oneCell'
  | .sl _ | .own _ _ | .ptr _ _ _ | .pel _ _ _ _ | .el _ _ _ | .fn _ _ => true
  | _ => false
theorem SR.one {X : Nat → Prop} {w : World} {v : V} {u : Value} (h : SR X w v u) (hl : lf v = true) : u.oneCell' = true := by
  cases h <;> first | exact hl | rfl | (simp [lf] at hl; done)
def shl : V → Bool
  | .p _ | .sl _ | .el _ _ _ | .any => true
  | .agg xs => shlL xs
  | .tup xs => shlL xs
  | _ => false
where shlL : List V → Bool
  | [] => true
  | x :: r => shl x && shlL r
theorem shlL_at : ∀ {xs : List V} (_ : shl.shlL xs = true) {i : Nat} {v : V} (_ : xs[i]? = some v), shl v = true
  | x :: r, h, 0, v, hv => by simp at hv; subst hv; simp [shl.shlL] at h; exact h.1
  | x :: r, h, i + 1, v, hv => shlL_at (xs := r) (by simp [shl.shlL] at h; exact h.2) (i := i) (by simpa using hv)
theorem VR.shr {g : Gh} {X : Nat → Prop} {w : World} {v : V} {u : Value} (h : VR g X w v u) (hs : shl v = true) : SR X w v u := by
  induction h with
  | sh h => exact h
  | own => simp [shl] at hs
  | ptr => simp [shl] at hs
  | pel => simp [shl] at hs
  | agg xs cs hl he ih => exact .agg xs cs hl fun i v u h1 h2 => ih i v u h1 h2 (shlL_at (by simpa [shl] using hs) h1)
  | tup xs cs hl he ih => exact .tup xs cs hl fun i v u h1 h2 => ih i v u h1 h2 (shlL_at (by simpa [shl] using hs) h1)
  | fn => simp [shl] at hs
theorem VR.one {g : Gh} {X : Nat → Prop} {w : World} {v : V} {u : Value} (h : VR g X w v u) (hl : lf v = true) : u.oneCell' = true := by
  cases h with
  | sh h => exact h.one hl
  | own _ _ _ h => exact h
  | ptr _ _ _ _ h => exact h
  | pel _ _ _ _ _ h => exact h
  | agg => simp [lf] at hl
  | tup => simp [lf] at hl
  | fn => rfl
theorem cells_one {u : Value} (h : u.oneCell' = true) : u.cells = #[u] := by cases u <;> first | rfl | (simp [Value.oneCell'] at h; done)
section
variable {C : Ctx} {all : Array Oper} {s : St} {d : Nat} {ty : TypeId} {pos : String} {aft : Array Edge}
theorem qxb {d ver : Nat} {g : Gh} (h : ∀ b, b ∈ [(d, ver)] → b.2 = g.cur b.1 + 1) : ver = g.cur d + 1 := h (d, ver) (List.mem_singleton.2 rfl)
theorem upd_cur {g : Gh} {i ver : Nat} {val : Value} {blk : Option Nat} {fp : List Nat} {sz : Nat} (j : Nat) (h : ∀ b, b ∈ [(i, ver)] → j ≠ b.1) : (g.upd i ver val blk fp sz).cur j = g.cur j := by
  have := h (i, ver) (List.mem_singleton.2 rfl)
  simp only [ne_eq] at this
  simp [Gh.upd, this]
theorem box_or {g : Gh} {X : Nat → Prop} {w : World} {i e b : Nat} {xs : List V} {cur : Array Value} (h1 : g.blk i = some b) (h2 : g.fp i = [b]) (h3 : w.heap[b]? = some (.cells cur e (0, 0))) (h4 : cur.size = xs.length) (h5 : ∀ (j : Nat) (v : V) (u : Value), xs[j]? = some v → cur[j]? = some u → VR g X w v u) : OR g X w i (.box e xs) :=
  ⟨b, cur, h1, h2, h3, h4, fun j v hv => by
    have hj : j < cur.size := by rw [h4]; exact (List.getElem?_eq_some_iff.1 hv).1
    exact ⟨cur[j], by simp [hj], h5 j v _ hv (by simp [hj])⟩⟩
theorem j_boxa {e : TypeId} {x : Operand} {xs : List V} {ver : Nat} (hx : Ab.ev s.sl x = .agg xs) :
    OpJ C all ⟨some d, .box e x, ty, pos, aft, none⟩ s [] (EN d (.ptr d ver 0) d ver (.box e xs)) :=
  j_step (hp' := [(d, some (ver, .box e xs))]) (bp := [(d, ver)]) fun s' hs a w g hr hbp => by
    have hx := (hs.e (x := x) (by simp [Op.operands])).trans hx
    obtain ⟨cs, h1, h1', h1''⟩ := hr.agg hx
    obtain rfl := qxb hbp
    obtain ⟨h2, h3⟩ := hr.hr.new (i := d) (o := .box e xs) (cur := cs) (e := e) (w1 := w) rfl rfl rfl rfl .nilFunc 0 (fun g' X' w' hf _ e2 e3 _ e5 => box_or e2 e3 e5 h1' (fun j v' u hj hu => (h1'' j v' u hj hu).fits hf))
    refine ⟨_, _, _, ?_, h2, h3, .ptr d _ 0 _ rfl (by simp [Gh.upd]) (fun _ => ⟨w.heap.size, by simp [Gh.upd], rfl⟩), fun j hj => upd_cur j hj⟩
    simp [execOp, Instr.box, newVar, newRow, h1, Value.cells]
theorem run_zeroValue {P : Program} {e sz bytes : Nat} {z : Value} (h : ElT P e sz bytes z) (w : World) : (zeroValue e).run P w = .ok z w := by
  obtain ⟨i, hi, hz, _, _⟩ := info_parts h
  simp [zeroValue, typeInfo, hi, hz]
theorem qjw {e sz bytes : TypeId} {z : Value} {xs : List V} {ver : Nat} (he : ElT C.P e sz bytes z) (hz : z.cells.toList.map V.p = xs) :
    OpJ C all ⟨some d, .alloc e, ty, pos, aft, none⟩ s [] (EN d (.ptr d ver 0) d ver (.box e xs)) :=
  j_step (hp' := [(d, some (ver, .box e xs))]) (bp := [(d, ver)]) fun s' hs a w g hr hbp => by
    obtain rfl := qxb hbp
    obtain ⟨h2, h3⟩ := hr.hr.new (i := d) (o := .box e xs) (cur := z.cells) (e := e) (w1 := w) rfl rfl rfl rfl .nilFunc 0 (fun g' X' w' hf _ e2 e3 _ e5 => box_or e2 e3 e5 (by rw [← hz]; simp) (fun j v' u hj hu => by
      rw [← hz] at hj
      have hu' : z.cells.toList[j]? = some u := by simpa using hu
      rw [List.getElem?_map, hu'] at hj
      simp at hj; subst hj; exact .sh (.p _)))
    refine ⟨_, _, _, ?_, h2, h3, .ptr d _ 0 _ rfl (by simp [Gh.upd]) (fun _ => ⟨w.heap.size, by simp [Gh.upd], rfl⟩), fun j hj => upd_cur j hj⟩
    simp [execOp, Instr.alloc, run_zeroValue he, newVar, newRow]
end
end Go.Ab
/- Stores, literals, new slices, appends, over the abstract state. -/
set_option linter.unusedSimpArgs false
set_option linter.unusedVariables false
namespace Go.Ab
section
variable {C : Ctx} {all : Array Oper} {s : St} {d : Nat} {ty : TypeId} {pos : String} {aft : Array Edge}
theorem qz6 {P : Program} {t : TypeId} {w : World} {b o : Nat} {cur : Array Value} {e : TypeId} {u : Value} (ht : LeafT P t) (hc : w.heap[b]? = some (.cells cur e (0, 0))) (ho : o < cur.size) (hu : u.oneCell' = true) :
    (Instr.storeAt t (.pointer (some ⟨b, o, none⟩)) u).run P w = .ok () (w.setRow b (cur.setIfInBounds o u)) := by
  obtain ⟨dd, h1, h2, h3⟩ := ht
  have hcell : w.cell? ⟨b, o, none⟩ = some cur[o] := by rw [cellOf hc]; simp [ho]
  have hfro : w.frozen? ⟨b, o, none⟩ = false := by simp [World.frozen?, hc]
  have hst : (store ⟨b, o, none⟩ u).run P w = .ok () (w.setRow b (cur.setIfInBounds o u)) := by
    rw [run_store P w _ u _ hu, hcell]
    simp [hfro, setCell_eq_setRow w b o cur e (0, 0) u hc]
  have h4 := cells_one hu
  simp [Instr.storeAt, Instr.sureAddr, storeVar, h4, qzt h3, storeCells, Addr.add, hst]
theorem run_storeAt_agg {P : Program} {t n : TypeId} {w : World} {b o : Nat} {cur : Array Value} {e : TypeId} {us : Array Value} (ht : AggT P t n) (hc : w.heap[b]? = some (.cells cur e (0, 0))) (hn : us.size = n) (ho : o + n ≤ cur.size) (hu : ∀ u ∈ us.toList, u.oneCell' = true) :
    (Instr.storeAt t (.pointer (some ⟨b, o, none⟩)) (.agg us)).run P w = .ok () (w.setRow b (cur.toList.take o ++ us.toList ++ cur.toList.drop (o + us.size)).toArray) := by
  obtain ⟨dd, h1, h2, h3⟩ := ht
  have hst := run_storeCells_at P b o e us.toList 0 cur w hc (by simp; omega) hu
  simp only [Nat.add_zero, Array.length_toList] at hst
  simp [Instr.storeAt, Instr.sureAddr, storeVar, Value.cells, qzt h3, hn]
  simpa [hn] using hst
theorem get_seg {α : Type} {l m : List α} {o : Nat} (h : o + m.length ≤ l.length) (j : Nat) : (l.take o ++ m ++ l.drop (o + m.length))[j]? = if j < o then l[j]? else if j < o + m.length then m[j - o]? else l[j]? := by
  rw [List.append_assoc]
  by_cases h1 : j < o
  · rw [if_pos h1, List.getElem?_append_left (by rw [List.length_take]; omega), List.getElem?_take, if_pos h1]
  · rw [if_neg h1, List.getElem?_append_right (by rw [List.length_take]; omega), List.length_take, show min o l.length = o from by omega]
    by_cases h2 : j < o + m.length
    · rw [if_pos h2, List.getElem?_append_left (by omega)]
    · rw [if_neg h2, List.getElem?_append_right (by omega), List.getElem?_drop]; congr 1; omega
theorem qq8 {t : TypeId} {x y : Operand} {id ver off e : Nat} {xs : List V} {v : V} (ht : LeafT C.P t) (hx : Ab.ev s.sl x = .ptr id ver off) (ho : look s.hp id = some (ver, .box e xs)) (hoff : off < xs.length) (hy : Ab.ev s.sl y = v) (hl : lf v = true) :
    OpJ C all ⟨none, .store t x y, ty, pos, aft, none⟩ s [id] (ES id ver (.box e (xs.set off v))) :=
  j_eff (hp' := [(id, some (ver, .box e (xs.set off v)))]) fun s' hs a w g hr => by
    have hx := (hs.e (x := x) (by simp [Op.operands])).trans hx
    have hy := (hs.e (x := y) (by simp [Op.operands])).trans hy
    have ho := (hs.hp id (by simp)).trans ho
    obtain ⟨b, h4, h5⟩ := hr.ptr hx ho
    obtain ⟨b', cur, h9, h9', h10, hc, h11⟩ := hr.hr.obj id ver _ ho
    rw [h9] at h4; obtain rfl : b' = b := by simpa using h4
    have hv := hr.ev y
    rw [hy] at hv
    have hrun := qz6 (P := C.P) (u := a.eval y) ht h10 (by omega : off < cur.size) (hv.one hl)
    obtain ⟨h2, h3⟩ := hr.hr.write (o' := .box e (xs.set off v)) (cur' := cur.setIfInBounds off (a.eval y)) ho h9' h10 (fun X' w' hf hw => box_or (hf.blk id rfl ▸ h9) h9' hw (by simp [hc]) (fun j v' u hj hu => by
      rw [List.getElem?_set] at hj
      rw [Array.getElem?_setIfInBounds] at hu
      by_cases e : off = j
      · subst e
        simp only [if_true] at hj hu
        rw [if_pos hoff] at hj
        rw [if_pos (by omega)] at hu
        simp at hj hu; subst hj; subst hu
        exact hv.fits hf
      · rw [if_neg e] at hj hu
        obtain ⟨u', e1, e2⟩ := h11 _ _ hj
        rw [hu] at e1; obtain rfl := Option.some.inj e1
        exact e2.fits hf))
    refine ⟨_, g, ?_, h2, h3, fun _ => rfl⟩
    simp only [execOp, h5, Sem.run_bind, hrun, Result.andThen_ok, Sem.run_pure]
theorem j_storea_box {t n : TypeId} {x y : Operand} {id ver off e : Nat} {xs ys : List V} (ht : AggT C.P t n) (hx : Ab.ev s.sl x = .ptr id ver off) (ho : look s.hp id = some (ver, .box e xs)) (hn : ys.length = n) (hoff : off + n ≤ xs.length) (hy : Ab.ev s.sl y = .agg ys) (hl : ys.all lf = true) :
    OpJ C all ⟨none, .store t x y, ty, pos, aft, none⟩ s [id] (ES id ver (.box e (xs.take off ++ ys ++ xs.drop (off + ys.length)))) :=
  j_eff (hp' := [(id, some (ver, .box e (xs.take off ++ ys ++ xs.drop (off + ys.length))))]) fun s' hs a w g hr => by
    have hx := (hs.e (x := x) (by simp [Op.operands])).trans hx
    have hy := (hs.e (x := y) (by simp [Op.operands])).trans hy
    have ho := (hs.hp id (by simp)).trans ho
    obtain ⟨b, h4, h5⟩ := hr.ptr hx ho
    obtain ⟨b', cur, h9, h9', h10, hc, h11⟩ := hr.hr.obj id ver _ ho
    rw [h9] at h4; obtain rfl : b' = b := by simpa using h4
    obtain ⟨us, h6, h7, h8⟩ := hr.agg hy
    have hone : ∀ u ∈ us.toList, u.oneCell' = true := by
      intro u hu
      obtain ⟨j, hj⟩ := List.mem_iff_getElem?.1 hu
      have hjl : j < ys.length := by rw [← h7]; simpa using (List.getElem?_eq_some_iff.1 hj).1
      exact (h8 j ys[j] u (by simp [hjl]) (by simpa using hj)).one (List.all_eq_true.1 hl _ (List.getElem_mem hjl))
    have hrun := run_storeAt_agg (P := C.P) (o := off) ht h10 (by omega) (by omega) hone
    have hlen : us.toList.length = ys.length := by simpa using h7
    obtain ⟨h2, h3⟩ := hr.hr.write (o' := .box e (xs.take off ++ ys ++ xs.drop (off + ys.length))) (cur' := (cur.toList.take off ++ us.toList ++ cur.toList.drop (off + us.size)).toArray) ho h9' h10 (fun X' w' hf hw => box_or (hf.blk id rfl ▸ h9) h9' hw (by simp; omega) (fun j v' u hj hu => by
      rw [get_seg (by omega)] at hj
      rw [List.getElem?_toArray, ← Array.length_toList, get_seg (by simp; omega), hlen] at hu
      by_cases e1 : j < off
      · rw [if_pos e1] at hj hu
        obtain ⟨u', e2, e3⟩ := h11 _ _ hj
        have : u = u' := by simpa [e2] using hu.symm
        rw [this]; exact e3.fits hf
      · rw [if_neg e1] at hj hu
        by_cases e2 : j < off + ys.length
        · rw [if_pos e2] at hj hu
          exact (h8 _ _ _ hj (by simpa using hu)).fits hf
        · rw [if_neg e2] at hj hu
          obtain ⟨u', e3, e4⟩ := h11 _ _ hj
          have : u = u' := by simpa [e3] using hu.symm
          rw [this]; exact e4.fits hf))
    refine ⟨_, g, ?_, h2, h3, fun _ => rfl⟩
    simp only [execOp, h5, h6, Sem.run_bind, hrun, Result.andThen_ok, Sem.run_pure]
theorem set_lens {sz : Nat} {es : List (List V)} (h : ∀ x ∈ es, x.length = sz) (k : Nat) (ys : List V) (hy : ys.length = sz) : ∀ x ∈ es.set k ys, x.length = sz := by
  intro x hx
  rcases List.mem_or_eq_of_mem_set hx with hx | rfl
  · exact h x hx
  · exact hy
theorem set_flat {sz : Nat} {es : List (List V)} (h : ∀ x ∈ es, x.length = sz) {k : Nat} (hk : k < es.length) {ys : List V} (hy : ys.length = sz) (j : Nat) :
    (es.set k ys).flatten[j]? = if j < k * sz then es.flatten[j]? else if j < k * sz + sz then ys[j - k * sz]? else es.flatten[j]? := by
  have hlen := qq1 h
  have hs := set_lens h k ys hy
  have hlen' := qq1 hs
  rw [List.length_set] at hlen'
  by_cases hj : j < es.length * sz
  · have hsz : 0 < sz := by
      rcases Nat.eq_zero_or_pos sz with e | e
      · subst e; omega
      · exact e
    have hq : j / sz < es.length := (Nat.div_lt_iff_lt_mul hsz).2 hj
    have hm : j % sz < sz := Nat.mod_lt _ hsz
    have hjd : j / sz * sz + j % sz = j := by rw [Nat.mul_comm]; exact Nat.div_add_mod j sz
    have e1 : es.flatten[j]? = es[j / sz][j % sz]? := by
      have := qj3 h (k := j / sz) (f := j % sz) (x := es[j / sz]) (by simp [hq]) hm
      rwa [hjd] at this
    have e2 : (es.set k ys).flatten[j]? = ((es.set k ys)[j / sz]'(by simpa using hq))[j % sz]? := by
      have := qj3 hs (k := j / sz) (f := j % sz) (x := (es.set k ys)[j / sz]'(by simpa using hq)) (by simp [hq]) hm
      rwa [hjd] at this
    by_cases ek : j / sz = k
    · subst ek
      have h1 : ¬ j < j / sz * sz := by omega
      have h2 : j < j / sz * sz + sz := by omega
      rw [if_neg h1, if_pos h2, e2]
      simp only [List.getElem_set_self]
      congr 1; omega
    · rw [e2]
      simp only [List.getElem_set_ne (Ne.symm ek)]
      rw [← e1]
      by_cases h1 : j < k * sz
      · rw [if_pos h1]
      · have h2 : ¬ j < k * sz + sz := by
          intro h2
          have : j / sz = k := by
            apply Nat.le_antisymm
            · exact Nat.le_of_lt_succ ((Nat.div_lt_iff_lt_mul hsz).2 (by rw [Nat.succ_mul]; omega))
            · exact (Nat.le_div_iff_mul_le hsz).2 (by omega)
          exact ek this
        rw [if_neg h1, if_neg h2]
  · have hk' : k * sz + sz ≤ es.length * sz := by
      have := Nat.mul_le_mul_right sz (show k + 1 ≤ es.length from hk)
      rwa [Nat.succ_mul] at this
    have h1 : ¬ j < k * sz := by omega
    have h2 : ¬ j < k * sz + sz := by omega
    rw [if_neg h1, if_neg h2, List.getElem?_eq_none (by omega), List.getElem?_eq_none (by omega)]
theorem row_or {g : Gh} {X : Nat → Prop} {w : World} {i e sz b c : Nat} {es : List (List V)} {cur : Array Value} (h0 : g.sz i = sz) (hs : ∀ x ∈ es, x.length = sz) (hv : g.val i = .slice (some ⟨b, 0, none⟩) es.length c) (h1 : g.blk i = some b) (h2 : g.fp i = [b]) (h3 : w.heap[b]? = some (.cells cur e (0, 0))) (hc1 : es.length ≤ c) (hc2 : c ≤ maxLen) (h4 : cur.size = c * sz)
    (h5 : ∀ (j : Nat) (v : V) (u : Value), es.flatten[j]? = some v → cur[j]? = some u → SR X w v u) : OR g X w i (.row e sz es) :=
  ⟨h0, hs, .inr ⟨b, c, cur, hv, h1, h2, h3, hc1, hc2, h4, fun j v hj => by
    have hlt : j < cur.size := by
      have := (List.getElem?_eq_some_iff.1 hj).1
      rw [qq1 hs] at this
      have := Nat.mul_le_mul_right sz hc1
      omega
    exact ⟨cur[j], by simp [hlt], h5 j v _ hj (by simp [hlt])⟩⟩⟩
theorem qj9 {t : TypeId} {x y : Operand} {id ver k e : Nat} {es : List (List V)} {v : V} (ht : LeafT C.P t) (hx : Ab.ev s.sl x = .pel id ver k 0) (ho : look s.hp id = some (ver, .row e 1 es)) (hk : k < es.length) (hy : Ab.ev s.sl y = v) (hl : lf v = true) (hsh : shl v = true) :
    OpJ C all ⟨none, .store t x y, ty, pos, aft, none⟩ s [id] (ES id ver (.row e 1 (es.set k [v]))) :=
  j_eff (hp' := [(id, some (ver, .row e 1 (es.set k [v])))]) fun s' hs a w g hr => by
    have hx := (hs.e (x := x) (by simp [Op.operands])).trans hx
    have hy := (hs.e (x := y) (by simp [Op.operands])).trans hy
    have ho := (hs.hp id (by simp)).trans ho
    obtain ⟨b, h4, h5⟩ := hr.pel hx ho
    obtain ⟨h6, h7, h8⟩ := hr.hr.obj id ver _ ho
    rcases h8 with ⟨h8, _⟩ | ⟨b', c, cur, hval, h9, h9', h10, hc1, hc2, hc3, h11⟩
    · subst h8; simp at hk
    · rw [h9] at h4; obtain rfl : b' = b := by simpa using h4
      have hv := hr.ev y
      rw [hy] at hv
      have hvs := hv.shr hsh
      rw [h6] at h5
      simp only [Nat.mul_one, Nat.add_zero] at h5 hc3
      have hrun := qz6 (P := C.P) (u := a.eval y) ht h10 (by omega : k < cur.size) (hv.one hl)
      obtain ⟨h2, h3⟩ := hr.hr.write (o' := .row e 1 (es.set k [v])) (cur' := cur.setIfInBounds k (a.eval y)) ho h9' h10 (fun X' w' hf hw => row_or ((hf.sz id rfl).trans h6) (set_lens h7 k [v] rfl) (by rw [hf.val id rfl, hval]; simp) (hf.blk id rfl ▸ h9) h9' hw (by simpa using hc1) hc2 (by simp [hc3]) (fun j v' u hj hu => by
        rw [set_flat h7 hk rfl] at hj
        rw [Array.getElem?_setIfInBounds] at hu
        simp only [Nat.mul_one] at hj
        by_cases e1 : k = j
        · subst e1
          simp only [if_true, Nat.lt_irrefl, if_false, Nat.lt_add_one, Nat.sub_self] at hj hu
          rw [if_pos (by omega)] at hu
          simp at hj hu; subst hj; subst hu
          exact hvs.fits hf.set hf.heap
        · rw [if_neg e1] at hu
          have hj' : es.flatten[j]? = some v' := by
            split at hj
            · exact hj
            · rw [if_neg (by omega)] at hj; exact hj
          obtain ⟨u', e2, e3⟩ := h11 _ _ hj'
          rw [hu] at e2; obtain rfl := Option.some.inj e2
          exact e3.fits hf.set hf.heap))
      refine ⟨_, g, ?_, h2, h3, fun _ => rfl⟩
      simp only [execOp, h5, Sem.run_bind, hrun, Result.andThen_ok, Sem.run_pure]
theorem j_storef_row {t : TypeId} {x y : Operand} {id ver k f sz e : Nat} {es : List (List V)} {xs : List V} {v : V} (ht : LeafT C.P t) (hx : Ab.ev s.sl x = .pel id ver k f) (ho : look s.hp id = some (ver, .row e sz es)) (hk : es[k]? = some xs) (hf : f < xs.length) (hy : Ab.ev s.sl y = v) (hl : lf v = true) (hsh : shl v = true) :
    OpJ C all ⟨none, .store t x y, ty, pos, aft, none⟩ s [id] (ES id ver (.row e sz (es.set k (xs.set f v)))) :=
  j_eff (hp' := [(id, some (ver, .row e sz (es.set k (xs.set f v))))]) fun s' hs a w g hr => by
    have hx := (hs.e (x := x) (by simp [Op.operands])).trans hx
    have hy := (hs.e (x := y) (by simp [Op.operands])).trans hy
    have ho := (hs.hp id (by simp)).trans ho
    obtain ⟨b, h4, h5⟩ := hr.pel hx ho
    obtain ⟨h6, h7, h8⟩ := hr.hr.obj id ver _ ho
    have hkl : k < es.length := (List.getElem?_eq_some_iff.1 hk).1
    have hxl : xs.length = sz := h7 xs (List.mem_iff_getElem?.2 ⟨k, hk⟩)
    rcases h8 with ⟨h8, _⟩ | ⟨b', c, cur, hval, h9, h9', h10, hc1, hc2, hc3, h11⟩
    · subst h8; simp at hkl
    · rw [h9] at h4; obtain rfl : b' = b := by simpa using h4
      have hv := hr.ev y
      rw [hy] at hv
      have hvs := hv.shr hsh
      rw [h6] at h5
      have hks : k * sz + sz ≤ c * sz := by
        have := Nat.mul_le_mul_right sz (show k + 1 ≤ c from by omega)
        rwa [Nat.succ_mul] at this
      have hrun := qz6 (P := C.P) (u := a.eval y) ht h10 (by omega : k * sz + f < cur.size) (hv.one hl)
      obtain ⟨h2, h3⟩ := hr.hr.write (o' := .row e sz (es.set k (xs.set f v))) (cur' := cur.setIfInBounds (k * sz + f) (a.eval y)) ho h9' h10 (fun X' w' hff hw => row_or ((hff.sz id rfl).trans h6) (set_lens h7 k (xs.set f v) (by simpa using hxl)) (by rw [hff.val id rfl, hval]; simp) (hff.blk id rfl ▸ h9) h9' hw (by simpa using hc1) hc2 (by simp [hc3]) (fun j v' u hj hu => by
        rw [set_flat h7 hkl (by simpa using hxl)] at hj
        rw [Array.getElem?_setIfInBounds] at hu
        by_cases e1 : k * sz + f = j
        · subst e1
          rw [if_neg (by omega), if_pos (by omega), show k * sz + f - k * sz = f from by omega, List.getElem?_set, if_pos rfl, if_pos hf] at hj
          rw [if_pos rfl, if_pos (by omega)] at hu
          simp at hj hu; subst hj; subst hu
          exact hvs.fits hff.set hff.heap
        · rw [if_neg e1] at hu
          have hj' : es.flatten[j]? = some v' := by
            split at hj
            · exact hj
            · split at hj
              · rw [List.getElem?_set, if_neg (by omega)] at hj
                have := qj3 h7 (k := k) (f := j - k * sz) hk (by omega)
                rw [show k * sz + (j - k * sz) = j from by omega] at this
                rw [this]; exact hj
              · exact hj
          obtain ⟨u', e2, e3⟩ := h11 _ _ hj'
          rw [hu] at e2; obtain rfl := Option.some.inj e2
          exact e3.fits hff.set hff.heap))
      refine ⟨_, g, ?_, h2, h3, fun _ => rfl⟩
      simp only [execOp, h5, Sem.run_bind, hrun, Result.andThen_ok, Sem.run_pure]
theorem j_storea_row {t n : TypeId} {x y : Operand} {id ver k e : Nat} {es : List (List V)} {ys : List V} (ht : AggT C.P t n) (hx : Ab.ev s.sl x = .pel id ver k 0) (ho : look s.hp id = some (ver, .row e n es)) (hk : k < es.length) (hy : Ab.ev s.sl y = .agg ys) (hn : ys.length = n) (hl : ys.all lf = true) (hsh : shl.shlL ys = true) :
    OpJ C all ⟨none, .store t x y, ty, pos, aft, none⟩ s [id] (ES id ver (.row e n (es.set k ys))) :=
  j_eff (hp' := [(id, some (ver, .row e n (es.set k ys)))]) fun s' hs a w g hr => by
    have hx := (hs.e (x := x) (by simp [Op.operands])).trans hx
    have hy := (hs.e (x := y) (by simp [Op.operands])).trans hy
    have ho := (hs.hp id (by simp)).trans ho
    obtain ⟨b, h4, h5⟩ := hr.pel hx ho
    obtain ⟨h6, h7, h8⟩ := hr.hr.obj id ver _ ho
    rcases h8 with ⟨h8, _⟩ | ⟨b', c, cur, hval, h9, h9', h10, hc1, hc2, hc3, h11⟩
    · subst h8; simp at hk
    · rw [h9] at h4; obtain rfl : b' = b := by simpa using h4
      obtain ⟨us, h12, h13, h14⟩ := hr.agg hy
      rw [h6] at h5
      simp only [Nat.add_zero] at h5
      have hks : k * n + n ≤ c * n := by
        have := Nat.mul_le_mul_right n (show k + 1 ≤ c from by omega)
        rwa [Nat.succ_mul] at this
      have hone : ∀ u ∈ us.toList, u.oneCell' = true := by
        intro u hu
        obtain ⟨j, hj⟩ := List.mem_iff_getElem?.1 hu
        have hjl : j < ys.length := by rw [← h13]; simpa using (List.getElem?_eq_some_iff.1 hj).1
        exact (h14 j ys[j] u (by simp [hjl]) (by simpa using hj)).one (List.all_eq_true.1 hl _ (List.getElem_mem hjl))
      have hrun := run_storeAt_agg (P := C.P) (o := k * n) ht h10 (by omega) (by omega) hone
      have hlen : us.toList.length = n := by simp; omega
      obtain ⟨h2, h3⟩ := hr.hr.write (o' := .row e n (es.set k ys)) (cur' := (cur.toList.take (k * n) ++ us.toList ++ cur.toList.drop (k * n + us.size)).toArray) ho h9' h10 (fun X' w' hff hw => row_or ((hff.sz id rfl).trans h6) (set_lens h7 k ys hn) (by rw [hff.val id rfl, hval]; simp) (hff.blk id rfl ▸ h9) h9' hw (by simpa using hc1) hc2 (by simp; omega) (fun j v' u hj hu => by
        rw [set_flat h7 hk hn] at hj
        rw [List.getElem?_toArray, ← Array.length_toList, get_seg (by simp; omega), hlen] at hu
        by_cases e1 : j < k * n
        · rw [if_pos e1] at hj hu
          obtain ⟨u', e2, e3⟩ := h11 _ _ hj
          have : u = u' := by simpa [e2] using hu.symm
          rw [this]; exact e3.fits hff.set hff.heap
        · rw [if_neg e1] at hj hu
          by_cases e2 : j < k * n + n
          · rw [if_pos e2] at hj hu
            exact ((h14 _ _ _ hj (by simpa using hu)).shr (shlL_at hsh hj)).fits hff.set hff.heap
          · rw [if_neg e2] at hj hu
            obtain ⟨u', e3, e4⟩ := h11 _ _ hj
            have : u = u' := by simpa [e3] using hu.symm
            rw [this]; exact e4.fits hff.set hff.heap))
      refine ⟨_, g, ?_, h2, h3, fun _ => rfl⟩
      simp only [execOp, h5, h12, Sem.run_bind, hrun, Result.andThen_ok, Sem.run_pure]
end
end Go.Ab
/- Literals, new slices, appends, cuts, over the abstract state. -/
set_option linter.unusedSimpArgs false
set_option linter.unusedVariables false
namespace Go.Ab
def leaves : V → List V
  | .agg xs => xs
  | v => [v]
def afill (pl : Nat → Option (Nat × Nat)) : List V → List (Nat × V) → Option (List V)
  | xs, [] => some xs
  | xs, (i, v) :: r => match pl i with
    | none => none
    | some (off, n) => bif (Nat.beq (leaves v).length n && (leaves v).all lf && Nat.ble (off + n) xs.length) then afill pl (xs.take off ++ leaves v ++ xs.drop (off + (leaves v).length)) r else none
structure RelA (g : Gh) (X : Nat → Prop) (w : World) (xs : List V) (cs : Array Value) : Prop where
  len : cs.size = xs.length
  el : ∀ (i : Nat) (v : V) (u : Value), xs[i]? = some v → cs[i]? = some u → VR g X w v u
theorem VR.leaves {g : Gh} {X : Nat → Prop} {w : World} {v : V} {u : Value} (h : VR g X w v u) (hl : (Ab.leaves v).all lf = true) : RelA g X w (Ab.leaves v) u.cells := by
  by_cases ha : ∃ xs, v = .agg xs
  · obtain ⟨xs, rfl⟩ := ha
    cases h with
    | sh h => cases h with
      | agg _ cs hl he => exact ⟨hl, fun i v u h1 h2 => .sh (he i v u h1 h2)⟩
    | agg _ cs hl he => exact ⟨hl, he⟩
  · have e : Ab.leaves v = [v] := by cases v <;> first | rfl | exact absurd ⟨_, rfl⟩ ha
    rw [e] at hl ⊢
    have h1 := cells_one (h.one (by simpa using hl))
    rw [h1]
    exact ⟨rfl, fun i v' u' h2 h3 => by
      match i, h2, h3 with
      | 0, h2, h3 => simp at h2 h3; subst h2; subst h3; exact h⟩
theorem fill_step (us : List Value) (off : Nat) : ∀ (cs : Array Value) (k : Nat), off + k + us.length ≤ cs.size →
    ((us.zipIdx k).foldl (fun cs (x : Value × Nat) => cs.setIfInBounds (off + x.2) x.1) cs).toList = cs.toList.take (off + k) ++ us ++ cs.toList.drop (off + k + us.length) := by
  induction us with
  | nil => intro cs k h; simp
  | cons u us ih =>
    intro cs k h
    simp only [List.zipIdx_cons, List.foldl_cons]
    simp only [List.length_cons] at h
    rw [ih _ _ (by simp; omega), Array.toList_setIfInBounds]
    have := list_seg_step cs.toList (off + k) u us (by simp; omega)
    simp only [List.length_cons]
    rw [← this]
    simp only [Nat.add_assoc]
theorem afill_fill {g : Gh} {X : Nat → Prop} {w : World} {pl : Nat → Option (Nat × Nat)} : ∀ {ps : List (Nat × V)} {qs : List (Nat × Value)} {xs xs' : List V} {cs : Array Value}, afill pl xs ps = some xs' → RelA g X w xs cs →
    ps.length = qs.length → (∀ (i : Nat) (p : Nat × V) (q : Nat × Value), ps[i]? = some p → qs[i]? = some q → p.1 = q.1 ∧ VR g X w p.2 q.2) → ∃ cs', Instr.fill pl cs qs = some cs' ∧ RelA g X w xs' cs'
  | [], [], xs, xs', cs, h, hr, _, _ => ⟨cs, rfl, by simp [afill] at h; subst h; exact hr⟩
  | (i, v) :: ps, (j, u) :: qs, xs, xs', cs, h, hr, hl, hrel => by
    obtain ⟨h1, h2⟩ := hrel 0 (i, v) (j, u) rfl rfl
    simp only at h1 h2
    subst h1
    simp only [afill] at h
    cases hp : pl i with
    | none => rw [hp] at h; simp at h
    | some on =>
      obtain ⟨off, n⟩ := on
      rw [hp] at h
      simp only at h
      cases hc : (Nat.beq (leaves v).length n && (leaves v).all lf && Nat.ble (off + n) xs.length) with
      | false => rw [hc] at h; simp at h
      | true =>
        rw [hc] at h
        simp only [cond_true] at h
        simp only [Bool.and_eq_true, Nat.beq_eq, Nat.ble_eq] at hc
        obtain ⟨⟨hc1, hc2⟩, hc3⟩ := hc
        have hlv := h2.leaves hc2
        have hsz : u.cells.size = n := by rw [hlv.len, hc1]
        have hcs := hr.len
        have hcond : ¬ (decide (u.cells.size ≠ n) || decide (off + u.cells.size > cs.size)) = true := by simp [hsz]; omega
        have hstep := fill_step u.cells.toList off cs 0 (by simp; omega)
        simp only [Nat.add_zero, Array.length_toList] at hstep
        have hzip : ∀ (f : Array Value → Value × Nat → Array Value), u.cells.zipIdx.foldl f cs = (u.cells.toList.zipIdx 0).foldl f cs := by
          intro f
          rw [← Array.foldl_toList, Array.toList_zipIdx]
        have hnew : RelA g X w (xs.take off ++ leaves v ++ xs.drop (off + (leaves v).length)) (u.cells.zipIdx.foldl (fun cs (x : Value × Nat) => cs.setIfInBounds (off + x.2) x.1) cs) := by
          constructor
          · rw [← Array.length_toList, hzip, hstep]; simp; omega
          · intro k v' u' hv hu
            rw [← Array.getElem?_toList, hzip, hstep, ← Array.length_toList, get_seg (by simp; omega)] at hu
            rw [get_seg (by omega)] at hv
            by_cases e1 : k < off
            · rw [if_pos e1] at hv hu; exact hr.el k v' u' hv (by simpa using hu)
            · rw [if_neg e1] at hv hu
              by_cases e2 : k < off + n
              · rw [if_pos (by omega)] at hv
                rw [if_pos (by simp; omega)] at hu
                exact hlv.el _ _ _ hv (by simpa using hu)
              · rw [if_neg (by omega)] at hv
                rw [if_neg (by simp; omega)] at hu
                exact hr.el k v' u' hv (by simpa using hu)
        obtain ⟨cs', h3, h4⟩ := afill_fill h hnew (by simpa using hl) (fun k p q hp hq => hrel (k + 1) p q (by simpa using hp) (by simpa using hq))
        refine ⟨cs', ?_, h4⟩
        simp only [Instr.fill, hp]
        rw [if_neg hcond]
        exact h3
def StrT (P : Program) (t : TypeId) (pl : List (Nat × Nat)) : Prop := ∃ fs, P.underlying t = some (.struct fs) ∧ fs.toList.mapM (fun f => (P.info? f.type).map (fun i => (f.offset, i.size))) = some pl
theorem run_places {P : Program} {w : World} : ∀ {fs : List Field} {pl : List (Nat × Nat)}, fs.mapM (fun f => (P.info? f.type).map (fun i => (f.offset, i.size))) = some pl →
    (fs.mapM (fun f => (do pure (f.offset, ← sizeOf f.type) : Sem (Nat × Nat)))).run P w = .ok pl w
  | [], pl, h => by simp at h; subst h; simp
  | f :: fs, pl, h => by
    rw [List.mapM_cons] at h
    cases hi : P.info? f.type with
    | none => simp [hi] at h
    | some i =>
      cases hr : fs.mapM (fun f => (P.info? f.type).map (fun i => (f.offset, i.size))) with
      | none => simp [hi, hr] at h
      | some pl' =>
        have e : pl = (f.offset, i.size) :: pl' := by simpa [hi, hr] using h.symm
        have ih := run_places (P := P) (w := w) hr
        rw [List.mapM_cons, e]
        have h2 : (sizeOf f.type).run P w = .ok i.size w := qzt (by simp [hi]) w
        simp only [Sem.run_bind, h2, Result.andThen_ok, Sem.run_pure, ih]
section
variable {C : Ctx} {all : Array Oper} {s : St} {d : Nat} {ty : TypeId} {pos : String} {aft : Array Edge}
theorem parts_rel {a : Act} {w : World} {g : Gh} (hr : Rel C a w s g) (parts : List (Nat × Operand)) :
    ∀ (i : Nat) (p : Nat × V) (q : Nat × Value), (parts.map (fun x => (x.1, Ab.ev s.sl x.2)))[i]? = some p → (parts.map (fun x => (x.1, a.eval x.2)))[i]? = some q → p.1 = q.1 ∧ VR g (XX C s.hp g w) w p.2 q.2 := by
  intro i p q hp hq
  rw [List.getElem?_map] at hp hq
  cases h : parts[i]? with
  | none => rw [h] at hp; simp at hp
  | some x =>
    rw [h] at hp hq
    simp at hp hq
    subst hp; subst hq
    exact ⟨rfl, hr.ev x.2⟩
theorem parts_agree {all : Array Oper} {o : Oper} {ids : List Nat} {s' : St} {parts : List (Nat × Operand)} (hs : Agree all o ids s s') (h : ∀ x ∈ parts, x.2 ∈ o.op.operands.toList) : parts.map (fun x => (x.1, Ab.ev s'.sl x.2)) = parts.map (fun x => (x.1, Ab.ev s.sl x.2)) :=
  List.map_congr_left fun x hx => by rw [hs.e (h x hx)]
theorem zero_relA {g : Gh} {X : Nat → Prop} {w : World} {z : Array Value} {zs : List V} (h : z.toList.map V.p = zs) : RelA g X w zs z := by
  subst h
  refine ⟨by simp, fun i v u h1 h2 => ?_⟩
  rw [List.getElem?_map] at h1
  have h2' : z.toList[i]? = some u := by simpa using h2
  rw [h2'] at h1
  simp at h1; subst h1; exact .sh (.p _)
theorem qz3 {t sz bytes : TypeId} {z : Value} {pl : List (Nat × Nat)} {zs xs' : List V} {parts : List (Nat × Operand)} (ht : StrT C.P t pl) (hz : ElT C.P t sz bytes z) (hzs : z.cells.toList.map V.p = zs)
    (hf : afill (pl[·]?) zs (parts.map (fun x => (x.1, Ab.ev s.sl x.2))) = some xs') :
    OpJ C all ⟨some d, .build t parts.toArray, ty, pos, aft, none⟩ s [] (EV d (.agg xs')) :=
  qzj fun s' hs a w g hr => by
    obtain ⟨fs, h1, h2⟩ := ht
    have e := parts_agree (parts := parts) hs (fun x hx => by simp [Op.operands]; exact ⟨x.1, hx⟩)
    rw [← e] at hf
    obtain ⟨cs', h3, h4⟩ := afill_fill hf (zero_relA hzs) (by simp) (parts_rel hr parts)
    refine ⟨.agg cs', ?_, .agg xs' cs' h4.len h4.el⟩
    have h5 := run_places (w := w) h2
    have h6 : (fs.mapM (fun f => (do pure (f.offset, ← sizeOf f.type) : Sem (Nat × Nat)))).run C.P w = .ok pl.toArray w := by
      rw [Array.mapM_eq_mapM_toList, Sem.run_map, h5]; rfl
    have h7 : (parts.toArray.map fun x => (x.1, a.eval x.2)).toList = parts.map (fun x => (x.1, a.eval x.2)) := by simp
    have h8 : Instr.fill (fun i => pl.toArray[i]?) z.cells (parts.map (fun x => (x.1, a.eval x.2))) = some cs' := by
      rw [show (fun i => pl.toArray[i]?) = (fun i => pl[i]?) from by funext i; simp]; exact h3
    simp only [execOp, Instr.build, Sem.run_bind, run_zeroValue hz, Result.andThen_ok, run_underlying h1, h6, h7, h8, Sem.run_pure]
theorem qqv {t e sz bytes : TypeId} {n ver : Nat} {z : Value} {zs : List V} {es : List (List V)} {parts : List (Nat × Operand)} (ht : SlT C.P t e sz) (hz : ElT C.P e sz bytes z) (hzs : z.cells.toList.map V.p = zs) (hzl : zs.length = sz) (hsz0 : 0 < sz) (hn : n * sz ≤ 16777216)
    (hf : afill (fun i => some (i * sz, sz)) (List.replicate n zs).flatten (parts.map (fun x => (x.1, Ab.ev s.sl x.2))) = some es.flatten) (hlen : es.length = n) (hes : ∀ x ∈ es, x.length = sz) (hsh : shl.shlL es.flatten = true) :
    OpJ C all ⟨some d, .buildSlice t n parts.toArray, ty, pos, aft, none⟩ s [] (EN d (.own d ver) d ver (.row e sz es)) :=
  j_step (hp' := [(d, some (ver, .row e sz es))]) (bp := [(d, ver)]) fun s' hs a w g hr hbp => by
    obtain rfl := qxb hbp
    have hpa := parts_agree (parts := parts) hs (fun x hx => by simp [Op.operands]; exact ⟨x.1, hx⟩)
    rw [← hpa] at hf
    have hzsz : z.cells.size = sz := by rw [← Array.length_toList, ← hzl, ← hzs]; simp
    let zc : Array Value := (Array.range (n * sz)).map ((if n * sz = 0 then #[] else z.cells)[· % (if n * sz = 0 then (#[] : Array Value) else z.cells).size]!)
    have hzc : RelA g (XX C s'.hp g w) w (List.replicate n zs).flatten zc := by
      have hl1 : (List.replicate n zs).flatten.length = n * sz := by simp [hzl]
      refine ⟨by simp [zc, hl1], fun i v u h1 h2 => ?_⟩
      have hi : i < n * sz := by rw [← hl1]; exact (List.getElem?_eq_some_iff.1 h1).1
      have hne : n * sz ≠ 0 := by omega
      have hsz : 0 < sz := Nat.pos_of_ne_zero fun e => by subst e; simp at hne
      have h3 := qj3 (es := List.replicate n zs) (s := sz) (fun x hx => by rw [List.eq_of_mem_replicate hx]; exact hzl) (k := i / sz) (f := i % sz) (x := zs) (by
        rw [List.getElem?_replicate, if_pos ((Nat.div_lt_iff_lt_mul hsz).2 hi)]) (Nat.mod_lt _ hsz)
      rw [show i / sz * sz + i % sz = i from by rw [Nat.mul_comm]; exact Nat.div_add_mod i sz] at h3
      rw [h3, ← hzs, List.getElem?_map] at h1
      have hm : i % sz < z.cells.size := by rw [hzsz]; exact Nat.mod_lt _ hsz
      have h4 : z.cells.toList[i % sz]? = some z.cells[i % sz] := by simp [hm]
      rw [h4] at h1
      simp [zc, hi, hne, hzsz] at h1 h2
      rw [getElem!_pos z.cells (i % sz) hm] at h2
      subst h1; subst h2; exact .sh (.p _)
    obtain ⟨cs', h3, h4⟩ := afill_fill hf hzc (by simp) (parts_rel hr parts)
    have hmax : n ≤ maxLen := by
      have := Nat.le_mul_of_pos_right n hsz0
      unfold maxLen; omega
    have hcs : cs'.size = n * sz := by rw [h4.len, qq1 hes, hlen]
    obtain ⟨h5, h6⟩ := hr.hr.new (i := d) (o := .row e sz es) (cur := cs') (e := e) (w1 := w) rfl rfl rfl rfl (.slice (some ⟨w.heap.size, 0, none⟩) n n) sz (fun g' X' w' hff e1 e2 e3 e4 e5 => row_or e4 hes (by rw [e1, hlen]) e2 e3 e5 (by rw [hlen]; exact Nat.le_refl _) hmax hcs (fun j v u hj hu => ((h4.el j v u hj hu).shr (shlL_at hsh hj)).fits hff.set hff.heap))
    refine ⟨.slice (some ⟨w.heap.size, 0, none⟩) n n, _, _, ?_, h5, h6, .own d _ _ rfl (by simp [Gh.upd]) (fun _ => by simp [Gh.upd]), fun j hj => upd_cur j hj⟩
    have h7 : (parts.toArray.map fun x => (x.1, a.eval x.2)).toList = parts.map (fun x => (x.1, a.eval x.2)) := by simp
    have hnn : ¬ n * sz > 2 ^ 24 := by omega
    obtain ⟨ht1, ht2⟩ := ht
    by_cases hne : n * sz = 0
    · have h3' : Instr.fill (fun i => some (i * sz, sz)) ((Array.range (n * sz)).map ((#[] : Array Value)[· % (#[] : Array Value).size]!)) (parts.map (fun x => (x.1, a.eval x.2))) = some cs' := by
        have := h3
        simp only [zc, if_pos hne] at this
        exact this
      simp only [execOp, Instr.buildSlice, Sem.run_bind, run_underlying ht1, Result.andThen_ok, qzt ht2, if_neg hnn, Sem.run_pure, if_pos hne, h7, h3', newRow, run_newObj]
      rfl
    · have h3' : Instr.fill (fun i => some (i * sz, sz)) ((Array.range (n * sz)).map (z.cells[· % z.cells.size]!)) (parts.map (fun x => (x.1, a.eval x.2))) = some cs' := by
        have := h3
        simp only [zc, if_neg hne] at this
        exact this
      simp only [execOp, Instr.buildSlice, Sem.run_bind, run_underlying ht1, Result.andThen_ok, qzt ht2, if_neg hnn, Sem.run_pure, if_neg hne, run_zeroValue hz, h7, h3', newRow, run_newObj]
      rfl
end
end Go.Ab

/- Contracts: what a call of a function does, told without addresses; how a walk gives one, and how a walk uses one. -/
import Derived.Test.YtdnlchflejoloaaAb8
set_option linter.unusedSimpArgs false
set_option linter.unusedVariables false
namespace Go.Ab

def num : Nat → List Obj → Heap
  | _, [] => []
  | k, o :: r => (k, some (0, o)) :: num (k + 1) r
def numS : Nat → List V → Slots
  | _, [] => []
  | k, v :: r => (k, v) :: numS (k + 1) r

theorem num_look : ∀ {k i : Nat} {os : List Obj}, look (num k os) i = if k ≤ i then (os[i - k]?).map (fun o => (0, o)) else none
  | k, i, [] => by simp [num, look]
  | k, i, o :: r => by
    simp only [num, look]
    by_cases e : k = i
    · subst e; simp
    · rw [beq_ne e, cond_false, num_look]
      by_cases h : k + 1 ≤ i
      · rw [if_pos h, if_pos (by omega), show i - k = (i - (k + 1)) + 1 from by omega]; simp
      · rw [if_neg h, if_neg (by omega)]
theorem num_look0 {i : Nat} {os : List Obj} : look (num 0 os) i = (os[i]?).map (fun o => (0, o)) := by rw [num_look]; simp
theorem numS_get : ∀ {k t : Nat} {vs : List V}, get (numS k vs) t = if k ≤ t then vs.getD (t - k) .any else .any
  | k, t, [] => by simp [numS, get]
  | k, t, v :: r => by
    simp only [numS, get]
    by_cases e : k = t
    · subst e; simp
    · rw [beq_ne e, cond_false, numS_get]
      by_cases h : k + 1 ≤ t
      · rw [if_pos h, if_pos (by omega), show t - k = (t - (k + 1)) + 1 from by omega]; simp
      · rw [if_neg h, if_neg (by omega)]

/-- The blocks of some objects. -/
def fpOf (hp : Heap) (g : Gh) (b : Nat) : Prop := ∃ i io, look hp i = some io ∧ b ∈ g.fp i

def fnCtx (P : Program) (n : Nat) (w : World) (ins : List Obj) (g : Gh) (X : Nat → Prop) : Ctx := ⟨P, n, w, fpOf (num 0 ins) g, X, g, ins⟩

/-- THE CONTRACT: called with these arguments, which lead to the objects 'ins' (numbered from 0), it returns; what it returns, what those objects hold then, and which objects are new are told by 'post'. -/
def Fn (P : Program) (f : FuncId) (args : List V) (ins : List Obj) (post : V → List Obj → List Obj → Prop) : Prop :=
  ∀ (w : World) (X : Nat → Prop) (g : Gh) (vals : Array Value), HR (fnCtx P 0 w ins g X) w (num 0 ins) g → vals.size = args.length →
    (∀ (i : Nat) (v : V) (u : Value), args[i]? = some v → vals[i]? = some u → VR g (XX (fnCtx P 0 w ins g X) (num 0 ins) g w) w v u) →
    Calls P f vals w (fun e w' => ∃ u r ins' new g', e = .returned u ∧ post r ins' new ∧ ins'.length = ins.length ∧ (∀ i, i < ins.length → g'.val i = g.val i ∧ g'.blk i = g.blk i ∧ g'.sz i = g.sz i) ∧ HR { fnCtx P 0 w ins g X with g0 := { g' with cur := fun _ => 0 }, ins := [] } w' (num 0 (ins' ++ new)) { g' with cur := fun _ => 0 } ∧ VR { g' with cur := fun _ => 0 } (XX (fnCtx P 0 w ins g X) (num 0 (ins' ++ new)) g' w') w' r u)

theorem Fn.mono {P : Program} {f : FuncId} {args : List V} {ins : List Obj} {post post' : V → List Obj → List Obj → Prop} (h : Fn P f args ins post) (hp : ∀ r i n, post r i n → post' r i n) : Fn P f args ins post' :=
  fun w X g vals h1 h2 h3 => (h w X g vals h1 h2 h3).mono fun _ _ ⟨u, r, ins', new, g', a, b, c⟩ => ⟨u, r, ins', new, g', a, hp _ _ _ b, c⟩

/-! ### Names of objects, turned -/

def ren (ids : List (Nat × Nat)) : V → V
  | .own i _ => .own (ids.getD i (0, 0)).1 (ids.getD i (0, 0)).2
  | .ptr i _ off => .ptr (ids.getD i (0, 0)).1 (ids.getD i (0, 0)).2 off
  | .agg xs => .agg (renL xs)
  | .tup xs => .tup (renL xs)
  | .fn f xs => .fn f (renL xs)
  | v => v
where renL : List V → List V
  | [] => []
  | x :: r => ren ids x :: renL r

/-- All names of v are such as a contract has. -/
def okV (n : Nat) : V → Bool
  | .own i k => Nat.beq k 0 && Nat.blt i n
  | .ptr i k _ => Nat.beq k 0 && Nat.blt i n
  | .agg xs => okL xs
  | .tup xs => okL xs
  | .pel _ _ _ _ => false
  | .fn _ xs => okL xs
  | _ => true
where okL : List V → Bool
  | [] => true
  | x :: r => okV n x && okL r

def renO (ids : List (Nat × Nat)) : Obj → Obj
  | .row e s es => .row e s es
  | .box e xs => .box e (ren.renL ids xs)
  | .deep t es h => .deep t es h
  | .map kvs => .map kvs
def okO (n : Nat) : Obj → Bool
  | .row _ _ _ => true
  | .box _ xs => okV.okL n xs
  | .deep _ _ h => h.isNone
  | .map _ => true

theorem renL_at {ids : List (Nat × Nat)} : ∀ {xs : List V} {i : Nat}, (ren.renL ids xs)[i]? = (xs[i]?).map (ren ids)
  | [], i => by simp [ren.renL]
  | x :: r, 0 => by simp [ren.renL]
  | x :: r, i + 1 => by simp [ren.renL, renL_at (xs := r)]
theorem renL_len {ids : List (Nat × Nat)} : ∀ {xs : List V}, (ren.renL ids xs).length = xs.length
  | [] => rfl
  | x :: r => by simp [ren.renL, renL_len (xs := r)]
theorem okL_at {n : Nat} : ∀ {xs : List V}, okV.okL n xs = true → ∀ {i : Nat} {v : V}, xs[i]? = some v → okV n v = true
  | [], _, i, v, h => by simp at h
  | x :: r, h, 0, v, hv => by simp at hv; subst hv; simp [okV.okL] at h; exact h.1
  | x :: r, h, i + 1, v, hv => okL_at (xs := r) (by simp [okV.okL] at h; exact h.2) (by simpa using hv)

theorem sr_back {ids : List (Nat × Nat)} {n : Nat} {X X' : Nat → Prop} {w w' : World} (hX : ∀ b, X b → X' b) (hw : ∀ b, X b → w'.heap[b]? = w.heap[b]?) :
    ∀ {v : V} {u : Value}, SR X w v u → ∀ r, v = ren ids r → okV n r = true → SR X' w' r u := by
  intro v u h
  induction h with
  | p v =>
    intro r hr hok
    cases r <;> first | (simp [ren] at hr; done) | (simp [okV] at hok; done) | (simp only [ren, V.p.injEq] at hr; subst hr; exact .p _)
  | any v =>
    intro r hr hok
    cases r <;> first | (simp [ren] at hr; done) | (simp [okV] at hok; done) | exact .any _
  | nil a c =>
    intro r hr hok
    cases r <;> first | (simp [ren] at hr; done) | (simp [okV] at hok; done) | (simp only [ren, V.sl.injEq] at hr; subst hr; exact .nil _ _)
  | sl es s b o c cs hs hc hm hX0 hl hr0 he ih =>
    intro r hr hok
    cases r <;> first | (simp [ren] at hr; done) | (simp [okV] at hok; done) | (simp only [ren, V.sl.injEq] at hr; subst hr; exact (SR.sl _ s b o c cs hs hc hm hX0 hl hr0 he).fits hX hw)
  | el es k f s b o cs hs hX0 hl hr0 he hk ih =>
    intro r hr hok
    cases r <;> first | (simp [ren] at hr; done) | (simp [okV] at hok; done) | (simp only [ren, V.el.injEq] at hr; obtain ⟨rfl, rfl, rfl⟩ := hr; exact (SR.el _ _ _ s b o cs hs hX0 hl hr0 he hk).fits hX hw)
  | agg xs cs hl he ih =>
    intro r hr hok
    cases r with
    | agg ys =>
      simp only [ren, V.agg.injEq] at hr
      subst hr
      refine .agg ys cs (by rw [hl, renL_len]) fun i v u h1 h2 => ?_
      exact ih i (ren ids v) u (by rw [renL_at, h1]; rfl) h2 v rfl (okL_at (by simpa [okV] using hok) h1)
    | _ => simp [ren] at hr
  | tup xs cs hl he ih =>
    intro r hr hok
    cases r with
    | tup ys =>
      simp only [ren, V.tup.injEq] at hr
      subst hr
      refine .tup ys cs (by rw [hl, renL_len]) fun i v u h1 h2 => ?_
      exact ih i (ren ids v) u (by rw [renL_at, h1]; rfl) h2 v rfl (okL_at (by simpa [okV] using hok) h1)
    | _ => simp [ren] at hr
  | fn f xs cs hl he ih =>
    intro r hr hok
    cases r with
    | fn f' ys =>
      simp only [ren, V.fn.injEq] at hr
      obtain ⟨rfl, hr⟩ := hr
      subst hr
      refine .fn _ ys cs (by rw [hl, renL_len]) fun i v u h1 h2 => ?_
      exact ih i (ren ids v) u (by rw [renL_at, h1]; rfl) h2 v rfl (okL_at (by simpa [okV] using hok) h1)
    | _ => simp [ren] at hr

/-- What a value with names turned is, told with the old names. -/
theorem ren_back {ids : List (Nat × Nat)} {n : Nat} {g g' : Gh} {X X' : Nat → Prop} {w w' : World} (hX : ∀ b, X b → X' b) (hw : ∀ b, X b → w'.heap[b]? = w.heap[b]?)
    (hg : ∀ i, i < n → g'.cur i = 0 ∧ g.cur (ids.getD i (0, 0)).1 = (ids.getD i (0, 0)).2 ∧ g'.val i = g.val (ids.getD i (0, 0)).1 ∧ g'.blk i = g.blk (ids.getD i (0, 0)).1) :
    ∀ {v : V} {u : Value}, VR g X w v u → ∀ r, v = ren ids r → okV n r = true → VR g' X' w' r u := by
  intro v u h
  induction h with
  | sh h => exact fun r hr hok => .sh (sr_back hX hw h r hr hok)
  | own id ver v h0 h1 h2 =>
    intro r hr hok
    cases r with
    | own i k =>
      simp only [ren, V.own.injEq] at hr
      simp only [okV, Bool.and_eq_true, Nat.beq_eq, Nat.blt_eq] at hok
      obtain ⟨e1, e2, e3, _⟩ := hg i hok.2
      obtain ⟨h3, h4⟩ := hr
      exact .own i k v h0 (by omega) (fun _ => by rw [e3, ← h3]; exact h2 (by rw [h3, h4]; exact e2.symm))
    | _ => simp [ren] at hr
  | ptr id ver off v h0 h1 h2 =>
    intro r hr hok
    cases r with
    | ptr i k off' =>
      simp only [ren, V.ptr.injEq] at hr
      simp only [okV, Bool.and_eq_true, Nat.beq_eq, Nat.blt_eq] at hok
      obtain ⟨e1, e2, _, e3⟩ := hg i hok.2
      obtain ⟨h3, h4, h5⟩ := hr
      subst h5
      exact .ptr i k off v h0 (by omega) (fun _ => by rw [e3, ← h3]; exact h2 (by rw [h3, h4]; exact e2.symm))
    | _ => simp [ren] at hr
  | pel id ver k f v =>
    intro r hr hok
    cases r <;> first | (simp [ren] at hr; done) | (simp [okV] at hok; done)
  | agg xs cs hl he ih =>
    intro r hr hok
    cases r with
    | agg ys =>
      simp only [ren, V.agg.injEq] at hr
      subst hr
      refine .agg ys cs (by rw [hl, renL_len]) fun i v u h1 h2 => ?_
      exact ih i (ren ids v) u (by rw [renL_at, h1]; rfl) h2 v rfl (okL_at (by simpa [okV] using hok) h1)
    | _ => simp [ren] at hr
  | tup xs cs hl he ih =>
    intro r hr hok
    cases r with
    | tup ys =>
      simp only [ren, V.tup.injEq] at hr
      subst hr
      refine .tup ys cs (by rw [hl, renL_len]) fun i v u h1 h2 => ?_
      exact ih i (ren ids v) u (by rw [renL_at, h1]; rfl) h2 v rfl (okL_at (by simpa [okV] using hok) h1)
    | _ => simp [ren] at hr
  | fn f xs cs hl he ih =>
    intro r hr hok
    cases r with
    | fn f' ys =>
      simp only [ren, V.fn.injEq] at hr
      obtain ⟨rfl, hr⟩ := hr
      subst hr
      refine .fn _ ys cs (by rw [hl, renL_len]) fun i v u h1 h2 => ?_
      exact ih i (ren ids v) u (by rw [renL_at, h1]; rfl) h2 v rfl (okL_at (by simpa [okV] using hok) h1)
    | _ => simp [ren] at hr

/-! ### What a function returns -/

/-- The values of the result variables. -/
def ResV (P : Program) (s : St) : List ResultVar → List V → Prop
  | [], [] => True
  | .tmp t :: r, v :: vs => get s.sl t = v ∧ ResV P s r vs
  | .cell a ty :: r, v :: vs => (∃ id ver e xs, get s.sl a = .ptr id ver 0 ∧ look s.hp id = some (ver, .box e xs) ∧ AggT P ty xs.length ∧ v = .agg xs) ∧ ResV P s r vs
  | _, _ => False

def resOf : List V → V
  | [v] => v
  | vs => .tup vs

def ObjsOk (n : Nat) (ids0 : List (Nat × Nat)) (hp : Heap) : List (Nat × Nat) → List Obj → Prop
  | [], [] => True
  | (id, ver) :: r, o :: os => (look hp id = some (ver, renO ids0 o) ∧ okO n o = true) ∧ ObjsOk n ids0 hp r os
  | _, _ => False

theorem ObjsOk.len {n : Nat} {ids0 : List (Nat × Nat)} {hp : Heap} : ∀ {ids : List (Nat × Nat)} {os : List Obj}, ObjsOk n ids0 hp ids os → os.length = ids.length
  | [], [], _ => rfl
  | (id, ver) :: r, o :: os, h => by simp [ObjsOk.len h.2]
  | [], o :: os, h => h.elim
  | (id, ver) :: r, [], h => h.elim
theorem ObjsOk.at {n : Nat} {ids0 : List (Nat × Nat)} {hp : Heap} : ∀ {ids : List (Nat × Nat)} {os : List Obj}, ObjsOk n ids0 hp ids os → ∀ {i : Nat} {o : Obj}, os[i]? = some o → ∃ id ver, ids[i]? = some (id, ver) ∧ look hp id = some (ver, renO ids0 o) ∧ okO n o = true
  | [], [], _, i, o, h => by simp at h
  | (id, ver) :: r, o :: os, h, 0, o', ho => by simp at ho; subst ho; exact ⟨id, ver, rfl, h.1⟩
  | (id, ver) :: r, o :: os, h, i + 1, o', ho => by
    obtain ⟨a, b, c, d⟩ := ObjsOk.at h.2 (i := i) (by simpa using ho)
    exact ⟨a, b, by simpa using c, d⟩
  | [], o :: os, h, _, _, _ => h.elim
  | (id, ver) :: r, [], h, _, _, _ => h.elim

/-- How a walk ends. -/
def Fin (P : Program) (rs : List ResultVar) (m : Nat) (post : V → List Obj → List Obj → Prop) (s : St) : Prop :=
  ∃ vs r ins' new ids, ResV P s rs vs ∧ resOf vs = ren ((List.range m).map (fun i => (i, 0)) ++ ids) r ∧ okV (m + ids.length) r = true ∧
    ObjsOk (m + ids.length) ((List.range m).map (fun i => (i, 0)) ++ ids) s.hp ((List.range m).map (fun i => (i, 0)) ++ ids) (ins' ++ new) ∧ nodupB (((List.range m).map (fun i => (i, 0)) ++ ids).map (·.1)) = true ∧ ins'.length = m ∧ post r ins' new

def finQ (P : Program) (rs : List ResultVar) (m : Nat) (post : V → List Obj → List Obj → Prop) : Exit → St → Prop
  | .ret, s | .normal, s => Fin P rs m post s
  | _, _ => False

section
variable {C : Ctx}

def resOne (tmps : Array Value) : ResultVar → Sem Value
  | .tmp t => pure (tmps.getD t undef)
  | .cell a t => do loadVar t (← asAddr (tmps.getD a undef))
theorem results_eq (fn : Func) (tmps : Array Value) : results fn tmps = (do
    let vs ← fn.results.mapM (resOne tmps)
    pure (if h : vs.size = 1 then vs[0] else .tuple vs)) := rfl

theorem run_res {s : St} {a : Act} {w : World} {g : Gh} (hr : Rel C a w s g) : ∀ {rs : List ResultVar} {vs : List V}, ResV C.P s rs vs →
    ∃ us : List Value, (rs.mapM (resOne a.tmps)).run C.P w = .ok us w ∧ us.length = vs.length ∧
      ∀ (i : Nat) (v : V) (u : Value), vs[i]? = some v → us[i]? = some u → VR g (XX C s.hp g w) w v u
  | [], [], _ => ⟨[], by simp, rfl, fun i v u h => by simp at h⟩
  | .tmp t :: r, v :: vs, h => by
    obtain ⟨us, h1, h2, h3⟩ := run_res hr h.2
    refine ⟨a.tmps.getD t undef :: us, ?_, by simp [h2], fun i v' u hv hu => ?_⟩
    · rw [List.mapM_cons]
      simp only [resOne, Sem.run_bind, Sem.run_pure, Result.andThen_ok, h1]
    · cases i with
      | zero => simp at hv hu; subst hv; subst hu; rw [← h.1]; have := hr.slots t; simpa using this
      | succ i => exact h3 i v' u (by simpa using hv) (by simpa using hu)
  | .cell b ty :: r, v :: vs, h => by
    obtain ⟨us, h1, h2, h3⟩ := run_res hr h.2
    obtain ⟨id, ver, e, xs, h4, h5, h6, rfl⟩ := h.1
    obtain ⟨blk, h7, h8⟩ := hr.ptr (x := .tmp b) h4 h5
    obtain ⟨b', cur, h9, h10, h11, h12, h13⟩ := hr.hr.obj id ver _ h5
    rw [h9] at h7; obtain rfl : b' = blk := by simpa using h7
    have h8' : a.tmps.getD b undef = .pointer (some ⟨b', 0, none⟩) := h8
    obtain ⟨dd, k1, k2, k3⟩ := h6
    have hrun := run_loadVar_mid (P := C.P) w b' 0 ty cur.toList dd (fun j u hj => by rw [Nat.zero_add, cellOf h11]; simpa using hj) k1 k2 (by rw [k3]; simp [h12])
    simp only [Array.toArray_toList] at hrun
    refine ⟨.agg cur :: us, ?_, by simp [h2], fun i v' u hv hu => ?_⟩
    · have hA : (asAddr (a.tmps.getD b undef)).run C.P w = .ok ⟨b', 0, none⟩ w := by rw [h8']; rfl
      rw [List.mapM_cons]
      simp only [resOne, Sem.run_bind, Sem.run_pure, Result.andThen_ok, h1, hA, hrun]
    · cases i with
      | zero =>
        simp at hv hu; subst hv; subst hu
        refine .agg xs cur h12 fun j v' u' hv' hu' => ?_
        obtain ⟨u2, e1, e2⟩ := h13 j v' hv'
        rw [hu'] at e1; obtain rfl := Option.some.inj e1
        exact e2
      | succ i => exact h3 i v' u (by simpa using hv) (by simpa using hu)
  | [], v :: vs, h => h.elim
  | .tmp t :: r, [], h => h.elim
  | .cell b t :: r, [], h => h.elim

theorem run_results {fn : Func} {s : St} {a : Act} {w : World} {g : Gh} (hr : Rel C a w s g) {vs : List V} (h : ResV C.P s fn.results.toList vs) : ∃ u, (results fn a.tmps).run C.P w = .ok u w ∧ VR g (XX C s.hp g w) w (resOf vs) u := by
  obtain ⟨us, h1, h2, h3⟩ := run_res hr h
  have hm : (fn.results.mapM (resOne a.tmps)).run C.P w = .ok us.toArray w := by
    rw [Array.mapM_eq_mapM_toList, Sem.run_map, h1]; rfl
  refine ⟨if h : us.toArray.size = 1 then us.toArray[0] else .tuple us.toArray, ?_, ?_⟩
  · rw [results_eq]
    simp only [Sem.run_bind, hm, Result.andThen_ok, Sem.run_pure]
  · match vs, us, h2, h3 with
    | [v], [u], _, h3 => simpa [resOf] using h3 0 v u rfl rfl
    | [], [], _, h3 => exact .tup [] _ rfl (fun i v u h => by simp at h)
    | v :: v2 :: vs, us, h2, h3 =>
      have hl : ¬ us.toArray.size = 1 := by simp [h2]
      rw [dif_neg hl]
      exact .tup _ _ (by simpa using h2) (fun i v u hv hu => h3 i v u hv (by simpa using hu))
end

theorem HR.ctx {P : Program} {n m : Nat} {w0 w : World} {A X : Nat → Prop} {g0 g : Gh} {ins : List Obj} {hp : Heap} (h : HR ⟨P, n, w0, A, X, g0, ins⟩ w hp g) : HR ⟨P, m, w0, A, X, g0, ins⟩ w hp g :=
  ⟨⟨h.ext.os, h.ext.tape, h.ext.output, h.ext.size, h.ext.old⟩, h.wf, h.lnk, h.dis, h.cur, h.blk, h.obj⟩

theorem range_getD {m : Nat} {ids : List (Nat × Nat)} {i : Nat} (h : i < m) : ((List.range m).map (fun i => (i, 0)) ++ ids)[i]? = some (i, 0) := by
  rw [List.getElem?_append_left (by simpa using h)]; simp [h]

theorem OR.deepTo {g g' : Gh} {X X' : Nat → Prop} {w : World} {i i' : Nat} {t : DTy} {es : List (List V)} (h : OR g X w i (.deep t es none)) (h1 : g'.val i' = g.val i) (h2 : g'.blk i' = g.blk i) (h3 : g'.fp i' = g.fp i) (h4 : g'.sz i' = g.sz i) (hX : ∀ b, X b → X' b) : OR g' X' w i' (.deep t es none) := by
  obtain ⟨k0, k1, ⟨n, k2⟩, k3, _⟩ := h
  refine ⟨h4.trans k0, by rw [h3]; exact k1, ⟨n, ?_⟩, fun b o k c e => ?_, fun j ff d ver e => by cases e⟩
  · rw [h3, h1]
    exact k2.fits hX (fun _ _ => rfl) (fun _ _ => rfl) (fun t F' es u hs h => DR.fits hX (fun _ _ => rfl) (fun _ _ => rfl) h)
  · rw [h2]; rw [h1] at e; exact k3 b o k c e

/-- A CONTRACT OUT OF A WALK. -/
theorem fn_of {P : Program} {f : FuncId} {fn : Func} {c : Code} {args : List V} {ins : List Obj} {post : V → List Obj → List Obj → Prop} (hf : P.funcs[f]? = some fn) (hbody : fn.body = some c) (hargs : args.length ≤ fn.ntmps)
    (h : ∀ w X g, AWp (fnCtx P fn.ntmps w ins g X) c (finQ P fn.results.toList ins.length post) ⟨numS 0 args, num 0 ins⟩) : Fn P f args ins post := by
  intro w X g vals hHR hsz hvals
  refine calls_of_wp hf hbody ?_
  have hrel : Rel (fnCtx P fn.ntmps w ins g X) { tmps := vals ++ Array.replicate (fn.ntmps - vals.size) undef, defers := [] } w ⟨numS 0 args, num 0 ins⟩ g := by
    refine ⟨by simp [fnCtx]; omega, rfl, hHR.ctx, fun t => ?_⟩
    simp only [numS_get, Nat.zero_le, if_true, Nat.sub_zero]
    by_cases ht : t < args.length
    · have e1 : args.getD t .any = args[t] := by simp [ht]
      have e2 : (vals ++ Array.replicate (fn.ntmps - vals.size) undef).getD t undef = vals[t] := by
        rw [Array.getD_eq_getD_getElem?, Array.getElem?_append_left (by omega)]; simp [show t < vals.size by omega]
      rw [e1, e2]
      exact hvals t _ _ (by simp [ht]) (by simp [show t < vals.size by omega])
    · have e1 : args.getD t .any = .any := by simp [List.getElem?_eq_none (show args.length ≤ t by omega)]
      rw [e1]; exact .sh (.any _)
  refine Code.wp_mono ?_ (h w X g _ w g hrel)
  rintro e a w' ⟨s, g', hr, hq⟩
  have main : Fin P fn.results.toList ins.length post s → a.defers = [] ∧ ∃ v, (results fn a.tmps).run P w' = .ok v w' ∧
      ∃ u r ins' new, ∃ g'' : Gh, Ending.returned v = .returned u ∧ post r ins' new ∧ ins'.length = ins.length ∧ (∀ i, i < ins.length → g''.val i = g.val i ∧ g''.blk i = g.blk i ∧ g''.sz i = g.sz i) ∧ HR { fnCtx P 0 w ins g X with g0 := { g'' with cur := fun _ => 0 }, ins := [] } w' (num 0 (ins' ++ new)) { g'' with cur := fun _ => 0 } ∧ VR { g'' with cur := fun _ => 0 } (XX (fnCtx P 0 w ins g X) (num 0 (ins' ++ new)) { g'' with cur := fun _ => 0 } w') w' r u := by
    rintro ⟨vs, r, ins', new, ids, h1, h2, h3, h4, h5, h6, h7⟩
    obtain ⟨v, h8, h9⟩ := run_results (fn := fn) hr h1
    refine ⟨hr.defers, v, h8, v, r, ins', new, ?_⟩
    generalize hids : (List.range ins.length).map (fun i => (i, 0)) ++ ids = I at *
    have hIlen : I.length = ins.length + ids.length := by rw [← hids]; simp
    have hol := h4.len
    let g1 : Gh := ⟨fun _ => 0, fun i => g'.val (I.getD i (0, 0)).1, fun i => g'.blk (I.getD i (0, 0)).1, fun i => g'.fp (I.getD i (0, 0)).1, fun i => g'.sz (I.getD i (0, 0)).1⟩
    have hat : ∀ {i : Nat} {o : Obj}, (ins' ++ new)[i]? = some o → ∃ id ver, I[i]? = some (id, ver) ∧ look s.hp id = some (ver, renO I o) ∧ okO (ins.length + ids.length) o = true := fun ho => h4.at ho
    have hgetD : ∀ {i : Nat} {x : Nat × Nat}, I[i]? = some x → I.getD i (0, 0) = x := fun h => by simp [h]
    have hlive : ∀ i, i < ins.length + ids.length → ∃ o, look s.hp (I.getD i (0, 0)).1 = some ((I.getD i (0, 0)).2, o) := by
      intro i hi
      have hi' : i < (ins' ++ new).length := by rw [hol, hIlen]; exact hi
      obtain ⟨id, ver, k1, k2, _⟩ := hat (i := i) (List.getElem?_eq_getElem hi')
      rw [hgetD k1]; exact ⟨_, k2⟩
    have hcur : ∀ i, i < ins.length + ids.length → g'.cur (I.getD i (0, 0)).1 = (I.getD i (0, 0)).2 := fun i hi => let ⟨o, ho⟩ := hlive i hi; hr.hr.cur _ _ _ ho
    have hinj : ∀ i j, i < I.length → j < I.length → (I.getD i (0, 0)).1 = (I.getD j (0, 0)).1 → i = j := by
      have : ∀ {l : List Nat}, nodupB l = true → ∀ i j, i < l.length → j < l.length → l[i]? = l[j]? → i = j := by
        intro l
        induction l with
        | nil => intro _ i j hi; simp at hi
        | cons x l ih =>
          intro hn i j hi hj he
          simp only [nodupB, Bool.and_eq_true, Bool.not_eq_true'] at hn
          have hx : ∀ k, l[k]? ≠ some x := fun k hk => by
            have := memN_iff.2 (List.mem_iff_getElem?.2 ⟨k, hk⟩)
            rw [hn.1] at this; cases this
          cases i with
          | zero => cases j with
            | zero => rfl
            | succ j => simp at he; exact absurd he.symm (hx j)
          | succ i => cases j with
            | zero => simp at he; exact absurd he (hx i)
            | succ j => rw [ih hn.2 i j (by simpa using hi) (by simpa using hj) (by simpa using he)]
      intro i j hi hj he
      refine this h5 i j (by simpa using hi) (by simpa using hj) ?_
      have k : ∀ i, i < I.length → (I.map (·.1))[i]? = some (I.getD i (0, 0)).1 := fun i hi => by simp [hi]
      rw [k i hi, k j hj, he]
    have hlook : ∀ {i : Nat} {io : Nat × Obj}, look (num 0 (ins' ++ new)) i = some io → ∃ o, (ins' ++ new)[i]? = some o ∧ io = (0, o) := by
      intro i io hi
      rw [num_look0] at hi
      cases ho : (ins' ++ new)[i]? with
      | none => rw [ho] at hi; simp at hi
      | some o => rw [ho] at hi; simp at hi; exact ⟨o, rfl, hi.symm⟩
    have hlt : ∀ {i : Nat} {o : Obj}, (ins' ++ new)[i]? = some o → i < ins.length + ids.length := fun ho => by
      have := (List.getElem?_eq_some_iff.1 ho).1; rw [hol, hIlen] at this; exact this
    have hX : ∀ b, XX (fnCtx P fn.ntmps w ins g X) s.hp g' w' b → XX (fnCtx P 0 w ins g X) (num 0 (ins' ++ new)) g1 w' b := by
      rintro b ⟨hb, hb2⟩
      refine ⟨hb, fun i io hi => ?_⟩
      obtain ⟨o, ho, _⟩ := hlook hi
      obtain ⟨o', ho'⟩ := hlive i (hlt ho)
      exact hb2 _ _ ho'
    have hback : ∀ {v : V} {u : Value}, VR g' (XX (fnCtx P fn.ntmps w ins g X) s.hp g' w') w' v u → ∀ r, v = ren I r → okV (ins.length + ids.length) r = true → VR g1 (XX (fnCtx P 0 w ins g X) (num 0 (ins' ++ new)) g1 w') w' r u :=
      fun h => ren_back hX (fun _ _ => rfl) (fun i hi => ⟨rfl, hcur i hi, rfl, rfl⟩) h
    refine ⟨g1, rfl, h7, h6, ?_, ?_, hback h9 r h2 h3⟩
    · intro i hi
      have e : I[i]? = some (i, 0) := by rw [← hids]; exact range_getD hi
      have e2 : g1.val i = g'.val i ∧ g1.blk i = g'.blk i ∧ g1.sz i = g'.sz i := by simp [g1, e]
      have e3 := hcur i (by omega)
      rw [hgetD e] at e3
      simp only at e3
      have e4 := hHR.cur i 0 ins[i] (by rw [num_look0]; simp [hi])
      have e5 := (hr.hr.lnk i).2 (by show g.cur i = _; omega)
      exact ⟨e2.1.trans e5.1, e2.2.1.trans e5.2.1, e2.2.2.trans e5.2.2⟩
    · refine ⟨⟨hr.hr.ext.os, hr.hr.ext.tape, hr.hr.ext.output, hr.hr.ext.size, hr.hr.ext.old⟩, ⟨hr.hr.wf.1, fun i o h => by simp at h⟩, ?_, ?_, ?_, ?_, ?_⟩
      · exact fun i => ⟨Nat.le_refl _, fun _ => ⟨rfl, rfl, rfl⟩⟩
      · intro i j io jo hi hj hne b hb
        obtain ⟨o, ho, _⟩ := hlook hi
        obtain ⟨o', ho', _⟩ := hlook hj
        obtain ⟨_, k1⟩ := hlive i (hlt ho)
        obtain ⟨_, k2⟩ := hlive j (hlt ho')
        exact hr.hr.dis _ _ _ _ k1 k2 (fun e => hne (hinj i j (by rw [hIlen]; exact hlt ho) (by rw [hIlen]; exact hlt ho') e)) b hb
      · intro i ver o hi
        obtain ⟨o', _, e⟩ := hlook hi
        simp at e; exact e.1.symm
      · intro i io b hi hb
        obtain ⟨o, ho, _⟩ := hlook hi
        obtain ⟨_, k1⟩ := hlive i (hlt ho)
        exact hr.hr.blk _ _ b k1 hb
      · intro i ver o hi
        obtain ⟨o', ho, e⟩ := hlook hi
        simp at e; obtain ⟨rfl, rfl⟩ := e
        obtain ⟨id, ver', k1, k2, k3⟩ := hat ho
        have hor := hr.hr.obj id ver' _ k2
        have e1 := hgetD k1
        cases o with
        | row e sz es =>
          obtain ⟨q0, q1, q2⟩ := hor
          refine ⟨by simpa [g1, k1] using q0, q1, ?_⟩
          rcases q2 with ⟨q3, q4, q5⟩ | ⟨b, cc, cur, q3, q4, q5, q6, q7, q8, q9, q10⟩
          · exact .inl ⟨q3, by simpa [g1, k1] using q4, by simpa [g1, k1] using q5⟩
          · exact .inr ⟨b, cc, cur, by simpa [g1, k1] using q3, by simpa [g1, k1] using q4, by simpa [g1, k1] using q5, q6, q7, q8, q9, fun j v hj => let ⟨u, a1, a2⟩ := q10 j v hj; ⟨u, a1, a2.fits hX (fun _ _ => rfl)⟩⟩
        | box e xs =>
          obtain ⟨b, cur, q3, q4, q5, q6, q7⟩ := hor
          refine ⟨b, cur, by simpa [g1, k1] using q3, by simpa [g1, k1] using q4, q5, by rw [q6, renL_len], fun j v hj => ?_⟩
          obtain ⟨u, a1, a2⟩ := q7 j (ren I v) (by rw [renL_at, hj]; rfl)
          exact ⟨u, a1, hback a2 v rfl (okL_at (by simpa [okO] using k3) hj)⟩
        | deep t es hh =>
          have hn : hh = none := by simpa [okO] using k3
          subst hn
          refine OR.deepTo hor ?_ ?_ ?_ ?_ hX <;> simp [g1, k1]
        | map kvs =>
          obtain ⟨b, es, c, q3, q4, q5, q6, q7⟩ := hor
          exact ⟨b, es, c, by simpa [g1, k1] using q3, by simpa [g1, k1] using q4, by simpa [g1, k1] using q5, q6, q7⟩
  cases e with
  | normal => exact main hq
  | ret => exact main hq
  | _ => exact hq.elim
end Go.Ab

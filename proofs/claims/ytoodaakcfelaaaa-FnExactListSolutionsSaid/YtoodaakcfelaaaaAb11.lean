/- How a walk uses a contract. -/
import Derived.Test.YtoodaakcfelaaaaAb9
set_option linter.unusedSimpArgs false
set_option linter.unusedVariables false
namespace Go.Ab
def ents (I : List (Nat × Nat)) : List (Nat × Nat) → List Obj → Heap
  | (id, ver) :: r, o :: os => (id, some (ver, renO I o)) :: ents I r os
  | _, _ => []
theorem ents_look {I : List (Nat × Nat)} {hp : Heap} : ∀ {J : List (Nat × Nat)} {os : List Obj}, J.length = os.length → nodupB (J.map (·.1)) = true →
    (∀ (i : Nat) (id ver : Nat) (o : Obj), J[i]? = some (id, ver) → os[i]? = some o → look (ents I J os ++ hp) id = some (ver, renO I o)) ∧ (∀ j, (∀ x ∈ J, x.1 ≠ j) → look (ents I J os ++ hp) j = look hp j)
  | [], [], _, _ => ⟨fun i id ver o h => by simp at h, fun j _ => rfl⟩
  | (id0, v0) :: J, o0 :: os, hl, hn => by
    simp only [List.map_cons, nodupB, Bool.and_eq_true, Bool.not_eq_true'] at hn
    obtain ⟨h1, h2⟩ := ents_look (I := I) (hp := hp) (J := J) (os := os) (by simpa using hl) hn.2
    have hne : ∀ {i id ver : Nat}, J[i]? = some (id, ver) → id0 ≠ id := fun hi e => by
      have : memN id0 (J.map (·.1)) = true := memN_iff.2 (by rw [e]; exact List.mem_map.2 ⟨_, List.mem_iff_getElem?.2 ⟨_, hi⟩, rfl⟩)
      rw [hn.1] at this; cases this
    refine ⟨fun i id ver o hi ho => ?_, fun j hj => ?_⟩
    · cases i with
      | zero =>
        simp at hi ho; obtain ⟨rfl, rfl⟩ := hi; subst ho
        simp [ents, look]
      | succ i =>
        simp only [List.getElem?_cons_succ] at hi ho
        simp only [ents, List.cons_append, look, qjx (hne hi), cond_false]
        exact h1 i id ver o hi ho
    · simp only [ents, List.cons_append, look, qjx (hj (id0, v0) (by simp)), cond_false]
      exact h2 j fun x hx => hj x (by simp [hx])
  | [], o :: os, h, _ => by simp at h
  | _ :: J, [], h, _ => by simp at h
theorem ren_fwd {I : List (Nat × Nat)} {n : Nat} {g1 g2 : Gh} {X X' : Nat → Prop} {w : World} (hX : ∀ b, X b → X' b)
    (hg : ∀ i, i < n → g1.cur i = 0 ∧ g2.cur (I.getD i (0, 0)).1 = (I.getD i (0, 0)).2 ∧ g2.val (I.getD i (0, 0)).1 = g1.val i ∧ g2.blk (I.getD i (0, 0)).1 = g1.blk i) :
    ∀ {v : V} {u : Value}, VR g1 X w v u → okV n v = true → VR g2 X' w (ren I v) u := by
  intro v u h
  induction h with
  | sh h =>
    intro hok
    have aux : ∀ {v : V} {u : Value}, SR X w v u → okV n v = true → SR X' w (ren I v) u := by
      intro v u h
      induction h with
      | p v => intro _; exact .p v
      | any v => intro _; exact .any v
      | nil a c => intro _; exact .nil a c
      | sl es s b o c cs hs hc hm hX0 hl hr0 he ih => intro _; exact (SR.sl _ s b o c cs hs hc hm hX0 hl hr0 he).fits hX (fun _ _ => rfl)
      | el es k f s b o cs hs hX0 hl hr0 he hk ih => intro _; exact (SR.el _ k f s b o cs hs hX0 hl hr0 he hk).fits hX (fun _ _ => rfl)
      | agg xs cs hl he ih =>
        intro hok
        refine .agg _ cs (by rw [hl, qzl]) fun i v u h1 h2 => ?_
        rw [qz1] at h1
        cases hx : xs[i]? with
        | none => rw [hx] at h1; simp at h1
        | some x => rw [hx] at h1; simp at h1; subst h1; exact ih i x u hx h2 (okL_at (by simpa [okV] using hok) hx)
      | tup xs cs hl he ih =>
        intro hok
        refine .tup _ cs (by rw [hl, qzl]) fun i v u h1 h2 => ?_
        rw [qz1] at h1
        cases hx : xs[i]? with
        | none => rw [hx] at h1; simp at h1
        | some x => rw [hx] at h1; simp at h1; subst h1; exact ih i x u hx h2 (okL_at (by simpa [okV] using hok) hx)
      | fn f xs cs hl he ih =>
        intro hok
        refine .fn f _ cs (by rw [hl, qzl]) fun i v u h1 h2 => ?_
        rw [qz1] at h1
        cases hx : xs[i]? with
        | none => rw [hx] at h1; simp at h1
        | some x => rw [hx] at h1; simp at h1; subst h1; exact ih i x u hx h2 (okL_at (by simpa [okV] using hok) hx)
    exact .sh (aux h hok)
  | own id ver v h0 h1 h2 =>
    intro hok
    simp only [okV, Bool.and_eq_true, Nat.beq_eq, Nat.blt_eq] at hok
    obtain ⟨e1, e2, e3, _⟩ := hg id hok.2
    exact .own _ _ v h0 (by omega) (fun _ => by rw [e3]; exact h2 (by omega))
  | ptr id ver off v h0 h1 h2 =>
    intro hok
    simp only [okV, Bool.and_eq_true, Nat.beq_eq, Nat.blt_eq] at hok
    obtain ⟨e1, e2, _, e3⟩ := hg id hok.2
    exact .ptr _ _ off v h0 (by omega) (fun _ => by rw [e3]; exact h2 (by omega))
  | pel => intro hok; simp [okV] at hok
  | agg xs cs hl he ih =>
    intro hok
    refine .agg _ cs (by rw [hl, qzl]) fun i v u h1 h2 => ?_
    rw [qz1] at h1
    cases hx : xs[i]? with
    | none => rw [hx] at h1; simp at h1
    | some x => rw [hx] at h1; simp at h1; subst h1; exact ih i x u hx h2 (okL_at (by simpa [okV] using hok) hx)
  | tup xs cs hl he ih =>
    intro hok
    refine .tup _ cs (by rw [hl, qzl]) fun i v u h1 h2 => ?_
    rw [qz1] at h1
    cases hx : xs[i]? with
    | none => rw [hx] at h1; simp at h1
    | some x => rw [hx] at h1; simp at h1; subst h1; exact ih i x u hx h2 (okL_at (by simpa [okV] using hok) hx)
  | fn f xs cs hl he ih =>
    intro hok
    refine .fn f _ cs (by rw [hl, qzl]) fun i v u h1 h2 => ?_
    rw [qz1] at h1
    cases hx : xs[i]? with
    | none => rw [hx] at h1; simp at h1
    | some x => rw [hx] at h1; simp at h1; subst h1; exact ih i x u hx h2 (okL_at (by simpa [okV] using hok) hx)
def ghNew (g g1 : Gh) (m : Nat) (π sv : List (Nat × Nat)) : Gh where
  cur j := match sv.findIdx? (fun x => Nat.beq x.1 j) with | some k => (sv.getD k (0, 0)).2 | none => g.cur j
  val j := match sv.findIdx? (fun x => Nat.beq x.1 j) with | some k => g1.val (m + k) | none => g.val j
  blk j := match sv.findIdx? (fun x => Nat.beq x.1 j) with | some k => g1.blk (m + k) | none => g.blk j
  fp j := match sv.findIdx? (fun x => Nat.beq x.1 j) with | some k => g1.fp (m + k) | none => (match π.findIdx? (fun x => Nat.beq x.1 j) with | some k => g1.fp k | none => g.fp j)
  sz j := match sv.findIdx? (fun x => Nat.beq x.1 j) with | some k => g1.sz (m + k) | none => g.sz j
theorem find_none {sv : List (Nat × Nat)} {j : Nat} (h : ∀ x ∈ sv, x.1 ≠ j) : sv.findIdx? (fun x => Nat.beq x.1 j) = none := by
  rw [List.findIdx?_eq_none_iff]; intro x hx; simp [qjx (h x hx)]
theorem find_some : ∀ {sv : List (Nat × Nat)} (_ : nodupB (sv.map (·.1)) = true) {k id ver : Nat} (_ : sv[k]? = some (id, ver)), sv.findIdx? (fun x => Nat.beq x.1 id) = some k
  | [], _, k, id, ver, h => by simp at h
  | x :: sv, hn, 0, id, ver, h => by simp at h; subst h; simp [List.findIdx?_cons]
  | x :: sv, hn, k + 1, id, ver, h => by
    simp only [List.map_cons, nodupB, Bool.and_eq_true, Bool.not_eq_true'] at hn
    have h' : sv[k]? = some (id, ver) := by simpa using h
    have hne : x.1 ≠ id := fun e => by
      have : memN x.1 (sv.map (·.1)) = true := memN_iff.2 (by rw [e]; exact List.mem_map.2 ⟨_, List.mem_iff_getElem?.2 ⟨_, h'⟩, rfl⟩)
      rw [hn.1] at this; cases this
    rw [List.findIdx?_cons, qjx hne]
    simp [find_some hn.2 h']
def plV : V → Bool
  | .p _ | .own _ _ | .ptr _ _ _ | .any | .pel _ _ _ _ => true
  | .sl es => es.isEmpty
  | .agg xs => plL xs
  | .tup xs => plL xs
  | _ => false
where plL : List V → Bool
  | [] => true
  | x :: r => plV x && plL r
theorem plL_at : ∀ {xs : List V}, plV.plL xs = true → ∀ {i : Nat} {v : V}, xs[i]? = some v → plV v = true
  | [], _, i, v, h => by simp at h
  | x :: r, h, 0, v, hv => by simp at hv; subst hv; simp [plV.plL] at h; exact h.1
  | x :: r, h, i + 1, v, hv => plL_at (xs := r) (by simp [plV.plL] at h; exact h.2) (by simpa using hv)
def PlD : Nat → DTy → List (List V) → Prop
  | 0 => fun _ _ => False
  | n + 1 => fun t es => ∀ (j : Nat) (v : V), es.flatten[j]? = some v → match t.sub (j % t.s) with
    | none => plV v = true
    | some t' => ∀ es', v = .sl es' → PlD n t' es'
def plO : Obj → Prop
  | .row _ _ es => ∀ x ∈ es, plV.plL x = true
  | .box _ xs => plV.plL xs = true
  | .deep t es _ => ∃ n, PlD n t es
  | .map _ => True
  | .gone => True
theorem SR.plain {X X' : Nat → Prop} {w : World} {v : V} {u : Value} (h : SR X w v u) (hp : plV v = true) : SR X' w v u := by
  induction h with
  | p v => exact .p v
  | any v => exact .any v
  | nil a c => exact .nil a c
  | sl es s b o c cs hs hc hm hX hl hr he ih =>
    simp [plV] at hp; subst hp; exact .nil _ _
  | el => simp [plV] at hp
  | agg xs cs hl he ih => exact .agg xs cs hl fun i v u h1 h2 => ih i v u h1 h2 (plL_at (by simpa [plV] using hp) h1)
  | tup xs cs hl he ih => exact .tup xs cs hl fun i v u h1 h2 => ih i v u h1 h2 (plL_at (by simpa [plV] using hp) h1)
  | fn => simp [plV] at hp
theorem VR.plain' {g : Gh} {X X' : Nat → Prop} {w : World} {v : V} {u : Value} (h : VR g X w v u) (hp : plV v = true) : VR g X' w v u := by
  induction h with
  | sh h => exact .sh (h.plain hp)
  | own id ver v h0 h1 h2 => exact .own id ver v h0 h1 h2
  | ptr id ver off v h0 h1 h2 => exact .ptr id ver off v h0 h1 h2
  | pel id ver k f v h0 h1 h2 => exact .pel id ver k f v h0 h1 h2
  | agg xs cs hl he ih => exact .agg xs cs hl fun i v u h1 h2 => ih i v u h1 h2 (plL_at (by simpa [plV] using hp) h1)
  | tup xs cs hl he ih => exact .tup xs cs hl fun i v u h1 h2 => ih i v u h1 h2 (plL_at (by simpa [plV] using hp) h1)
  | fn => simp [plV] at hp
theorem plflat : ∀ {es : List (List V)}, (∀ x ∈ es, plV.plL x = true) → ∀ {j : Nat} {v : V}, es.flatten[j]? = some v → plV v = true := by
  intro es h j v hv
  have hm := List.mem_iff_getElem?.2 ⟨j, hv⟩
  obtain ⟨x, hx, hvx⟩ := List.mem_flatten.1 hm
  obtain ⟨i, hi⟩ := List.mem_iff_getElem?.1 hvx
  exact plL_at (h x hx) hi
theorem DB.plain {X X' : Nat → Prop} {w : World} {t : DTy} {n : Nat} (h' : ∀ t F es u n', PlD n' t es → DR X w n t F es u → DR X' w n t F es u) {sk : Option Nat} {F : List Nat} {es : List (List V)} {u : Value} {n' : Nat} (hp : PlD n' t es) (h : DB (DR X w n) X w t sk F es u) : DB (DR X' w n) X' w t sk F es u := by
  cases n' with
  | zero => exact hp.elim
  | succ n' =>
    obtain ⟨h0, h⟩ := h
    refine ⟨h0, ?_⟩
    rcases h with h | ⟨b, c, cur, fps, h1, h2, h3, h4, h5, h6, h7, h8⟩
    · exact .inl h
    · refine .inr ⟨b, c, cur, fps, h1, h2, h3, h4, h5, h6, h7, fun j v hj => ?_⟩
      obtain ⟨u, F, k1, k2, k3⟩ := h8 j v hj
      refine ⟨u, F, k1, k2, k3.imp id fun k => ⟨k.1, ?_⟩⟩
      have hq := hp j v hj
      have k := k.2
      cases e : t.sub (j % t.s) with
      | none => simp only [CellD, e] at k hq ⊢; exact ⟨k.1, k.2.plain hq⟩
      | some t' =>
        simp only [CellD, e] at k hq ⊢
        obtain ⟨es', q1, q2⟩ := k
        exact ⟨es', q1, h' _ _ _ _ _ (hq es' q1) q2⟩
theorem DR.plain {X X' : Nat → Prop} {w : World} : ∀ {n : Nat} (t : DTy) (F : List Nat) (es : List (List V)) (u : Value) (n' : Nat), PlD n' t es → DR X w n t F es u → DR X' w n t F es u
  | 0, _, _, _, _, _, _, h => h.elim
  | n + 1, t, F, es, u, n', hp, h => DB.plain (fun t F es u n' => DR.plain (n := n) t F es u n') hp h
theorem OR.plain {g : Gh} {X X' : Nat → Prop} {w : World} {i : Nat} {o : Obj} (h : OR g X w i o) (hp : plO o) : OR g X' w i o := by
  cases o with
  | row e s es =>
    obtain ⟨h0, h1, h2⟩ := h
    refine ⟨h0, h1, ?_⟩
    rcases h2 with h2 | ⟨b, c, cur, q1, q2, q3, q4, q5, q6, q7, q8⟩
    · exact .inl h2
    · exact .inr ⟨b, c, cur, q1, q2, q3, q4, q5, q6, q7, fun j v hj => let ⟨u, a1, a2⟩ := q8 j v hj; ⟨u, a1, a2.plain (plflat hp hj)⟩⟩
  | box e xs =>
    obtain ⟨b, cur, q1, q2, q3, q4, q5⟩ := h
    exact ⟨b, cur, q1, q2, q3, q4, fun j v hj => let ⟨u, a1, a2⟩ := q5 j v hj; ⟨u, a1, a2.plain' (plL_at hp hj)⟩⟩
  | deep t es hh =>
    obtain ⟨k0, k1, ⟨n, k2⟩, k3, k4⟩ := h
    obtain ⟨n', hp⟩ := hp
    exact ⟨k0, k1, ⟨n, DB.plain (fun t F es u n' => DR.plain t F es u n') hp k2⟩, k3, k4⟩
  | map kvs => exact h
  | gone => exact h
section
variable {C : Ctx}
theorem HR.call {w w' : World} {hp : Heap} {g g1 : Gh} {Xc : Nat → Prop} {ins ins' new : List Obj} {π sv : List (Nat × Nat)} (h : HR C w hp g) (hπ : ObjsOk ins.length π hp π ins) (hnd : nodupB ((π ++ sv).map (·.1)) = true) (hlen : ins'.length = ins.length) (hsv : sv.length = new.length)
    (hver : ∀ x ∈ sv, x.2 = g.cur x.1 + 1) (hok : ∀ o ∈ ins' ++ new, okO (ins.length + new.length) o = true)
    {gc : Gh} (hgc : gc = ⟨fun _ => 0, fun i => g.val (π.getD i (0, 0)).1, fun i => g.blk (π.getD i (0, 0)).1, fun i => g.fp (π.getD i (0, 0)).1, fun i => g.sz (π.getD i (0, 0)).1⟩)
    (hkeep : ∀ i, i < ins.length → g1.val i = gc.val i ∧ g1.blk i = gc.blk i ∧ g1.sz i = gc.sz i) (hcur1 : ∀ i, g1.cur i = 0)
    (h1 : HR { fnCtx C.P 0 w ins gc Xc with g0 := g1, ins := [] } w' (num 0 (ins' ++ new)) g1) (hX : (∀ b, Xc b → XX C hp g w b) ∨ (∀ o ∈ ins' ++ new, plO o)) :
    HR C w' (ents (π ++ sv) (π ++ sv) (ins' ++ new) ++ hp) (ghNew g g1 ins.length π sv) ∧ Fits g (XX C hp g w) w (ghNew g g1 ins.length π sv) (XX C (ents (π ++ sv) (π ++ sv) (ins' ++ new) ++ hp) (ghNew g g1 ins.length π sv) w') w' ∧
      ((∀ b, Xc b → XX C hp g w b) → ∀ b, XX (fnCtx C.P 0 w ins gc Xc) (num 0 (ins' ++ new)) g1 w' b → XX C (ents (π ++ sv) (π ++ sv) (ins' ++ new) ++ hp) (ghNew g g1 ins.length π sv) w' b) ∧
      (∀ i, i < ins.length + new.length → g1.cur i = 0 ∧ (ghNew g g1 ins.length π sv).cur ((π ++ sv).getD i (0, 0)).1 = ((π ++ sv).getD i (0, 0)).2 ∧ (ghNew g g1 ins.length π sv).val ((π ++ sv).getD i (0, 0)).1 = g1.val i ∧ (ghNew g g1 ins.length π sv).blk ((π ++ sv).getD i (0, 0)).1 = g1.blk i) := by
  have hπl : π.length = ins.length := hπ.len.symm
  have hIl : (π ++ sv).length = (ins' ++ new).length := by simp [hπl, hlen, hsv]
  generalize hI : π ++ sv = I at *
  generalize hG : ghNew g g1 ins.length π sv = G at *
  generalize hos : ins' ++ new = os at *
  have hosl : os.length = ins.length + new.length := by rw [← hos]; simp [hlen]
  obtain ⟨hE1, hE2⟩ := ents_look (I := I) (hp := hp) hIl hnd
  -- the parts of the list of names
  have hIπ : ∀ i, i < ins.length → I[i]? = π[i]? := fun i hi => by rw [← hI, List.getElem?_append_left (by omega)]
  have hIsv : ∀ k, I[ins.length + k]? = sv[k]? := fun k => by rw [← hI, List.getElem?_append_right (by omega)]; congr 1; omega
  have hinj : ∀ {i j : Nat} {x y : Nat × Nat}, I[i]? = some x → I[j]? = some y → x.1 = y.1 → i = j := by
    have : ∀ {l : List (Nat × Nat)}, nodupB (l.map (·.1)) = true → ∀ {i j : Nat} {x y : Nat × Nat}, l[i]? = some x → l[j]? = some y → x.1 = y.1 → i = j := by
      intro l hl i j x y hi hj he
      obtain ⟨x1, x2⟩ := x
      obtain ⟨y1, y2⟩ := y
      simp only at he; subst he
      have a := find_some hl hi
      have b := find_some hl hj
      rw [a] at b; exact Option.some.inj b
    intro i j x y hi hj he
    exact this hnd hi hj he
  have hsvnd : nodupB (sv.map (·.1)) = true := by
    have : ∀ {a b : List Nat}, nodupB (a ++ b) = true → nodupB b = true := by
      intro a b
      induction a with
      | nil => exact id
      | cons x a ih => intro h; simp only [List.cons_append, nodupB, Bool.and_eq_true] at h; exact ih h.2
    rw [← hI, List.map_append] at hnd
    exact this hnd
  -- the new ghost at each name
  have gsv : ∀ {k id ver : Nat}, sv[k]? = some (id, ver) → G.cur id = ver ∧ G.val id = g1.val (ins.length + k) ∧ G.blk id = g1.blk (ins.length + k) ∧ G.fp id = g1.fp (ins.length + k) ∧ G.sz id = g1.sz (ins.length + k) := by
    intro k id ver hk
    have := find_some hsvnd hk
    rw [← hG]
    simp [ghNew, this, hk]
  have gold : ∀ {j : Nat}, (∀ x ∈ sv, x.1 ≠ j) → G.cur j = g.cur j ∧ G.val j = g.val j ∧ G.blk j = g.blk j ∧ G.sz j = g.sz j := by
    intro j hj
    have := find_none hj
    rw [← hG]
    simp [ghNew, this]
  have goldf : ∀ {j : Nat}, (∀ x ∈ sv, x.1 ≠ j) → (∀ x ∈ π, x.1 ≠ j) → G.fp j = g.fp j := by
    intro j hj hj2
    rw [← hG]
    simp [ghNew, find_none hj, find_none hj2]
  have hπnd : nodupB (π.map (·.1)) = true := by
    have : ∀ {a b : List Nat}, nodupB (a ++ b) = true → nodupB a = true := by
      intro a b
      induction a with
      | nil => intro _; rfl
      | cons x a ih =>
        intro h
        simp only [List.cons_append, nodupB, Bool.and_eq_true, Bool.not_eq_true'] at h ⊢
        refine ⟨?_, ih h.2⟩
        cases hm : memN x a with
        | false => rfl
        | true =>
          have : memN x (a ++ b) = true := memN_iff.2 (List.mem_append_left _ (memN_iff.1 hm))
          rw [h.1] at this; cases this
    rw [← hI, List.map_append] at hnd
    exact this hnd
  have goldp : ∀ {i id ver : Nat}, π[i]? = some (id, ver) → (∀ x ∈ sv, x.1 ≠ id) → G.fp id = g1.fp i := by
    intro i id ver hi hj
    rw [← hG]
    simp [ghNew, find_none hj, find_some hπnd hi]
  have hπat : ∀ {i : Nat}, i < ins.length → ∃ id ver o, π[i]? = some (id, ver) ∧ I[i]? = some (id, ver) ∧ look hp id = some (ver, o) := by
    intro i hi
    obtain ⟨id, ver, k1, k2, _⟩ := hπ.at (i := i) (List.getElem?_eq_getElem hi)
    exact ⟨id, ver, _, k1, by rw [hIπ i hi]; exact k1, k2⟩
  have hπnsv : ∀ {i id ver : Nat}, i < ins.length → I[i]? = some (id, ver) → ∀ x ∈ sv, x.1 ≠ id := by
    intro i id ver hi hid x hx e
    obtain ⟨k, hk⟩ := List.mem_iff_getElem?.1 hx
    have := hinj hid (by rw [hIsv k]; exact hk) e.symm
    omega
  -- what the ghost tells at the i-th name
  have gat : ∀ {i id ver : Nat}, i < os.length → I[i]? = some (id, ver) → G.cur id = ver ∧ G.val id = g1.val i ∧ G.blk id = g1.blk i ∧ G.fp id = g1.fp i ∧ G.sz id = g1.sz i := by
    intro i id ver hi hid
    by_cases h2 : i < ins.length
    · obtain ⟨id', ver', o, k1, k2, k3⟩ := hπat h2
      rw [hid] at k2; simp only [Option.some.injEq, Prod.mk.injEq] at k2; obtain ⟨rfl, rfl⟩ := k2
      obtain ⟨a1, a2, a3, a5⟩ := gold (hπnsv h2 hid)
      obtain ⟨b1, b2, b4⟩ := hkeep i h2
      subst hgc
      simp only [List.getD_eq_getElem?_getD, k1, Option.getD_some] at b1 b2 b4
      exact ⟨a1.trans (h.cur id ver _ k3), a2.trans b1.symm, a3.trans b2.symm, goldp k1 (hπnsv h2 hid), a5.trans b4.symm⟩
    · obtain ⟨k, rfl⟩ : ∃ k, i = ins.length + k := ⟨i - ins.length, by omega⟩
      rw [hIsv] at hid
      exact gsv hid
  have hIat : ∀ {i : Nat}, i < os.length → ∃ id ver, I[i]? = some (id, ver) := fun {i} hi => ⟨(I[i]'(by omega)).1, (I[i]'(by omega)).2, by simp [show i < I.length by omega]⟩
  have hlook1 : ∀ {i : Nat} {o : Obj}, os[i]? = some o → look (num 0 os) i = some (0, o) := fun ho => by rw [num_look0, ho]; rfl
  -- the passed objects' blocks
  have hfpc : ∀ {b : Nat}, fpOf (num 0 ins) gc b → ∃ id io, look hp id = some io ∧ b ∈ g.fp id ∧ ∃ i ver, i < ins.length ∧ I[i]? = some (id, ver) := by
    rintro b ⟨i, io, hi, hb⟩
    rw [num_look0] at hi
    have hil : i < ins.length := by
      rcases Nat.lt_or_ge i ins.length with h | h
      · exact h
      · rw [List.getElem?_eq_none h] at hi; simp at hi
    obtain ⟨id, ver, o, k1, k2, k3⟩ := hπat hil
    subst hgc
    simp only [List.getD_eq_getElem?_getD, k1, Option.getD_some] at hb
    exact ⟨id, _, k3, hb, i, ver, hil, k2⟩
  -- blocks of an object of the callee's
  have hfp1 : ∀ {i : Nat} {o : Obj} {b : Nat}, os[i]? = some o → b ∈ g1.fp i → b < w'.heap.size ∧ ((∃ (id ver : Nat) (o' : Obj) (i' : Nat), I[i']? = some (id, ver) ∧ look hp id = some (ver, o') ∧ b ∈ g.fp id) ∨ w.heap.size ≤ b) := by
    intro i o b ho hb
    have hb1 := h1.blk i _ b (hlook1 ho) hb
    refine ⟨hb1.1, ?_⟩
    rcases hb1.2 with h3 | h3
    · exact .inr h3
    · obtain ⟨id, io, k1, k2, j, ver, hj, k3⟩ := hfpc h3
      obtain ⟨v2, o2⟩ := io
      obtain ⟨id', ver', o', q1, q2, q3⟩ := hπat hj
      rw [k3] at q2; simp only [Option.some.injEq, Prod.mk.injEq] at q2; obtain ⟨rfl, rfl⟩ := q2
      exact .inl ⟨id, ver, o', j, k3, q3, k2⟩
  have hsize : w.heap.size ≤ w'.heap.size := h1.ext.size
  have hheap : ∀ b, b < w.heap.size → ¬ fpOf (num 0 ins) gc b → w'.heap[b]? = w.heap[b]? := fun b hb hn => h1.ext.old b hb hn
  -- who lives behind the call
  have hlive : ∀ {j : Nat} {io : Nat × Obj}, look (ents I I os ++ hp) j = some io → (∃ (i : Nat) (o : Obj) (ver : Nat), os[i]? = some o ∧ I[i]? = some (j, ver) ∧ io = (ver, renO I o)) ∨ ((∀ x ∈ I, x.1 ≠ j) ∧ look hp j = some io) := by
    intro j io hj
    by_cases hx : ∃ x ∈ I, x.1 = j
    · left
      obtain ⟨x, hx, rfl⟩ := hx
      obtain ⟨i, hi⟩ := List.mem_iff_getElem?.1 hx
      have hil : i < os.length := by rw [← hIl]; exact (List.getElem?_eq_some_iff.1 hi).1
      have := hE1 i x.1 x.2 os[i] hi (List.getElem?_eq_getElem hil)
      rw [this] at hj
      exact ⟨i, os[i], x.2, List.getElem?_eq_getElem hil, hi, (Option.some.inj hj).symm⟩
    · right
      have hx' : ∀ x ∈ I, x.1 ≠ j := fun x h e => hx ⟨x, h, e⟩
      exact ⟨hx', by rw [← hE2 j hx']; exact hj⟩
  have gother : ∀ {j : Nat}, (∀ x ∈ I, x.1 ≠ j) → G.cur j = g.cur j ∧ G.val j = g.val j ∧ G.blk j = g.blk j ∧ G.fp j = g.fp j ∧ G.sz j = g.sz j := fun hj => by
    have q1 : ∀ x ∈ sv, x.1 ≠ _ := fun x hx => hj x (by rw [← hI]; exact List.mem_append_right _ hx)
    have q2 : ∀ x ∈ π, x.1 ≠ _ := fun x hx => hj x (by rw [← hI]; exact List.mem_append_left _ hx)
    obtain ⟨a1, a2, a3, a4⟩ := gold q1
    exact ⟨a1, a2, a3, goldf q1 q2, a4⟩
  -- an old object that was not passed shares no block with one that was
  have hnp : ∀ {j : Nat} {io : Nat × Obj} {b : Nat}, (∀ x ∈ I, x.1 ≠ j) → look hp j = some io → b ∈ g.fp j → ¬ fpOf (num 0 ins) gc b := by
    intro j io b hj hio hb hf
    obtain ⟨id, io', k1, k2, i, ver, hi, k3⟩ := hfpc hf
    have hne : id ≠ j := hj (id, ver) (List.mem_iff_getElem?.2 ⟨i, k3⟩)
    exact h.dis id j _ _ k1 hio hne b k2 hb
  have hXold : ∀ b, XX C hp g w b → XX C (ents I I os ++ hp) G w' b := by
    rintro b hbX
    have hblt := XX.lt h hbX
    obtain ⟨hb, hb2⟩ := hbX
    refine ⟨hb.imp id (fun hb => ⟨hb.1, Nat.lt_of_lt_of_le hb.2 hsize⟩), fun j io hj hin => ?_⟩
    rcases hlive hj with ⟨i, o, ver, ho, hid, _⟩ | ⟨hj', hio⟩
    · rw [(gat (List.getElem?_eq_some_iff.1 ho).1 hid).2.2.2.1] at hin
      rcases (hfp1 ho hin).2 with ⟨id', ver', o', i', q1, q2, q3⟩ | q
      · exact hb2 _ _ q2 q3
      · omega
    · rw [(gother hj').2.2.2.1] at hin
      exact hb2 _ _ hio hin
  have hnf : ∀ b, XX C hp g w b → ¬ fpOf (num 0 ins) gc b := by
    rintro b ⟨_, hb2⟩ hf
    obtain ⟨id, io, k1, k2, _⟩ := hfpc hf
    exact hb2 _ _ k1 k2
  have hfits : Fits g (XX C hp g w) w G (XX C (ents I I os ++ hp) G w') w' := by
    have hc : ∀ j, G.cur j = g.cur j ∧ G.val j = g.val j ∧ G.blk j = g.blk j ∧ G.sz j = g.sz j ∨ G.cur j = g.cur j + 1 := by
      intro j
      by_cases hx : ∃ x ∈ sv, x.1 = j
      · right
        obtain ⟨x, hx, rfl⟩ := hx
        obtain ⟨k, hk⟩ := List.mem_iff_getElem?.1 hx
        rw [(gsv hk).1]; exact hver x hx
      · left; exact gold fun x h e => hx ⟨x, h, e⟩
    refine ⟨fun j => ?_, fun j e => ?_, fun j e => ?_, fun j e => ?_, hXold, fun b hb => hheap b (XX.lt h hb) (hnf b hb)⟩
    · rcases hc j with q | q
      · omega
      · omega
    all_goals
      rcases hc j with q | q
      · first | exact q.2.1 | exact q.2.2.1 | exact q.2.2.2
      · omega
  have hXnew : (∀ b, Xc b → XX C hp g w b) → ∀ b, XX (fnCtx C.P 0 w ins gc Xc) (num 0 os) g1 w' b → XX C (ents I I os ++ hp) G w' b := by
    rintro hXX b ⟨hb, hb2⟩
    rcases hb with hb | hb
    · exact hXold b (hXX b hb)
    · refine ⟨.inr ⟨Nat.le_trans h.ext.size hb.1, hb.2⟩, fun j io hj hin => ?_⟩
      rcases hlive hj with ⟨i, o, ver, ho, hid, _⟩ | ⟨hj', hio⟩
      · rw [(gat (List.getElem?_eq_some_iff.1 ho).1 hid).2.2.2.1] at hin
        exact hb2 i _ (hlook1 ho) hin
      · rw [(gother hj').2.2.2.1] at hin
        have := (h.blk j _ b hio hin).1
        have hb1 : w.heap.size ≤ b := hb.1
        omega
  have hgn : ∀ i, i < ins.length + new.length → g1.cur i = 0 ∧ G.cur (I.getD i (0, 0)).1 = (I.getD i (0, 0)).2 ∧ G.val (I.getD i (0, 0)).1 = g1.val i ∧ G.blk (I.getD i (0, 0)).1 = g1.blk i := by
    intro i hi
    obtain ⟨id, ver, hid⟩ := hIat (i := i) (by omega)
    have := gat (by omega) hid
    simp only [List.getD_eq_getElem?_getD, hid, Option.getD_some]
    exact ⟨hcur1 i, this.1, this.2.1, this.2.2.1⟩
  refine ⟨⟨⟨h1.ext.os.trans h.ext.os, h1.ext.tape.trans h.ext.tape, h1.ext.output.trans h.ext.output, Nat.le_trans h.ext.size hsize, ?_⟩, h.wf, ?_, ?_, ?_, ?_, ?_⟩, hfits, hXnew, hgn⟩
  · intro b hb hA
    refine (hheap b (Nat.lt_of_lt_of_le hb h.ext.size) (fun hf => ?_)).trans (h.ext.old b hb hA)
    obtain ⟨id, io, k1, k2, _⟩ := hfpc hf
    rcases (h.blk id io b k1 k2).2 with q | q
    · omega
    · exact hA q
  · intro j
    have q1 := h.lnk j
    have q2 := hfits.cur j
    refine ⟨Nat.le_trans q1.1 q2, fun e => ?_⟩
    obtain ⟨k1, k2, k4⟩ := q1.2 (by omega)
    have e2 : g.cur j = G.cur j := by omega
    exact ⟨(hfits.val j e2).trans k1, (hfits.blk j e2).trans k2, (hfits.sz j e2).trans k4⟩
  · intro j k jo ko hj hk hne b hb hin
    rcases hlive hj with ⟨i, o, ver, ho, hid, _⟩ | ⟨hj', hio⟩
    · rw [(gat (List.getElem?_eq_some_iff.1 ho).1 hid).2.2.2.1] at hb
      rcases hlive hk with ⟨i2, o2, ver2, ho2, hid2, _⟩ | ⟨hk', hko⟩
      · rw [(gat (List.getElem?_eq_some_iff.1 ho2).1 hid2).2.2.2.1] at hin
        have hii : i ≠ i2 := fun e => by subst e; rw [hid] at hid2; simp at hid2; exact hne hid2.1
        exact h1.dis i i2 _ _ (hlook1 ho) (hlook1 ho2) hii b hb hin
      · rw [(gother hk').2.2.2.1] at hin
        rcases (hfp1 ho hb).2 with ⟨id', ver', o', i', q1, q2, q3⟩ | q
        · exact h.dis id' k _ _ q2 hko (hk' _ (List.mem_iff_getElem?.2 ⟨i', q1⟩)) b q3 hin
        · have := (h.blk k _ b hko hin).1; omega
    · rw [(gother hj').2.2.2.1] at hb
      rcases hlive hk with ⟨i2, o2, ver2, ho2, hid2, _⟩ | ⟨hk', hko⟩
      · rw [(gat (List.getElem?_eq_some_iff.1 ho2).1 hid2).2.2.2.1] at hin
        rcases (hfp1 ho2 hin).2 with ⟨id', ver', o', i', q1, q2, q3⟩ | q
        · exact h.dis id' j _ _ q2 hio (hj' _ (List.mem_iff_getElem?.2 ⟨i', q1⟩)) b q3 hb
        · have := (h.blk j _ b hio hb).1; omega
      · rw [(gother hk').2.2.2.1] at hin
        exact h.dis j k _ _ hio hko hne b hb hin
  · intro j ver o hj
    rcases hlive hj with ⟨i, o', ver', ho, hid, e⟩ | ⟨hj', hio⟩
    · simp at e; rw [(gat (List.getElem?_eq_some_iff.1 ho).1 hid).1]; exact e.1.symm
    · rw [(gother hj').1]; exact h.cur j ver o hio
  · intro j io b hj hb
    rcases hlive hj with ⟨i, o', ver', ho, hid, e⟩ | ⟨hj', hio⟩
    · rw [(gat (List.getElem?_eq_some_iff.1 ho).1 hid).2.2.2.1] at hb
      have hq := hfp1 ho hb
      refine ⟨hq.1, ?_⟩
      rcases hq.2 with ⟨id', ver', o', i', q1, q2, q3⟩ | q
      · exact (h.blk _ _ b q2 q3).2
      · exact .inl (Nat.le_trans h.ext.size q)
    · rw [(gother hj').2.2.2.1] at hb
      exact ⟨Nat.lt_of_lt_of_le (h.blk j io b hio hb).1 hsize, (h.blk j io b hio hb).2⟩
  · intro j ver o hj
    rcases hlive hj with ⟨i, o', ver', ho, hid, e⟩ | ⟨hj', hio⟩
    · simp only [Prod.mk.injEq] at e; obtain ⟨rfl, rfl⟩ := e
      have hor0 := h1.obj i 0 o' (hlook1 ho)
      have hor : OR g1 (XX C (ents I I os ++ hp) G w') w' i o' := by
        rcases hX with hX | hX
        · exact hor0.fits (X' := XX C (ents I I os ++ hp) G w') ⟨fun _ => Nat.le_refl _, fun _ _ => rfl, fun _ _ => rfl, fun _ _ => rfl, hXnew hX, fun _ _ => rfl⟩ rfl rfl (fun _ _ => rfl)
        · exact hor0.plain (hX o' (List.mem_iff_getElem?.2 ⟨i, ho⟩))
      have hoko := hok o' (List.mem_iff_getElem?.2 ⟨i, ho⟩)
      obtain ⟨_, e1, e2, e3, e4⟩ := gat (List.getElem?_eq_some_iff.1 ho).1 hid
      cases o' with
      | row e sz es =>
        obtain ⟨q0, q1, q2⟩ := hor
        refine ⟨e4.trans q0, q1, ?_⟩
        rcases q2 with ⟨q3, q4, q5⟩ | ⟨b, c, cur, q3, q4, q5, q6⟩
        · exact .inl ⟨q3, e1.trans q4, e3.trans q5⟩
        · exact .inr ⟨b, c, cur, e1.trans q3, e2.trans q4, e3.trans q5, q6⟩
      | box e xs =>
        obtain ⟨b, cur, q3, q4, q5, q6, q7⟩ := hor
        refine ⟨b, cur, e2.trans q3, e3.trans q4, q5, by rw [q6, qzl], fun k v hk => ?_⟩
        rw [qz1] at hk
        cases hx : xs[k]? with
        | none => rw [hx] at hk; simp at hk
        | some x =>
          rw [hx] at hk; simp at hk; subst hk
          obtain ⟨u, a1, a2⟩ := q7 k x hx
          exact ⟨u, a1, ren_fwd (fun _ h => h) hgn a2 (okL_at (by simpa [okO] using hoko) hx)⟩
      | deep t es hh =>
        have hn : hh = none := by simpa [okO] using hoko
        subst hn
        exact OR.deepTo hor e1 e2 e3 e4 (fun _ h => h)
      | map kvs => obtain ⟨b, es, c, q3, q4, q5, q6, q7⟩ := hor; exact ⟨b, es, c, e2.trans q3, e3.trans q4, e1.trans q5, q6, q7⟩
      | gone => exact e3.trans hor
    · have hc := gother hj'
      exact (h.obj j ver o hio).fits hfits hc.1.symm hc.2.2.2.1 (fun b hb => hheap b (h.blk j _ b hio hb).1 (hnp hj' hio hb))
def view (hp : Heap) (π : List (Nat × Nat)) : V → V
  | .own id ver => bif memN id (π.map (·.1)) then .own id ver else (match look hp id with | some (ver', .row _ _ es) => (bif Nat.beq ver' ver then .sl es else .own id ver) | some (ver', .deep _ es none) => (bif Nat.beq ver' ver then .sl es else .own id ver) | _ => .own id ver)
  | .agg xs => .agg (viewL xs)
  | v => v
where viewL : List V → List V
  | [] => []
  | x :: r => view hp π x :: viewL r
theorem viewL_at {hp : Heap} {π : List (Nat × Nat)} : ∀ {xs : List V} {i : Nat}, (view.viewL hp π xs)[i]? = (xs[i]?).map (view hp π)
  | [], i => by simp [view.viewL]
  | x :: r, 0 => by simp [view.viewL]
  | x :: r, i + 1 => by simp [view.viewL, viewL_at (xs := r)]
theorem viewL_len {hp : Heap} {π : List (Nat × Nat)} : ∀ {xs : List V}, (view.viewL hp π xs).length = xs.length
  | [] => rfl
  | x :: r => by simp [view.viewL, viewL_len (xs := r)]
theorem DB.sl {X X' : Nat → Prop} {w : World} {n : Nat} (hX : ∀ b, X b → X' b) (ih : ∀ t F es u, (∀ b ∈ F, X' b) → DR X w n t F es u → SR X' w (.sl es) u) {t : DTy} {F : List Nat} {es : List (List V)} {u : Value} (hF : ∀ b ∈ F, X' b) (h : DB (DR X w n) X w t none F es u) : SR X' w (.sl es) u := by
  obtain ⟨h0, h⟩ := h
  rcases h with ⟨rfl, rfl, _⟩ | ⟨b, c, cur, fps, rfl, rfl, h3, h4, h5, h6, h7, h8⟩
  · exact .nil _ _
  · have hle : es.flatten.length ≤ cur.size := by rw [qq1 h0, h6]; exact Nat.mul_le_mul_right _ h4
    have hcl : cur.toList.length = cur.size := Array.length_toList
    refine .sl es t.s b 0 c (cur.toList.take es.flatten.length) h0 h4 h5 (hF b (by simp)) (by rw [List.length_take, hcl]; omega) (fun j v hv => ?_) (fun j v u hj hu => ?_)
    · rw [Nat.zero_add, cellOf h3]
      rw [List.getElem?_take] at hv
      split at hv
      · simpa using hv
      · cases hv
    · obtain ⟨u', F, e1, e2, e3⟩ := h8 j v hj
      rw [List.getElem?_take] at hu
      split at hu
      · have : u = u' := by
          have h9 : cur[j]? = some u := by simpa using hu
          rw [e1] at h9; exact (Option.some.inj h9).symm
        subst this
        rcases e3 with ⟨e3, _⟩ | ⟨_, e3⟩
        · cases e3
        · cases e : t.sub (j % t.s) with
          | none => simp only [CellD, e] at e3; exact e3.2.fits hX (fun _ _ => rfl)
          | some t' =>
            simp only [CellD, e] at e3
            obtain ⟨es', rfl, q⟩ := e3
            exact ih t' F es' u (fun b hb => hF b (by simp [mem_fps e2 hb])) q
      · cases hu
theorem DR.sl {X X' : Nat → Prop} {w : World} (hX : ∀ b, X b → X' b) : ∀ {n : Nat} (t : DTy) (F : List Nat) (es : List (List V)) (u : Value), (∀ b ∈ F, X' b) → DR X w n t F es u → SR X' w (.sl es) u
  | 0, _, _, _, _, _, h => h.elim
  | n + 1, t, F, es, u, hF, h => DB.sl hX (fun t F es u => DR.sl hX (n := n) t F es u) hF h
theorem deep_sl {w : World} {hp : Heap} {g : Gh} {id ver : Nat} {t : DTy} {es : List (List V)} {X' : Nat → Prop} (h : HR C w hp g) (ho : look hp id = some (ver, .deep t es none)) (hX : ∀ b, XX C hp g w b → X' b) (hb : ∀ b ∈ g.fp id, X' b) : SR X' w (.sl es) (g.val id) := by
  obtain ⟨_, _, ⟨n, h2⟩, _⟩ := h.obj id ver _ ho
  exact DB.sl hX (fun t F es u => DR.sl hX t F es u) hb h2
theorem view_sr {w : World} {hp : Heap} {g : Gh} {π : List (Nat × Nat)} {X' : Nat → Prop} (h : HR C w hp g) (hX : ∀ b, XX C hp g w b → X' b) (hX2 : ∀ id io b, look hp id = some io → memN id (π.map (·.1)) = false → b ∈ g.fp id → X' b) :
    ∀ {v : V} {u : Value}, VR g (XX C hp g w) w v u → shl (view hp π v) = true → SR X' w (view hp π v) u := by
  intro v u hv
  induction hv with
  | @sh v u h0 =>
    intro hs
    have : view hp π v = v ∨ ∃ xs, v = .agg xs := by
      cases v <;> first | exact .inl rfl | exact .inr ⟨_, rfl⟩ | cases h0
    rcases this with e | ⟨xs, rfl⟩
    · rw [e]; exact h0.fits hX (fun _ _ => rfl)
    · have e : view.viewL hp π xs = xs := by
        have aux : ∀ {v : V} {u : Value}, SR (XX C hp g w) w v u → view hp π v = v := by
          intro v u h
          induction h with
          | agg xs cs hl he ih =>
            have : view.viewL hp π xs = xs := by
              apply List.ext_getElem?
              intro i
              rw [viewL_at]
              cases hx : xs[i]? with
              | none => rfl
              | some x =>
                have hi : i < cs.size := by rw [hl]; exact (List.getElem?_eq_some_iff.1 hx).1
                rw [Option.map_some, ih i x cs[i] hx (Array.getElem?_eq_getElem hi)]
            simp only [view, this]
          | _ => rfl
        have := aux h0
        simpa only [view, V.agg.injEq] using this
      simp only [view, e]
      exact h0.fits hX (fun _ _ => rfl)
  | own id ver v h0 h1 h2 =>
    intro hs
    simp only [view] at hs ⊢
    cases hm : memN id (π.map (·.1)) with
    | true => rw [hm] at hs; simp [shl] at hs
    | false =>
      rw [hm] at hs
      simp only [cond_false] at hs ⊢
      cases hl : look hp id with
      | none => rw [hl] at hs; simp [shl] at hs
      | some io =>
        obtain ⟨ver', o⟩ := io
        rw [hl] at hs
        cases o with
        | box e xs => simp [shl] at hs
        | map kvs => simp [shl] at hs
        | gone => simp [shl] at hs
        | deep t es hh =>
          cases hh with
          | some x => simp [shl] at hs
          | none =>
            simp only at hs ⊢
            cases hb : Nat.beq ver' ver with
            | false => rw [hb] at hs; simp [shl] at hs
            | true =>
              simp only [cond_true]
              have hvv : ver' = ver := Nat.eq_of_beq_eq_true hb
              subst hvv
              have hc := h.cur id ver' _ hl
              rw [h2 hc.symm]
              exact deep_sl h hl hX (fun b hb => hX2 id _ b hl hm hb)
        | row e sz es =>
          simp only at hs ⊢
          cases hb : Nat.beq ver' ver with
          | false => rw [hb] at hs; simp [shl] at hs
          | true =>
            simp only [cond_true]
            have hvv : ver' = ver := Nat.eq_of_beq_eq_true hb
            subst hvv
            have hc := h.cur id ver' _ hl
            rw [h2 hc.symm]
            obtain ⟨k0, k1, k2⟩ := h.obj id ver' _ hl
            rcases k2 with ⟨rfl, k3, _⟩ | ⟨b, c, cur, k3, _, k3', k4, k5, k6, k7, k8⟩
            · rw [k3]; exact .nil _ _
            · have hle : es.flatten.length ≤ cur.size := by rw [qq1 k1, k7]; exact Nat.mul_le_mul_right _ k5
              have hcl : cur.toList.length = cur.size := Array.length_toList
              rw [k3]
              refine .sl es sz b 0 c (cur.toList.take es.flatten.length) k1 k5 k6 (hX2 id _ b hl hm (by rw [k3']; simp)) (by rw [List.length_take, hcl]; omega) (fun j v hv => ?_) (fun j v u hj hu => ?_)
              · rw [Nat.zero_add, cellOf k4]
                rw [List.getElem?_take] at hv
                split at hv
                · simpa using hv
                · cases hv
              · obtain ⟨u', e1, e2⟩ := k8 j v hj
                rw [List.getElem?_take] at hu
                split at hu
                · have : u = u' := by
                    have h9 : cur[j]? = some u := by simpa using hu
                    rw [e1] at h9; exact (Option.some.inj h9).symm
                  rw [this]; exact e2.fits hX (fun _ _ => rfl)
                · cases hu
  | ptr id ver off v => intro hs; simp [view, shl] at hs
  | pel id ver k f v => intro hs; simp [view, shl] at hs
  | agg xs cs hl he ih =>
    intro hs
    simp only [view, shl] at hs ⊢
    refine .agg _ cs (by rw [hl, viewL_len]) fun i v u h1 h2 => ?_
    have h3 := shlL_at hs h1
    rw [viewL_at] at h1
    cases hx : xs[i]? with
    | none => rw [hx] at h1; simp at h1
    | some x => rw [hx] at h1; simp at h1; subst h1; exact ih i x u hx h2 h3
  | tup xs cs hl he ih =>
    intro hs
    simp only [view] at hs ⊢
    exact .tup xs cs hl fun i v u h1 h2 => ((he i v u h1 h2).shr (shlL_at (by simpa [shl] using hs) h1)).fits hX (fun _ _ => rfl)
  | fn f xs cs => intro hs; simp [view, shl] at hs
def ArgsOk (hp : Heap) (π : List (Nat × Nat)) (n : Nat) (vw : Bool) : List V → List V → Prop
  | [], [] => True
  | v :: vs, a :: as => ((v = ren π a ∧ okV n a = true) ∨ (vw = true ∧ view hp π v = a ∧ shl a = true)) ∧ ArgsOk hp π n vw vs as
  | _, _ => False
theorem ArgsOk.len {hp : Heap} {π : List (Nat × Nat)} {n : Nat} {vw : Bool} : ∀ {vs as : List V}, ArgsOk hp π n vw vs as → vs.length = as.length
  | [], [], _ => rfl
  | v :: vs, a :: as, h => by simp [ArgsOk.len h.2]
  | [], a :: as, h => h.elim
  | v :: vs, [], h => h.elim
theorem ArgsOk.at {hp : Heap} {π : List (Nat × Nat)} {n : Nat} {vw : Bool} : ∀ {vs as : List V}, ArgsOk hp π n vw vs as → ∀ {i : Nat} {a : V}, as[i]? = some a → ∃ v, vs[i]? = some v ∧ ((v = ren π a ∧ okV n a = true) ∨ (vw = true ∧ view hp π v = a ∧ shl a = true))
  | [], [], _, i, a, h => by simp at h
  | v :: vs, a :: as, h, 0, a', ha => by simp at ha; subst ha; exact ⟨v, rfl, h.1⟩
  | v :: vs, a :: as, h, i + 1, a', ha => by
    obtain ⟨v', h1, h2⟩ := ArgsOk.at h.2 (i := i) (by simpa using ha)
    exact ⟨v', by simpa using h1, h2⟩
  | [], a :: as, h, _, _, _ => h.elim
  | v :: vs, [], h, _, _, _ => h.elim
def svOf (d : Nat) (vers : Nat → Nat) : Nat → List (Nat × Nat) := fun n => (List.range n).map (fun k => (k * 100000 + d, vers (k * 100000 + d)))
theorem call_core {s : St} {a : Act} {w : World} {g : Gh} {f : FuncId} {args vs : List V} {ins : List Obj} {post : V → List Obj → List Obj → Prop} {π : List (Nat × Nat)} {vw : Bool} {d : Nat} {vals : Array Value} (hF : Fn C.P f args ins post) (hr : Rel C a w s g)
    (hvals : vals.size = vs.length) (hv : ∀ (i : Nat) (v : V) (u : Value), vs[i]? = some v → vals[i]? = some u → VR g (XX C s.hp g w) w v u) (hargs : ArgsOk s.hp π ins.length vw vs args) (hπ : ObjsOk ins.length π s.hp π ins) (hπn : nodupB (π.map (·.1)) = true)
    (hok : ∀ r ins' new, post r ins' new → okV (ins.length + new.length) r = true ∧ (∀ o ∈ ins' ++ new, okO (ins.length + new.length) o = true) ∧ nodupB ((π ++ svOf d (fun i => g.cur i + 1) new.length).map (·.1)) = true ∧ (vw = false ∨ (plV r = true ∧ ∀ o ∈ ins' ++ new, plO o))) :
    Calls C.P f vals w (fun e w' => ∃ u r ins' new, ∃ G : Gh, e = .returned u ∧ post r ins' new ∧ HR C w' (ents (π ++ svOf d (fun i => g.cur i + 1) new.length) (π ++ svOf d (fun i => g.cur i + 1) new.length) (ins' ++ new) ++ s.hp) G ∧
      Fits g (XX C s.hp g w) w G (XX C (ents (π ++ svOf d (fun i => g.cur i + 1) new.length) (π ++ svOf d (fun i => g.cur i + 1) new.length) (ins' ++ new) ++ s.hp) G w') w' ∧
      VR G (XX C (ents (π ++ svOf d (fun i => g.cur i + 1) new.length) (π ++ svOf d (fun i => g.cur i + 1) new.length) (ins' ++ new) ++ s.hp) G w') w' (ren (π ++ svOf d (fun i => g.cur i + 1) new.length) r) u ∧
      (∀ j, (∀ x ∈ svOf d (fun i => g.cur i + 1) new.length, x.1 ≠ j) → G.cur j = g.cur j)) := by
  have h := hr.hr
  have hπl : π.length = ins.length := hπ.len.symm
  let gc : Gh := ⟨fun _ => 0, fun i => g.val (π.getD i (0, 0)).1, fun i => g.blk (π.getD i (0, 0)).1, fun i => g.fp (π.getD i (0, 0)).1, fun i => g.sz (π.getD i (0, 0)).1⟩
  have hπat : ∀ {i : Nat} {o : Obj}, ins[i]? = some o → ∃ id ver, π[i]? = some (id, ver) ∧ look s.hp id = some (ver, renO π o) ∧ okO ins.length o = true := fun ho => hπ.at ho
  have hlk : ∀ {i : Nat} {io : Nat × Obj}, look (num 0 ins) i = some io → ∃ o, ins[i]? = some o ∧ io = (0, o) := by
    intro i io hi
    rw [num_look0] at hi
    cases ho : ins[i]? with
    | none => rw [ho] at hi; simp at hi
    | some o => rw [ho] at hi; simp at hi; exact ⟨o, rfl, hi.symm⟩
  have hgfp : ∀ {i id ver : Nat}, π[i]? = some (id, ver) → gc.val i = g.val id ∧ gc.blk i = g.blk id ∧ gc.fp i = g.fp id ∧ gc.sz i = g.sz id := by
    intro i id ver hi
    simp [gc, hi]
  let Xc : Nat → Prop := fun b => if vw = true then b < w.heap.size ∧ ¬ fpOf (num 0 ins) gc b else XX C s.hp g w b
  have hnf : ∀ b, XX C s.hp g w b → ¬ fpOf (num 0 ins) gc b := by
    rintro b ⟨_, hb2⟩ ⟨i, io, hi, hin⟩
    obtain ⟨o, ho, _⟩ := hlk hi
    obtain ⟨id, ver, k1, k2, _⟩ := hπat ho
    rw [(hgfp k1).2.2.1] at hin
    exact hb2 _ _ k2 hin
  have hXc : ∀ b, XX C s.hp g w b → Xc b := by
    intro b hb
    simp only [Xc]
    split
    · exact ⟨XX.lt h hb, hnf b hb⟩
    · exact hb
  have hXc2 : ∀ b, Xc b → b < w.heap.size ∧ ¬ fpOf (num 0 ins) gc b := by
    intro b hb
    simp only [Xc] at hb
    split at hb
    · exact hb
    · exact ⟨XX.lt h hb, hnf b hb⟩
  have hXX : ∀ b, Xc b → XX (fnCtx C.P 0 w ins gc Xc) (num 0 ins) gc w b := fun b hb => ⟨.inl hb, fun i io hi hin => (hXc2 b hb).2 ⟨i, io, hi, hin⟩⟩
  have hcurπ : ∀ i, i < ins.length → gc.cur i = 0 ∧ g.cur (π.getD i (0, 0)).1 = (π.getD i (0, 0)).2 ∧ gc.val i = g.val (π.getD i (0, 0)).1 ∧ gc.blk i = g.blk (π.getD i (0, 0)).1 := by
    intro i hi
    obtain ⟨id, ver, k1, k2, _⟩ := hπat (List.getElem?_eq_getElem hi)
    have e : π.getD i (0, 0) = (id, ver) := by simp [k1]
    refine ⟨rfl, ?_, rfl, rfl⟩
    rw [e]; exact h.cur id ver _ k2
  have hback : ∀ {v : V} {u : Value}, VR g (XX C s.hp g w) w v u → ∀ r, v = ren π r → okV ins.length r = true → VR gc (XX (fnCtx C.P 0 w ins gc Xc) (num 0 ins) gc w) w r u :=
    fun hv => ren_back (fun b hb => hXX b (hXc b hb)) (fun _ _ => rfl) hcurπ hv
  have hinj : ∀ {i j : Nat} {x y : Nat × Nat}, π[i]? = some x → π[j]? = some y → x.1 = y.1 → i = j := by
    intro i j x y hi hj he
    obtain ⟨x1, x2⟩ := x
    obtain ⟨y1, y2⟩ := y
    simp only at he; subst he
    have p := find_some hπn hi
    have q := find_some hπn hj
    rw [p] at q; exact Option.some.inj q
  have hHRc : HR (fnCtx C.P 0 w ins gc Xc) w (num 0 ins) gc := by
    refine ⟨⟨rfl, rfl, rfl, Nat.le_refl _, fun _ _ _ => rfl⟩, ⟨fun b hb => hXc2 b hb, fun i o ho => ?_⟩, fun i => ⟨Nat.le_refl _, fun _ => ⟨rfl, rfl, rfl⟩⟩, ?_, ?_, ?_, ?_⟩
    · obtain ⟨id, ver, k1, k2, k3⟩ := hπat ho
      obtain ⟨q1, q2, q3, q4⟩ := hgfp k1
      have hq := (h.obj id ver _ k2).flat
      show FlatE gc i o
      cases o with
      | row e sz es => simp only [renO, FlatE] at hq ⊢; rw [q1, q3]; exact hq
      | box e xs => simp only [renO, FlatE] at hq ⊢; rw [q2, q3]; exact hq
      | deep => trivial
      | map kvs => simp only [renO, FlatE] at hq ⊢; rw [q2, q3]; exact hq
      | gone => trivial
    · intro i j io jo hi hj hne b hb hin
      obtain ⟨o, ho, _⟩ := hlk hi
      obtain ⟨o', ho', _⟩ := hlk hj
      obtain ⟨id, ver, k1, k2, _⟩ := hπat ho
      obtain ⟨id', ver', k1', k2', _⟩ := hπat ho'
      rw [(hgfp k1).2.2.1] at hb
      rw [(hgfp k1').2.2.1] at hin
      exact h.dis id id' _ _ k2 k2' (fun e => hne (hinj k1 k1' e)) b hb hin
    · intro i ver o hi
      obtain ⟨o', _, e⟩ := hlk hi
      simp at e; exact e.1.symm
    · intro i io b hi hb
      refine ⟨?_, .inr ⟨i, io, hi, hb⟩⟩
      obtain ⟨o, ho, _⟩ := hlk hi
      obtain ⟨id, ver, k1, k2, _⟩ := hπat ho
      rw [(hgfp k1).2.2.1] at hb
      exact (h.blk _ _ b k2 hb).1
    · intro i ver o hi
      obtain ⟨o', ho, e⟩ := hlk hi
      simp at e; obtain ⟨rfl, rfl⟩ := e
      obtain ⟨id, ver', k1, k2, k3⟩ := hπat ho
      obtain ⟨q1, q2, q3, q4⟩ := hgfp k1
      have hor := h.obj id ver' _ k2
      cases o with
      | row e sz es =>
        obtain ⟨p0, p1, p2⟩ := hor
        refine ⟨q4.trans p0, p1, ?_⟩
        rcases p2 with ⟨p3, p4, p5⟩ | ⟨b, c, cur, p3, p4, p5, p6, p7, p8, p9, p10⟩
        · exact .inl ⟨p3, q1.trans p4, q3.trans p5⟩
        · exact .inr ⟨b, c, cur, q1.trans p3, q2.trans p4, q3.trans p5, p6, p7, p8, p9, fun j v hj => let ⟨u, a1, a2⟩ := p10 j v hj; ⟨u, a1, a2.fits (fun b hb => hXX b (hXc b hb)) (fun _ _ => rfl)⟩⟩
      | box e xs =>
        obtain ⟨b, cur, p3, p4, p5, p6, p7⟩ := hor
        refine ⟨b, cur, q2.trans p3, q3.trans p4, p5, by rw [p6, qzl], fun j v hj => ?_⟩
        obtain ⟨u, a1, a2⟩ := p7 j (ren π v) (by rw [qz1, hj]; rfl)
        exact ⟨u, a1, hback a2 v rfl (okL_at (by simpa [okO] using k3) hj)⟩
      | deep t es hh =>
        have hn : hh = none := by simpa [okO] using k3
        subst hn
        exact OR.deepTo hor q1 q2 q3 q4 (fun b hb => hXX b (hXc b hb))
      | map kvs => obtain ⟨b, es, c, p3, p4, p5, p6, p7⟩ := hor; exact ⟨b, es, c, q2.trans p3, q3.trans p4, q1.trans p5, p6, p7⟩
      | gone => exact q3.trans hor
  have hcall := hF w Xc gc vals hHRc (by rw [hvals, hargs.len]) (fun i b u hb hu => by
    obtain ⟨v, h1, h2⟩ := hargs.at hb
    have hvu := hv i v u h1 hu
    rcases h2 with ⟨h2, h3⟩ | ⟨hvw, h2, h3⟩
    · exact hback hvu b h2 h3
    · subst h2
      refine .sh (view_sr h (fun b hb => hXX b (hXc b hb)) (fun id io b hid hm hb => hXX b ?_) hvu h3)
      simp only [Xc, if_pos hvw]
      refine ⟨(h.blk id io b hid hb).1, ?_⟩
      rintro ⟨i, io', hi, hin⟩
      obtain ⟨o, ho, _⟩ := hlk hi
      obtain ⟨id', ver, k1, k2, _⟩ := hπat ho
      rw [(hgfp k1).2.2.1] at hin
      have hne : id ≠ id' := fun e => by
        have : memN id (π.map (·.1)) = true := memN_iff.2 (by rw [e]; exact List.mem_map.2 ⟨_, List.mem_iff_getElem?.2 ⟨i, k1⟩, rfl⟩)
        rw [hm] at this; cases this
      exact h.dis id id' _ _ hid k2 hne b hb hin)
  refine hcall.mono ?_
  rintro e w' ⟨u, r, ins', new, g', rfl, hp, hlen, hkeep, h1, h2⟩
  obtain ⟨o1, o2, o3, o4⟩ := hok r ins' new hp
  have hsvl : (svOf d (fun i => g.cur i + 1) new.length).length = new.length := by simp [svOf]
  have hXm : (∀ b, Xc b → XX C s.hp g w b) ∨ (∀ o ∈ ins' ++ new, plO o) := by
    rcases o4 with o4 | o4
    · left; intro b hb; simp only [Xc] at hb; rw [if_neg (by rw [o4]; simp)] at hb; exact hb
    · exact .inr o4.2
  have key := h.call (g1 := { g' with cur := fun _ => 0 }) (sv := svOf d (fun i => g.cur i + 1) new.length) hπ o3 hlen hsvl (fun x hx => by
    simp only [svOf, List.mem_map] at hx
    obtain ⟨k, _, rfl⟩ := hx
    rfl) o2 rfl hkeep (fun _ => rfl) h1 hXm
  obtain ⟨k1, k2, k3, k4⟩ := key
  refine ⟨u, r, ins', new, _, rfl, hp, k1, k2, ?_, ?_⟩
  · rcases o4 with o4 | o4
    · have hXX' : ∀ b, Xc b → XX C s.hp g w b := by
        intro b hb; simp only [Xc] at hb; rw [if_neg (by rw [o4]; simp)] at hb; exact hb
      exact ren_fwd (k3 hXX') k4 h2 o1
    · exact ren_fwd (fun _ h => h) k4 (h2.plain' o4.1) o1
  · intro j hj
    simp [ghNew, find_none hj]
def Ent' (P : Program) (f : FuncId) : Prop := ∃ fn, P.funcs[f]? = some fn ∧ (fn.name == "runtime.NumGoroutine") = false ∧ fn.body.isNone = false
theorem run_call {P : Program} {f : FuncId} (h : Ent' P f) (vals : Array Value) (w : World) : (callFunc f vals).run P w = .ok (.enter f vals) w := by
  obtain ⟨fn, h1, h2, h3⟩ := h
  simp only [callFunc, Sem.run_bind, run_program, Result.andThen_ok, h1, h2, h3, Bool.false_eq_true, if_false, Sem.run_pure]
theorem run_execCall {P : Program} {f : FuncId} (h : Ent' P f) (a : Act) (xs : List Operand) (ats : Array TypeId) (dst : Option Tmp) (ty : TypeId) (pos : String) (aft : Array Edge) (w : World) :
    (execOp a.eval ⟨dst, .call { callee := .value (.func f), args := xs.toArray, argTypes := ats }, ty, pos, aft, none⟩).run P w = .ok (.enter f (xs.map a.eval).toArray) w := by
  simp [execOp, resolve, Act.eval, Deferred.ofValue, invoke, run_call h]
section
variable {all : Array Oper} {s : St} {d : Nat} {ty : TypeId} {pos : String} {aft : Array Edge} {l : List Oper} {K : St → Prop}
theorem evs_at {a : Act} {w : World} {g : Gh} (hr : Rel C a w s g) (xs : List Operand) : ∀ (i : Nat) (v : V) (u : Value), (xs.map (Ab.ev s.sl))[i]? = some v → (xs.map a.eval).toArray[i]? = some u → VR g (XX C s.hp g w) w v u := by
  intro i v u hv hu
  rw [List.getElem?_toArray, List.getElem?_map] at hu
  rw [List.getElem?_map] at hv
  cases hx : xs[i]? with
  | none => rw [hx] at hv; simp at hv
  | some x => rw [hx] at hv hu; simp at hv hu; subst hv; subst hu; exact hr.ev x
theorem op_call {f : FuncId} {xs : List Operand} {ats : Array TypeId} {args : List V} {ins : List Obj} {post : V → List Obj → List Obj → Prop} (π : List (Nat × Nat)) (vw : Bool) (hE : Ent' C.P f) (hF : Fn C.P f args ins post)
    (hargs : ArgsOk s.hp π ins.length vw (xs.map (Ab.ev s.sl)) args) (hπ : ObjsOk ins.length π s.hp π ins) (hπn : nodupB (π.map (·.1)) = true)
    (h : ∀ r ins' new, post r ins' new → okV (ins.length + new.length) r = true ∧ (∀ o ∈ ins' ++ new, okO (ins.length + new.length) o = true) ∧ (∀ vers, nodupB ((π ++ svOf d vers new.length).map (·.1)) = true) ∧ (vw = false ∨ (plV r = true ∧ ∀ o ∈ ins' ++ new, plO o)) ∧
      ∀ vers, AOps C all l K ⟨(d, ren (π ++ svOf d vers new.length) r) :: s.sl, ents (π ++ svOf d vers new.length) (π ++ svOf d vers new.length) (ins' ++ new) ++ s.hp⟩) :
    AOps C all (⟨some d, .call { callee := .value (.func f), args := xs.toArray, argTypes := ats }, ty, pos, aft, none⟩ :: l) K s := by
  intro hd Q hQ a w g hr
  have hdd := okDst_head hd d rfl
  have hc := call_core (d := d) (vals := (xs.map a.eval).toArray) hF hr (by simp) (evs_at hr xs) hargs hπ hπn (fun r ins' new hp => let ⟨q1, q2, q3, q4, _⟩ := h r ins' new hp; ⟨q1, q2, q3 _, q4⟩)
  refine wpList_plain rfl fun K' hK' => ?_
  unfold Oper.wp
  rw [run_execCall hE, Oper.upon_enter]
  refine hc.mono ?_
  rintro e w' ⟨u, r, ins', new, G, rfl, hp, k1, k2, k3, _⟩
  obtain ⟨_, _, _, _, q5⟩ := h r ins' new hp
  exact hK' _ _ (q5 _ (okDst_tail hd) Q hQ _ _ G ((hr.mem k1 k2).put hdd k3))
def owns : V → List Nat
  | .own id _ => [id]
  | .ptr id _ _ => [id]
  | .agg xs => ownsL xs
  | _ => []
where ownsL : List V → List Nat
  | [] => []
  | x :: r => owns x ++ ownsL r
mutual
theorem view_agree {hp hp' : Heap} {π : List (Nat × Nat)} : ∀ (v : V), (∀ i ∈ owns v, look hp' i = look hp i) → view hp' π v = view hp π v
  | .own id ver, h => by simp only [view, h id (by simp [owns])]
  | .agg xs, h => by simp only [view, viewL_agree xs (fun i hi => h i (by simpa [owns] using hi))]
  | .p _, _ => rfl
  | .sl _, _ => rfl
  | .ptr _ _ _, _ => rfl
  | .pel _ _ _ _, _ => rfl
  | .el _ _ _, _ => rfl
  | .tup _, _ => rfl
  | .fn _ _, _ => rfl
  | .any, _ => rfl
theorem viewL_agree {hp hp' : Heap} {π : List (Nat × Nat)} : ∀ (xs : List V), (∀ i ∈ owns.ownsL xs, look hp' i = look hp i) → view.viewL hp' π xs = view.viewL hp π xs
  | [], _ => rfl
  | x :: r, h => by
    simp only [owns.ownsL, List.mem_append] at h
    simp only [view.viewL, view_agree x (fun i hi => h i (.inl hi)), viewL_agree r (fun i hi => h i (.inr hi))]
end
theorem keys_agree {all : Array Oper} {o : Oper} {ids : List Nat} {s s' : St} (hs : Agree all o ids s s') {π : List (Nat × Nat)} (hπi : ∀ x ∈ π, x.1 ∈ ids) {n : Nat} : ∀ {I : List (Nat × Nat)} {J : List (Nat × Nat)} {os : List Obj}, (∀ x ∈ J, x.1 ∈ ids) → ObjsOk n I s.hp J os → ObjsOk n I s'.hp J os
  | _, [], [], _, _ => trivial
  | I, (id, ver) :: r, o :: os, hJ, h => ⟨⟨(hs.hp id (hJ (id, ver) (by simp))).trans h.1.1, h.1.2⟩, keys_agree hs hπi (fun x hx => hJ x (by simp [hx])) h.2⟩
  | _, [], _ :: _, _, h => h.elim
  | _, _ :: _, [], _, h => h.elim
theorem args_agree {all : Array Oper} {o : Oper} {ids : List Nat} {s s' : St} (hs : Agree all o ids s s') {π : List (Nat × Nat)} {n : Nat} {vw : Bool} : ∀ {vs as : List V}, (vw = true → ∀ v ∈ vs, ∀ i ∈ owns v, i ∈ ids) → ArgsOk s.hp π n vw vs as → ArgsOk s'.hp π n vw vs as
  | [], [], _, _ => trivial
  | v :: vs, a :: as, hi, h => ⟨h.1.imp id (fun h1 => ⟨h1.1, (view_agree v (fun i hiv => hs.hp i (hi h1.1 v (by simp) i hiv))).trans h1.2.1, h1.2.2⟩), args_agree hs (fun hw v' hv' => hi hw v' (by simp [hv'])) h.2⟩
  | [], _ :: _, _, h => h.elim
  | _ :: _, [], _, h => h.elim
theorem qqp {f : FuncId} {xs : List Operand} {ats : Array TypeId} {args : List V} {ins ins1 : List Obj} {r0 v : V} {hp1 : Heap} (π : List (Nat × Nat)) (vw : Bool) (ids : List Nat) (hE : Ent' C.P f) (hF : Fn C.P f args ins (fun r i n => r = r0 ∧ i = ins1 ∧ n = []))
    (hargs : ArgsOk s.hp π ins.length vw (xs.map (Ab.ev s.sl)) args) (hπ : ObjsOk ins.length π s.hp π ins) (hπn : nodupB (π.map (·.1)) = true) (hids : (π.map (·.1)).all (fun i => memN i ids) = true) (hids2 : vw = true → (xs.map (Ab.ev s.sl)).all (fun v => (owns v).all (fun i => memN i ids)) = true)
    (hr0 : okV ins.length r0 = true) (hr1 : ∀ o ∈ ins1, okO ins.length o = true) (hpl : vw = false ∨ (plV r0 = true ∧ ∀ o ∈ ins1, plO o)) (hv : ren π r0 = v) (hh : ents π π ins1 = hp1) :
    OpJ C all ⟨some d, .call { callee := .value (.func f), args := xs.toArray, argTypes := ats }, ty, pos, aft, none⟩ s ids ⟨some d, v, hp1, []⟩ := by
  intro s' hs hd a w g hr _ K' Q hK
  have hev : xs.map (Ab.ev s'.sl) = xs.map (Ab.ev s.sl) := List.map_congr_left fun x hx => hs.e (by simp [Op.operands, Call.operands, hx])
  have hπi : ∀ x ∈ π, x.1 ∈ ids := fun x hx => memN_iff.1 (List.all_eq_true.1 hids x.1 (List.mem_map.2 ⟨x, hx, rfl⟩))
  have hargs' : ArgsOk s'.hp π ins.length vw (xs.map (Ab.ev s'.sl)) args := by
    rw [hev]
    exact args_agree hs (fun hw v hv i hi => memN_iff.1 (List.all_eq_true.1 (List.all_eq_true.1 (hids2 hw) v hv) i hi)) hargs
  have hc := call_core (d := d) (vals := (xs.map a.eval).toArray) hF hr (by simp) (evs_at hr xs) hargs' (keys_agree hs hπi hπi hπ) hπn (fun r ins' new hp => by
    obtain ⟨rfl, rfl, rfl⟩ := hp
    refine ⟨by simpa using hr0, by simpa using hr1, by simpa [svOf] using hπn, by simpa using hpl⟩)
  unfold opWp
  rw [if_pos (by simp [Region.wanted])]
  refine .inl ?_
  unfold Oper.wp
  rw [run_execCall hE, Oper.upon_enter]
  refine hc.mono ?_
  rintro e w' ⟨u, r, ins', new, G, rfl, ⟨rfl, rfl, rfl⟩, k1, k2, k3, k4⟩
  simp only [svOf, List.length_nil, List.range_zero, List.map_nil, List.append_nil, hh, hv] at k1 k2 k3 k4
  exact hK _ _ G ((hr.mem k1 k2).put (hd d rfl) k3) (fun j _ => k4 j (by simp))
theorem qj8 {f : FuncId} {xs : List Operand} {ats : Array TypeId} {args : List V} {ins ins1 : List Obj} {r0 v : V} {o0 : Obj} {hp1 : Heap} {ver : Nat} (π : List (Nat × Nat)) (vw : Bool) (ids : List Nat) (hE : Ent' C.P f) (hF : Fn C.P f args ins (fun r i n => r = r0 ∧ i = ins1 ∧ n = [o0]))
    (hargs : ArgsOk s.hp π ins.length vw (xs.map (Ab.ev s.sl)) args) (hπ : ObjsOk ins.length π s.hp π ins) (hπn : nodupB ((π ++ [(d, ver)]).map (·.1)) = true) (hπn' : nodupB (π.map (·.1)) = true) (hids : (π.map (·.1)).all (fun i => memN i ids) = true) (hids2 : vw = true → (xs.map (Ab.ev s.sl)).all (fun v => (owns v).all (fun i => memN i ids)) = true)
    (hr0 : okV (ins.length + 1) r0 = true) (hr1 : ∀ o ∈ ins1 ++ [o0], okO (ins.length + 1) o = true) (hpl : vw = false ∨ (plV r0 = true ∧ ∀ o ∈ ins1 ++ [o0], plO o)) (hv : ren (π ++ [(d, ver)]) r0 = v) (hh : ents (π ++ [(d, ver)]) (π ++ [(d, ver)]) (ins1 ++ [o0]) = hp1) :
    OpJ C all ⟨some d, .call { callee := .value (.func f), args := xs.toArray, argTypes := ats }, ty, pos, aft, none⟩ s ids ⟨some d, v, hp1, [(d, ver)]⟩ := by
  intro s' hs hd a w g hr hbp K' Q hK
  obtain rfl := qxb hbp
  have hev : xs.map (Ab.ev s'.sl) = xs.map (Ab.ev s.sl) := List.map_congr_left fun x hx => hs.e (by simp [Op.operands, Call.operands, hx])
  have hπi : ∀ x ∈ π, x.1 ∈ ids := fun x hx => memN_iff.1 (List.all_eq_true.1 hids x.1 (List.mem_map.2 ⟨x, hx, rfl⟩))
  have hargs' : ArgsOk s'.hp π ins.length vw (xs.map (Ab.ev s'.sl)) args := by
    rw [hev]
    exact args_agree hs (fun hw v hv i hi => memN_iff.1 (List.all_eq_true.1 (List.all_eq_true.1 (hids2 hw) v hv) i hi)) hargs
  have hsv : svOf d (fun i => g.cur i + 1) 1 = [(d, g.cur d + 1)] := by simp [svOf]
  have hc := call_core (d := d) (vals := (xs.map a.eval).toArray) hF hr (by simp) (evs_at hr xs) hargs' (keys_agree hs hπi hπi hπ) hπn' (fun r ins' new hp => by
    obtain ⟨rfl, rfl, rfl⟩ := hp
    simp only [List.length_cons, List.length_nil, Nat.zero_add, hsv]
    exact ⟨hr0, hr1, hπn, hpl⟩)
  unfold opWp
  rw [if_pos (by simp [Region.wanted])]
  refine .inl ?_
  unfold Oper.wp
  rw [run_execCall hE, Oper.upon_enter]
  refine hc.mono ?_
  rintro e w' ⟨u, r, ins', new, G, rfl, ⟨rfl, rfl, rfl⟩, k1, k2, k3, k4⟩
  simp only [List.length_cons, List.length_nil, Nat.zero_add, hsv, hh, hv] at k1 k2 k3 k4
  exact hK _ _ G ((hr.mem k1 k2).put (hd d rfl) k3) (fun j hj => k4 j (by simpa using fun e => hj _ (List.mem_singleton.2 rfl) e.symm))
theorem op_n1 {l : List Oper} {K : St → Prop} {o : Oper} {ids : List Nat} {d id : Nat} {v : Nat → V} {hp1 : Nat → Heap} (hJ : ∀ ver, OpJ C all o s ids ⟨some d, v ver, hp1 ver, [(id, ver)]⟩) (h : ∀ ver, AOps C all l K ⟨(d, v ver) :: s.sl, hp1 ver ++ s.hp⟩) : AOps C all (o :: l) K s := op_consb (fun _ => rfl) hJ h
theorem op_v0 {l : List Oper} {K : St → Prop} {o : Oper} {ids : List Nat} {d : Nat} {v : V} {hp1 : Heap} (hJ : OpJ C all o s ids ⟨some d, v, hp1, []⟩) (h : AOps C all l K ⟨(d, v) :: s.sl, hp1 ++ s.hp⟩) : AOps C all (o :: l) K s := op_cons0 rfl hJ h
end
end
end Go.Ab
/- Small helps for walks that a program prints. -/
set_option linter.unusedSimpArgs false
set_option linter.unusedVariables false
namespace Go.Ab
def AllS (l : Slots) : Slots → Prop
  | [] => True
  | (t, v) :: r => get l t = v ∧ AllS l r
def AllH (l : Heap) : Heap → Prop
  | [] => True
  | (t, v) :: r => look l t = v ∧ AllH l r
theorem AllS.get {l : Slots} : ∀ {m : Slots}, nodupB (m.map (·.1)) = true → AllS l m → ∀ p ∈ m, Ab.get l p.1 = Ab.get m p.1
  | [], _, _, p, hp => by simp at hp
  | (t, v) :: r, hn, h, p, hp => by
    simp only [List.map_cons, nodupB, Bool.and_eq_true, Bool.not_eq_true'] at hn
    rcases List.mem_cons.1 hp with rfl | hp
    · simp only [Ab.get, Nat.beq_refl, cond_true]; exact h.1
    · have hne : t ≠ p.1 := fun e => by
        have := memN_iff.2 (show t ∈ r.map (·.1) from e ▸ List.mem_map.2 ⟨p, hp, rfl⟩)
        rw [hn.1] at this; cases this
      simp only [Ab.get, qjx hne, cond_false]
      exact AllS.get hn.2 h.2 p hp
theorem AllH.look {l : Heap} : ∀ {m : Heap}, nodupB (m.map (·.1)) = true → AllH l m → ∀ p ∈ m, Ab.look l p.1 = Ab.look m p.1
  | [], _, _, p, hp => by simp at hp
  | (t, v) :: r, hn, h, p, hp => by
    simp only [List.map_cons, nodupB, Bool.and_eq_true, Bool.not_eq_true'] at hn
    rcases List.mem_cons.1 hp with rfl | hp
    · simp only [Ab.look, Nat.beq_refl, cond_true]; exact h.1
    · have hne : t ≠ p.1 := fun e => by
        have := memN_iff.2 (show t ∈ r.map (·.1) from e ▸ List.mem_map.2 ⟨p, hp, rfl⟩)
        rw [hn.1] at this; cases this
      simp only [Ab.look, qjx hne, cond_false]
      exact AllH.look hn.2 h.2 p hp
theorem ent {s : St} {l : Slots} {h : Heap} (h1 : nodupB (l.map (·.1)) = true) (h2 : nodupB (h.map (·.1)) = true) (h3 : AllS s.sl l) (h4 : AllH s.hp h) : Ent s ⟨l, h⟩ := ⟨AllS.get h1 h3, AllH.look h2 h4⟩
section
variable {C : Ctx} {all : Array Oper} {l : List Oper} {K : St → Prop} {s : St} {Q : Exit → St → Prop}
theorem op_split (t : Nat) {b : Bool} (h : get s.sl t = .p (.bool b)) (ht : b = true → AOps C all l K s) (hf : b = false → AOps C all l K s) : AOps C all l K s := by
  cases b
  · exact hf rfl
  · exact ht rfl
theorem d_split (t : Nat) {b : Bool} {l0 : List Oper} {vf : Nat → Nat} {acc : List Rec} (h : get s.sl t = .p (.bool b)) (ht : b = true → Drw C l0 vf K l s acc) (hf : b = false → Drw C l0 vf K l s acc) : Drw C l0 vf K l s acc := by
  cases b
  · exact hf rfl
  · exact ht rfl
theorem a_tt {c : Operand} {x y : Code} (hc : ev s.sl c = .p (.bool true)) (h : AWp C x Q s) : AWp C (.cond c x y) Q s := a_cond hc (fun _ => h) (fun e => by cases e)
theorem a_ff {c : Operand} {x y : Code} (hc : ev s.sl c = .p (.bool false)) (h : AWp C y Q s) : AWp C (.cond c x y) Q s := a_cond hc (fun e => by cases e) (fun _ => h)
theorem qjh {P : Program} {t : Nat} {post : V → List Obj → List Obj → Prop} {v : Value} (h : get s.sl t = .p v) (hp : post (.p v) [] []) : Fin P [.tmp t] 0 post s :=
  ⟨[.p v], .p v, [], [], [], ⟨h, trivial⟩, rfl, rfl, trivial, rfl, rfl, hp⟩
end
theorem qjy {α : Type} {e z : Nat} {f : α → List V} {l : List α} (h : ∀ a, plV.plL (f a) = true) : ∀ o ∈ ([] : List Obj) ++ [.row e z (l.map f)], plO o := by
  intro o ho
  simp only [List.nil_append, List.mem_singleton] at ho
  subst ho
  intro x hx
  obtain ⟨a, _, rfl⟩ := List.mem_map.1 hx
  exact h a
theorem noA (P : Program) (n : Nat) (w : World) (g : Gh) (X : Nat → Prop) : ∀ b, ¬ (fnCtx P n w [] g X).A b := by
  rintro b ⟨i, io, h, _⟩
  simp [num, look] at h
theorem qzd {v e s : Nat} {es es' : List (List V)} (h : es = es') : (some (v, Obj.row e s es) : Option (Nat × Obj)) = some (v, .row e s es') := by rw [h]
theorem qz7 {b c : Int} (h : b = c) : V.p (.int .i64 b) = .p (.int .i64 c) := by rw [h]
theorem qja {b c : Bool} (h : b = c) : V.p (.bool b) = .p (.bool c) := by rw [h]
theorem qj1 {hp : Heap} {π : List (Nat × Nat)} {id ver e sz : Nat} {es : List (List V)} (h : memN id (π.map (·.1)) = false) (ho : look hp id = some (ver, .row e sz es)) : view hp π (.own id ver) = .sl es := by
  simp only [view, h, ho, cond_false, Nat.beq_refl, cond_true]
theorem qqs {C : Ctx} {all : Array Oper} {s : St} {d : Nat} {ty : TypeId} {pos : String} {aft : Array Edge} {t e : TypeId} {x : Operand} {α : Type} {f : α → List V} {l : List α} (ht : C.P.underlying t = some (.slice e)) (hx : Ab.ev s.sl x = .sl (l.map f)) :
    OpJ C all ⟨some d, .call { callee := .builtin .len, args := #[x], argTypes := #[t] }, ty, pos, aft, none⟩ s [] (EV d (.p (.int .i64 l.length))) := by
  have := j_len (all := all) (d := d) (ty := ty) (pos := pos) (aft := aft) ht hx
  rwa [List.length_map] at this
theorem qjc {C : Ctx} {all : Array Oper} {s : St} {d : Nat} {ty : TypeId} {pos : String} {aft : Array Edge} {t e : TypeId} {x : Operand} {α : Type} {f : α → List V} {l : List α} {id ver e' sz : Nat} (ht : C.P.underlying t = some (.slice e)) (hx : Ab.ev s.sl x = .own id ver) (ho : look s.hp id = some (ver, .row e' sz (l.map f))) :
    OpJ C all ⟨some d, .call { callee := .builtin .len, args := #[x], argTypes := #[t] }, ty, pos, aft, none⟩ s [id] (EV d (.p (.int .i64 l.length))) := by
  have := j_len_own (all := all) (d := d) (ty := ty) (pos := pos) (aft := aft) ht hx ho
  rwa [List.length_map] at this
theorem qqw : maxLen = 9223372036854775807 := rfl
theorem qqk {C : Ctx} {all : Array Oper} {s : St} {ty : TypeId} {pos : String} {aft : Array Edge} {t n : TypeId} {x y : Operand} {id ver e : Nat} {xs ys : List V} (ht : AggT C.P t n) (hx : Ab.ev s.sl x = .ptr id ver 0) (ho : look s.hp id = some (ver, .box e xs)) (hn : ys.length = n) (hoff : xs.length = n) (hy : Ab.ev s.sl y = .agg ys) (hl : ys.all lf = true) :
    OpJ C all ⟨none, .store t x y, ty, pos, aft, none⟩ s [id] (ES id ver (.box e ys)) := by
  have := j_storea_box (all := all) (ty := ty) (pos := pos) (aft := aft) ht hx ho hn (by omega) hy hl
  rwa [List.take_zero, List.nil_append, Nat.zero_add, List.drop_of_length_le (by omega), List.append_nil] at this
section
variable {C : Ctx} {all : Array Oper} {s : St} {d : Nat} {ty : TypeId} {pos : String} {aft : Array Edge}
theorem qq5 {t e sz : Nat} {x y : Operand} {es : List (List V)} {kd : IntKind} {i : Int} {n : Nat} {xs : List V} (ht : SlT C.P t e sz) (hx : Ab.ev s.sl x = .sl es) (hy : Ab.ev s.sl y = .p (.int kd i)) (hn : i = (n : Int)) (hi : es[n]? = some xs) (hsz : xs.length = sz) :
    OpJ C all ⟨some d, .indexAddr t x y, ty, pos, aft, none⟩ s [] (EV d (.el es n 0)) := by
  subst hn
  exact j_elem ht hx hy (Int.natCast_nonneg n) hi hsz
theorem qqx {t e sz : Nat} {x y : Operand} {id ver e' : Nat} {es : List (List V)} {kd : IntKind} {i : Int} {n : Nat} (ht : SlT C.P t e sz) (hx : Ab.ev s.sl x = .own id ver) (ho : look s.hp id = some (ver, .row e' sz es)) (hy : Ab.ev s.sl y = .p (.int kd i)) (hn : i = (n : Int)) (hi : n < es.length) :
    OpJ C all ⟨some d, .indexAddr t x y, ty, pos, aft, none⟩ s [id] (EV d (.pel id ver n 0)) := by
  subst hn
  exact j_elem_own ht hx ho hy (Int.natCast_nonneg n) hi
theorem j_index_strN {t : TypeId} {x y : Operand} {b : ByteArray} {kd : IntKind} {i : Int} {n : Nat} {c : UInt8} (ht : C.P.underlying t = some .string) (hx : Ab.ev s.sl x = .p (.string b)) (hy : Ab.ev s.sl y = .p (.int kd i)) (hn : i = (n : Int)) (hi : b.data.toList[n]? = some c) :
    OpJ C all ⟨some d, .index t x y, ty, pos, aft, none⟩ s [] (EV d (.p (.int .u8 c.toNat))) := by
  subst hn
  exact j_index_str ht hx hy (Int.natCast_nonneg n) hi
end
section
variable {C : Ctx} {all : Array Oper} {s : St} {ty : TypeId} {pos : String} {aft : Array Edge}
theorem not_wanted_undef {a : Act} {w : World} {g : Gh} (hr : Rel C a w s g) {t : Nat} (ht : get s.sl t = .p undef) {j : Nat} {want : Bool} {d : Option Nat} {op : Op} (hj : (all[j]?).bind (·.dst) = some t) : ¬ Region.wanted ⟨d, op, ty, pos, aft, some (j, want)⟩ (yielded all a.tmps) = true := by
  have h := hr.slots t
  rw [ht] at h
  have h1 := h.plain
  have e : (all[j]?).bind (·.dst) = some t := hj
  simp only [Region.wanted, yielded, e, Option.bind_some]
  rw [Array.getD_eq_getD_getElem?] at h1
  cases h2 : a.tmps[t]? with
  | none => simp
  | some u =>
    rw [h2] at h1
    simp only [Option.getD_some] at h1
    subst h1
    simp [undef]
theorem qqb {d : Nat} {op : Op} {j : Nat} {want : Bool} {t : Nat} {b : Bool} (hj : (all[j]?).bind (·.dst) = some t) (hv : get s.sl t = .p (.bool b)) (hb : b = !want) :
    OpJ C all ⟨some d, op, ty, pos, aft, some (j, want)⟩ s [] (EV d (.p undef)) := by
  intro s' ha hd a w g hr hbp K Q hK
  have hv' : get s'.sl t = .p (.bool b) := (ha.sl t (looks_guard hj)).trans hv
  have hw : ¬ Region.wanted ⟨some d, op, ty, pos, aft, some (j, want)⟩ (yielded all a.tmps) = true := by
    have e : (all[j]?).bind (·.dst) = some t := hj
    simp [Region.wanted, yielded, e, hr.bool hv', hb]
  unfold opWp
  rw [if_neg hw]
  exact hK _ _ g (hr.put (u := undef) (hd d rfl) (.sh (.p _))) (fun _ _ => rfl)
theorem qqo {d : Nat} {op : Op} {j : Nat} {want : Bool} {t : Nat} (hj : (all[j]?).bind (·.dst) = some t) (hv : get s.sl t = .p undef) :
    OpJ C all ⟨some d, op, ty, pos, aft, some (j, want)⟩ s [] (EV d (.p undef)) := by
  intro s' ha hd a w g hr hbp K Q hK
  have hv' : get s'.sl t = .p undef := (ha.sl t (looks_guard hj)).trans hv
  have hw := not_wanted_undef (ty := ty) (pos := pos) (aft := aft) hr hv' (want := want) (d := some d) (op := op) hj
  unfold opWp
  rw [if_neg hw]
  exact hK _ _ g (hr.put (u := undef) (hd d rfl) (.sh (.p _))) (fun _ _ => rfl)
end
theorem biff {a b : Bool} (h : a = true ↔ b = true) : a = b := Bool.eq_iff_iff.2 h
theorem a_len {C : Ctx} {s : St} {Q : Exit → St → Prop} {c : Code} {es : List (List V)} (t : Nat) (ht : get s.sl t = .sl es) (h : es.length ≤ maxLen → AWp C c Q s) : AWp C c Q s := by
  intro a w g hr
  refine h ?_ a w g hr
  have hv := hr.slots t
  rw [ht] at hv
  have hs := hv.slc
  generalize a.tmps.getD t undef = u at hs
  cases hs with
  | nil => simp
  | sl _ _ _ _ _ _ _ hc hm => omega
theorem qzb {C : Ctx} {s : St} {Q : Exit → St → Prop} {c : Code} {α : Type} {f : α → List V} {l : List α} (t : Nat) (ht : get s.sl t = .sl (l.map f)) (h : l.length ≤ 9223372036854775807 → AWp C c Q s) : AWp C c Q s :=
  a_len t ht fun h1 => h (by rw [List.length_map, qqw] at h1; exact h1)
theorem a_len_map2 {C : Ctx} {s : St} {Q : Exit → St → Prop} {c : Code} {α : Type} {f : α → List V} {l : List α} {r : List V} (t : Nat) (ht : get s.sl t = .agg (.sl (l.map f) :: r)) (h : l.length ≤ 9223372036854775807 → AWp C c Q s) : AWp C c Q s := by
  intro a w g hr
  refine h ?_ a w g hr
  have hv := hr.slots t
  rw [ht] at hv
  have key : ∀ {u : Value}, SR (XX C s.hp g w) w (.sl (l.map f)) u → l.length ≤ 9223372036854775807 := by
    intro u hs
    have : (l.map f).length ≤ maxLen := by
      generalize l.map f = es at hs
      cases hs with
      | nil => simp
      | sl _ _ _ _ _ _ _ hc hm => omega
    rw [List.length_map, qqw] at this; exact this
  generalize a.tmps.getD t undef = u at hv
  cases hv with
  | sh h0 => cases h0 with
    | agg _ cs hl he =>
      have h0 : 0 < cs.size := by rw [hl]; simp
      exact key (he 0 _ cs[0] rfl (by simp [h0]))
  | agg _ cs hl he =>
    have h0 : 0 < cs.size := by rw [hl]; simp
    exact key (he 0 _ cs[0] rfl (by simp [h0])).slc
def wr {α : Type} (f : α → List V) (l : List α) (k : Nat) (z : List V) : List (List V) := (l.take k).map f ++ List.replicate (l.length - k) z
theorem wr_zero {α : Type} {f : α → List V} {l : List α} {z : List V} : wr f l 0 z = List.replicate l.length z := by simp [wr]
theorem wr_all {α : Type} {f : α → List V} {l : List α} {k : Nat} {z : List V} (h : l.length ≤ k) : wr f l k z = l.map f := by simp [wr, Nat.sub_eq_zero_of_le h, List.take_of_length_le h]
theorem qzr {α : Type} {f : α → List V} {l : List α} {k : Nat} {z : List V} : (wr f l k z).length = min k l.length + (l.length - k) := by simp [wr]
theorem qqj {α β : Type} [Inhabited α] {f : α → β} {l : List α} {i : Nat} (h : i < l.length) : (l.map f)[i]? = some (f (l.getD i default)) := by
  simp [List.getElem?_eq_getElem h]
theorem qjt {α : Type} {d : α} {l : List α} {i : Nat} (h : i < l.length) : l.take (i + 1) = l.take i ++ [l.getD i d] := by
  rw [List.take_add_one]; simp [List.getElem?_eq_getElem h]
theorem fin_p1 {s : St} {P : Program} {t : Nat} {v : Value} {o : Obj} {post : V → List Obj → List Obj → Prop} (h : get s.sl t = .p v) (ho : look s.hp 0 = some (0, o)) (hr : renO [(0, 0)] o = o) (hk : okO 1 o = true) (hp : post (.p v) [o] []) : Fin P [.tmp t] 1 post s :=
  ⟨[.p v], .p v, [o], [], [], ⟨h, trivial⟩, rfl, rfl, ⟨⟨by rw [show (List.range 1).map (fun i => (i, 0)) ++ [] = [(0, 0)] from rfl, hr]; exact ho, hk⟩, trivial⟩, rfl, rfl, hp⟩
def apartK (ks : List Nat) : List Nat → List Nat → Bool
  | [], _ => true
  | x :: r, b => (memN x ks || !memN x b) && apartK ks r b
theorem apartK_spec {ks : List Nat} : ∀ {a b : List Nat}, apartK ks a b = true → ∀ x ∈ a, x ∉ ks → x ∉ b
  | [], _, _, x, hx, _ => by simp at hx
  | y :: r, b, h, x, hx, hk => by
    simp only [apartK, Bool.and_eq_true, Bool.or_eq_true, Bool.not_eq_true'] at h
    rcases List.mem_cons.1 hx with rfl | hx
    · rcases h.1 with h1 | h1
      · exact absurd (memN_iff.1 h1) hk
      · intro hb; rw [memN_iff.2 hb] at h1; cases h1
    · exact apartK_spec h.2 x hx hk
def FrS (ks : List Nat) (b l : Slots) : Prop := l = l.take (l.length - b.length) ++ b ∧ apartK ks ((l.take (l.length - b.length)).map (·.1)) (b.map (·.1)) = true
def FrH (ks : List Nat) (b l : Heap) : Prop := l = l.take (l.length - b.length) ++ b ∧ apartK ks ((l.take (l.length - b.length)).map (·.1)) (b.map (·.1)) = true
theorem getk_app {l b : Slots} {t : Nat} (h : t ∉ l.map (·.1)) : get (l ++ b) t = get b t := by
  induction l with
  | nil => rfl
  | cons x l ih =>
    obtain ⟨d, v⟩ := x
    simp only [List.map_cons, List.mem_cons, not_or] at h
    simp only [List.cons_append, get, qjx (Ne.symm h.1), cond_false]
    exact ih h.2
theorem getk_app1 {l b : Slots} {t : Nat} (h : t ∈ l.map (·.1)) : get (l ++ b) t = get l t := by
  induction l with
  | nil => simp at h
  | cons x l ih =>
    obtain ⟨d, v⟩ := x
    simp only [List.cons_append, get]
    by_cases e : d = t
    · subst e; simp
    · rw [qjx e, cond_false, cond_false]
      simp only [List.map_cons, List.mem_cons] at h
      exact ih (h.resolve_left (Ne.symm e))
theorem lookk_app {l b : Heap} {t : Nat} (h : t ∉ l.map (·.1)) : look (l ++ b) t = look b t := by
  induction l with
  | nil => rfl
  | cons x l ih =>
    obtain ⟨d, v⟩ := x
    simp only [List.map_cons, List.mem_cons, not_or] at h
    simp only [List.cons_append, look, qjx (Ne.symm h.1), cond_false]
    exact ih h.2
theorem lookk_app1 {l b : Heap} {t : Nat} (h : t ∈ l.map (·.1)) : look (l ++ b) t = look l t := by
  induction l with
  | nil => simp at h
  | cons x l ih =>
    obtain ⟨d, v⟩ := x
    simp only [List.cons_append, look]
    by_cases e : d = t
    · subst e; simp
    · rw [qjx e, cond_false, cond_false]
      simp only [List.map_cons, List.mem_cons] at h
      exact ih (h.resolve_left (Ne.symm e))
def EntF (s s' : St) (l : Slots) (h : Heap) : Prop :=
  (nodupB (l.map (·.1)) = true ∧ nodupB (h.map (·.1)) = true) ∧ AllS s'.sl l ∧ AllH s'.hp h ∧ FrS (l.map (·.1)) s.sl s'.sl ∧ FrH (h.map (·.1)) s.hp s'.hp
theorem EntF.ent {s s' : St} {l : Slots} {h : Heap} (he : EntF s s' l h) : Ent s' ⟨l ++ s.sl, h ++ s.hp⟩ := by
  obtain ⟨⟨n1, n2⟩, h1, h2, ⟨h3, h4⟩, ⟨h5, h6⟩⟩ := he
  constructor
  · intro p hp
    simp only at hp ⊢
    by_cases e : p.1 ∈ l.map (·.1)
    · obtain ⟨q, hq, e2⟩ := List.mem_map.1 e
      rw [getk_app1 e, ← e2]; exact AllS.get n1 h1 q hq
    · rw [getk_app e]
      have hb : p ∈ s.sl := (List.mem_append.1 hp).resolve_left fun hl => e (List.mem_map.2 ⟨p, hl, rfl⟩)
      rw [h3, getk_app]
      exact fun ht => apartK_spec h4 _ ht e (List.mem_map.2 ⟨p, hb, rfl⟩)
  · intro p hp
    simp only at hp ⊢
    by_cases e : p.1 ∈ h.map (·.1)
    · obtain ⟨q, hq, e2⟩ := List.mem_map.1 e
      rw [lookk_app1 e, ← e2]; exact AllH.look n2 h2 q hq
    · rw [lookk_app e]
      have hb : p ∈ s.hp := (List.mem_append.1 hp).resolve_left fun hl => e (List.mem_map.2 ⟨p, hl, rfl⟩)
      rw [h5, lookk_app]
      exact fun ht => apartK_spec h6 _ ht e (List.mem_map.2 ⟨p, hb, rfl⟩)
section
variable {C : Ctx} {s : St} {Q : Exit → St → Prop}
theorem a_loopF {c : Code} {ι : Type} (pre : ι → Prop) (sl : ι → Slots → Slots) (hp : ι → Heap → Heap) (μ : ι → Nat) (hsl : ∀ i r, sl i r = sl i [] ++ r) (hhp : ∀ i r, hp i r = hp i [] ++ r) (i0 : ι) (hp0 : pre i0) (h0 : EntF s s (sl i0 []) (hp i0 []))
    (round : ∀ i, pre i → AWp C c (fun e s' => match e with | .normal => ∃ i', pre i' ∧ EntF s s' (sl i' []) (hp i' []) ∧ μ i' < μ i | e => Q e s') ⟨sl i s.sl, hp i s.hp⟩) : AWp C (.loop c) Q s := by
  refine a_loop pre (fun i => ⟨sl i s.sl, hp i s.hp⟩) μ i0 hp0 (by rw [hsl, hhp]; exact h0.ent) fun i hi => (round i hi).mono fun e s' hq => ?_
  cases e <;> first | exact hq | (obtain ⟨i', a, b, d⟩ := hq; exact ⟨i', a, by rw [hsl, hhp]; exact b.ent, d⟩)
end
def wo {α : Type} (f : α → List V) (new old : List α) (k : Nat) : List (List V) := (new.take k ++ old.drop k).map f
theorem wo_zero {α : Type} {f : α → List V} {new old : List α} : wo f new old 0 = old.map f := by simp [wo]
theorem wo_all {α : Type} {f : α → List V} {new old : List α} {k : Nat} (h : new.length ≤ k) (h2 : old.length ≤ k) : wo f new old k = new.map f := by simp [wo, List.take_of_length_le h, List.drop_of_length_le h2]
theorem qjn {α : Type} {f : α → List V} {new old : List α} {k : Nat} : (wo f new old k).length = min k new.length + (old.length - k) := by simp [wo]
theorem wo_set {α : Type} {d : α} {f : α → List V} {new old : List α} {k : Nat} {x : α} (h : k < new.length) (h2 : k < old.length) (hx : new.getD k d = x) : (wo f new old k).set k (f x) = wo f new old (k + 1) := by
  unfold wo
  have e : (new.take k).length = k := by simp; omega
  rw [qjt (d := d) h, hx, List.map_append, List.map_append, List.map_append, List.set_append_right _ _ (by simp; omega)]
  rw [List.drop_eq_getElem_cons h2, List.map_cons]
  simp only [List.length_map, e, Nat.sub_self, List.set_cons_zero, List.map_cons, List.map_nil, List.append_assoc, List.cons_append, List.nil_append]
theorem wo_at {α : Type} [Inhabited α] {f : α → List V} {new old : List α} {k : Nat} (h : k < new.length) (h2 : k < old.length) : (wo f new old k)[k]? = some (f (old.getD k default)) := by
  unfold wo
  rw [List.getElem?_map, List.getElem?_append_right (by simp; omega)]
  simp [Nat.min_eq_left (Nat.le_of_lt h), List.getElem?_eq_getElem h2]
theorem wr_set {α : Type} {d : α} {f : α → List V} {l : List α} {k : Nat} {z : List V} (h : k < l.length) : (wr f l k z).set k (f (l.getD k d)) = wr f l (k + 1) z := by
  unfold wr
  rw [qjt (d := d) h, List.map_append, List.set_append_right _ _ (by simp; omega)]
  have e : l.length - k = (l.length - (k + 1)) + 1 := by omega
  rw [e, List.replicate_succ]
  simp [Nat.min_eq_left (Nat.le_of_lt h)]
def getO : Slots → Nat → Option V
  | [], _ => none
  | (d, v) :: r, t => bif Nat.beq d t then some v else getO r t
theorem getO_get {l : Slots} {t : Nat} {v : V} (h : getO l t = some v) : get l t = v := by
  induction l with
  | nil => cases h
  | cons x l ih =>
    obtain ⟨d, u⟩ := x
    simp only [getO, get] at *
    cases hb : Nat.beq d t
    · rw [hb] at h; exact ih h
    · rw [hb] at h; simpa using h
def evO (l : Slots) : Operand → Option V
  | .tmp t => getO l t
  | .const v => some (.p v)
  | .global g => some (.p (.pointer (some ⟨g, 0, none⟩)))
  | .func f => some (.fn f [])
theorem evo {l : Slots} {x : Operand} {v : V} (h : evO l x = some v) : ev l x = v := by
  cases x with
  | tmp t => exact getO_get h
  | _ => exact Option.some.inj h
section
variable {C : Ctx} {all : Array Oper} {l : List Oper} {K : St → Prop} {sl : Slots} {hp : Heap} {o : Oper} {ids : List Nat} {d : Nat} {v : V}
theorem qqa (hJ : OpJ C all o ⟨sl, hp⟩ ids (EV d v)) (h : AOps C all l K ⟨(d, v) :: sl, hp⟩) : AOps C all (o :: l) K ⟨sl, hp⟩ := op_v hJ h
theorem qjk {id ver : Nat} {ob : Obj} (hJ : OpJ C all o ⟨sl, hp⟩ ids (ES id ver ob)) (h : AOps C all l K ⟨sl, (id, some (ver, ob)) :: hp⟩) : AOps C all (o :: l) K ⟨sl, hp⟩ := op_s hJ h
theorem qqu {id : Nat} {v : Nat → V} {ob : Obj} (hJ : ∀ ver, OpJ C all o ⟨sl, hp⟩ ids (EN d (v ver) id ver ob)) (h : ∀ ver, AOps C all l K ⟨(d, v ver) :: sl, (id, some (ver, ob)) :: hp⟩) : AOps C all (o :: l) K ⟨sl, hp⟩ := op_n hJ h
theorem qq4 {hp1 : Heap} (hJ : OpJ C all o ⟨sl, hp⟩ ids ⟨some d, v, hp1, []⟩) (h : AOps C all l K ⟨(d, v) :: sl, hp1 ++ hp⟩) : AOps C all (o :: l) K ⟨sl, hp⟩ := op_v0 hJ h
theorem qzi {id : Nat} {v : Nat → V} {hp1 : Nat → Heap} (hJ : ∀ ver, OpJ C all o ⟨sl, hp⟩ ids ⟨some d, v ver, hp1 ver, [(id, ver)]⟩) (h : ∀ ver, AOps C all l K ⟨(d, v ver) :: sl, hp1 ver ++ hp⟩) : AOps C all (o :: l) K ⟨sl, hp⟩ := op_n1 hJ h
theorem qq9 (t : Nat) {b : Bool} (h : get sl t = .p (.bool b)) (ht : b = true → AOps C all l K ⟨sl, hp⟩) (hf : b = false → AOps C all l K ⟨sl, hp⟩) : AOps C all l K ⟨sl, hp⟩ := op_split t h ht hf
variable {l0 : List Oper} {vf : Nat → Nat} {acc : List Rec}
theorem qqq (hJ : OpJ C l0.toArray o ⟨sl, hp⟩ ids (EV d v)) (h : Drw C l0 vf K l ⟨(d, v) :: sl, hp⟩ (acc ++ [⟨o.looksAt l0.toArray, ids, EV d v⟩])) : Drw C l0 vf K (o :: l) ⟨sl, hp⟩ acc := d_v hJ h
theorem d_s' {id ver : Nat} {ob : Obj} (hJ : OpJ C l0.toArray o ⟨sl, hp⟩ ids (ES id ver ob)) (h : Drw C l0 vf K l ⟨sl, (id, some (ver, ob)) :: hp⟩ (acc ++ [⟨o.looksAt l0.toArray, ids, ES id ver ob⟩])) : Drw C l0 vf K (o :: l) ⟨sl, hp⟩ acc := d_s hJ h
theorem d_n' {id : Nat} {v : Nat → V} {ob : Obj} (hJ : ∀ ver, OpJ C l0.toArray o ⟨sl, hp⟩ ids (EN d (v ver) id ver ob)) (h : Drw C l0 vf K l ⟨(d, v (vf id)) :: sl, (id, some (vf id, ob)) :: hp⟩ (acc ++ [⟨o.looksAt l0.toArray, ids, EN d (v (vf id)) id (vf id) ob⟩])) : Drw C l0 vf K (o :: l) ⟨sl, hp⟩ acc := d_n hJ h
theorem d_v0' {hp1 : Heap} (hJ : OpJ C l0.toArray o ⟨sl, hp⟩ ids ⟨some d, v, hp1, []⟩) (h : Drw C l0 vf K l ⟨(d, v) :: sl, hp1 ++ hp⟩ (acc ++ [⟨o.looksAt l0.toArray, ids, ⟨some d, v, hp1, []⟩⟩])) : Drw C l0 vf K (o :: l) ⟨sl, hp⟩ acc := d_cons (fun b hb => by cases hb) hJ h
theorem d_n1' {id : Nat} {v : Nat → V} {hp1 : Nat → Heap} (hJ : ∀ ver, OpJ C l0.toArray o ⟨sl, hp⟩ ids ⟨some d, v ver, hp1 ver, [(id, ver)]⟩) (h : Drw C l0 vf K l ⟨(d, v (vf id)) :: sl, hp1 (vf id) ++ hp⟩ (acc ++ [⟨o.looksAt l0.toArray, ids, ⟨some d, v (vf id), hp1 (vf id), [(id, vf id)]⟩⟩])) : Drw C l0 vf K (o :: l) ⟨sl, hp⟩ acc := d_cons (fun b hb => by obtain rfl := List.mem_singleton.1 hb; rfl) (hJ _) h
theorem d_split' (t : Nat) {b : Bool} (h : get sl t = .p (.bool b)) (ht : b = true → Drw C l0 vf K l ⟨sl, hp⟩ acc) (hf : b = false → Drw C l0 vf K l ⟨sl, hp⟩ acc) : Drw C l0 vf K l ⟨sl, hp⟩ acc := d_split t h ht hf
variable {Q : Exit → St → Prop} {c : Code}
theorem qzc {id ver e sz : Nat} {es : List (List V)} (t : Nat) (hA : ∀ b, ¬ C.A b) (ht : get sl t = .own id ver) (ho : look hp id = some (ver, .row e sz es)) (h : AWp C c Q ⟨(t, .sl es) :: sl, (id, none) :: hp⟩) : AWp C c Q ⟨sl, hp⟩ := a_freeze t hA ht ho h
theorem qjb (t i e sz : Nat) (ht : get sl t = .p (.slice none 0 0)) (h : ∀ ver, AWp C c Q ⟨(t, .own i ver) :: sl, (i, some (ver, .row e sz [])) :: hp⟩) : AWp C c Q ⟨sl, hp⟩ := a_adopt t i e sz ht h
theorem a_adopt_box' {id ver eb : Nat} {xs : List V} (j i e sz : Nat) (hi : i ≠ id) (ho : look hp id = some (ver, .box eb xs)) (hj : xs[j]? = some (.p (.slice none 0 0))) (h : ∀ v, AWp C c Q ⟨sl, (id, some (ver, .box eb (xs.set j (.own i v)))) :: (i, some (v, .row e sz [])) :: hp⟩) : AWp C c Q ⟨sl, hp⟩ := a_adopt_box j i e sz hi ho hj h
theorem qqt {ι : Type} (pre : ι → Prop) (fs : ι → Slots → Slots) (fh : ι → Heap → Heap) (μ : ι → Nat) (hsl : ∀ i r, fs i r = fs i [] ++ r) (hhp : ∀ i r, fh i r = fh i [] ++ r) (i0 : ι) (hp0 : pre i0) (h0 : EntF ⟨sl, hp⟩ ⟨sl, hp⟩ (fs i0 []) (fh i0 []))
    (round : ∀ i, pre i → AWp C c (fun e s' => match e with | .normal => ∃ i', pre i' ∧ EntF ⟨sl, hp⟩ s' (fs i' []) (fh i' []) ∧ μ i' < μ i | e => Q e s') ⟨fs i sl, fh i hp⟩) : AWp C (.loop c) Q ⟨sl, hp⟩ := a_loopF pre fs fh μ hsl hhp i0 hp0 h0 round
end
theorem a_row {C : Ctx} {c : Code} {Q : Exit → St → Prop} {ver e z : Nat} {es es' : List (List V)} {sl : Slots} {hp : Heap} (id : Nat) (ho : look hp id = some (ver, .row e z es)) (he : es = es') (h : AWp C c Q ⟨sl, (id, some (ver, .row e z es')) :: hp⟩) : AWp C c Q ⟨sl, hp⟩ := by
  subst he
  intro a w g hr
  have hk : ∀ i io, look ((id, some (ver, Obj.row e z es)) :: hp) i = some io → look hp i = some io := by
    intro i io hi
    simp only [look] at hi
    by_cases e1 : id = i
    · subst e1; rw [ho]; simpa using hi
    · rw [qjx e1, cond_false] at hi; exact hi
  exact h a w g ⟨hr.size, hr.defers, hr.hr.weaken hk, fun t => (hr.slots t).fits ⟨fun _ => Nat.le_refl _, fun _ _ => rfl, fun _ _ => rfl, fun _ _ => rfl, fun _ hb => hb.mono hk, fun _ _ => rfl⟩⟩
section
variable {C : Ctx} {s : St}
end
theorem run_equalIn_nil {P : Program} {t e : TypeId} (ht : P.underlying t = some (.slice e)) (ad : Option Addr) (m c : Nat) (w : World) (n : Nat) : (Op.equalIn (n + 1) t (.slice ad m c) (.slice none 0 0)).run P w = .ok ad.isNone w := by
  cases ad <;> simp [Op.equalIn, run_underlying ht]
theorem run_equal_nil {P : Program} {t e : TypeId} (ht : P.underlying t = some (.slice e)) (ad : Option Addr) (m c : Nat) (w : World) : (Op.equal t (.slice ad m c) (.slice none 0 0)).run P w = .ok ad.isNone w := by
  have := run_equalIn_nil ht ad m c w 9999
  simpa only [Op.equal, Op.maxDepth] using this
theorem op_eqnil {C : Ctx} {all : Array Oper} {l : List Oper} {K : St → Prop} {sl : Slots} {hp : Heap} {d xt yt e : Nat} {x : Operand} {ty : TypeId} {pos : String} {aft : Array Edge} {es : List (List V)} (ht : C.P.underlying xt = some (.slice e)) (hx : ev sl x = .sl es)
    (h : ∀ b : Bool, (b = true → es = []) → AOps C all l K ⟨(d, .p (.bool b)) :: sl, hp⟩) : AOps C all (⟨some d, .binOp .eql xt x (.const (.slice none 0 0)) yt, ty, pos, aft, none⟩ :: l) K ⟨sl, hp⟩ := by
  intro hd Q hQ a w g hr
  have hdd := okDst_head hd d rfl
  have hv := hr.ev x
  rw [hx] at hv
  have key : ∃ b : Bool, (b = true → es = []) ∧ (Op.equal xt (a.eval x) (.slice none 0 0)).run C.P w = .ok b w ∧ (eqGuard .eql xt x (.const (.slice none 0 0)) (a.eval x) (.slice none 0 0)).run C.P w = .ok () w := by
    have hs := hv.slc
    generalize a.eval x = u at hs
    cases hs with
    | nil ad c => exact ⟨ad.isNone, fun _ => rfl, run_equal_nil ht _ _ _ _, rfl⟩
    | sl _ s b o c cs => exact ⟨false, fun h => absurd h (by decide), run_equal_nil ht _ _ _ _, rfl⟩
  obtain ⟨b, h1, h2, h3⟩ := key
  refine wpList_plain rfl fun K' hK' => ?_
  have hrun : (execOp a.eval ⟨some d, .binOp .eql xt x (.const (.slice none 0 0)) yt, ty, pos, aft, none⟩).run C.P w = .ok (.value (.bool b)) w := by
    have e : (Go.binOp .eql xt (a.eval x) (.slice none 0 0)).run C.P w = .ok (.bool b) w := by
      generalize hu : a.eval x = u at *
      have hs := hv.slc
      cases hs <;> simp only [Go.binOp, Sem.run_bind, h2, Result.andThen_ok, Sem.run_pure]
    simp only [execOp, Sem.run_bind, Act.eval] at *
    simp only [h3, e, Result.andThen_ok, Sem.run_pure, Sem.run_bind]
  unfold Oper.wp
  rw [hrun, Oper.upon_value]
  exact hK' _ _ (h b h1 (okDst_tail hd) Q hQ _ _ g (hr.put hdd (.sh (.p _))))
section
variable {C : Ctx} {all : Array Oper} {s : St} {d : Nat} {ty : TypeId} {pos : String} {aft : Array Edge}
theorem HR.mv {w w' : World} {hp : Heap} {g g' : Gh} {i j : Nat} {io : Nat × Obj} {o : Obj} (h : HR C w hp g) (hi : look hp i = some io) (hne : j ≠ i)
    (hos : w'.os = w.os) (htp : w'.tape = w.tape) (hout : w'.output = w.output) (hsz : w.heap.size ≤ w'.heap.size)
    (hheap : ∀ b, b < w.heap.size → b ∉ g.fp i → w'.heap[b]? = w.heap[b]?)
    (hoth : ∀ k, k ≠ j → g'.cur k = g.cur k ∧ g'.val k = g.val k ∧ g'.blk k = g.blk k ∧ g'.fp k = g.fp k ∧ g'.sz k = g.sz k)
    (hj : g'.cur j = g.cur j + 1) (hnew : ∀ b ∈ g'.fp j, b < w'.heap.size ∧ (b ∈ g.fp i ∨ w.heap.size ≤ b))
    (ho : Fits g (XX C hp g w) w g' (XX C ((j, some (g.cur j + 1, o)) :: (i, none) :: hp) g' w') w' → OR g' (XX C ((j, some (g.cur j + 1, o)) :: (i, none) :: hp) g' w') w' j o) :
    HR C w' ((j, some (g.cur j + 1, o)) :: (i, none) :: hp) g' ∧ Fits g (XX C hp g w) w g' (XX C ((j, some (g.cur j + 1, o)) :: (i, none) :: hp) g' w') w' := by
  have lk : ∀ k io, look ((j, some (g.cur j + 1, o)) :: (i, none) :: hp) k = some io → (k = j ∧ io = (g.cur j + 1, o)) ∨ (k ≠ j ∧ k ≠ i ∧ look hp k = some io) := by
    intro k io hk
    simp only [look] at hk
    by_cases e1 : j = k
    · subst e1; simp at hk; exact .inl ⟨rfl, hk.symm⟩
    · rw [qjx e1, cond_false] at hk
      by_cases e2 : i = k
      · subst e2; simp at hk
      · rw [qjx e2, cond_false] at hk
        exact .inr ⟨fun h => e1 h.symm, fun h => e2 h.symm, hk⟩
  have hX : ∀ b, XX C hp g w b → XX C ((j, some (g.cur j + 1, o)) :: (i, none) :: hp) g' w' b := by
    intro b hb0
    have hlt := XX.lt h hb0
    obtain ⟨hb, hb2⟩ := hb0
    refine ⟨hb.imp id (fun hb => ⟨hb.1, Nat.lt_of_lt_of_le hb.2 hsz⟩), fun k io hk => ?_⟩
    rcases lk k io hk with ⟨rfl, _⟩ | ⟨h1, _, h3⟩
    · intro hin
      rcases (hnew b hin).2 with h4 | h4
      · exact hb2 i _ hi h4
      · omega
    · rw [(hoth k h1).2.2.2.1]; exact hb2 k _ h3
  have hF : Fits g (XX C hp g w) w g' (XX C ((j, some (g.cur j + 1, o)) :: (i, none) :: hp) g' w') w' := by
    have aux : ∀ k, k = j → g.cur k = g'.cur k → False := by intro k hk e; subst hk; rw [hj] at e; omega
    refine ⟨fun k => ?_, fun k e => ?_, fun k e => ?_, fun k e => ?_, hX, fun b hb => hheap b (XX.lt h hb) (hb.2 i _ hi)⟩
    · by_cases hk : k = j
      · subst hk; rw [hj]; omega
      · rw [(hoth k hk).1]; exact Nat.le_refl _
    all_goals by_cases hk : k = j
    all_goals first | exact (aux k hk e).elim | exact (hoth k hk).2.1 | exact (hoth k hk).2.2.1 | exact (hoth k hk).2.2.2.1 | exact (hoth k hk).2.2.2.2
  refine ⟨⟨⟨hos.trans h.ext.os, htp.trans h.ext.tape, hout.trans h.ext.output, Nat.le_trans h.ext.size hsz, ?_⟩, h.wf, fun k => ?_, fun a b io jo ha hb hne' x hx => ?_, fun k v ob hk => ?_, fun k io x hk hx => ?_, fun k v ob hk => ?_⟩, hF⟩
  · intro b hb hA
    refine (hheap b (Nat.lt_of_lt_of_le hb h.ext.size) (fun hin => ?_)).trans (h.ext.old b hb hA)
    rcases (h.blk i io b hi hin).2 with h1 | h1
    · omega
    · exact hA h1
  · have h0 := h.lnk k
    by_cases hk : k = j
    · subst hk; rw [hj]; exact ⟨by omega, fun e => by omega⟩
    · obtain ⟨a1, a2, a3, a4, a5⟩ := hoth k hk
      rw [a1, a2, a3, a5]; exact h0
  · rcases lk a io ha with ⟨rfl, _⟩ | ⟨h1, h2, h3⟩ <;> rcases lk b jo hb with ⟨rfl, _⟩ | ⟨k1, k2, k3⟩
    · exact absurd rfl hne'
    · rw [(hoth b k1).2.2.2.1]
      rcases (hnew x hx).2 with h4 | h4
      · exact h.dis i b _ _ hi k3 (Ne.symm k2) x h4
      · intro hin; have := (h.blk b _ x k3 hin).1; omega
    · rw [(hoth a h1).2.2.2.1] at hx
      intro hin
      rcases (hnew x hin).2 with h4 | h4
      · exact h.dis a i _ _ h3 hi h2 x hx h4
      · have := (h.blk a _ x h3 hx).1; omega
    · rw [(hoth a h1).2.2.2.1] at hx; rw [(hoth b k1).2.2.2.1]; exact h.dis a b _ _ h3 k3 hne' x hx
  · rcases lk k _ hk with ⟨rfl, e⟩ | ⟨h1, _, h3⟩
    · simp at e; rw [hj]; exact e.1.symm
    · rw [(hoth k h1).1]; exact h.cur k v ob h3
  · rcases lk k _ hk with ⟨rfl, _⟩ | ⟨h1, _, h3⟩
    · refine ⟨(hnew x hx).1, ?_⟩
      rcases (hnew x hx).2 with h4 | h4
      · exact (h.blk i _ x hi h4).2
      · exact .inl (Nat.le_trans h.ext.size h4)
    · rw [(hoth k h1).2.2.2.1] at hx
      exact ⟨Nat.lt_of_lt_of_le (h.blk k _ x h3 hx).1 hsz, (h.blk k _ x h3 hx).2⟩
  · rcases lk k _ hk with ⟨rfl, e⟩ | ⟨h1, h2, h3⟩
    · simp at e
      obtain ⟨_, rfl⟩ := e
      exact ho hF
    · exact (h.obj k v ob h3).fits hF (hoth k h1).1.symm (hoth k h1).2.2.2.1 (fun b hb => hheap b (h.blk k _ b h3 hb).1 (fun hin => h.dis k i _ io h3 hi h2 b hb hin))
theorem append_mv {t e sz bytes : TypeId} {z : Value} {hp : Heap} {g : Gh} {w : World} {id j ver0 e' : Nat} {es es2 : List (List V)} {u2 : Value} (h : HR C w hp g) (hj : j ≠ id) (ht : SlT C.P t e sz) (hz : ElT C.P e sz bytes z) (hzsz : z.cells.size = sz)
    (ho : look hp id = some (ver0, .row e sz es)) (hs : Src C hp g w u2 sz es2) (hl2 : es2.flatten.all lf = true) (hm : es.length + es2.length ≤ maxLen) (hb : (es.length + es2.length) * bytes ≤ 140737488355328) :
    ∃ u' w' g', (Builtin.append_ #[t, t] e' #[g.val id, u2]).run C.P w = .ok u' w' ∧ HR C w' ((j, some (g.cur j + 1, .row e sz (es ++ es2))) :: (id, none) :: hp) g' ∧ Fits g (XX C hp g w) w g' (XX C ((j, some (g.cur j + 1, .row e sz (es ++ es2))) :: (id, none) :: hp) g' w') w' ∧
      g'.cur j = g.cur j + 1 ∧ g'.val j = u' ∧ u'.oneCell' = true ∧ (∀ k, k ≠ j → g'.cur k = g.cur k) := by
  have hor := h.obj id ver0 _ ho
  obtain ⟨h0, hlen, h2⟩ := hor
  obtain ⟨hlen2, ad, c2, cs, e1, e2, e3, e4⟩ := hs
  subst e1
  have hlenA : ∀ x ∈ es ++ es2, x.length = sz := fun x hx => (List.mem_append.1 hx).elim (hlen x) (hlen2 x)
  obtain ⟨ii, hi1, hi2, hi3, hi4⟩ := info_parts hz
  have hone := all_one hl2 e2 e4
  have hmm := hm
  unfold maxLen at hmm
  by_cases hnil : es2 = []
  · subst hnil
    have hcap : ∃ base c, g.val id = .slice base es.length c ∧ es.length ≤ c := by
      rcases h2 with ⟨rfl, h3, _⟩ | ⟨b, c, cur, h3, _, _, _, h5, _⟩
      · exact ⟨none, 0, h3, Nat.le_refl _⟩
      · exact ⟨_, c, h3, h5⟩
    obtain ⟨base, c, hv, hc⟩ := hcap
    rw [List.append_nil]
    have hgo := h.mv (w' := w) (g' := g.upd j (g.cur j + 1) (g.val id) (g.blk id) (g.fp id) (g.sz id)) (o := .row e sz es) ho hj rfl rfl rfl (Nat.le_refl _) (fun _ _ _ => rfl) (fun j hj => Gh.upd_other j hj) (by simp [Gh.upd])
      (fun b hb => by
        have hb' : b ∈ g.fp id := by simpa [Gh.upd] using hb
        exact ⟨(h.blk id _ b ho hb').1, .inl hb'⟩)
      (fun hf => by
        refine ⟨by simp [Gh.upd, h0], hlen, ?_⟩
        rcases h2 with ⟨h3, h4, h5⟩ | ⟨b, cc, cur, h3, h3', h4, h5, h6, h7, h8, h9⟩
        · exact .inl ⟨h3, by simp [Gh.upd, h4], by simp [Gh.upd, h5]⟩
        · exact .inr ⟨b, cc, cur, by simp [Gh.upd, h3], by simp [Gh.upd, h3'], by simp [Gh.upd, h4], h5, h6, h7, h8, fun j v hj => let ⟨u, a1, a2⟩ := h9 j v hj; ⟨u, a1, a2.fits hf.set hf.heap⟩⟩)
    exact ⟨g.val id, w, _, by rw [hv]; exact run_append_none ht _ _ _ _ hc _ _ _, hgo.1, hgo.2, by simp [Gh.upd], by simp [Gh.upd], by rw [hv]; rfl, fun j hj => by simp [Gh.upd, hj]⟩
  · obtain ⟨a2, rfl, e5⟩ := e3 hnil
    have hm0 : 0 < es2.length := List.length_pos_iff.2 hnil
    have hl : cs.length = es2.length * sz := by rw [e2, qq1 hlen2]
    obtain ⟨ht1, ht2⟩ := ht
    -- a new block
    have fresh : ∀ (cur : Array Value) (cap : Nat) (w1 : World), w1.heap = w.heap → w1.os = w.os → w1.tape = w.tape → w1.output = w.output → es.length + es2.length ≤ cap → cap ≤ maxLen → cur.size = cap * sz →
        (∀ (j : Nat) (v : V) (u : Value), (es ++ es2).flatten[j]? = some v → cur[j]? = some u → SR (XX C hp g w) w v u) →
        HR C (w1.alloc (.cells cur e)) ((j, some (g.cur j + 1, .row e sz (es ++ es2))) :: (id, none) :: hp) (g.upd j (g.cur j + 1) (.slice (some ⟨w.heap.size, 0, none⟩) (es.length + es2.length) cap) (some w.heap.size) [w.heap.size] sz) ∧
        Fits g (XX C hp g w) w (g.upd j (g.cur j + 1) (.slice (some ⟨w.heap.size, 0, none⟩) (es.length + es2.length) cap) (some w.heap.size) [w.heap.size] sz) (XX C ((j, some (g.cur j + 1, .row e sz (es ++ es2))) :: (id, none) :: hp) (g.upd j (g.cur j + 1) (.slice (some ⟨w.heap.size, 0, none⟩) (es.length + es2.length) cap) (some w.heap.size) [w.heap.size] sz) (w1.alloc (.cells cur e))) (w1.alloc (.cells cur e)) := by
      intro cur cap w1 k1 k2 k3 k4 k5 k6 k7 k8
      have hh : (w1.alloc (.cells cur e)).heap = w.heap.push (.cells cur e) := by rw [← k1]; rfl
      refine h.mv (o := .row e sz (es ++ es2)) ho hj k2 k3 k4 (by rw [hh]; simp) (fun b hb _ => by rw [hh, Array.getElem?_push, if_neg (by omega)]) (fun j hj => Gh.upd_other j hj) (by simp [Gh.upd]) ?_ ?_
      · intro b hb
        have : b = w.heap.size := by simpa [Gh.upd] using hb
        subst this
        exact ⟨by rw [hh]; simp, .inr (Nat.le_refl _)⟩
      · intro hff
        exact row_or (b := w.heap.size) (c := cap) (cur := cur) (by simp [Gh.upd]) hlenA (by simp [Gh.upd]) (by simp [Gh.upd]) (by simp [Gh.upd]) (by rw [hh]; simp) (by simpa using k5) k6 k7 (fun j v u hj hu => (k8 j v u hj hu).fits hff.set hff.heap)
    rcases h2 with ⟨rfl, h3, h4⟩ | ⟨b, c, cur, h3, h3', h4, h5, h6, h7, h8, h9⟩
    · have hrun := run_append_nil (P := C.P) w t e' e ii z ht1 hi1 hi2 a2 es2.length c2 cs (by rw [hi3]; exact hl) e5 hm0 (by omega) (by rw [hi4]; simp at hb; omega)
      have hcap := grownCap_ge w es2.length 0 e
      obtain ⟨q1, q2⟩ := fresh (cs.toArray ++ Builtin.zeroCells z.cells (grownCap w es2.length 0 e - es2.length)) (grownCap w es2.length 0 e) w.drew rfl rfl rfl rfl (by simpa using hcap) (grownCap_le_maxLen w _ _ e (by simpa using hm)) (by
        simp only [Array.size_append, List.size_toArray, size_zeroCells, hl, hzsz, ← Nat.add_mul]; congr 1; omega) (fun j v u hj hu => by
        simp only [List.nil_append] at hj
        have hjl : j < cs.length := by rw [e2]; exact (List.getElem?_eq_some_iff.1 hj).1
        rw [Array.getElem?_append_left (by simpa using hjl)] at hu
        exact e4 j v u hj (by simpa using hu))
      simp only [List.length_nil, Nat.zero_add] at q1 q2
      exact ⟨_, _, _, by rw [h3]; exact hrun, q1, q2, by simp [Gh.upd], by simp [Gh.upd], rfl, fun j hj => by simp [Gh.upd, hj]⟩
    · have hflen : es.flatten.length = es.length * sz := qq1 hlen
      by_cases hroom : es.length + es2.length ≤ c
      · have hfit : es.length * sz + cs.length ≤ cur.size := by rw [hl, h8, ← Nat.add_mul]; exact Nat.mul_le_mul_right _ hroom
        have hrun := run_append_room (P := C.P) w t e' e ii ht1 hi1 b es.length c cur h5 a2 es2.length c2 cs (by rw [hi3]; exact hl) e5 hone hroom (by rw [hi3]; exact hfit)
        rw [hi3] at hrun
        have hgo := h.mv (w' := w.setRow b (cur.toList.take (es.length * sz) ++ cs ++ cur.toList.drop (es.length * sz + cs.length)).toArray) (g' := g.upd j (g.cur j + 1) (.slice (some ⟨b, 0, none⟩) (es.length + es2.length) c) (some b) [b] sz) (o := .row e sz (es ++ es2)) ho hj rfl rfl rfl (by simp [World.setRow])
          (fun k hk hn => setRow_other w b k _ (fun e => hn (by rw [h4, e]; simp))) (fun j hj => Gh.upd_other j hj) (by simp [Gh.upd])
          (fun k hk => by
            have hk' : k = b := by simpa [Gh.upd] using hk
            subst hk'
            have hin : k ∈ g.fp id := by rw [h4]; simp
            exact ⟨by have := (h.blk id _ k ho hin).1; simpa [World.setRow] using this, .inl hin⟩)
          (fun hf => row_or (by simp [Gh.upd]) hlenA (by simp [Gh.upd]) (by simp [Gh.upd]) (by simp [Gh.upd]) (setRow_heap w b cur _ e _ h5) (by simpa using hroom) h7 (by simp; omega) (fun j v u hj hu => by
            rw [List.getElem?_toArray, get_seg (by simp; omega)] at hu
            rw [show (es ++ es2).flatten = es.flatten ++ es2.flatten from List.flatten_append] at hj
            by_cases e6 : j < es.length * sz
            · rw [if_pos e6] at hu
              rw [List.getElem?_append_left (by omega)] at hj
              obtain ⟨u', a1, a2⟩ := h9 j v hj
              have : u = u' := by simpa [a1] using hu.symm
              rw [this]; exact a2.fits hf.set hf.heap
            · rw [if_neg e6] at hu
              rw [List.getElem?_append_right (by omega), hflen] at hj
              have hjl : j - es.length * sz < cs.length := by rw [e2]; exact (List.getElem?_eq_some_iff.1 hj).1
              rw [if_pos (by omega)] at hu
              exact (e4 _ v u hj hu).fits hf.set hf.heap))
        exact ⟨_, _, _, by rw [h3]; exact hrun, hgo.1, hgo.2, by simp [Gh.upd], by simp [Gh.upd], rfl, fun j hj => by simp [Gh.upd, hj]⟩
      · have hle : es.flatten.length ≤ cur.size := by rw [hflen, h8]; exact Nat.mul_le_mul_right _ h6
        have hcl : cur.toList.length = cur.size := Array.length_toList
        have hol : (cur.toList.take es.flatten.length).length = es.flatten.length := by rw [List.length_take, hcl]; omega
        have hrun := run_append_grow (P := C.P) w t e' e ii z ht1 hi1 hi2 ⟨b, 0, none⟩ es.length c (cur.toList.take es.flatten.length) (by rw [hi3, hol, hflen])
          (fun j v hv => by
            rw [qz2, Nat.zero_add, cellOf h5]
            rw [List.getElem?_take] at hv
            split at hv
            · simpa using hv
            · cases hv) a2 es2.length c2 cs (by rw [hi3]; exact hl) e5 (by omega) (by omega) (growslice_fits (by omega) (by rw [hi4]; exact hb))
        have hcap := grownCap_ge w (es.length + es2.length) c e
        obtain ⟨q1, q2⟩ := fresh ((cur.toList.take es.flatten.length).toArray ++ cs.toArray ++ Builtin.zeroCells z.cells (grownCap w (es.length + es2.length) c e - (es.length + es2.length))) (grownCap w (es.length + es2.length) c e) w.drew rfl rfl rfl rfl hcap (grownCap_le_maxLen w _ _ e hm) (by
          simp only [Array.size_append, List.size_toArray, size_zeroCells, hl, hzsz, hol]
          rw [hflen, ← Nat.add_mul, ← Nat.add_mul]; congr 1; omega) (fun j v u hj hu => by
          rw [show (es ++ es2).flatten = es.flatten ++ es2.flatten from List.flatten_append] at hj
          have hjl : j < es.flatten.length + cs.length := by
            have := (List.getElem?_eq_some_iff.1 hj).1
            rw [List.length_append] at this; omega
          rw [Array.getElem?_append_left (by rw [Array.size_append, List.size_toArray, List.size_toArray, hol]; omega)] at hu
          by_cases e6 : j < es.flatten.length
          · rw [List.getElem?_append_left e6] at hj
            rw [Array.getElem?_append_left (by rw [List.size_toArray, hol]; omega)] at hu
            obtain ⟨u', a1, a2⟩ := h9 j v hj
            have : u = u' := by
              have h10 : cur[j]? = some u := by
                rw [List.getElem?_toArray, List.getElem?_take, if_pos e6] at hu
                simpa using hu
              rw [a1] at h10; exact (Option.some.inj h10).symm
            rw [this]; exact a2
          · rw [List.getElem?_append_right (by omega)] at hj
            rw [Array.getElem?_append_right (by rw [List.size_toArray, hol]; omega)] at hu
            refine e4 _ v u hj ?_
            rw [← hu, List.getElem?_toArray, List.size_toArray, hol])
        exact ⟨_, _, _, by rw [h3]; exact hrun, q1, q2, by simp [Gh.upd], by simp [Gh.upd], rfl, fun j hj => by simp [Gh.upd, hj]⟩
theorem j_append_slN {t e sz bytes : TypeId} {z : Value} {x y : Operand} {id ver0 ver : Nat} {es es2 : List (List V)} (hne : d ≠ id) (ht : SlT C.P t e sz) (hz : ElT C.P e sz bytes z) (hzsz : z.cells.size = sz) (hx : Ab.ev s.sl x = .own id ver0) (ho : look s.hp id = some (ver0, .row e sz es))
    (hy : Ab.ev s.sl y = .sl es2) (hes2 : ∀ x ∈ es2, x.length = sz) (hl2 : es2.flatten.all lf = true) (hm : es.length + es2.length ≤ maxLen) (hb : (es.length + es2.length) * bytes ≤ 140737488355328) :
    OpJ C all ⟨some d, .call { callee := .builtin .append, args := #[x, y], argTypes := #[t, t] }, ty, pos, aft, none⟩ s [id] ⟨some d, .own d ver, [(d, some (ver, .row e sz (es ++ es2))), (id, none)], [(d, ver)]⟩ :=
  j_step (hp' := [(d, some (ver, .row e sz (es ++ es2))), (id, none)]) (bp := [(d, ver)]) fun s' hs a w g hr hbp => by
    obtain rfl := qxb hbp
    have hx := (hs.e (x := x) (by simp [Op.operands, Call.operands])).trans hx
    have hy := (hs.e (x := y) (by simp [Op.operands, Call.operands])).trans hy
    have ho := (hs.hp id (by simp)).trans ho
    obtain ⟨e1, _, _⟩ := hr.row hx ho
    have hv := hr.ev y
    rw [hy] at hv
    obtain ⟨u', w', g', h1, h2, h3, h4, h5, h6, h7⟩ := append_mv (e' := ty) hr.hr hne ht hz hzsz ho (hv.slc.src hes2) hl2 hm hb
    refine ⟨u', w', g', ?_, h2, h3, .own d _ _ h6 (by omega) (fun _ => h5.symm), fun j hj => h7 j (hj _ (List.mem_singleton.2 rfl))⟩
    simp [execOp, resolve, invoke, builtin, e1, h1]
end
end Go.Ab

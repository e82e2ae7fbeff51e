/- A law's frame: its arguments opened as values, its call by a contract, its statement shut again. -/
import Derived.Test.YtoodaakcfelaaaaAb11
import Derived.ProofKit
import Derived.Deep.Slices
import Derived.JoinedCond
namespace Go.Ab
open Go.ChangeShapes Go.WideShapes Go.ChangeAt Go.RowKit
set_option linter.unusedSimpArgs false
set_option linter.unusedVariables false
abbrev Old (w : World) (b : Nat) : Prop := b < w.heap.size
def Opens (P : Program) (t n : Nat) {α : Type} (f : α → List V) (ok : α → Prop) : Prop :=
  ∀ (H : Type) (enc : TypeId × Value → H) (w : World) (fuel : Nat) (cs : List Value) (x : DataW H × List MemPlace),
    DataW.trod enc P w 0 (fun _ => true) true fuel t cs = some x →
    ∃ a : α, ok a ∧ cs.length = n ∧ (f a).length = n ∧ ∀ (i : Nat) (v : V) (u : Value), (f a)[i]? = some v → cs[i]? = some u → SR (Old w) w v u
def inI64 (n : Int) : Prop := -9223372036854775808 ≤ n ∧ n ≤ 9223372036854775807
theorem opens_int {P : Program} {t : Nat} (ht : P.underlying t = some (.int .i64)) : Opens P t 1 (fun n : Int => [.p (.int .i64 n)]) inI64 := by
  intro H enc w fuel cs x hx
  obtain ⟨n, rfl, _, hw⟩ := DataW.trod_int ht hx
  refine ⟨n, by simpa [Lit.wf, IntKind.min, IntKind.max, IntKind.signed, IntKind.bits, inI64] using hw, rfl, rfl, fun i v u hv hu => ?_⟩
  match i, hv, hu with
  | 0, hv, hu => simp at hv hu; subst hv; subst hu; exact .p _
def inU8 (n : Int) : Prop := 0 ≤ n ∧ n ≤ 255
theorem list_of {α : Type} {n : Nat} {p : Nat → α → Prop} (h : ∀ i, i < n → ∃ x, p i x) : ∃ l : List α, l.length = n ∧ ∀ i x, l[i]? = some x → p i x := by
  induction n with
  | zero => exact ⟨[], rfl, fun i x hx => by simp at hx⟩
  | succ n ih =>
    obtain ⟨l, hl, hp⟩ := ih (fun i hi => h i (Nat.lt_succ_of_lt hi))
    obtain ⟨y, hy⟩ := h n (Nat.lt_succ_self n)
    refine ⟨l ++ [y], by simp [hl], fun i x hx => ?_⟩
    by_cases hi : i < n
    · rw [List.getElem?_append_left (by omega)] at hx; exact hp i x hx
    · have : i = n := by
        have := (List.getElem?_eq_some_iff.1 hx).1
        simp [hl] at this; omega
      subst this
      rw [List.getElem?_append_right (by omega), hl] at hx
      simp at hx; subst hx; exact hy
theorem flat_idx {α : Type} {s : Nat} {es : List (List α)} (hs : ∀ x ∈ es, x.length = s) {j : Nat} {v : α} (h : es.flatten[j]? = some v) : ∃ k f x, j = k * s + f ∧ f < s ∧ es[k]? = some x ∧ x[f]? = some v := by
  have hj : j < es.flatten.length := (List.getElem?_eq_some_iff.1 h).1
  rw [qq1 hs] at hj
  have h0 : 0 < s := by rcases Nat.eq_zero_or_pos s with e | e; (· subst e; omega); exact e
  have hq : j / s < es.length := (Nat.div_lt_iff_lt_mul h0).2 hj
  have hm : j % s < s := Nat.mod_lt _ h0
  have he : j = j / s * s + j % s := by rw [Nat.mul_comm]; exact (Nat.div_add_mod j s).symm
  refine ⟨j / s, j % s, es[j / s], he, hm, by simp [hq], ?_⟩
  rw [← qj3 hs (k := j / s) (x := es[j / s]) (by simp [hq]) hm, ← he]; exact h
theorem opens_slice {P : Program} {t e n : Nat} {α : Type} {f : α → List V} {ok : α → Prop} (ht : P.underlying t = some (.slice e)) (hc : P.cellsOf e = n) (hn : 0 < n) (h : Opens P e n f ok) :
    Opens P t 1 (fun l : List α => [.sl (l.map f)]) (fun l => ∀ a ∈ l, ok a) := by
  intro H enc w fuel cs x hx
  have fin : ∀ (l : List α) (u : Value), (∀ a ∈ l, ok a) → SR (Old w) w (.sl (l.map f)) u → ∃ a : List α, (∀ b ∈ a, ok b) ∧ [u].length = 1 ∧ [V.sl (a.map f)].length = 1 ∧ ∀ (i : Nat) (v : V) (u' : Value), [V.sl (a.map f)][i]? = some v → [u][i]? = some u' → SR (Old w) w v u' := by
    intro l u hl hsr
    refine ⟨l, hl, rfl, rfl, fun i v u' hv hu => ?_⟩
    match i, hv, hu with
    | 0, hv, hu => simp at hv hu; subst hv; subst hu; exact hsr
  rcases Deep.open_slice ht hx with ⟨rfl, _⟩ | ⟨a, len, cap, m, k, D, Pl, rfl, _, hle, hmax, hm, _, hel⟩
  · exact fin [] _ (fun a ha => by simp at ha) (.nil _ _)
  · have hlm : len ≤ m := by rw [hm]; split <;> omega
    obtain ⟨l, hlen, hl⟩ := list_of (n := len) (p := fun i (y : α × List Value) => ok y.1 ∧ y.2.length = n ∧ (f y.1).length = n ∧ w.cells? 0 (a.add (i * n)) n = some y.2 ∧ ∀ (j : Nat) (v : V) (u : Value), (f y.1)[j]? = some v → y.2[j]? = some u → SR (Old w) w v u) (fun i hi => by
      obtain ⟨cs', h1, h2⟩ := hel i (by omega)
      obtain ⟨b, q1, q2, q3, q4⟩ := h H enc w k cs' _ h2
      exact ⟨(b, cs'), q1, q2, q3, hc ▸ h1, q4⟩)
    refine fin (l.map (·.1)) _ (fun b hb => ?_) ?_
    · obtain ⟨y, hy, rfl⟩ := List.mem_map.1 hb
      obtain ⟨i, hi⟩ := List.mem_iff_getElem?.1 hy
      exact (hl i y hi).1
    · rcases Nat.eq_zero_or_pos len with e0 | e0
      · subst e0
        have : l = [] := List.eq_nil_of_length_eq_zero hlen
        subst this; exact .nil _ _
      · have hes : ∀ x ∈ (l.map (·.1)).map f, x.length = n := by
          intro x hx'
          simp only [List.map_map, List.mem_map, Function.comp] at hx'
          obtain ⟨y, hy, rfl⟩ := hx'
          obtain ⟨i, hi⟩ := List.mem_iff_getElem?.1 hy
          exact (hl i y hi).2.2.1
        have hcsl : ∀ x ∈ l.map (·.2), x.length = n := by
          intro x hx'
          obtain ⟨y, hy, rfl⟩ := List.mem_map.1 hx'
          obtain ⟨i, hi⟩ := List.mem_iff_getElem?.1 hy
          exact (hl i y hi).2.1
        -- the address is a plain one: its first cell is there
        obtain ⟨y0, hy0⟩ : ∃ y, l[0]? = some y := ⟨l[0]'(by omega), by simp [show 0 < l.length by omega]⟩
        obtain ⟨_, _, _, hcell0, _⟩ := hl 0 y0 hy0
        obtain ⟨_, _, hc0⟩ := World.cells?_some hcell0
        have hmid : a.spot = none ∧ a.block < w.heap.size := by
          have h1 := hc0 0 hn
          rw [Nat.zero_mul, show (a.add 0).add 0 = a from by simp [Addr.add]] at h1
          have h2 : 0 < y0.2.length := by rw [(hl 0 y0 hy0).2.1]; exact hn
          rw [List.getElem?_eq_getElem h2] at h1
          unfold World.cell? at h1
          split at h1
          · rename_i c t fr hblk
            split at h1
            · cases h1
            · rename_i hs
              refine ⟨by cases hsp : a.spot <;> simp_all, ?_⟩
              have := (Array.getElem?_eq_some_iff.1 hblk).1
              exact this
          · cases h1
        obtain ⟨b, o, spot⟩ := a
        obtain ⟨rfl, hblk⟩ := hmid
        have hel2 : (l.map (·.1)).length = len := by simp [hlen]
        have := SR.sl (X := Old w) (w := w) ((l.map (·.1)).map f) n b o cap (l.map (·.2)).flatten hes (by simp [hlen]; exact hle) hmax hblk (by rw [qq1 hcsl, qq1 hes]; simp) (fun i u hu => by
          obtain ⟨k', f', x', e1, e2, e3, e4⟩ := flat_idx hcsl hu
          rw [List.getElem?_map] at e3
          cases hy : l[k']? with
          | none => rw [hy] at e3; simp at e3
          | some y =>
            rw [hy] at e3; simp at e3; subst e3
            obtain ⟨_, _, _, q1, _⟩ := hl k' y hy
            obtain ⟨_, _, q2⟩ := World.cells?_some q1
            have q3 := q2 f' (by omega)
            rw [qz2, qz2, e4] at q3
            rw [e1, ← q3]; congr 2; omega) (fun i v u hv hu => by
          obtain ⟨k', f', x', e1, e2, e3, e4⟩ := flat_idx hcsl hu
          obtain ⟨k2, f2, x2, d1, d2, d3, d4⟩ := flat_idx hes hv
          have : k2 = k' ∧ f2 = f' := by
            have e5 : k2 * n + f2 = k' * n + f' := by omega
            have : k2 = k' := by
              have a1 : (k2 * n + f2) / n = k2 := by rw [Nat.mul_comm, Nat.mul_add_div hn, Nat.div_eq_of_lt d2]; omega
              have a2 : (k' * n + f') / n = k' := by rw [Nat.mul_comm, Nat.mul_add_div hn, Nat.div_eq_of_lt e2]; omega
              rw [← a1, ← a2, e5]
            exact ⟨this, by subst this; omega⟩
          obtain ⟨rfl, rfl⟩ := this
          rw [List.getElem?_map] at e3
          cases hy : l[k2]? with
          | none => rw [hy] at e3; simp at e3
          | some y =>
            rw [hy] at e3; simp at e3; subst e3
            simp only [List.getElem?_map, hy, Option.map_some, Option.some.injEq] at d3
            subst d3
            exact (hl k2 y hy).2.2.2.2 f2 v u d4 e4)
        simpa [hlen] using this
theorem opens_struct2 {P : Program} {t e0 e1 n0 n1 : Nat} {fd0 fd1 : Field} {α β : Type} {f : α → List V} {g : β → List V} {ok : α → Prop} {ok' : β → Prop} (ht : P.underlying t = some (.struct #[fd0, fd1])) (t0 : fd0.type = e0) (t1 : fd1.type = e1) (o0 : fd0.offset = 0) (o1 : fd1.offset = n0)
    (c0 : P.cellsOf e0 = n0) (c1 : P.cellsOf e1 = n1) (ct : P.cellsOf t = n0 + n1) (h0 : Opens P e0 n0 f ok) (h1 : Opens P e1 n1 g ok') : Opens P t (n0 + n1) (fun y : α × β => f y.1 ++ g y.2) (fun y => ok y.1 ∧ ok' y.2) := by
  intro H enc w fuel cs x hx
  obtain ⟨xs, k, _, _, hlen, hxl, hf⟩ := DataW.trod_struct ht hx
  have g0 := hf 0 fd0 rfl
  have g1 := hf 1 fd1 rfl
  rw [ct] at hlen
  match xs, hxl with
  | [y0, y1], _ =>
    simp only [t0, t1, o0, o1, c0, c1, List.drop_zero, List.getElem?_cons_zero, List.getElem?_cons_succ, Option.some.injEq] at g0 g1
    obtain ⟨a, a1, a2, a3, a4⟩ := h0 H enc w k _ _ g0
    obtain ⟨b, b1, b2, b3, b4⟩ := h1 H enc w k _ _ g1
    refine ⟨(a, b), ⟨a1, b1⟩, hlen, by simp [a3, b3], fun i v u hv hu => ?_⟩
    have a3' : (f (a, b).1).length = n0 := a3
    by_cases hi : i < n0
    · rw [List.getElem?_append_left (by omega)] at hv
      exact a4 i v u hv (by rw [List.getElem?_take, if_pos hi]; exact hu)
    · rw [List.getElem?_append_right (by omega), a3'] at hv
      have hi2 : i < n0 + n1 := by rw [← hlen]; exact (List.getElem?_eq_some_iff.1 hu).1
      exact b4 (i - n0) v u hv (by rw [List.getElem?_take, if_pos (by omega), List.getElem?_drop, show n0 + (i - n0) = i by omega]; exact hu)
theorem leaf_cells {P : Program} {w : World} {r : Reach} {b t : Nat} {v : Value} {d : TypeDesc} (ht : P.underlying t = some d) (hd : (match d with | .bool | .int _ | .string | .slice _ => true | _ => false) = true) (hval : Value.okWide P w r b t v) : v.cells.toList = [v] := by
  cases v with
  | agg cs => exfalso; cases d <;> simp [Value.okWide, Cell.okWide, Cell.ok, ht] at hval hd
  | _ => rfl
theorem arg_leaf {P : Program} {H : Type} {enc : TypeId × Value → H} {w : World} {r : Reach} {b t : Nat} {v : Value} {d : DataW H} {ps : List MemPlace} {dd : TypeDesc} {α : Type} {f : α → V} {ok : α → Prop} (ht : P.underlying t = some dd) (hd : (match dd with | .bool | .int _ | .string | .slice _ => true | _ => false) = true)
    (ho : Opens P t 1 (fun a => [f a]) ok) (hval : Value.okWide P w r b t v) (h : DataW.Trod enc P w 0 (fun _ => true) true t v d ps) : ∃ a, ok a ∧ SR (Old w) w (f a) v := by
  obtain ⟨fuel, hf⟩ := h
  rw [leaf_cells ht hd hval] at hf
  obtain ⟨a, h1, _, _, h2⟩ := ho H enc w fuel _ _ hf
  exact ⟨a, h1, h2 0 _ _ rfl rfl⟩
def Stand (W : World) : List V → List Value → Prop
  | [], [] => True
  | v :: vs, u :: us => SR (Old W) W v u ∧ Stand W vs us
  | _, _ => False
theorem Stand.len {W : World} : ∀ {vs : List V} {us : List Value}, Stand W vs us → vs.length = us.length
  | [], [], _ => rfl
  | v :: vs, u :: us, h => by simp [Stand.len h.2]
  | [], u :: us, h => h.elim
  | v :: vs, [], h => h.elim
theorem Stand.at {W : World} : ∀ {vs : List V} {us : List Value}, Stand W vs us → ∀ {i : Nat} {v : V} {u : Value}, vs[i]? = some v → us[i]? = some u → SR (Old W) W v u
  | [], _, _, i, v, u, h, _ => by simp at h
  | v :: vs, u :: us, h, 0, v', u', hv, hu => by simp at hv hu; subst hv; subst hu; exact h.1
  | v :: vs, u :: us, h, i + 1, v', u', hv, hu => Stand.at h.2 (i := i) (by simpa using hv) (by simpa using hu)
  | v :: vs, [], h, _, _, _, _, _ => h.elim
theorem post_below {H : Type} {enc : TypeId × Value → H} {P : Program} {f : Func} {s : ChangeSpec} {apart fresh handsOn again : Bool} {W W' : World} {args : Array Value} {v : Value} {ds gs : List (DataW H)} {before pa pv : List MemPlace}
    (hW : DataW.Whole enc P f.params.toList s.vars apart W args.toList ds gs before)
    (hres : ∀ (b : Nat) (sp : Nat → Bool) (hd : Bool), DataW.TrodAll enc P W' b sp hd f.resultTypes.toList (v.resultList f.resultTypes.size) (s.fn H (ds ++ gs)).results [])
    (hargs : DataW.TrodAll enc P W' 0 (fun b => decide (b < W.heap.size)) true f.params.toList args.toList (s.fn H (ds ++ gs)).args pa)
    (hargs2 : DataW.TrodAll enc P W' 0 (fun _ => true) true f.params.toList args.toList (s.fn H (ds ++ gs)).args pa)
    (hvars : ∀ sp : Nat → Bool, DataW.TrodVars enc P W' sp s.vars (s.fn H (ds ++ gs)).vars pv)
    (hps : before = pa ++ pv) (hb : Below W.heap.size W W')
    (hok : ∀ (j : Nat) (t : TypeId) (r : Value), f.resultTypes[j]? = some t → (v.resultList f.resultTypes.size)[j]? = some r → Value.okWide P W' .any 0 t r) :
    s.post enc P f apart fresh handsOn again W args v W' := by
  have hlt := hW.lt
  refine ⟨ds, gs, before, [], pa, pv, hW, hres _ _ _, hargs, hvars _, World.keptBut_mono (fun p hp => ⟨hp, ?_⟩) (hb.frame (· ∈ before)), fun _ => ?_⟩
  · rw [hps, List.mem_append] at hp
    exact Or.inr hp
  · obtain ⟨_, _, _, _, _, hz, hn⟩ := hW
    refine ⟨hok, _, _, ([] ++ pa) ++ pv, ⟨[] ++ pa, pv, trodAll_append hargs2 (hres _ _ _), hvars _, rfl, ?_, ?_⟩, ?_⟩
    · intro b off hp
      have hp' : MemPlace.cell b off ∈ before := by rw [hps]; simpa using hp
      rw [hb.frozen (p := ⟨b, off, none⟩) (hlt _ hp')]
      exact hz b off hp'
    · intro ha
      have := hn ha
      rw [hps] at this
      simpa using this
    · intro p hp _
      rw [hps]
      simpa using hp
theorem trodAll_below {H : Type} {enc : TypeId × Value → H} {P : Program} (hl : laidOutB P = true) {W W' : World} (hb : Below W.heap.size W W') : ∀ {ts : List TypeId} {vs : List Value} {ds : List (DataW H)} {ps : List MemPlace} (_ : ∀ t ∈ ts, P.readableRec t = true ∧ t < P.types.size),
    DataW.TrodAll enc P W 0 (fun _ => true) true ts vs ds ps → (∀ x ∈ ps, x.block < W.heap.size) → DataW.TrodAll enc P W' 0 (fun b => decide (b < W.heap.size)) true ts vs ds ps ∧ DataW.TrodAll enc P W' 0 (fun _ => true) true ts vs ds ps
  | [], vs, ds, ps, _, h, _ => by
    obtain ⟨rfl, rfl, rfl⟩ := trodAll_nil h
    exact ⟨rfl, rfl⟩
  | t :: ts, vs, ds, ps, ht, h, hlt => by
    obtain ⟨v, vs1, d, ds1, a, b, rfl, rfl, rfl, h1, h2⟩ := trodAll_cons h
    obtain ⟨k1, k2⟩ := trodAll_below hl hb (fun t' h' => ht t' (by simp [h'])) h2 (fun x hx => hlt x (by simp [hx]))
    obtain ⟨r1, r2⟩ := ht t (by simp)
    have q1 : DataW.Trod enc P W' 0 (fun b => decide (b < W.heap.size)) true t v d a := Below.trod hl r1 r2 h1 hb (fun x hx => hlt x (by simp [hx]))
    have q2 : DataW.Trod enc P W' 0 (fun _ => true) true t v d a := WideElems.Trod_stays hl r1 r2 h1 (fun x hx => hb.same (hlt x (by simp [hx]))) (fun x hx => rfl)
    exact ⟨⟨a, b, q1, k1, rfl⟩, ⟨a, b, q2, k2, rfl⟩⟩
theorem law_calls {H : Type} {enc : TypeId × Value → H} {P : Program} {f tb : Nat} {fn : Func} {s : ChangeSpec} {apart fresh handsOn again : Bool} {W : World} {args : Array Value} {ds gs : List (DataW H)} {before : List MemPlace} (hl : laidOutB P = true) (hv : s.vars = [])
    (hs : ∀ ds : List (DataW H), ds.length = fn.params.toList.length → s.fn H ds = { results := [.lit (.bool true)], args := ds }) (hr : fn.resultTypes = #[tb]) (htb : P.underlying tb = some .bool) (hpar : ∀ t ∈ fn.params.toList, P.readableRec t = true ∧ t < P.types.size)
    (hW : DataW.Whole enc P fn.params.toList s.vars apart W args.toList ds gs before)
    (hcall : ∃ avs, Stand W avs args.toList ∧ Fn P f avs [] (fun r i n => r = .p (.bool true) ∧ i = [] ∧ n = [])) :
    Calls P f args W fun e W' => ∃ v, e = .returned v ∧ s.post enc P fn apart fresh handsOn again W args v W' := by
  have hW' := hW
  obtain ⟨p, q, hA, hV, rfl, hfz, hnd⟩ := hW
  rw [hv] at hV
  obtain ⟨rfl, rfl⟩ := trodVars_none hV
  obtain ⟨avs, hst, hF⟩ := hcall
  have hlt : ∀ x ∈ p, x.block < W.heap.size := fun x hx => hW'.lt x (by simp [hx])
  have hlen : ds.length = fn.params.toList.length := by
    have : ∀ {ts : List TypeId} {vs : List Value} {ds : List (DataW H)} {ps : List MemPlace}, DataW.TrodAll enc P W 0 (fun _ => true) true ts vs ds ps → ds.length = ts.length := by
      intro ts
      induction ts with
      | nil => intro vs ds ps h; obtain ⟨rfl, rfl, rfl⟩ := trodAll_nil h; rfl
      | cons t ts ih =>
        intro vs ds ps h
        obtain ⟨v, vs1, d, ds1, a, b, rfl, rfl, rfl, h1, h2⟩ := trodAll_cons h
        simp [ih h2]
    exact this hA
  have hsz : args.size = avs.length := by rw [hst.len]; simp
  let g0 : Gh := ⟨fun _ => 0, fun _ => .nilFunc, fun _ => none, fun _ => [], fun _ => 0⟩
  have hno : ∀ i io, look (num 0 []) i = some io → False := by intro i io h; simp [num, look] at h
  have hHR : HR (fnCtx P 0 W [] g0 (Old W)) W (num 0 []) g0 := by
    refine ⟨⟨rfl, rfl, rfl, Nat.le_refl _, fun _ _ _ => rfl⟩, ⟨fun b hb => ⟨hb, noA P 0 W g0 (Old W) b⟩, fun i o h => by simp [fnCtx] at h⟩, fun i => ⟨Nat.le_refl _, fun _ => ⟨rfl, rfl, rfl⟩⟩, fun i j io jo h => (hno i io h).elim, fun i ver o h => (hno i _ h).elim, fun i io b h => (hno i _ h).elim, fun i ver o h => (hno i _ h).elim⟩
  refine (hF W (Old W) g0 args hHR hsz (fun i v u hv hu => .sh ((hst.at hv (by simpa using hu)).fits (fun b hb => ⟨.inl hb, fun i io h => (hno i io h).elim⟩) (fun _ _ => rfl)))).mono ?_
  rintro e W' ⟨u, r, ins', new, g', rfl, ⟨rfl, rfl, rfl⟩, _, _, hR, hu⟩
  obtain rfl := hu.plain
  have hb : Below W.heap.size W W' := ⟨hR.ext.os, hR.ext.tape, hR.ext.output, hR.ext.size, fun k hk => hR.ext.old k hk (noA P 0 W g0 (Old W) k)⟩
  have hsf := hs (ds ++ []) (by simpa using hlen)
  obtain ⟨k1, k2⟩ := trodAll_below hl hb hpar hA hlt
  refine ⟨_, rfl, post_below (pa := p) (pv := []) hW' (fun b sp hd => ?_) ?_ ?_ (fun sp => ?_) rfl hb (ok_one hr rfl (okWide_bool_mk htb true))⟩
  · rw [hsf, hr]; exact trodAll_mk1 (shut_bool htb true)
  · rw [hsf]; simpa using k1
  · rw [hsf]; simpa using k2
  · rw [hsf, hv]; rfl
end Go.Ab

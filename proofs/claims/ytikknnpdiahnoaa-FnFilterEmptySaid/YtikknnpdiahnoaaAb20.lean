/- Slices held against nil: a nil slice is nil, a slice with elements is not. -/
import Derived.Test.YtikknnpdiahnoaaAb19
namespace Go.Ab
/-! Short names for what the walks' side goals are put in order with. -/
theorem nq : (∀ b : Bool, ((!b) = true) = (b = false)) ∧ (∀ b : Bool, ((!b) = false) = (b = true)) ∧ (∀ b : Bool, (!!b) = b) ∧
    (∀ {α : Type} [BEq α] [LawfulBEq α] (a b : α), ((a != b) = true) = (a ≠ b)) ∧ (∀ {α : Type} [BEq α] [LawfulBEq α] (a b : α), ((a != b) = false) = (a = b)) ∧
    (∀ {α : Type} [BEq α] [LawfulBEq α] (a b : α), ((a == b) = false) = (a ≠ b)) ∧ (∀ {α : Type} [BEq α] [LawfulBEq α] (a b : α), ((a == b) = true) = (a = b)) ∧
    (∀ {α : Type} (a b : α), (a ≠ b) = ¬ a = b) ∧ (∀ (p : Prop) [Decidable p], (decide p = true) = p) ∧ (∀ (p : Prop) [Decidable p], (decide p = false) = ¬ p) ∧ (∀ p : Prop, (¬ ¬ p) = p) :=
  ⟨fun b => by simp, fun b => by simp, fun b => by simp, fun a b => by simp, fun a b => by simp, fun a b => by simp, fun a b => by simp, fun a b => rfl, fun p _ => by simp, fun p _ => by simp, fun p => by simp⟩
theorem nr : (∀ {α β : Type} (f : α → β) (l : List α), (l.map f).length = l.length) ∧ (∀ {α : Type} (n : Nat) (l : List α), (l.take n).length = min n l.length) ∧ (∀ n : Nat, ((n : Int)).toNat = n) :=
  ⟨fun _ _ => List.length_map .., fun _ _ => List.length_take .., fun n => Int.toNat_natCast n⟩
theorem nl : (∀ {α : Type} (a b : List α), (a ++ b).length = a.length + b.length) ∧ (∀ {α : Type} (a : α) (l : List α), (a :: l).length = l.length + 1) ∧ (∀ {α : Type}, ([] : List α).length = 0) ∧ (∀ {α : Type} (l : List α) (i : Nat) (a : α), (l.set i a).length = l.length) :=
  ⟨fun _ _ => List.length_append .., fun _ _ => List.length_cons .., List.length_nil, fun _ _ _ => List.length_set ..⟩
section
variable {C : Ctx} {all : Array Oper} {s : St} {d : Nat} {ty : TypeId} {pos : String} {aft : Array Edge} {xt yt e : Nat} {x : Operand} {es : List (List V)}
theorem ne_slice {w : World} {g : Gh} {a : Act} (hr : Rel C a w s g) (hx : Ab.ev s.sl x = .sl es) (h : es ≠ []) : ∃ ad n c, a.eval x = .slice (some ad) n c := by
  have hv := hr.ev x
  rw [hx] at hv
  have hs := hv.slc
  generalize a.eval x = u at hs
  cases hs with
  | nil ad c => exact absurd rfl h
  | sl _ s b o c cs => exact ⟨_, _, _, rfl⟩
theorem run_nenil {P : Program} {t e : TypeId} (ht : P.underlying t = some (.slice e)) (ad : Option Addr) (m c : Nat) (w : World) : (Go.binOp .neq t (.slice ad m c) (.slice none 0 0)).run P w = .ok (.bool (!ad.isNone)) w := by
  simp only [Go.binOp, Sem.run_bind, run_equal_nil ht, Result.andThen_ok, Sem.run_pure]
theorem run_eqnil {P : Program} {t e : TypeId} (ht : P.underlying t = some (.slice e)) (ad : Option Addr) (m c : Nat) (w : World) : (Go.binOp .eql t (.slice ad m c) (.slice none 0 0)).run P w = .ok (.bool ad.isNone) w := by
  simp only [Go.binOp, Sem.run_bind, run_equal_nil ht, Result.andThen_ok, Sem.run_pure]
theorem j_eqnil_s (ht : C.P.underlying xt = some (.slice e)) (hx : Ab.ev s.sl x = .sl es) (h : es ≠ []) :
    OpJ C all ⟨some d, .binOp .eql xt x (.const (.slice none 0 0)) yt, ty, pos, aft, none⟩ s [] (EV d (.p (.bool false))) :=
  j_pure (fun s' hs a w g hr => by
    have hx := (hs.e (x := x) (by simp [Op.operands])).trans hx
    obtain ⟨ad, n, c, q⟩ := ne_slice hr hx h
    refine ⟨.bool false, ?_, .sh (.p _)⟩
    have h3 : (eqGuard .eql xt x (.const (.slice none 0 0)) (.slice (some ad) n c) (.slice none 0 0)).run C.P w = .ok () w := rfl
    simp only [execOp, Sem.run_bind, q, show a.eval (.const (.slice none 0 0)) = .slice none 0 0 from rfl, h3, run_eqnil ht, Result.andThen_ok, Sem.run_pure, Option.isNone])
theorem j_nenil_s (ht : C.P.underlying xt = some (.slice e)) (hx : Ab.ev s.sl x = .sl es) (h : es ≠ []) :
    OpJ C all ⟨some d, .binOp .neq xt x (.const (.slice none 0 0)) yt, ty, pos, aft, none⟩ s [] (EV d (.p (.bool true))) :=
  j_pure (fun s' hs a w g hr => by
    have hx := (hs.e (x := x) (by simp [Op.operands])).trans hx
    obtain ⟨ad, n, c, q⟩ := ne_slice hr hx h
    refine ⟨.bool true, ?_, .sh (.p _)⟩
    have h3 : (eqGuard .neq xt x (.const (.slice none 0 0)) (.slice (some ad) n c) (.slice none 0 0)).run C.P w = .ok () w := rfl
    simp only [execOp, Sem.run_bind, q, show a.eval (.const (.slice none 0 0)) = .slice none 0 0 from rfl, h3, run_nenil ht, Result.andThen_ok, Sem.run_pure, Option.isNone, Bool.not_false])
theorem j_eqnil_n (ht : C.P.underlying xt = some (.slice e)) (hx : Ab.ev s.sl x = .p (.slice none 0 0)) :
    OpJ C all ⟨some d, .binOp .eql xt x (.const (.slice none 0 0)) yt, ty, pos, aft, none⟩ s [] (EV d (.p (.bool true))) :=
  j_pure (fun s' hs a w g hr => by
    have hx := (hs.e (x := x) (by simp [Op.operands])).trans hx
    have q := hr.evp hx
    refine ⟨.bool true, ?_, .sh (.p _)⟩
    have h3 : (eqGuard .eql xt x (.const (.slice none 0 0)) (.slice none 0 0) (.slice none 0 0)).run C.P w = .ok () w := rfl
    simp only [execOp, Sem.run_bind, q, show a.eval (.const (.slice none 0 0)) = .slice none 0 0 from rfl, h3, run_eqnil ht, Result.andThen_ok, Sem.run_pure, Option.isNone])
theorem j_nenil_n (ht : C.P.underlying xt = some (.slice e)) (hx : Ab.ev s.sl x = .p (.slice none 0 0)) :
    OpJ C all ⟨some d, .binOp .neq xt x (.const (.slice none 0 0)) yt, ty, pos, aft, none⟩ s [] (EV d (.p (.bool false))) :=
  j_pure (fun s' hs a w g hr => by
    have hx := (hs.e (x := x) (by simp [Op.operands])).trans hx
    have q := hr.evp hx
    refine ⟨.bool false, ?_, .sh (.p _)⟩
    have h3 : (eqGuard .neq xt x (.const (.slice none 0 0)) (.slice none 0 0) (.slice none 0 0)).run C.P w = .ok () w := rfl
    simp only [execOp, Sem.run_bind, q, show a.eval (.const (.slice none 0 0)) = .slice none 0 0 from rfl, h3, run_nenil ht, Result.andThen_ok, Sem.run_pure, Option.isNone, Bool.not_true])
end
end Go.Ab
namespace Go.Ab
section
variable {C : Ctx} {all : Array Oper} {s : St} {d : Nat} {ty : TypeId} {pos : String} {aft : Array Edge}
theorem flat_take {es : List (List V)} {n : Nat} : es.flatten = (es.take n).flatten ++ (es.drop n).flatten := by rw [← List.flatten_append, List.take_append_drop]
/-- 'x[:n]', x a row with rows of its own that goes on as d. -/
theorem j_cut_deep {t e sz : TypeId} {x y : Operand} {id ver0 ver n : Nat} {i : Int} {T : DTy} {es : List (List V)} (hne : d ≠ id) (ht : SlT C.P t e sz) (hx : Ab.ev s.sl x = .own id ver0) (ho : look s.hp id = some (ver0, .deep T es none)) (hy : Ab.ev s.sl y = .p (.int .i64 i)) (hi : i = (n : Int)) (h0 : 0 < es.length) (hn : n ≤ es.length) :
    OpJ C all ⟨some d, .slice t x none (some y) none, ty, pos, aft, none⟩ s [id] ⟨some d, .own d ver, [(d, some (ver, .deep T (es.take n) none)), (id, none)], some (d, ver)⟩ :=
  j_step (hp' := [(d, some (ver, .deep T (es.take n) none)), (id, none)]) (bp := some (d, ver)) fun s' hs a w g hr hbp => by
    obtain rfl := bump_eq hbp
    subst hi
    have hx := (hs.e (x := x) (by simp [Op.operands])).trans hx
    have hy := (hs.e (x := y) (by simp [Op.operands])).trans hy
    have ho := (hs.hp id (by simp)).trans ho
    obtain ⟨e1, _⟩ := hr.ownv hx ho
    obtain ⟨nn, b, c, cur, fps, D⟩ := hr.hr.dd ho h0
    have hle := D.le
    have hrun := run_cut ht (some ⟨b, 0, none⟩) es.length c 0 n (Nat.zero_le _) hn hle none (some (.int .i64 n)) (.inr ⟨rfl, rfl⟩) (.inl rfl) w
    rw [if_neg (by omega)] at hrun
    simp only [Option.map_some, add_lit, Nat.zero_mul, Nat.add_zero, Nat.sub_zero] at hrun
    have hfl := flatten_len D.len
    have hlt : ∀ x ∈ es.take n, x.length = T.s := fun x hx => D.len x (List.mem_of_mem_take hx)
    have hft := flatten_len hlt
    rw [List.length_take, Nat.min_eq_left hn] at hft
    have hks : n * T.s ≤ es.length * T.s := Nat.mul_le_mul_right _ hn
    have hsub : ∀ x ∈ (fps.take (n * T.s)).flatten, x ∈ fps.flatten := fun x hx => by
      obtain ⟨F, h1, h2⟩ := List.mem_flatten.1 hx
      exact List.mem_flatten.2 ⟨F, List.mem_of_mem_take h1, h2⟩
    have hnd : (b :: (fps.take (n * T.s)).flatten).Nodup := by
      have h1 := List.nodup_cons.1 D.nd
      refine List.nodup_cons.2 ⟨fun q => h1.1 (hsub b q), ?_⟩
      have h2 : fps.flatten = (fps.take (n * T.s)).flatten ++ (fps.drop (n * T.s)).flatten := by rw [← List.flatten_append, List.take_append_drop]
      rw [h2] at h1
      exact (List.nodup_append.1 h1.2).1
    have hgo := hr.hr.mv (w' := w) (g' := g.upd d (g.cur d + 1) (.slice (some ⟨b, 0, none⟩) n c) (some b) (b :: (fps.take (n * T.s)).flatten) (g.sz id)) (o := .deep T (es.take n) none) ho hne rfl rfl rfl (Nat.le_refl _) (fun _ _ _ => rfl) (fun j hj => Gh.upd_other j hj) (by simp [Gh.upd])
      (fun k hk => by
        have hin : k ∈ g.fp id := by
          rw [D.fp]
          simp only [Gh.upd, if_true] at hk
          rcases List.mem_cons.1 hk with h | h
          · rw [h]; exact List.mem_cons_self
          · exact List.mem_cons_of_mem _ (hsub k h)
        exact ⟨(hr.hr.blk id _ k ho hin).1, .inl hin⟩)
      (fun hf => by
        refine Dd.or (es := es) (g := g) (hp := s'.hp) (w := w) (n := nn) (b := b) (c := c) (cur := cur) (fps := fps.take (n * T.s)) hlt (by simp [Gh.upd, List.length_take, Nat.min_eq_left hn]) (by simp [Gh.upd]) (by simp [Gh.upd, D.sz]) (by simp [Gh.upd]) hnd D.heap (by rw [List.length_take]; omega) D.max D.size ⟨?_, fun j v hj => ?_⟩ (fun k f d' ver h => by cases h)
        · rw [List.length_take, D.dc.1, hfl, hft]; omega
        · have hjl : j < (es.take n).flatten.length := (List.getElem?_eq_some_iff.1 hj).1
          obtain ⟨u, F, a1, a2, a3⟩ := D.dc.2 j v (by rw [flat_take (n := n), List.getElem?_append_left hjl]; exact hj)
          refine ⟨u, F, a1, by rw [List.getElem?_take, if_pos (by omega)]; exact a2, .inr ⟨by simp, ?_⟩⟩
          rcases a3 with ⟨a3, _⟩ | ⟨_, a3⟩
          · cases a3
          · exact a3.fits hf.set hf.heap (fun t es u h => h.fits hf.set hf.heap (fun _ _ => rfl)))
    refine ⟨.slice (some ⟨b, 0, none⟩) n c, w, _, ?_, hgo.1, hgo.2, .own d _ _ rfl (by simp [Gh.upd]) (fun _ => by simp [Gh.upd]), fun j hj => upd_cur j hj⟩
    have e2 : a.eval x = .slice (some ⟨b, 0, none⟩) es.length c := e1.trans D.val
    simp only [execOp, e2, hr.evp hy, Option.map_none, Option.map_some, Sem.run_bind, hrun, Result.andThen_ok, Sem.run_pure]
end
end Go.Ab

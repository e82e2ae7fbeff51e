/- Slices held against nil: a nil slice is nil, a slice with elements is not. -/
import Derived.Test.YtikknnpdiahnoaaAb19
namespace Go.Ab
/-! Short names for what the walks' side goals are put in order with. -/
theorem nq : (∀ b : Bool, ((!b) = true) = (b = false)) ∧ (∀ b : Bool, ((!b) = false) = (b = true)) ∧ (∀ b : Bool, (!!b) = b) ∧
    (∀ {α : Type} [BEq α] [LawfulBEq α] (a b : α), ((a != b) = true) = (a ≠ b)) ∧ (∀ {α : Type} [BEq α] [LawfulBEq α] (a b : α), ((a != b) = false) = (a = b)) ∧
    (∀ {α : Type} [BEq α] [LawfulBEq α] (a b : α), ((a == b) = false) = (a ≠ b)) ∧ (∀ {α : Type} [BEq α] [LawfulBEq α] (a b : α), ((a == b) = true) = (a = b)) ∧
    (∀ {α : Type} (a b : α), (a ≠ b) = ¬ a = b) ∧ (∀ (p : Prop) [Decidable p], (decide p = true) = p) ∧ (∀ (p : Prop) [Decidable p], (decide p = false) = ¬ p) ∧ (∀ p : Prop, (¬ ¬ p) = p) :=
  ⟨fun b => by simp, fun b => by simp, fun b => by simp, fun a b => by simp, fun a b => by simp, fun a b => by simp, fun a b => by simp, fun a b => rfl, fun p _ => by simp, fun p _ => by simp, fun p => by simp⟩
theorem nr : (∀ {α β : Type} (f : α → β) (l : List α), (l.map f).length = l.length) ∧ (∀ {α : Type} (n : Nat) (l : List α), (l.take n).length = min n l.length) ∧ (∀ n : Nat, ((n : Int)).toNat = n) :=
  ⟨fun _ _ => List.length_map .., fun _ _ => List.length_take .., fun n => Int.toNat_natCast n⟩
theorem nl : (∀ {α : Type} (a b : List α), (a ++ b).length = a.length + b.length) ∧ (∀ {α : Type} (a : α) (l : List α), (a :: l).length = l.length + 1) ∧ (∀ {α : Type}, ([] : List α).length = 0) ∧ (∀ {α : Type} (l : List α) (i : Nat) (a : α), (l.set i a).length = l.length) :=
  ⟨fun _ _ => List.length_append .., fun _ _ => List.length_cons .., List.length_nil, fun _ _ _ => List.length_set ..⟩
section
variable {C : Ctx} {all : Array Oper} {s : St} {d : Nat} {ty : TypeId} {pos : String} {aft : Array Edge} {xt yt e : Nat} {x : Operand} {es : List (List V)}
theorem ne_slice {w : World} {g : Gh} {a : Act} (hr : Rel C a w s g) (hx : Ab.ev s.sl x = .sl es) (h : es ≠ []) : ∃ ad n c, a.eval x = .slice (some ad) n c := by
  have hv := hr.ev x
  rw [hx] at hv
  have hs := hv.slc
  generalize a.eval x = u at hs
  cases hs with
  | nil ad c => exact absurd rfl h
  | sl _ s b o c cs => exact ⟨_, _, _, rfl⟩
theorem run_nenil {P : Program} {t e : TypeId} (ht : P.underlying t = some (.slice e)) (ad : Option Addr) (m c : Nat) (w : World) : (Go.binOp .neq t (.slice ad m c) (.slice none 0 0)).run P w = .ok (.bool (!ad.isNone)) w := by
  simp only [Go.binOp, Sem.run_bind, run_equal_nil ht, Result.andThen_ok, Sem.run_pure]
theorem run_eqnil {P : Program} {t e : TypeId} (ht : P.underlying t = some (.slice e)) (ad : Option Addr) (m c : Nat) (w : World) : (Go.binOp .eql t (.slice ad m c) (.slice none 0 0)).run P w = .ok (.bool ad.isNone) w := by
  simp only [Go.binOp, Sem.run_bind, run_equal_nil ht, Result.andThen_ok, Sem.run_pure]
theorem j_eqnil_s (ht : C.P.underlying xt = some (.slice e)) (hx : Ab.ev s.sl x = .sl es) (h : es ≠ []) :
    OpJ C all ⟨some d, .binOp .eql xt x (.const (.slice none 0 0)) yt, ty, pos, aft, none⟩ s [] (EV d (.p (.bool false))) :=
  j_pure (fun s' hs a w g hr => by
    have hx := (hs.e (x := x) (by simp [Op.operands])).trans hx
    obtain ⟨ad, n, c, q⟩ := ne_slice hr hx h
    refine ⟨.bool false, ?_, .sh (.p _)⟩
    have h3 : (eqGuard .eql xt x (.const (.slice none 0 0)) (.slice (some ad) n c) (.slice none 0 0)).run C.P w = .ok () w := rfl
    simp only [execOp, Sem.run_bind, q, show a.eval (.const (.slice none 0 0)) = .slice none 0 0 from rfl, h3, run_eqnil ht, Result.andThen_ok, Sem.run_pure, Option.isNone])
theorem j_nenil_s (ht : C.P.underlying xt = some (.slice e)) (hx : Ab.ev s.sl x = .sl es) (h : es ≠ []) :
    OpJ C all ⟨some d, .binOp .neq xt x (.const (.slice none 0 0)) yt, ty, pos, aft, none⟩ s [] (EV d (.p (.bool true))) :=
  j_pure (fun s' hs a w g hr => by
    have hx := (hs.e (x := x) (by simp [Op.operands])).trans hx
    obtain ⟨ad, n, c, q⟩ := ne_slice hr hx h
    refine ⟨.bool true, ?_, .sh (.p _)⟩
    have h3 : (eqGuard .neq xt x (.const (.slice none 0 0)) (.slice (some ad) n c) (.slice none 0 0)).run C.P w = .ok () w := rfl
    simp only [execOp, Sem.run_bind, q, show a.eval (.const (.slice none 0 0)) = .slice none 0 0 from rfl, h3, run_nenil ht, Result.andThen_ok, Sem.run_pure, Option.isNone, Bool.not_false])
theorem j_eqnil_n (ht : C.P.underlying xt = some (.slice e)) (hx : Ab.ev s.sl x = .p (.slice none 0 0)) :
    OpJ C all ⟨some d, .binOp .eql xt x (.const (.slice none 0 0)) yt, ty, pos, aft, none⟩ s [] (EV d (.p (.bool true))) :=
  j_pure (fun s' hs a w g hr => by
    have hx := (hs.e (x := x) (by simp [Op.operands])).trans hx
    have q := hr.evp hx
    refine ⟨.bool true, ?_, .sh (.p _)⟩
    have h3 : (eqGuard .eql xt x (.const (.slice none 0 0)) (.slice none 0 0) (.slice none 0 0)).run C.P w = .ok () w := rfl
    simp only [execOp, Sem.run_bind, q, show a.eval (.const (.slice none 0 0)) = .slice none 0 0 from rfl, h3, run_eqnil ht, Result.andThen_ok, Sem.run_pure, Option.isNone])
theorem j_nenil_n (ht : C.P.underlying xt = some (.slice e)) (hx : Ab.ev s.sl x = .p (.slice none 0 0)) :
    OpJ C all ⟨some d, .binOp .neq xt x (.const (.slice none 0 0)) yt, ty, pos, aft, none⟩ s [] (EV d (.p (.bool false))) :=
  j_pure (fun s' hs a w g hr => by
    have hx := (hs.e (x := x) (by simp [Op.operands])).trans hx
    have q := hr.evp hx
    refine ⟨.bool false, ?_, .sh (.p _)⟩
    have h3 : (eqGuard .neq xt x (.const (.slice none 0 0)) (.slice none 0 0) (.slice none 0 0)).run C.P w = .ok () w := rfl
    simp only [execOp, Sem.run_bind, q, show a.eval (.const (.slice none 0 0)) = .slice none 0 0 from rfl, h3, run_nenil ht, Result.andThen_ok, Sem.run_pure, Option.isNone, Bool.not_true])
end
end Go.Ab
namespace Go.Ab
section
variable {C : Ctx} {all : Array Oper} {s : St} {d : Nat} {ty : TypeId} {pos : String} {aft : Array Edge}
end
end Go.Ab

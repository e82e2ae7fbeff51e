/- Rows with rows of their own, in the form in which walks use them. -/
import Derived.Test.YtdnlchflejoloaaAb15
import Derived.Test.YtdnlchflejoloaaVals
set_option linter.unusedSimpArgs false
set_option linter.unusedVariables false
namespace Go.Ab
section
variable {hp : Heap} {t t' : DTy} {f r vr : Nat} {y : V} {ys zs : List V} {rs : List Nat} {es' : List (List V)} {O : Obj}
theorem eat_end : Eat hp t f [] [] [] := rfl
theorem eat_leaf (h : t.sub f = none) (h1 : lf y = true) (h2 : shl y = true) (hr : Eat hp t (f + 1) ys zs rs) : Eat hp t f (y :: ys) (y :: zs) rs := by
  simp only [Eat, h]; exact ⟨trivial, h1, h2, hr⟩
theorem eat_own (h : t.sub f = some t') (ho : look hp r = some (vr, O)) (hO : objOf t' es' = O) (hr : Eat hp t (f + 1) ys zs rs) : Eat hp t f (.own r vr :: ys) (.sl es' :: zs) (r :: rs) := by
  subst hO
  simp only [Eat, h]; exact .inl ⟨r, vr, es', rs, rfl, ho, rfl, rfl, hr⟩
theorem eat_nils (h : t.sub f = some t') (hr : Eat hp t (f + 1) ys zs rs) : Eat hp t f (.p (.slice none 0 0) :: ys) (.sl [] :: zs) rs := by
  simp only [Eat, h]; exact .inr ⟨by trivial, by trivial, hr⟩
end
theorem view_ownD {hp : Heap} {π : List (Nat × Nat)} {id ver : Nat} {t : DTy} {es : List (List V)} (h : memN id (π.map (·.1)) = false) (ho : look hp id = some (ver, .deep t es none)) : view hp π (.own id ver) = .sl es := by
  simp only [view, h, ho, cond_false, Nat.beq_refl, cond_true]
theorem deepEq {v : Nat} {t : DTy} {es es' : List (List V)} (h : es = es') : (some (v, Obj.deep t es none) : Option (Nat × Obj)) = some (v, .deep t es' none) := by rw [h]
section
variable {C : Ctx} {all : Array Oper} {s : St} {d : Nat} {ty : TypeId} {pos : String} {aft : Array Edge}
theorem j_len_deep_map {α : Type} {f : α → List V} {l : List α} {tt e : TypeId} {x : Operand} {id ver : Nat} {t : DTy} {h : Option (Nat × Nat × Nat × Nat)} (ht : C.P.underlying tt = some (.slice e)) (hx : Ab.ev s.sl x = .own id ver) (ho : look s.hp id = some (ver, .deep t (l.map f) h)) :
    OpJ C all ⟨some d, .call { callee := .builtin .len, args := #[x], argTypes := #[tt] }, ty, pos, aft, none⟩ s [id] (EV d (.p (.int .i64 l.length))) := by
  have := j_len_deep (all := all) (d := d) (ty := ty) (pos := pos) (aft := aft) ht hx ho
  rwa [List.length_map] at this
theorem j_elem_deepN {tt e sz : Nat} {x y : Operand} {id ver : Nat} {t : DTy} {es : List (List V)} {h : Option (Nat × Nat × Nat × Nat)} {k : IntKind} {i : Int} {n : Nat} (ht : SlT C.P tt e sz) (hx : Ab.ev s.sl x = .own id ver) (ho : look s.hp id = some (ver, .deep t es h)) (hsz : t.s = sz) (hy : Ab.ev s.sl y = .p (.int k i)) (hn : i = (n : Int)) (hi : n < es.length) :
    OpJ C all ⟨some d, .indexAddr tt x y, ty, pos, aft, none⟩ s [id] (EV d (.pel id ver n 0)) := by
  subst hn
  exact j_elem_deep ht hx ho hsz hy (Int.natCast_nonneg n) hi
end
section
variable {C : Ctx} {all : Array Oper} {sl : Slots} {hp : Heap} {d : Nat} {o : Oper} {ids : List Nat} {l : List Oper} {K : St → Prop} {l0 : List Oper} {vf : Nat → Nat} {acc : List Rec}
theorem op_s1' {hp1 : Heap} (hJ : OpJ C all o ⟨sl, hp⟩ ids ⟨none, .any, hp1, none⟩) (h : AOps C all l K ⟨sl, hp1 ++ hp⟩) : AOps C all (o :: l) K ⟨sl, hp⟩ := op_cons0 rfl hJ h
theorem d_s1' {hp1 : Heap} (hJ : OpJ C l0.toArray o ⟨sl, hp⟩ ids ⟨none, .any, hp1, none⟩) (h : Drw C l0 vf K l ⟨sl, hp1 ++ hp⟩ (acc ++ [⟨o.looksAt l0.toArray, ids, ⟨none, .any, hp1, none⟩⟩])) : Drw C l0 vf K (o :: l) ⟨sl, hp⟩ acc := d_cons (fun b hb => by cases hb) hJ h
end
/-- A row of constraints, of one's own. -/
abbrev conT (eC eT : Nat) : DTy := .mk eC 2 [(0, .mk eT 2 [])]
theorem flatten_pair {α β : Type} {f : α → β} {g : α → β} : ∀ {l : List α} {j : Nat} {v : β}, (l.map (fun a => [f a, g a])).flatten[j]? = some v → ∃ a, a ∈ l ∧ ((j % 2 = 0 ∧ v = f a) ∨ (j % 2 = 1 ∧ v = g a))
  | [], j, v, h => by simp at h
  | a :: l, 0, v, h => by simp at h; exact ⟨a, by simp, .inl ⟨rfl, h.symm⟩⟩
  | a :: l, 1, v, h => by simp at h; exact ⟨a, by simp, .inr ⟨rfl, h.symm⟩⟩
  | a :: l, j + 2, v, h => by
    obtain ⟨b, hb, h2⟩ := flatten_pair (l := l) (j := j) (v := v) (by simpa using h)
    exact ⟨b, by simp [hb], by rw [Nat.add_mod_right]; exact h2⟩
theorem plD_terms {eT : Nat} {ts : List Term} : PlD 1 (.mk eT 2 []) (ts.map dT) := by
  intro j v hj
  obtain ⟨a, _, h⟩ := flatten_pair (f := fun t : Term => V.p (.int .i64 t.1)) (g := fun t => .p (.int .i64 t.2)) hj
  show plV v = true
  rcases h with ⟨_, rfl⟩ | ⟨_, rfl⟩ <;> rfl
theorem plD_con {eC eT : Nat} {l : List Con} : PlD 2 (conT eC eT) (l.map dC) := by
  intro j v hj
  obtain ⟨a, _, h⟩ := flatten_pair (f := fun c : Con => V.sl (c.1.map dT)) (g := fun c => .p (.int .i64 c.2)) hj
  show match (conT eC eT).sub (j % 2) with | none => plV v = true | some t' => ∀ es', v = .sl es' → PlD 1 t' es'
  rcases h with ⟨h, rfl⟩ | ⟨h, rfl⟩ <;> rw [h]
  · intro es' he
    obtain rfl := V.sl.inj he
    exact plD_terms
  · rfl
theorem pl_conD {eC eT : Nat} {l : List Con} {hh : Option (Nat × Nat × Nat × Nat)} : plO (.deep (conT eC eT) (l.map dC) hh) := ⟨2, plD_con⟩
theorem pl_newC {eC eT : Nat} {l : List Con} {hh : Option (Nat × Nat × Nat × Nat)} : ∀ o ∈ ([] : List Obj) ++ [.deep (conT eC eT) (l.map dC) hh], plO o := by
  intro o ho
  simp only [List.nil_append, List.mem_singleton] at ho
  subst ho; exact pl_conD
end Go.Ab

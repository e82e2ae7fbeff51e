/- A new row of one row that is lent at once. -/
import Derived.Test.YtoodaakcfelaaaaAb27
set_option linter.unusedSimpArgs false
set_option linter.unusedVariables false
namespace Go.Ab
variable {C : Ctx}
section
variable {all : Array Oper} {s : St} {d : Nat} {ty : TypeId} {pos : String} {aft : Array Edge}
theorem j_buildSlice_lend {tt e bytes ver : Nat} {z : Value} {x : Operand} {t t' : DTy} {r vr ed sd : Nat} {esd : List (List V)} (hdr : r ≠ d) (ht : SlT C.P tt e 1) (hz : ElT C.P e 1 bytes z) (hzsz : z.cells.size = 1) (hte : t.e = e) (hts : t.s = 1) (hx : Ab.ev s.sl x = .own r vr) (ho : look s.hp r = some (vr, .row ed sd esd)) (hsub : t.sub 0 = some t') :
    OpJ C all ⟨some d, .buildSlice tt 1 #[(0, x)], ty, pos, aft, none⟩ s [r] ⟨some d, .own d ver, [(d, some (ver, .deep t [[.sl esd]] (some (0, 0, r, vr))))], [(d, ver)]⟩ := by
  exact j_step (hp' := [(d, some (ver, .deep t [[.sl esd]] (some (0, 0, r, vr))))]) (bp := [(d, ver)]) fun s' hs a w g hr hbp => by
    obtain rfl := qxb hbp
    have hev := hs.e (x := x) (by simp [Op.operands])
    have ho := (hs.hp r (by simp)).trans ho
    have hv := hr.ev x
    rw [hev, hx] at hv
    have hlv := hv.leaves (by rfl)
    have hcsz : (a.eval x).cells.size = 1 := hlv.len
    obtain ⟨u0, hu0⟩ : ∃ u0, (a.eval x).cells[0]? = some u0 := ⟨_, Array.getElem?_eq_getElem (by omega)⟩
    have hcr := hr.hr.cur r vr _ ho
    have hur : u0 = g.val r := by
      have h5 := hlv.el 0 (.own r vr) u0 rfl hu0
      cases h5 with
      | sh h => cases h
      | own _ _ _ _ _ h => exact h hcr.symm
    obtain ⟨ht1, ht2⟩ := ht
    have hgo := hr.hr.newDeepH (w1 := w) (hp' := (d, some (g.cur d + 1, .deep t [[.sl esd]] (some (0, 0, r, vr)))) :: s'.hp) (i := d) (t := t) (es := [[.sl esd]]) (cur := (a.eval x).cells) (c := 1) (n := 0) (fps := [[]]) (hh := some (0, 0, r, vr)) (fun _ => False) rfl rfl rfl rfl
      (fun b hb => hb.elim) (fun j io hj hne => by rw [qju, if_neg hne] at hj; exact ⟨hj, fun _ _ h => h⟩) (by rw [qju, if_pos rfl]) (fun b hb => by simp at hb) (by simp) (by simp [hts]) (by simp) (by unfold maxLen; omega) (by rw [hcsz, hts])
      ⟨rfl, fun j v hj => by
        have : j = 0 := by
          have := (List.getElem?_eq_some_iff.1 hj).1
          simp at this; omega
        subst this
        exact ⟨u0, [], hu0, rfl, .inl ⟨by simp, rfl⟩⟩⟩
      (fun k f dd vv e => by
        simp only [Option.some.injEq, Prod.mk.injEq] at e; obtain ⟨rfl, rfl, rfl, rfl⟩ := e
        exact ⟨by simp, by omega, by rw [hsub]; rfl, hdr, by omega, fun _ => by rw [Nat.zero_mul, hu0, hur]⟩)
    refine ⟨.slice (some ⟨w.heap.size, 0, none⟩) 1 1, _, _, ?_, hgo.1, hgo.2, .own d _ _ rfl (by simp [Gh.upd]) (fun _ => by simp [Gh.upd]), fun j hj => by have := hj _ (List.mem_singleton.2 rfl); simp [Gh.upd, this]⟩
    have hne : ¬ 1 * 1 = 0 := by omega
    have hnn : ¬ 1 * 1 > 2 ^ 24 := by omega
    have hz0 : ((Array.range (1 * 1)).map (z.cells[· % z.cells.size]!)).size = 1 := by simp
    have hfs := fill_step (a.eval x).cells.toList 0 ((Array.range (1 * 1)).map (z.cells[· % z.cells.size]!)) 0 (by rw [hz0]; simp; omega)
    have hzip : ∀ (f : Array Value → Value × Nat → Array Value) (c0 : Array Value), (a.eval x).cells.zipIdx.foldl f c0 = ((a.eval x).cells.toList.zipIdx 0).foldl f c0 := by
      intro f c0
      rw [← Array.foldl_toList, Array.toList_zipIdx]
    have hfill : Instr.fill (fun i => some (i * 1, 1)) ((Array.range (1 * 1)).map (z.cells[· % z.cells.size]!)) [(0, a.eval x)] = some (a.eval x).cells := by
      have hcond : ¬ (decide ((a.eval x).cells.size ≠ 1) || decide (0 * 1 + (a.eval x).cells.size > ((Array.range (1 * 1)).map (z.cells[· % z.cells.size]!)).size)) = true := by
        rw [hz0, hcsz]; simp
      simp only [Instr.fill]
      rw [if_neg hcond]
      congr 1
      apply Array.ext'
      rw [hzip, Nat.zero_mul, hfs]
      simp only [Nat.zero_add, List.take_zero, List.nil_append]
      rw [List.drop_eq_nil_of_le (by rw [Array.length_toList, hz0, Array.length_toList]; omega), List.append_nil]
    subst hte
    simp only [execOp, Instr.buildSlice, Sem.run_bind, run_underlying ht1, Result.andThen_ok, qzt ht2, if_neg hnn, Sem.run_pure, if_neg hne, run_zeroValue hz, newRow, run_newObj]
    simp only [List.map_toArray, List.map_cons, List.map_nil]
    rw [hfill]
    simp only [Sem.run_bind, run_newObj, Result.andThen_ok, Sem.run_pure]
    rfl
end
end Go.Ab
namespace Go.Ab
theorem lend_at {α : Type} {es : List α} {x : α} : (es ++ [x])[es.length + 0]? = some x := by simp
theorem lend_set {α : Type} {es : List α} {x y : α} : (es ++ [x]).set (es.length + 0) y = es ++ [y] := by simp
end Go.Ab

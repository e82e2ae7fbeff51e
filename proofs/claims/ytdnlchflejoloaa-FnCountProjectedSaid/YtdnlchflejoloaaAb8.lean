/- Regions that draw their order: one walk in the order of the text serves every order. -/
import Derived.Test.YtdnlchflejoloaaAb7
set_option linter.unusedSimpArgs false
set_option linter.unusedVariables false
namespace Go.Ab

/-- The state behind those operations that are in 'S'. -/
def upd (S : Nat → Bool) : Nat → List Eff → St → St
  | _, [], s => s
  | k, E :: Es, s => upd S (k + 1) Es (bif S k then app E s else s)

def hasKey : Heap → Nat → Bool
  | [], _ => false
  | (d, _) :: r, i => Nat.beq d i || hasKey r i

/-- 'E' writes slot t. -/
def Eff.w (E : Eff) (t : Nat) : Bool := match E.dst with | some d => Nat.beq d t | none => false
def Eff.h (E : Eff) (i : Nat) : Bool := hasKey E.hp i

/-- Two states tell the same. -/
def Same (s s' : St) : Prop := (∀ t, get s.sl t = get s'.sl t) ∧ (∀ i, look s.hp i = look s'.hp i)

theorem Same.refl (s : St) : Same s s := ⟨fun _ => rfl, fun _ => rfl⟩
theorem Same.symm {s s' : St} (h : Same s s') : Same s' s := ⟨fun t => (h.1 t).symm, fun i => (h.2 i).symm⟩
theorem Same.trans {a b c : St} (h : Same a b) (k : Same b c) : Same a c := ⟨fun t => (h.1 t).trans (k.1 t), fun i => (h.2 i).trans (k.2 i)⟩

theorem look_app {l l' : Heap} {i : Nat} : look (l ++ l') i = if hasKey l i then look l i else look l' i := by
  induction l with
  | nil => simp [hasKey]
  | cons x l ih =>
    obtain ⟨d, v⟩ := x
    simp only [List.cons_append, look, hasKey]
    by_cases e : Nat.beq d i = true
    · simp only [e, cond_true, Bool.true_or, if_true]
    · simp only [Bool.not_eq_true] at e
      simp only [e, cond_false, Bool.false_or, ih]

theorem get_app (E : Eff) (s : St) (t : Nat) : get (app E s).sl t = if E.w t then E.v else get s.sl t := by
  unfold app Eff.w
  cases E.dst with
  | none => simp
  | some d =>
    simp only [get]
    by_cases e : Nat.beq d t = true
    · simp only [e, cond_true, if_true]
    · simp only [Bool.not_eq_true] at e
      simp only [e, cond_false, Bool.false_eq_true, if_false]
theorem look_appE (E : Eff) (s : St) (i : Nat) : look (app E s).hp i = if E.h i then look E.hp i else look s.hp i := by
  unfold app Eff.h; exact look_app

theorem Same.app {s s' : St} (h : Same s s') (E : Eff) : Same (Ab.app E s) (Ab.app E s') := by
  refine ⟨fun t => ?_, fun i => ?_⟩
  · rw [get_app, get_app, h.1]
  · rw [look_appE, look_appE, h.2]

theorem Same.upd {s s' : St} (h : Same s s') (S : Nat → Bool) : ∀ (k : Nat) (Es : List Eff), Same (Ab.upd S k Es s) (Ab.upd S k Es s') := by
  intro k Es
  induction Es generalizing k s s' with
  | nil => exact h
  | cons E Es ih =>
    simp only [Ab.upd]
    refine ih (k := k + 1) ?_
    cases S k
    · exact h
    · exact h.app E

/-- A slot's value hangs on those alone that write it. -/
theorem upd_get {S S' : Nat → Bool} {t : Nat} : ∀ {k : Nat} {Es : List Eff} {s s' : St}, get s.sl t = get s'.sl t → (∀ i E, Es[i]? = some E → E.w t = true → S (k + i) = S' (k + i)) → get (upd S k Es s).sl t = get (upd S' k Es s').sl t
  | k, [], s, s', h, _ => h
  | k, E :: Es, s, s', h, hw => by
    simp only [upd]
    refine upd_get (k := k + 1) ?_ (fun i E' hi hE => by rw [Nat.add_assoc, Nat.add_comm 1 i]; exact hw (i + 1) E' (by simpa using hi) hE)
    by_cases e : E.w t = true
    · have h0 := hw 0 E rfl e
      simp only [Nat.add_zero] at h0
      rw [h0]
      cases S' k
      · exact h
      · simp only [cond_true]; rw [get_app, get_app, if_pos e, if_pos e]
    · have h1 : ∀ (b : Bool) (x : St), get (bif b then app E x else x).sl t = get x.sl t := by
        intro b x; cases b
        · rfl
        · simp only [cond_true]; rw [get_app, if_neg e]
      rw [h1, h1]; exact h
theorem upd_look {S S' : Nat → Bool} {t : Nat} : ∀ {k : Nat} {Es : List Eff} {s s' : St}, look s.hp t = look s'.hp t → (∀ i E, Es[i]? = some E → E.h t = true → S (k + i) = S' (k + i)) → look (upd S k Es s).hp t = look (upd S' k Es s').hp t
  | k, [], s, s', h, _ => h
  | k, E :: Es, s, s', h, hw => by
    simp only [upd]
    refine upd_look (k := k + 1) ?_ (fun i E' hi hE => by rw [Nat.add_assoc, Nat.add_comm 1 i]; exact hw (i + 1) E' (by simpa using hi) hE)
    by_cases e : E.h t = true
    · have h0 := hw 0 E rfl e
      simp only [Nat.add_zero] at h0
      rw [h0]
      cases S' k
      · exact h
      · simp only [cond_true]; rw [look_appE, look_appE, if_pos e, if_pos e]
    · have h1 : ∀ (b : Bool) (x : St), look (bif b then app E x else x).hp t = look x.hp t := by
        intro b x; cases b
        · rfl
        · simp only [cond_true]; rw [look_appE, if_neg e]
      rw [h1, h1]; exact h

/-- One operation more: the state behind it. -/
theorem upd_next_get {S : Nat → Bool} {t j : Nat} {Ej : Eff} : ∀ {k : Nat} {Es : List Eff} {s : St}, k ≤ j → Es[j - k]? = some Ej → S j = false → (∀ i E, Es[i]? = some E → j < k + i → Ej.w t = true → E.w t = true → S (k + i) = false) →
    get (app Ej (upd S k Es s)).sl t = get (upd (fun i => S i || Nat.beq i j) k Es s).sl t
  | k, [], s, _, h, _, _ => by simp at h
  | k, E :: Es, s, hk, hE, hS, hw => by
    by_cases e : Ej.w t = true
    · rw [get_app, if_pos e]
      -- the value stays behind the later ones
      have later : ∀ (k : Nat) (Es : List Eff) (s : St), get s.sl t = Ej.v → (∀ i E, Es[i]? = some E → E.w t = true → (fun i => S i || Nat.beq i j) (k + i) = false) → get (upd (fun i => S i || Nat.beq i j) k Es s).sl t = Ej.v := by
        intro k Es
        induction Es generalizing k with
        | nil => intro s h _; exact h
        | cons E Es ih =>
          intro s h hw
          simp only [upd]
          refine ih (k + 1) _ ?_ (fun i E' hi hE' => by rw [Nat.add_assoc, Nat.add_comm 1 i]; exact hw (i + 1) E' (by simpa using hi) hE')
          by_cases e2 : E.w t = true
          · have := hw 0 E rfl e2
            simp only [Nat.add_zero] at this
            rw [this]; exact h
          · cases (S k || Nat.beq k j)
            · exact h
            · simp only [cond_true]; rw [get_app, if_neg e2]; exact h
      by_cases ek : k = j
      · subst ek
        simp only [Nat.sub_self] at hE
        simp at hE
        subst hE
        simp only [upd, Nat.beq_refl, Bool.or_true, cond_true]
        refine (later (k + 1) Es _ (by rw [get_app, if_pos e]) (fun i E' hi hE' => ?_)).symm
        have h1 := hw (i + 1) E' (by simpa using hi) (by omega) e hE'
        have h2 : Nat.beq (k + 1 + i) k = false := beq_ne (by omega)
        simp only [h2, Bool.or_false]
        rw [Nat.add_assoc, Nat.add_comm 1 i]; exact h1
      · simp only [upd]
        have hE' : Es[j - (k + 1)]? = some Ej := by
          rw [show j - k = (j - (k + 1)) + 1 from by omega] at hE
          simpa using hE
        have ih := upd_next_get (t := t) (k := k + 1) (Es := Es) (s := bif (S k || Nat.beq k j) then app E s else s) (by omega) hE' hS (fun i E' hi hj => by rw [Nat.add_assoc, Nat.add_comm 1 i]; exact hw (i + 1) E' (by simpa using hi) (by omega))
        rw [get_app, if_pos e] at ih
        exact ih
    · rw [get_app, if_neg e]
      refine upd_get rfl (fun i E' hi hE' => ?_)
      by_cases ei : k + i = j
      · exfalso
        have : (E :: Es)[j - k]? = some E' := by rw [show j - k = i from by omega]; exact hi
        rw [hE] at this
        obtain rfl := Option.some.inj this
        exact e hE'
      · simp [beq_ne ei]
theorem upd_next_look {S : Nat → Bool} {t j : Nat} {Ej : Eff} : ∀ {k : Nat} {Es : List Eff} {s : St}, k ≤ j → Es[j - k]? = some Ej → S j = false → (∀ i E, Es[i]? = some E → j < k + i → Ej.h t = true → E.h t = true → S (k + i) = false) →
    look (app Ej (upd S k Es s)).hp t = look (upd (fun i => S i || Nat.beq i j) k Es s).hp t
  | k, [], s, _, h, _, _ => by simp at h
  | k, E :: Es, s, hk, hE, hS, hw => by
    by_cases e : Ej.h t = true
    · rw [look_appE, if_pos e]
      have later : ∀ (k : Nat) (Es : List Eff) (s : St), look s.hp t = look Ej.hp t → (∀ i E, Es[i]? = some E → E.h t = true → (fun i => S i || Nat.beq i j) (k + i) = false) → look (upd (fun i => S i || Nat.beq i j) k Es s).hp t = look Ej.hp t := by
        intro k Es
        induction Es generalizing k with
        | nil => intro s h _; exact h
        | cons E Es ih =>
          intro s h hw
          simp only [upd]
          refine ih (k + 1) _ ?_ (fun i E' hi hE' => by rw [Nat.add_assoc, Nat.add_comm 1 i]; exact hw (i + 1) E' (by simpa using hi) hE')
          by_cases e2 : E.h t = true
          · have := hw 0 E rfl e2
            simp only [Nat.add_zero] at this
            rw [this]; exact h
          · cases (S k || Nat.beq k j)
            · exact h
            · simp only [cond_true]; rw [look_appE, if_neg e2]; exact h
      by_cases ek : k = j
      · subst ek
        simp only [Nat.sub_self] at hE
        simp at hE
        subst hE
        simp only [upd, Nat.beq_refl, Bool.or_true, cond_true]
        refine (later (k + 1) Es _ (by rw [look_appE, if_pos e]) (fun i E' hi hE' => ?_)).symm
        have h1 := hw (i + 1) E' (by simpa using hi) (by omega) e hE'
        have h2 : Nat.beq (k + 1 + i) k = false := beq_ne (by omega)
        simp only [h2, Bool.or_false]
        rw [Nat.add_assoc, Nat.add_comm 1 i]; exact h1
      · simp only [upd]
        have hE' : Es[j - (k + 1)]? = some Ej := by
          rw [show j - k = (j - (k + 1)) + 1 from by omega] at hE
          simpa using hE
        have ih := upd_next_look (t := t) (k := k + 1) (Es := Es) (s := bif (S k || Nat.beq k j) then app E s else s) (by omega) hE' hS (fun i E' hi hj => by rw [Nat.add_assoc, Nat.add_comm 1 i]; exact hw (i + 1) E' (by simpa using hi) (by omega))
        rw [look_appE, if_pos e] at ih
        exact ih
    · rw [look_appE, if_neg e]
      refine upd_look rfl (fun i E' hi hE' => ?_)
      by_cases ei : k + i = j
      · exfalso
        have : (E :: Es)[j - k]? = some E' := by rw [show j - k = i from by omega]; exact hi
        rw [hE] at this
        obtain rfl := Option.some.inj this
        exact e hE'
      · simp [beq_ne ei]

theorem blt_lt {a b : Nat} (h : Nat.blt a b = true) : a < b := by simpa using h
theorem lt_blt {a b : Nat} (h : a < b) : Nat.blt a b = true := by simpa using h

/-! ### The check -/

def memN : Nat → List Nat → Bool
  | _, [] => false
  | i, x :: r => Nat.beq i x || memN i r
theorem memN_iff {i : Nat} : ∀ {l : List Nat}, memN i l = true ↔ i ∈ l
  | [] => by simp [memN]
  | x :: r => by
    simp only [memN, Bool.or_eq_true, List.mem_cons, memN_iff (l := r)]
    constructor
    · rintro (h | h)
      · exact .inl (Nat.eq_of_beq_eq_true h)
      · exact .inr h
    · rintro (h | h)
      · exact .inl (by rw [h]; exact Nat.beq_refl x)
      · exact .inr h

/-- The operations that stand before each, through the binding edges. -/
def predRow (acc : List (List Nat)) : List Edge → List Nat
  | [] => []
  | e :: r => bif Region.binds .any e then e.on :: (acc.getD e.on [] ++ predRow acc r) else predRow acc r
def dedup : List Nat → List Nat
  | [] => []
  | x :: r => bif memN x r then dedup r else x :: dedup r
theorem dedup_mem {i : Nat} : ∀ {l : List Nat}, i ∈ dedup l → i ∈ l
  | [], h => by simp [dedup] at h
  | x :: r, h => by
    simp only [dedup] at h
    cases e : memN x r
    · rw [e] at h
      simp only [cond_false, List.mem_cons] at h
      rcases h with h | h
      · simp [h]
      · exact List.mem_cons_of_mem _ (dedup_mem h)
    · rw [e] at h
      exact List.mem_cons_of_mem _ (dedup_mem h)
def predGo (acc : List (List Nat)) : List Oper → List (List Nat)
  | [] => acc
  | o :: r => predGo (acc ++ [dedup (predRow acc o.after.toList)]) r
def preds (ops : List Oper) : List (List Nat) := predGo [] ops
def before (pr : List (List Nat)) (i j : Nat) : Bool := memN i (pr.getD j [])

def GoodP (ops : List Oper) (acc : List (List Nat)) : Prop := ∀ j i, i ∈ acc.getD j [] → ∃ o, ops[j]? = some o ∧ ∃ e ∈ o.after.toList, Region.binds .any e = true ∧ (e.on = i ∨ i ∈ acc.getD e.on [])

theorem predRow_spec {acc : List (List Nat)} {i : Nat} : ∀ {l : List Edge}, i ∈ predRow acc l → ∃ e ∈ l, Region.binds .any e = true ∧ (e.on = i ∨ i ∈ acc.getD e.on [])
  | [], h => by simp [predRow] at h
  | e :: r, h => by
    simp only [predRow] at h
    cases hb : Region.binds .any e
    · rw [hb] at h
      obtain ⟨e', h1, h2⟩ := predRow_spec (l := r) h
      exact ⟨e', by simp [h1], h2⟩
    · rw [hb] at h
      simp only [cond_true, List.mem_cons, List.mem_append] at h
      rcases h with h | h | h
      · exact ⟨e, by simp, hb, .inl h.symm⟩
      · exact ⟨e, by simp, hb, .inr h⟩
      · obtain ⟨e', h1, h2⟩ := predRow_spec (l := r) h
        exact ⟨e', by simp [h1], h2⟩

theorem predGo_good {ops : List Oper} : ∀ {r : List Oper} {acc : List (List Nat)}, GoodP ops acc → (∀ k, r[k]? = ops[acc.length + k]?) → GoodP ops (predGo acc r)
  | [], acc, h, _ => h
  | o :: r, acc, h, hr => by
    simp only [predGo]
    refine predGo_good ?_ (fun k => by
      have := hr (k + 1)
      simp only [List.length_append, List.length_cons, List.length_nil]
      rw [show acc.length + (0 + 1) + k = acc.length + (k + 1) from by omega]
      simpa using this)
    intro j i hi
    have grow : ∀ x y, y ∈ acc.getD x [] → y ∈ (acc ++ [dedup (predRow acc o.after.toList)]).getD x [] := by
      intro x y hy
      have hx : x < acc.length := by
        rcases Nat.lt_or_ge x acc.length with h | h
        · exact h
        · simp [List.getD_eq_getElem?_getD, List.getElem?_eq_none h] at hy
      simp only [List.getD_eq_getElem?_getD] at hy ⊢
      rw [List.getElem?_append_left hx]; exact hy
    by_cases hj : j < acc.length
    · have hi' : i ∈ acc.getD j [] := by
        simp only [List.getD_eq_getElem?_getD] at hi ⊢
        rwa [List.getElem?_append_left hj] at hi
      obtain ⟨o', h1, e, h2, h3, h4⟩ := h j i hi'
      exact ⟨o', h1, e, h2, h3, h4.imp id (grow _ _)⟩
    · by_cases hj2 : j = acc.length
      · subst hj2
        have hi' : i ∈ predRow acc o.after.toList := by
          refine dedup_mem ?_
          simpa [List.getD_eq_getElem?_getD] using hi
        obtain ⟨e, h2, h3, h4⟩ := predRow_spec hi'
        exact ⟨o, by have := hr 0; simpa using this.symm, e, h2, h3, h4.imp id (grow _ _)⟩
      · have : (acc ++ [dedup (predRow acc o.after.toList)])[j]? = none := List.getElem?_eq_none (by simp; omega)
        simp [List.getD_eq_getElem?_getD, this] at hi

theorem preds_good (ops : List Oper) : GoodP ops (preds ops) := predGo_good (fun j i h => by simp at h) (fun k => by simp)

/-- What the check knows of an operation: the slots that it looks at, the objects that it looks at, its effect. -/
structure Rec where
  looks : List Nat
  ids : List Nat
  E : Eff

def keys : Heap → List Nat
  | [] => []
  | (d, _) :: r => d :: keys r
theorem hasKey_iff {i : Nat} : ∀ {l : Heap}, hasKey l i = true ↔ i ∈ keys l
  | [] => by simp [hasKey, keys]
  | (d, v) :: r => by
    simp only [hasKey, keys, Bool.or_eq_true, List.mem_cons, hasKey_iff (l := r)]
    constructor
    · rintro (h | h)
      · exact .inl (Nat.eq_of_beq_eq_true h).symm
      · exact .inr h
    · rintro (h | h)
      · exact .inl (by rw [h]; exact Nat.beq_refl d)
      · exact .inr h

/-- Does a write something that b looks at or writes? -/
def hitB (a b : Rec) : Bool :=
  (match a.E.dst with | some d => memN d b.looks || b.E.w d | none => false) || (keys a.E.hp).any (fun i => memN i b.ids || b.E.h i)

theorem hit_slot {a b : Rec} {t : Nat} (h : a.E.w t = true) (hb : t ∈ b.looks ∨ b.E.w t = true) : hitB a b = true := by
  unfold Eff.w at h
  unfold hitB
  cases hd : a.E.dst with
  | none => rw [hd] at h; cases h
  | some d =>
    rw [hd] at h
    have : d = t := Nat.eq_of_beq_eq_true h
    subst this
    rcases hb with hb | hb
    · simp [memN_iff.2 hb]
    · simp [hb]
theorem hit_obj {a b : Rec} {i : Nat} (h : a.E.h i = true) (hb : i ∈ b.ids ∨ b.E.h i = true) : hitB a b = true := by
  unfold hitB
  have : (keys a.E.hp).any (fun i => memN i b.ids || b.E.h i) = true := by
    refine List.any_eq_true.2 ⟨i, hasKey_iff.1 h, ?_⟩
    rcases hb with hb | hb
    · simp [memN_iff.2 hb]
    · simp [hb]
  simp [this]

/-- Of two operations that meet, one stands before the other. -/
def apartB (pr : List (List Nat)) (k : Nat) (r : Rec) : Nat → List Rec → Bool
  | _, [] => true
  | j, x :: xs => (before pr k j || (!hitB r x && !hitB x r)) && apartB pr k r (j + 1) xs
def drawB (pr : List (List Nat)) : Nat → List Rec → Bool
  | _, [] => true
  | k, r :: rs => apartB pr k r (k + 1) rs && drawB pr (k + 1) rs

theorem apartB_spec {pr : List (List Nat)} {k : Nat} {r : Rec} : ∀ {j : Nat} {xs : List Rec}, apartB pr k r j xs = true → ∀ i x, xs[i]? = some x → (hitB r x = true ∨ hitB x r = true) → before pr k (j + i) = true
  | j, [], _, i, x, hx, _ => by simp at hx
  | j, y :: xs, h, i, x, hx, hh => by
    simp only [apartB, Bool.and_eq_true, Bool.or_eq_true, Bool.not_eq_true'] at h
    cases i with
    | zero =>
      simp at hx; subst hx
      rcases h.1 with h1 | ⟨h1, h2⟩
      · exact h1
      · rcases hh with hh | hh
        · rw [h1] at hh; cases hh
        · rw [h2] at hh; cases hh
    | succ i =>
      have := apartB_spec h.2 i x (by simpa using hx) hh
      rw [show j + (i + 1) = j + 1 + i from by omega]; exact this
theorem drawB_spec {pr : List (List Nat)} : ∀ {k : Nat} {rs : List Rec}, drawB pr k rs = true → ∀ i j a b, i < j → rs[i]? = some a → rs[j]? = some b → (hitB a b = true ∨ hitB b a = true) → before pr (k + i) (k + j) = true
  | k, [], _, i, j, a, b, _, ha, _, _ => by simp at ha
  | k, r :: rs, h, i, j, a, b, hij, ha, hb, hh => by
    simp only [drawB, Bool.and_eq_true] at h
    cases i with
    | zero =>
      simp at ha; subst ha
      obtain ⟨j', rfl⟩ : ∃ j', j = j' + 1 := ⟨j - 1, by omega⟩
      have := apartB_spec h.1 j' b (by simpa using hb) hh
      rw [show k + (j' + 1) = k + 1 + j' from by omega]; exact this
    | succ i =>
      obtain ⟨j', rfl⟩ : ∃ j', j = j' + 1 := ⟨j - 1, by omega⟩
      have := drawB_spec h.2 i j' a b (by omega) (by simpa using ha) (by simpa using hb) hh
      rw [show k + (i + 1) = k + 1 + i from by omega, show k + (j' + 1) = k + 1 + j' from by omega]; exact this

/-- No object is made anew twice. -/
def bumps : List Rec → List Nat
  | [] => []
  | r :: rs => match r.E.bump with | some b => b.1 :: bumps rs | none => bumps rs
def nodupB : List Nat → Bool
  | [] => true
  | x :: r => !memN x r && nodupB r
theorem bumps_mem {i : Nat} {r : Rec} {b : Nat × Nat} : ∀ {rs : List Rec}, rs[i]? = some r → r.E.bump = some b → b.1 ∈ bumps rs
  | [], h, _ => by simp at h
  | x :: rs, h, hb => by
    cases i with
    | zero => simp at h; subst h; simp [bumps, hb]
    | succ i =>
      have := bumps_mem (i := i) (rs := rs) (by simpa using h) hb
      simp only [bumps]
      split
      · exact List.mem_cons_of_mem _ this
      · exact this
theorem bumps_apart : ∀ {rs : List Rec} {i j : Nat} {a b : Rec} {x y : Nat × Nat}, nodupB (bumps rs) = true → i < j → rs[i]? = some a → rs[j]? = some b → a.E.bump = some x → b.E.bump = some y → x.1 ≠ y.1
  | [], i, j, a, b, x, y, _, _, ha, _, _, _ => by simp at ha
  | r :: rs, i, j, a, b, x, y, h, hij, ha, hb, hx, hy => by
    obtain ⟨j', rfl⟩ : ∃ j', j = j' + 1 := ⟨j - 1, by omega⟩
    have hb' : rs[j']? = some b := by simpa using hb
    cases i with
    | zero =>
      simp at ha; subst ha
      simp only [bumps, hx, nodupB, Bool.and_eq_true, Bool.not_eq_true'] at h
      intro e
      have := memN_iff.2 (bumps_mem hb' hy)
      rw [← e, h.1] at this; cases this
    | succ i =>
      refine bumps_apart (rs := rs) (i := i) (j := j') ?_ (by omega) (by simpa using ha) hb' hx hy
      simp only [bumps] at h
      split at h
      · simp only [nodupB, Bool.and_eq_true] at h; exact h.2
      · exact h

/-- Every binding edge leads back. -/
def backB : Nat → List Oper → Bool
  | _, [] => true
  | k, o :: r => o.after.toList.all (fun e => !Region.binds .any e || Nat.blt e.on k) && backB (k + 1) r
theorem backB_spec : ∀ {k : Nat} {l : List Oper}, backB k l = true → ∀ j o, l[j]? = some o → ∀ e ∈ o.after.toList, Region.binds .any e = true → e.on < k + j
  | k, [], _, j, o, h, _, _, _ => by simp at h
  | k, x :: l, h, j, o, ho, e, he, hb => by
    simp only [backB, Bool.and_eq_true, List.all_eq_true] at h
    cases j with
    | zero =>
      simp at ho; subst ho
      have := h.1 e he
      simpa [hb] using this
    | succ j =>
      have := backB_spec h.2 j o (by simpa using ho) e he hb
      omega

/-! ### The walk in the order of the text -/

section
variable {C : Ctx} {all : Array Oper} {vf : Nat → Nat}

inductive Chain (C : Ctx) (all : Array Oper) (vf : Nat → Nat) : List Oper → St → List Rec → St → Prop
  | nil (s : St) : Chain C all vf [] s [] s
  | cons {o : Oper} {l : List Oper} {s s' : St} {ids : List Nat} {E : Eff} {rs : List Rec} (hJ : OpJ C all o s ids E) (hb : ∀ b, E.bump = some b → b.2 = vf b.1) (h : Chain C all vf l (app E s) rs s') : Chain C all vf (o :: l) s (⟨o.looksAt all, ids, E⟩ :: rs) s'

theorem upd_all_false {S : Nat → Bool} : ∀ {k : Nat} {Es : List Eff} {s : St}, (∀ i, k ≤ i → S i = false) → upd S k Es s = s
  | k, [], s, _ => rfl
  | k, E :: Es, s, h => by
    simp only [upd, h k (Nat.le_refl _), cond_false]
    exact upd_all_false fun i hi => h i (by omega)

theorem Chain.len {l : List Oper} {s s' : St} {rs : List Rec} (h : Chain C all vf l s rs s') : rs.length = l.length := by
  induction h with
  | nil => rfl
  | cons _ _ _ ih => simp [ih]

theorem Chain.last {l : List Oper} {s s' : St} {rs : List Rec} (h : Chain C all vf l s rs s') : ∀ {S : Nat → Bool} {k : Nat}, (∀ i, k ≤ i → S i = true) → upd S k (rs.map (·.E)) s = s' := by
  induction h with
  | nil s => intro S k _; rfl
  | cons _ _ _ ih =>
    intro S k hS
    simp only [List.map_cons, upd, hS k (Nat.le_refl _), cond_true]
    exact ih fun i hi => hS i (by omega)

theorem Chain.get {l : List Oper} {s s' : St} {rs : List Rec} (h : Chain C all vf l s rs s') : ∀ {k j : Nat} {r : Rec}, rs[j]? = some r → ∃ o, l[j]? = some o ∧ r.looks = o.looksAt all ∧ (∀ b, r.E.bump = some b → b.2 = vf b.1) ∧ OpJ C all o (upd (fun i => Nat.blt i (k + j)) k (rs.map (·.E)) s) r.ids r.E := by
  induction h with
  | nil s => intro k j r hr; simp at hr
  | @cons o l s s' ids E rs hJ hb h ih =>
    intro k j r hr
    cases j with
    | zero =>
      simp at hr; subst hr
      refine ⟨o, rfl, rfl, hb, ?_⟩
      have : upd (fun i => Nat.blt i (k + 0)) k (List.map (·.E) (⟨o.looksAt all, ids, E⟩ :: rs)) s = s := upd_all_false fun i hi => by
        simp only [Nat.add_zero]
        cases e : Nat.blt i k
        · rfl
        · have := blt_lt e; omega
      rw [this]; exact hJ
    | succ j =>
      obtain ⟨o', h1, h2, h3, h4⟩ := ih (k := k + 1) (j := j) (r := r) (by simpa using hr)
      refine ⟨o', by simpa using h1, h2, h3, ?_⟩
      have e : Nat.blt k (k + (j + 1)) = true := lt_blt (by omega)
      simp only [List.map_cons, upd, e, cond_true]
      rw [show k + (j + 1) = k + 1 + j from by omega]; exact h4

def left (S : Nat → Bool) : Nat → Nat
  | 0 => 0
  | n + 1 => left S n + (bif S n then 0 else 1)
theorem left_zero {S : Nat → Bool} : ∀ {n : Nat}, left S n = 0 → ∀ i, i < n → S i = true
  | 0, _, i, hi => by omega
  | n + 1, h, i, hi => by
    simp only [left] at h
    cases e : S n
    · rw [e] at h; simp at h
    · by_cases e2 : i = n
      · rw [e2]; exact e
      · exact left_zero (n := n) (by omega) i (by omega)
theorem left_same {S S' : Nat → Bool} : ∀ {n : Nat}, (∀ i, i < n → S i = S' i) → left S n = left S' n
  | 0, _ => rfl
  | n + 1, h => by simp only [left, h n (Nat.lt_succ_self n), left_same (n := n) fun i hi => h i (by omega)]
theorem left_next {S : Nat → Bool} {j : Nat} : ∀ {n : Nat}, j < n → S j = false → left (fun i => S i || Nat.beq i j) n + 1 = left S n
  | 0, h, _ => by omega
  | n + 1, h, hS => by
    simp only [left]
    by_cases e : j = n
    · subst e
      have : left (fun i => S i || Nat.beq i j) j = left S j := left_same fun i hi => by simp [beq_ne (show i ≠ j by omega)]
      simp [this, hS]
    · have := left_next (n := n) (by omega) hS
      rw [beq_ne (show n ≠ j from fun h => e h.symm), Bool.or_false]
      omega

theorem Rel.same {s s' : St} {a : Act} {w : World} {g : Gh} (h : Rel C a w s g) (hs : Same s s') : Rel C a w s' g := by
  have hk : ∀ i io, look s'.hp i = some io → look s.hp i = some io := fun i io hi => by rw [hs.2]; exact hi
  refine ⟨h.size, h.defers, h.hr.weaken hk, fun t => ?_⟩
  rw [← hs.1]
  exact (h.slots t).fits ⟨fun _ => Nat.le_refl _, fun _ _ => rfl, fun _ _ => rfl, fun _ _ => rfl, fun _ hb => hb.mono hk, fun _ _ => rfl⟩

theorem any_order {l : List Oper} {s s' : St} {rs : List Rec} (hc : Chain C l.toArray vf l s rs s') (hd : drawB (preds l) 0 rs = true) (hn : nodupB (bumps rs) = true) (hbk : backB 0 l = true) (hok : okDst C.n l = true) {Q : Exit → Act → World → Prop} (hQ : ∀ a w g, Rel C a w s' g → Q .normal a w) :
    ∀ (fuel : Nat) (listed : Array Bool) (a : Act) (w : World) (σ : St) (g : Gh), listed.size = l.length → left (fun i => listed.getD i false) l.length ≤ fuel →
      (∀ j i, listed.getD j false = true → before (preds l) i j = true → listed.getD i false = true) → Rel C a w σ g → Same σ (upd (fun i => listed.getD i false) 0 (rs.map (·.E)) s) →
      (∀ (i : Nat) (r : Rec) (b : Nat × Nat), rs[i]? = some r → r.E.bump = some b → listed.getD i false = false → b.2 = g.cur b.1 + 1) → wpAny C.P .any l.toArray Q fuel listed a w := by
  have hlen := hc.len
  have hpre : ∀ (listed : Array Bool), (∀ j i, listed.getD j false = true → before (preds l) i j = true → listed.getD i false = true) → ∀ j o, l[j]? = some o → (∀ e ∈ o.after, Region.binds .any e = true → listed.getD e.on false = true) → ∀ i, before (preds l) i j = true → listed.getD i false = true := by
    intro listed hcl j o ho hall i hb
    obtain ⟨o', h1, e, h2, h3, h4⟩ := preds_good l j i (memN_iff.1 hb)
    rw [ho] at h1; obtain rfl := Option.some.inj h1
    have he := hall e (by simpa using h2) h3
    rcases h4 with h4 | h4
    · rw [← h4]; exact he
    · exact hcl e.on i he (memN_iff.2 h4)
  have hfin : ∀ (listed : Array Bool) (a : Act) (w : World) (σ : St) (g : Gh), (∀ i, i < l.length → listed.getD i false = true) → Rel C a w σ g → Same σ (upd (fun i => listed.getD i false) 0 (rs.map (·.E)) s) → Q .normal a w := by
    intro listed a w σ g hall hr hs
    refine hQ a w g (hr.same (hs.trans ?_))
    have := hc.last (S := fun _ => true) (k := 0) (fun _ _ => rfl)
    rw [← this]
    have hlt : ∀ i E, (rs.map (·.E))[i]? = some E → i < l.length := fun i E hi => by rw [← hlen]; have := (List.getElem?_eq_some_iff.1 hi).1; simpa using this
    exact ⟨fun t => upd_get rfl (fun i E hi _ => by simp only [Nat.zero_add]; exact hall i (hlt i E hi)), fun t => upd_look rfl (fun i E hi _ => by simp only [Nat.zero_add]; exact hall i (hlt i E hi))⟩
  intro fuel
  induction fuel with
  | zero =>
    intro listed a w σ g hsz hleft hcl hr hs hv
    have hall := left_zero (Nat.le_zero.1 hleft)
    refine ⟨?_, hfin listed a w σ g hall hr hs⟩
    rw [List.eq_nil_iff_forall_not_mem]
    intro j hj
    rw [mem_ready] at hj
    obtain ⟨h0, o, ho, _⟩ := hj
    have hjl : j < l.length := by have := (List.getElem?_eq_some_iff.1 (show l[j]? = some o by simpa using ho)).1; exact this
    have h1 := hall j hjl
    simp [Array.getD_eq_getD_getElem?, hsz, hjl] at h0 h1
    rw [h0] at h1; cases h1
  | succ fuel ih =>
    intro listed a w σ g hsz hleft hcl hr hs hv
    refine ⟨fun hready => ?_, fun j hj => ?_⟩
    · refine hfin listed a w σ g ?_ hr hs
      intro i
      induction i using Nat.strongRecOn with
      | _ i ihi =>
        intro hi
        cases e : listed.getD i false
        · exfalso
          have : i ∈ Region.ready .any l.toArray listed := by
            rw [mem_ready]
            refine ⟨by simp [Array.getD_eq_getD_getElem?, hsz, hi] at e ⊢; exact e, l[i], by simp [hi], fun e' he' hb => ?_⟩
            have := backB_spec hbk i l[i] (by simp [hi]) e' (by simpa using he') hb
            exact ihi e'.on (by omega) (by omega)
          rw [hready] at this; cases this
        · rfl
    · rw [mem_ready] at hj
      obtain ⟨h0, o, ho, hall⟩ := hj
      have ho' : l[j]? = some o := by simpa using ho
      have hjl : j < l.length := (List.getElem?_eq_some_iff.1 ho').1
      have hSj : listed.getD j false = false := by
        simp [Array.getD_eq_getD_getElem?, hsz, hjl] at h0 ⊢; exact h0
      have hpj := hpre listed hcl j o ho' hall
      have hrj : rs[j]? = some rs[j] := by simp [hlen, hjl]
      obtain ⟨o2, k1, k2, k3, k4⟩ := hc.get (k := 0) hrj
      rw [ho'] at k1; obtain rfl := Option.some.inj k1
      simp only [Nat.zero_add] at k4
      have hEs : ∀ (i : Nat) (E : Eff), (rs.map (·.E))[i]? = some E → ∃ r : Rec, rs[i]? = some r ∧ r.E = E := fun i E hi => by
        rw [List.getElem?_map] at hi
        cases hri : rs[i]? with
        | none => rw [hri] at hi; simp at hi
        | some r => rw [hri] at hi; simp at hi; exact ⟨r, rfl, hi⟩
      -- who writes what j looks at has run if it stands before, and has not if it stands behind
      have hside : ∀ (i : Nat) (r : Rec), rs[i]? = some r → (hitB r rs[j] = true ∨ (i ≠ j ∧ hitB rs[j] r = true)) → listed.getD i false = Nat.blt i j := by
        intro i r hri hh
        rcases Nat.lt_trichotomy i j with h | h | h
        · have := drawB_spec hd i j r rs[j] h hri hrj (hh.imp id (·.2))
          simp only [Nat.zero_add] at this
          rw [hpj i this, lt_blt h]
        · subst h
          rw [hSj]
          cases e : Nat.blt i i
          · rfl
          · have := blt_lt e; omega
        · have := drawB_spec hd j i rs[j] r h hrj hri (hh.symm.imp (·.2) id)
          simp only [Nat.zero_add] at this
          have h2 : Nat.blt i j = false := by
            cases e : Nat.blt i j
            · rfl
            · have := blt_lt e; omega
          rw [h2]
          cases e : listed.getD i false
          · rfl
          · have := hcl i j e this
            rw [hSj] at this; cases this
      have hagree : Agree l.toArray o rs[j].ids (upd (fun i => Nat.blt i j) 0 (rs.map (·.E)) s) σ := by
        constructor
        · intro t ht
          rw [hs.1 t]
          refine upd_get rfl (fun i E hi hw => ?_)
          obtain ⟨r, hri, rfl⟩ := hEs i E hi
          simp only [Nat.zero_add]
          exact hside i r hri (.inl (hit_slot hw (.inl (by rw [k2]; exact ht))))
        · intro t ht
          rw [hs.2 t]
          refine upd_look rfl (fun i E hi hw => ?_)
          obtain ⟨r, hri, rfl⟩ := hEs i E hi
          simp only [Nat.zero_add]
          exact hside i r hri (.inl (hit_obj hw (.inl ht)))
      have hdst : ∀ d, o.dst = some d → d < C.n := by
        have : ∀ {l : List Oper} {j : Nat}, okDst C.n l = true → l[j]? = some o → ∀ d, o.dst = some d → d < C.n := by
          intro l
          induction l with
          | nil => intro j _ h; simp at h
          | cons x l ih =>
            intro j h hj
            cases j with
            | zero => simp at hj; subst hj; exact okDst_head h
            | succ j => exact ih (okDst_tail h) (by simpa using hj)
        exact this hok ho'
      have key := k4 σ hagree hdst a w g hr (fun b hb => hv j rs[j] b hrj hb hSj) (wpAny C.P .any l.toArray Q fuel (listed.setIfInBounds j true)) Q (fun a' w' g' hr' hcur => by
        have hS' : ∀ i, (listed.setIfInBounds j true).getD i false = (listed.getD i false || Nat.beq i j) := by
          intro i
          by_cases e : i = j
          · subst e; simp [Array.getD_eq_getD_getElem?, hsz, hjl]
          · rw [getD_set_ne false (fun h => e h.symm), beq_ne e, Bool.or_false]
        have hfun : (fun i => (listed.setIfInBounds j true).getD i false) = (fun i => listed.getD i false || Nat.beq i j) := funext hS'
        refine ih _ a' w' (app rs[j].E σ) g' (by simpa using hsz) ?_ ?_ hr' ?_ ?_
        · rw [hfun]
          have := left_next (S := fun i => listed.getD i false) (n := l.length) hjl hSj
          omega
        · intro j' i h1 h2
          rw [hS'] at h1 ⊢
          simp only [Bool.or_eq_true] at h1 ⊢
          left
          rcases h1 with h1 | h1
          · exact hcl j' i h1 h2
          · have := Nat.eq_of_beq_eq_true h1
            subst this
            exact hpj i h2
        · rw [hfun]
          refine (hs.app rs[j].E).trans ?_
          have hE' : (rs.map (·.E))[j - 0]? = some rs[j].E := by simp [hrj]
          refine ⟨fun t => upd_next_get (Nat.zero_le j) hE' hSj (fun i E hi hlt h1 h2 => ?_), fun t => upd_next_look (Nat.zero_le j) hE' hSj (fun i E hi hlt h1 h2 => ?_)⟩
          · obtain ⟨r, hri, rfl⟩ := hEs i E hi
            simp only [Nat.zero_add] at hlt ⊢
            rw [hside i r hri (.inr ⟨by omega, hit_slot h1 (.inr h2)⟩)]
            cases e : Nat.blt i j
            · rfl
            · have := blt_lt e; omega
          · obtain ⟨r, hri, rfl⟩ := hEs i E hi
            simp only [Nat.zero_add] at hlt ⊢
            rw [hside i r hri (.inr ⟨by omega, hit_obj h1 (.inr h2)⟩)]
            cases e : Nat.blt i j
            · rfl
            · have := blt_lt e; omega
        · intro i r b hri hb hSi
          rw [hS'] at hSi
          simp only [Bool.or_eq_false_iff] at hSi
          have hij : i ≠ j := fun e => by subst e; simp at hSi
          rw [hcur b.1 (fun b' hb' => ?_)]
          · exact hv i r b hri hb hSi.1
          · rcases Nat.lt_or_gt_of_ne hij with h | h
            · exact bumps_apart hn h hri hrj hb hb'
            · exact (bumps_apart hn h hrj hri hb' hb).symm)
      unfold wpOp
      have ho3 : l.toArray[j]? = some o := ho
      rw [ho3]
      unfold opWp at key
      exact key
end

/-- What is still to walk, and what has been walked. -/
def Drw (C : Ctx) (l0 : List Oper) (vf : Nat → Nat) (K : St → Prop) (l : List Oper) (s : St) (acc : List Rec) : Prop :=
  ∃ rs s', Chain C l0.toArray vf l s rs s' ∧ drawB (preds l0) 0 (acc ++ rs) = true ∧ nodupB (bumps (acc ++ rs)) = true ∧ K s'

section
variable {C : Ctx} {l0 : List Oper} {vf : Nat → Nat} {K : St → Prop} {l : List Oper} {s : St} {acc : List Rec} {o : Oper} {ids : List Nat} {E : Eff}

theorem d_nil (h : drawB (preds l0) 0 acc = true) (hn : nodupB (bumps acc) = true) (hK : K s) : Drw C l0 vf K [] s acc := ⟨[], s, .nil s, by simpa using h, by simpa using hn, hK⟩
theorem d_cons (hb : ∀ b, E.bump = some b → b.2 = vf b.1) (hJ : OpJ C l0.toArray o s ids E) (h : Drw C l0 vf K l (app E s) (acc ++ [⟨o.looksAt l0.toArray, ids, E⟩])) : Drw C l0 vf K (o :: l) s acc := by
  obtain ⟨rs, s', h1, h2, h3, h4⟩ := h
  refine ⟨_, s', .cons hJ hb h1, ?_, ?_, h4⟩
  · simpa using h2
  · simpa using h3
theorem d_v {d : Nat} {v : V} (hJ : OpJ C l0.toArray o s ids (EV d v)) (h : Drw C l0 vf K l ⟨(d, v) :: s.sl, s.hp⟩ (acc ++ [⟨o.looksAt l0.toArray, ids, EV d v⟩])) : Drw C l0 vf K (o :: l) s acc := d_cons (fun b hb => by cases hb) hJ h
theorem d_s {id ver : Nat} {ob : Obj} (hJ : OpJ C l0.toArray o s ids (ES id ver ob)) (h : Drw C l0 vf K l ⟨s.sl, (id, some (ver, ob)) :: s.hp⟩ (acc ++ [⟨o.looksAt l0.toArray, ids, ES id ver ob⟩])) : Drw C l0 vf K (o :: l) s acc := d_cons (fun b hb => by cases hb) hJ h
theorem d_n {d id : Nat} {v : Nat → V} {ob : Obj} (hJ : ∀ ver, OpJ C l0.toArray o s ids (EN d (v ver) id ver ob)) (h : Drw C l0 vf K l ⟨(d, v (vf id)) :: s.sl, (id, some (vf id, ob)) :: s.hp⟩ (acc ++ [⟨o.looksAt l0.toArray, ids, EN d (v (vf id)) id (vf id) ob⟩])) : Drw C l0 vf K (o :: l) s acc := d_cons (fun b hb => by cases hb; rfl) (hJ _) h

theorem a_draw {id : Nat} {Q : Exit → St → Prop} (hm : C.P.follows .mixedOrders = true) (hok : okDst C.n l = true) (hbk : backB 0 l = true) (h : ∀ vf, Drw C l vf (fun s => Q .normal s) l s []) : AWp C (.region id l.toArray true) Q s := by
  intro a w g hr
  obtain ⟨rs, s', h1, h2, h3, h4⟩ := h (fun d => g.cur d + 1)
  refine wp_region_any hm ?_
  have hr' : Rel C a { w with drawn := w.drawn + 1 } s g := by
    refine hr.mem (w' := { w with drawn := w.drawn + 1 }) (g' := g) ?_ ⟨fun _ => Nat.le_refl _, fun _ _ => rfl, fun _ _ => rfl, fun _ _ => rfl, fun _ hb => hb, fun _ _ => rfl⟩
    exact ⟨⟨hr.hr.ext.os, hr.hr.ext.tape, hr.hr.ext.output, hr.hr.ext.size, hr.hr.ext.old⟩, hr.hr.wf, hr.hr.lnk, hr.hr.dis, hr.hr.cur, hr.hr.blk, fun i ver o hi => OR.fits (w := w) (X := XX C s.hp g w) (X' := XX C s.hp g { w with drawn := w.drawn + 1 }) (w' := { w with drawn := w.drawn + 1 }) ⟨fun _ => Nat.le_refl _, fun _ _ => rfl, fun _ _ => rfl, fun _ _ => rfl, fun _ hb => hb, fun _ _ => rfl⟩ rfl rfl (fun _ _ => rfl) (hr.hr.obj i ver o hi)⟩
  refine any_order h1 (by simpa using h2) (by simpa using h3) hbk hok (fun a w g hr => ⟨s', g, hr, h4⟩) _ _ a _ s g (by simp) ?_ ?_ hr' ?_ ?_
  · have : ∀ n, left (fun i => (Array.replicate l.toArray.size false).getD i false) n ≤ n := by
      intro n
      induction n with
      | zero => exact Nat.le_refl _
      | succ n ih =>
        simp only [left]
        cases (Array.replicate l.toArray.size false).getD n false
        · simp only [cond_false]; omega
        · simp only [cond_true]; omega
    simpa using this l.length
  · intro j i hj _
    have : (Array.replicate l.toArray.size false).getD j false = false := by
      simp [Array.getD_eq_getD_getElem?, Array.getElem?_replicate]; split <;> simp
    rw [this] at hj; cases hj
  · have : upd (fun i => (Array.replicate l.toArray.size false).getD i false) 0 (rs.map (·.E)) s = s := upd_all_false fun i _ => by
      simp [Array.getD_eq_getD_getElem?, Array.getElem?_replicate]; split <;> simp
    rw [this]; exact Same.refl s
  · intro i r b hri hb _
    obtain ⟨o, _, _, h5, _⟩ := h1.get (k := 0) hri
    exact h5 b hb
end
end Go.Ab

/- Listings: what is found are pairwise different, satisfy the problem, and leave nothing out. -/
import Derived.Test.YtoodaakcfelaaaaLs
import Derived.Test.YtoodaakcfelaaaaCp
import Derived.Test.YtoodaakcfelaaaaSimp
set_option autoImplicit false
set_option linter.unusedSimpArgs false
set_option linter.unusedVariables false
namespace Go.Ab
theorem satV_app {a b : List Con} {bs : List Bool} : satV (a ++ b) bs = (satV a bs && satV b bs) := by unfold satV; rw [List.all_append]
theorem satV_mem {l : List Con} {bs : List Bool} (h : satV l bs = true) {c : Con} (hc : c ∈ l) : holdsV c bs = true := by unfold satV at h; exact List.all_eq_true.1 h c hc
/-- Reverse unit propagation is sound. -/
theorem rup_sound {l : List Con} {c : Con} (hl : l.all cOk = true) (hc : cOk c = true) (h : rupV l c = true) {bs : List Bool} (hs : satV l bs = true) : holdsV c bs = true := by
  refine Classical.not_not.1 fun hn => ?_
  have hh : holdsV (negC c) bs = true := by rw [holds_neg hc]; simpa using hn
  have hl2 : (l ++ [negC c]).all cOk = true := by rw [List.all_append, hl]; simp [negC_ok hc]
  have hs2 : satV (l ++ [negC c]) bs = true := by rw [satV_app, hs, satV_one, hh]; rfl
  have h3 := (prop_ag hl2 hs2 (p := zeroP) (Nat.le_refl _) zero_ok (fun m _ h => by rw [stV_zeroP] at h; cases h)).1
  unfold rupV at h
  rw [decide_eq_true_eq] at h
  omega
/-- What a chain of such steps learns follows. -/
theorem chain_sound {l S : List Con} (ho : (l ++ S).all cOk = true) (hr : ∀ k, k < S.length → rupV (l ++ S.take k) (S.getD k default) = true) {bs : List Bool} (hs : satV l bs = true) : ∀ k, k ≤ S.length → satV (l ++ S.take k) bs = true
  | 0, _ => by simpa using hs
  | k + 1, hk => by
    have ih := chain_sound ho hr hs k (by omega)
    rw [List.all_append, Bool.and_eq_true] at ho
    have hm : S.getD k default ∈ S := by rw [List.getD_eq_getElem?_getD, List.getElem?_eq_getElem (by omega)]; exact List.getElem_mem _
    have hk2 : (l ++ S.take k).all cOk = true := by
      rw [List.all_append, ho.1, Bool.true_and]
      exact List.all_eq_true.2 fun c hc => List.all_eq_true.1 ho.2 c (List.take_subset _ _ hc)
    rw [take_succD (d := default) (by omega), ← List.append_assoc, satV_app, ih, satV_one, rup_sound hk2 (List.all_eq_true.1 ho.2 _ hm) (hr k (by omega)) ih]; rfl
theorem cle_nil {bs : List Bool} : holdsV (cle []) bs = false := rfl
theorem sv_uns {l : List Con} {fu : Int} (h : svC l fu = 2) {bs : List Bool} : satV l bs = false := by
  have ho : svOk l fu = true := by
    cases hq : svOk l fu
    · have := (sv_bad hq).1; omega
    · rfl
  have g := sv_good ho
  rw [(sv_ok ho).1] at h
  refine Classical.byContradiction fun hn => ?_
  have hs : satV l bs = true := by simpa using hn
  have h1 := chain_sound g.ok (fun k hk => g.rup k (by simp) hk) hs _ (Nat.le_refl _)
  rw [List.take_length] at h1
  have h2 := satV_mem h1 (List.mem_append_right _ (g.uns h))
  rw [cle_nil] at h2; cases h2
theorem sv_sat {l : List Con} {fu : Int} (h : svC l fu = 1) : (svV l fu).length = 12 ∧ satV l (svV l fu) = true := by
  have ho : svOk l fu = true := by
    cases hq : svOk l fu
    · have := (sv_bad hq).1; omega
    · rfl
  exact ls_val ho h
/-- A listing that leaves nothing out. -/
def chn (vs : List Int) : List Con → List (List Bool) → Prop
  | L, [] => ∀ bs : List Bool, bs.length = 12 → satV L bs = false
  | L, b :: g => b.length = 12 ∧ satV L b = true ∧ chn vs (L ++ [lsX vs b]) g
theorem lsN_chn {vs : List Int} {fu : Int} : ∀ {n : Nat} {L : List Con} {f : List (List Bool)}, (lsN vs fu n L f).1 = 2 → ∃ g, (lsN vs fu n L f).2.1 = f ++ g ∧ chn vs L g
  | 0, L, f, h => by simp [lsN] at h
  | n + 1, L, f, h => by
    rw [lsN] at h ⊢
    by_cases h1 : svC L fu = 2
    · rw [if_pos h1]; exact ⟨[], by simp, fun bs _ => sv_uns h1⟩
    · rw [if_neg h1] at h ⊢
      by_cases h2 : svC L fu ≠ 1 ∨ f.length = 64
      · rw [if_pos h2] at h; cases h
      · rw [if_neg h2] at h ⊢
        obtain ⟨g, g1, g2⟩ := lsN_chn h
        have hs := sv_sat (l := L) (fu := fu) (by omega)
        exact ⟨svV L fu :: g, by rw [g1, List.append_assoc]; rfl, hs.1, hs.2, g2⟩
theorem ls_chn {l : List Con} {vs : List Int} {fu : Int} (h : (lsV l vs fu).1 = 2) : lsOk l vs fu = true ∧ chn vs l (lsV l vs fu).2.1 := by
  have ho : lsOk l vs fu = true := by
    cases hq : lsOk l vs fu
    · rw [ls_bad hq] at h; cases h
    · rfl
  rw [ls_ok ho] at h ⊢
  obtain ⟨g, g1, g2⟩ := lsN_chn h
  exact ⟨ho, by rw [g1]; simpa using g2⟩
theorem lsX_holds {vs : List Int} {b bs : List Bool} (h : ∀ v ∈ vs, 1 ≤ v) : holdsV (lsX vs b) bs = diffV vs b bs := by
  have := (sum_ex (bs := b) (os := bs) h).2
  unfold holdsV lsX
  cases hd : diffV vs b bs
  · rw [hd] at this; exact decide_eq_false (fun h => by cases this.1 h)
  · rw [hd] at this; exact decide_eq_true (this.2 rfl)
theorem chn_sat {vs : List Int} : ∀ {g : List (List Bool)} {L : List Con}, chn vs L g → ∀ b ∈ g, b.length = 12 ∧ satV L b = true
  | [], _, _, b, hb => by cases hb
  | a :: g, L, h, b, hb => by
    rcases List.mem_cons.1 hb with e | e
    · subst e; exact ⟨h.1, h.2.1⟩
    · have := chn_sat h.2.2 b e
      rw [satV_app, Bool.and_eq_true] at this
      exact ⟨this.1, this.2.1⟩
theorem chn_apart {vs : List Int} (hv : ∀ v ∈ vs, 1 ≤ v) : ∀ {g : List (List Bool)} {L : List Con}, chn vs L g → g.Pairwise (fun a b => diffV vs a b = true)
  | [], _, _ => List.Pairwise.nil
  | a :: g, L, h => by
    refine List.Pairwise.cons (fun b hb => ?_) (chn_apart hv h.2.2)
    have := (chn_sat h.2.2 b hb).2
    rw [satV_app, Bool.and_eq_true, satV_one, lsX_holds hv] at this
    exact this.2
theorem chn_all {vs : List Int} (hv : ∀ v ∈ vs, 1 ≤ v) : ∀ {g : List (List Bool)} {L : List Con}, chn vs L g → ∀ bs : List Bool, bs.length = 12 → satV L bs = true → ∃ b ∈ g, diffV vs b bs = false
  | [], _, h, bs, hl, hs => by rw [h bs hl] at hs; cases hs
  | a :: g, L, h, bs, hl, hs => by
    cases hd : diffV vs a bs
    · exact ⟨a, by simp, hd⟩
    · obtain ⟨b, b1, b2⟩ := chn_all hv h.2.2 bs hl (by rw [satV_app, hs, satV_one, lsX_holds hv, hd]; rfl)
      exact ⟨b, by simp [b1], b2⟩
theorem diffV_false {vs : List Int} {b bs : List Bool} : diffV vs b bs = false ↔ ∀ v ∈ vs, b.getD (v - 1).toNat default = bs.getD (v - 1).toNat default := by
  unfold diffV
  rw [List.any_eq_false]
  simp
/-- Equal keys are equal values. -/
theorem keyI_snoc {bs : List Bool} {vs : List Int} {v : Int} : keyI bs (vs ++ [v]) = keyI bs vs * 2 + b2i (bs.getD (v - 1).toNat default) := by unfold keyI; rw [List.foldl_append]; rfl
theorem b2i_rng (b : Bool) : 0 ≤ b2i b ∧ b2i b ≤ 1 := by cases b <;> decide
theorem b2i_inj {a b : Bool} (h : b2i a = b2i b) : a = b := by cases a <;> cases b <;> simp_all [b2i]
theorem key_diff {b bs : List Bool} : ∀ {n : Nat} {vs : List Int}, vs.length = n → (keyI b vs = keyI bs vs ↔ diffV vs b bs = false)
  | 0, vs, hn => by obtain rfl := List.eq_nil_of_length_eq_zero hn; simp [keyI, diffV]
  | n + 1, vs, hn => by
    obtain ⟨w, v, rfl⟩ : ∃ w v, vs = w ++ [v] := by
      rcases List.eq_nil_or_concat vs with h0 | ⟨w, v, h0⟩
      · subst h0; simp at hn
      · exact ⟨w, v, by simpa using h0⟩
    have ih := key_diff (b := b) (bs := bs) (n := n) (vs := w) (by simpa using hn)
    rw [keyI_snoc, keyI_snoc, diffV_false]
    rw [diffV_false] at ih
    have r1 := b2i_rng (b.getD (v - 1).toNat default)
    have r2 := b2i_rng (bs.getD (v - 1).toNat default)
    constructor
    · intro h x hx
      have e1 : keyI b w = keyI bs w := by omega
      have e2 : b2i (b.getD (v - 1).toNat default) = b2i (bs.getD (v - 1).toNat default) := by omega
      rcases List.mem_append.1 hx with q | q
      · exact ih.1 e1 x q
      · simp at q; subst q; exact b2i_inj e2
    · intro h
      rw [ih.2 (fun x hx => h x (by simp [hx])), h v (by simp)]
theorem insK_mem {ks : List Int} {a x : Int} : x ∈ insK ks a ↔ x ∈ ks ∨ x = a := by
  unfold insK
  split
  · rename_i h; constructor
    · exact .inl
    · rintro (h2 | h2)
      · exact h2
      · subst h2; exact h
  · simp
theorem insK_nodup {ks : List Int} {a : Int} (h : ks.Nodup) : (insK ks a).Nodup := by
  unfold insK
  split
  · exact h
  · rename_i hn
    rw [List.nodup_append]
    exact ⟨h, by simp, fun x hx y hy => by simp at hy; subst hy; intro e; subst e; exact hn hx⟩
theorem keys_mem {l : List Con} {vs : List Int} {x : Int} : ∀ {n : Nat}, x ∈ keysN l vs n ↔ ∃ k, k < n ∧ satV l (assn k) = true ∧ keyI (assn k) vs = x
  | 0 => by simp [keysN]
  | n + 1 => by
    have ih := keys_mem (l := l) (vs := vs) (x := x) (n := n)
    cases h : satV l (assn n)
    · rw [keys_n h, ih]
      constructor
      · rintro ⟨k, k1, k2⟩; exact ⟨k, by omega, k2⟩
      · rintro ⟨k, k1, k2, k3⟩
        by_cases e : k = n
        · subst e; rw [h] at k2; cases k2
        · exact ⟨k, by omega, k2, k3⟩
    · rw [keys_y h, insK_mem, ih]
      constructor
      · rintro (⟨k, k1, k2⟩ | e)
        · exact ⟨k, by omega, k2⟩
        · exact ⟨n, by omega, h, e.symm⟩
      · rintro ⟨k, k1, k2, k3⟩
        by_cases e : k = n
        · subst e; exact .inr k3.symm
        · exact .inl ⟨k, by omega, k2, k3⟩
theorem keys_nodup {l : List Con} {vs : List Int} : ∀ {n : Nat}, (keysN l vs n).Nodup
  | 0 => List.nodup_nil
  | n + 1 => by
    cases h : satV l (assn n)
    · rw [keys_n h]; exact keys_nodup
    · rw [keys_y h]; exact insK_nodup keys_nodup
theorem keys_in {l : List Con} {vs : List Int} {bs : List Bool} (hb : bs.length = 12) (h : satV l bs = true) : keyI bs vs ∈ keysN l vs 4096 := by
  have := assn_enc hb
  exact keys_mem.2 ⟨enc bs, this.1, by rw [this.2]; exact h, by rw [this.2]⟩
theorem len_of_sub {α : Type} [DecidableEq α] : ∀ {a b : List α}, a.Nodup → (∀ x ∈ a, x ∈ b) → a.length ≤ b.length
  | [], b, _, _ => Nat.zero_le _
  | x :: a, b, hn, hs => by
    have hx := hs x (by simp)
    rw [List.nodup_cons] at hn
    have := len_of_sub (a := a) (b := b.erase x) hn.2 (fun y hy => (List.mem_erase_of_ne (fun e => by subst e; exact hn.1 hy)).2 (hs y (by simp [hy])))
    rw [List.length_erase_of_mem hx] at this
    have := List.length_pos_of_mem hx
    simp only [List.length_cons]
    omega
theorem chn_keys {vs : List Int} (hv : ∀ v ∈ vs, 1 ≤ v) {l : List Con} {g : List (List Bool)} (h : chn vs l g) : g.length = (keysN l vs 4096).length := by
  have hn : (g.map (fun b => keyI b vs)).Nodup := by
    show List.Pairwise _ _
    rw [List.pairwise_map]
    exact (chn_apart hv h).imp fun {a b} hd e => by rw [(key_diff rfl).1 e] at hd; cases hd
  have h1 := len_of_sub (b := keysN l vs 4096) hn fun x hx => by
    obtain ⟨b, hb, rfl⟩ := List.mem_map.1 hx
    have := chn_sat h b hb
    exact keys_in this.1 this.2
  have h2 := len_of_sub (b := g.map (fun b => keyI b vs)) (keys_nodup (l := l) (vs := vs) (n := 4096)) fun x hx => by
    obtain ⟨k, _, k2, k3⟩ := keys_mem.1 hx
    obtain ⟨b, b1, b2⟩ := chn_all hv h (assn k) assn_length k2
    exact List.mem_map.2 ⟨b, b1, by rw [← k3]; exact (key_diff rfl).2 b2⟩
  rw [List.length_map] at h1 h2
  omega
theorem keys_pre {l : List Con} {vs : List Int} {k : Nat} : (keysN l (vs.take k) 4096).length ≤ (keysN l vs 4096).length := by
  have hn := keys_nodup (l := l) (vs := vs.take k) (n := 4096)
  -- each key of the prefix comes from a solution, and its full key tells it
  have h1 : ∃ r : List Int, r.length = (keysN l (vs.take k) 4096).length ∧ r.Nodup ∧ (∀ x ∈ r, x ∈ keysN l vs 4096) := by
    have : ∀ q : List Int, q.Nodup → (∀ x ∈ q, x ∈ keysN l (vs.take k) 4096) → ∃ r : List Nat, (r.map fun n => keyI (assn n) (vs.take k)) = q ∧ ∀ n ∈ r, n < 4096 ∧ satV l (assn n) = true := by
      intro q
      induction q with
      | nil => intro _ _; exact ⟨[], rfl, fun n h => by cases h⟩
      | cons a q ih =>
        intro h1 h2
        rw [List.nodup_cons] at h1
        obtain ⟨r, r1, r2⟩ := ih h1.2 (fun x hx => h2 x (by simp [hx]))
        obtain ⟨m, m1, m2, m3⟩ := keys_mem.1 (h2 a (by simp))
        exact ⟨m :: r, by rw [List.map_cons, m3, r1], fun n hn => by
          rcases List.mem_cons.1 hn with e | e
          · subst e; exact ⟨m1, m2⟩
          · exact r2 n e⟩
    obtain ⟨r, r1, r2⟩ := this _ hn (fun x hx => hx)
    refine ⟨r.map fun n => keyI (assn n) vs, ?_, ?_, ?_⟩
    · rw [List.length_map, ← r1, List.length_map]
    · show List.Pairwise _ _
      rw [List.pairwise_map]
      have hp : List.Pairwise (fun a b => a ≠ b) (r.map fun n => keyI (assn n) (vs.take k)) := by rw [r1]; exact hn
      rw [List.pairwise_map] at hp
      refine hp.imp fun {a b} h e => h ?_
      rw [key_diff rfl, diffV_false] at e ⊢
      exact fun v hv => e v (List.take_subset _ _ hv)
    · intro x hx
      obtain ⟨n, n1, rfl⟩ := List.mem_map.1 hx
      exact keys_mem.2 ⟨n, (r2 n n1).1, (r2 n n1).2, rfl⟩
  obtain ⟨r, r1, r2, r3⟩ := h1
  rw [← r1]
  exact len_of_sub r2 r3
theorem ls_prefix {l : List Con} {vs : List Int} {fu : Int} {k : Nat} (h : (lsV l vs fu).1 = 2) (h2 : (lsV l (vs.take k) fu).1 = 2) : (lsV l (vs.take k) fu).2.1.length ≤ (lsV l vs fu).2.1.length := by
  obtain ⟨a1, a2⟩ := ls_chn h
  obtain ⟨b1, b2⟩ := ls_chn h2
  rw [chn_keys (fun v hv => (varsFrom_all (lsOk_parts a1).2.2.1 v hv).1) a2, chn_keys (fun v hv => (varsFrom_all (lsOk_parts b1).2.2.1 v hv).1) b2]
  exact keys_pre
end Go.Ab

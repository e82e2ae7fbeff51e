/- Solutions counted by some variables. -/
import Derived.Test.YtdnlchflejoloaaAb17
import Derived.Test.YtdnlchflejoloaaSimp
set_option linter.unusedSimpArgs false
set_option linter.unusedVariables false
namespace Go.Ab
def b2i (b : Bool) : Int := if b then 1 else 0
def keyI (bs : List Bool) (vs : List Int) : Int := vs.foldl (fun k v => k * 2 + b2i (bs.getD (v - 1).toNat default)) 0
theorem keyI_next {bs : List Bool} {vs : List Int} {i : Nat} (h : i < vs.length) : keyI bs (vs.take (i + 1)) = keyI bs (vs.take i) * 2 + b2i (bs.getD (vs.getD i default - 1).toNat default) := by
  unfold keyI
  rw [take_succD (d := default) h, List.foldl_append]; rfl
theorem keyI_y {bs : List Bool} {vs : List Int} {i : Nat} (h : i < vs.length) (hb : bs.getD (vs.getD i default - 1).toNat default = true) : keyI bs (vs.take (i + 1)) = keyI bs (vs.take i) * 2 + 1 := by rw [keyI_next h, hb]; rfl
theorem keyI_n {bs : List Bool} {vs : List Int} {i : Nat} (h : i < vs.length) (hb : bs.getD (vs.getD i default - 1).toNat default = false) : keyI bs (vs.take (i + 1)) = keyI bs (vs.take i) * 2 := by rw [keyI_next h, hb]; exact Int.add_zero _
theorem keyI_rng {bs : List Bool} {vs : List Int} : ∀ {i : Nat}, i ≤ vs.length → 0 ≤ keyI bs (vs.take i) ∧ keyI bs (vs.take i) < 2 ^ i
  | 0, _ => by simp [keyI]
  | i + 1, h => by
    have ih := keyI_rng (bs := bs) (vs := vs) (i := i) (by omega)
    rw [keyI_next (by omega), Int.pow_succ]
    have : 0 ≤ b2i (bs.getD (vs.getD i default - 1).toNat default) ∧ b2i (bs.getD (vs.getD i default - 1).toNat default) ≤ 1 := by unfold b2i; split <;> omega
    omega
theorem keyI_12 {bs : List Bool} {vs : List Int} (h : vs.length ≤ 12) {i : Nat} (hi : i ≤ vs.length) : 0 ≤ keyI bs (vs.take i) ∧ keyI bs (vs.take i) < 4096 := by
  have h1 := keyI_rng (bs := bs) (vs := vs) hi
  have h2 : (2 : Int) ^ i ≤ 2 ^ 12 := by
    have := Nat.pow_le_pow_right (n := 2) (by decide) (show i ≤ 12 by omega)
    exact_mod_cast this
  omega
def keysN (l : List Con) (vs : List Int) : Nat → List Int
  | 0 => []
  | n + 1 => if satV l (assn n) then insK (keysN l vs n) (keyI (assn n) vs) else keysN l vs n
theorem keys_y {l : List Con} {vs : List Int} {n : Nat} (h : satV l (assn n) = true) : keysN l vs (n + 1) = insK (keysN l vs n) (keyI (assn n) vs) := by rw [keysN, if_pos h]
theorem keys_n {l : List Con} {vs : List Int} {n : Nat} (h : satV l (assn n) = false) : keysN l vs (n + 1) = keysN l vs n := by rw [keysN, if_neg (by rw [h]; decide)]
theorem keys_len {l : List Con} {vs : List Int} : ∀ {n : Nat}, (keysN l vs n).length ≤ cntS l n
  | 0 => Nat.zero_le _
  | n + 1 => by
    have ih := keys_len (l := l) (vs := vs) (n := n)
    rw [cntS_succ]
    cases h : satV l (assn n)
    · rw [keys_n h]; simp; exact ih
    · rw [keys_y h, if_pos rfl]
      unfold insK
      split
      · omega
      · rw [List.length_append]; simp; omega
theorem keys_le {l : List Con} {vs : List Int} {n : Nat} : (keysN l vs n).length ≤ n := Nat.le_trans keys_len cntS_le
def cpOk (l : List Con) (vs : List Int) : Bool := pOk l && varsFrom 0 vs
def cpV (l : List Con) (vs : List Int) : Int := if cpOk l vs then (((keysN l vs 4096).length : Nat) : Int) else 0
theorem cpV_ok {l : List Con} {vs : List Int} (h : pOk l = true) (h2 : varsFrom 0 vs = true) : cpV l vs = (((keysN l vs 4096).length : Nat) : Int) := by unfold cpV cpOk; rw [h, h2]; rfl
theorem cpV_bad {l : List Con} {vs : List Int} (h : pOk l = false ∨ varsFrom 0 vs = false) : cpV l vs = 0 := by
  unfold cpV cpOk
  rcases h with h | h
  · rw [h]; rfl
  · rw [h, Bool.and_false]; rfl
theorem cpV_rng (l : List Con) (vs : List Int) : 0 ≤ cpV l vs ∧ cpV l vs ≤ 4096 := by
  unfold cpV
  have := keys_le (l := l) (vs := vs) (n := 4096)
  split <;> omega
/-! ### The table of those seen -/
def seenR (ks : List Int) : List Bool := (List.range 4096).map (fun (k : Nat) => decide ((k : Int) ∈ ks))
theorem seenR_len {ks : List Int} : (seenR ks).length = 4096 := by simp [seenR]
theorem seenR_at {ks : List Int} {a : Int} (h : 0 ≤ a ∧ a < 4096) : (seenR ks).getD a.toNat default = decide (a ∈ ks) := by
  unfold seenR
  rw [List.getD_eq_getElem?_getD, List.getElem?_map, List.getElem?_range (by omega)]
  show decide ((a.toNat : Int) ∈ ks) = _
  rw [Int.toNat_of_nonneg h.1]
theorem seenR_nil : (seenR []).map dB = List.replicate 4096 [V.p (.bool false)] := by
  unfold seenR
  rw [List.map_map]
  apply List.ext_getElem?
  intro i
  rw [List.getElem?_map, List.getElem?_replicate]
  by_cases h : i < 4096
  · rw [List.getElem?_range h, if_pos h]; simp [dB]
  · rw [List.getElem?_eq_none (by simp; omega), if_neg h]; rfl
theorem seenR_set {ks : List Int} {a : Int} (h : 0 ≤ a ∧ a < 4096) (hn : a ∉ ks) : ((seenR ks).map dB).set a.toNat (dB true) = (seenR (insK ks a)).map dB := by
  rw [insK, if_neg hn]
  apply List.ext_getElem?
  intro i
  rw [List.getElem?_set]
  simp only [seenR, List.getElem?_map, List.length_map, List.length_range]
  by_cases e : a.toNat = i
  · subst e
    rw [if_pos rfl, if_pos (by omega), List.getElem?_range (by omega)]
    have : ((a.toNat : Nat) : Int) = a := Int.toNat_of_nonneg h.1
    simp [this]
  · rw [if_neg e]
    by_cases hi : i < 4096
    · rw [List.getElem?_range hi]
      have : ¬ ((i : Int) = a) := by omega
      simp [this]
    · rw [List.getElem?_eq_none (by simp; omega)]; rfl
theorem ins_in {ks : List Int} {a : Int} (h : a ∈ ks) : insK ks a = ks := by unfold insK; rw [if_pos h]
theorem ins_out {ks : List Int} {a : Int} (h : a ∉ ks) : (insK ks a).length = ks.length + 1 := by unfold insK; rw [if_neg h, List.length_append]; rfl
/-! ### All variables -/
def allV : List Int := (List.range 12).map (fun (i : Nat) => (i : Int) + 1)
theorem allV_len : allV.length = 12 := by simp [allV]
theorem allV_at {i : Nat} (h : i < 12) : allV.getD i default = (i : Int) + 1 := by
  unfold allV
  rw [List.getD_eq_getElem?_getD, List.getElem?_map, List.getElem?_range h]; rfl
theorem allV_ok : varsFrom 0 allV = true := rfl
theorem key_all {n : Nat} (hn : n < 4096) : ∀ {i : Nat}, i ≤ 12 → keyI (assn n) (allV.take i) = ((n / 2 ^ (12 - i) : Nat) : Int)
  | 0, _ => by
    show (0 : Int) = _
    rw [Nat.div_eq_of_lt (by simpa using hn)]; rfl
  | i + 1, h => by
    have ih := key_all hn (i := i) (by omega)
    rw [keyI_next (by rw [allV_len]; omega), ih, allV_at (by omega), show ((i : Int) + 1 - 1).toNat = i by omega, assn_at (by omega)]
    have e : 2 ^ (12 - i) = 2 ^ (12 - (i + 1)) * 2 := by rw [← Nat.pow_succ]; congr 1; omega
    rw [e, ← Nat.div_div_eq_div_mul, Nat.testBit_eq_decide_div_mod_eq, show 11 - i = 12 - (i + 1) by omega]
    unfold b2i
    have := Nat.div_add_mod (n / 2 ^ (12 - (i + 1))) 2
    by_cases hb : n / 2 ^ (12 - (i + 1)) % 2 = 1
    · rw [if_pos (decide_eq_true hb)]; omega
    · rw [if_neg (by rw [decide_eq_true_eq]; exact hb)]; omega
theorem key_allV {n : Nat} (hn : n < 4096) : keyI (assn n) allV = (n : Int) := by
  have := key_all hn (i := 12) (Nat.le_refl _)
  rw [List.take_of_length_le (by rw [allV_len]; exact Nat.le_refl _)] at this
  rw [this]; simp
theorem keys_all {l : List Con} : ∀ {n : Nat}, n ≤ 4096 → (keysN l allV n).length = cntS l n ∧ ∀ a ∈ keysN l allV n, a < (n : Int)
  | 0, _ => ⟨rfl, fun a h => by simp [keysN] at h⟩
  | n + 1, h => by
    obtain ⟨h1, h2⟩ := keys_all (l := l) (n := n) (by omega)
    rw [cntS_succ]
    cases hs : satV l (assn n)
    · rw [keys_n hs]
      exact ⟨by simp [h1], fun a ha => by have := h2 a ha; omega⟩
    · rw [keys_y hs, key_allV (by omega)]
      have hn : (n : Int) ∉ keysN l allV n := fun q => by have := h2 _ q; omega
      refine ⟨by rw [ins_out hn, h1]; simp, fun a ha => ?_⟩
      unfold insK at ha
      rw [if_neg hn, List.mem_append] at ha
      rcases ha with ha | ha
      · have := h2 a ha; omega
      · simp at ha; omega
theorem cp_all {l : List Con} (h : pOk l = true) : cpV l allV = csV l := by
  rw [cpV_ok h allV_ok, (keys_all (Nat.le_refl _)).1]
  unfold csV; rw [if_pos h]
theorem cp_le {l : List Con} {vs : List Int} (h : pOk l = true) : cpV l vs ≤ csV l := by
  have := csV_rng l
  cases hv : varsFrom 0 vs
  · rw [cpV_bad (.inr hv)]; omega
  · rw [cpV_ok h hv]
    have := keys_len (l := l) (vs := vs) (n := 4096)
    unfold csV; rw [if_pos h]; omega
theorem keys_none {l : List Con} : ∀ {n : Nat}, (keysN l [] n = [] ∧ cntS l n = 0) ∨ (keysN l [] n = [0] ∧ 0 < cntS l n)
  | 0 => .inl ⟨rfl, rfl⟩
  | n + 1 => by
    have hk : keyI (assn n) [] = 0 := rfl
    rw [cntS_succ]
    cases hs : satV l (assn n)
    · rw [keys_n hs]
      rcases keys_none (l := l) (n := n) with h | h
      · left; exact ⟨h.1, by simp [h.2]⟩
      · right; exact ⟨h.1, by simp [h.2]⟩
    · rw [keys_y hs, hk]
      right
      rcases keys_none (l := l) (n := n) with h | h <;> rw [h.1] <;> exact ⟨by simp [insK], by simp⟩
theorem cp_none {l : List Con} (h : pOk l = true) : cpV l [] ≤ 1 ∧ (cpV l [] = 1 ↔ 0 < csV l) := by
  rw [cpV_ok h rfl]
  unfold csV
  rw [if_pos h]
  rcases keys_none (l := l) (n := 4096) with q | q <;> rw [q.1] <;> refine ⟨by simp, ?_⟩
  · rw [q.2]; simp
  · simp; omega
end Go.Ab

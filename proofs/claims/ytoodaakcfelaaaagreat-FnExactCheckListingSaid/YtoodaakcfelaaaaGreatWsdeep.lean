/- Walks. -/
import Derived.Test.YtoodaakcfelaaaaGreatBase
import Derived.Test.YtoodaakcfelaaaaGreatFr
import Derived.Test.YtoodaakcfelaaaaGreatWsexcl
namespace Go.Ab
open Go.Proofs
set_option maxRecDepth 100000
set_option maxHeartbeats 8000000
set_option linter.unusedSimpArgs false
set_option linter.unusedVariables false
theorem f_toConS (l : List Con) (hl : fitC l) : Fn Tryz.prog 12 [.sl (l.map dC)] [] (fun rr ii nn => rr = .own 0 0 ∧ ii = [] ∧ nn = [.deep (.mk 69 2 [(0, .mk 135 2 [])]) (l.map dC) none]) := by
 refine fn_of Tryz.func12 rfl (Nat.le_of_ble_eq_true rfl) fun w X g => ?_
 show AWp _ _ _ ⟨[(0, .sl (l.map dC))], []⟩
 have hll := fitC_len hl
 refine rs ?_
 refine oa rfl ?_
 refine on ?_
 refine rs ?_
 refine om rfl ?_
 refine op_v' (j_len_map Tryz.underlying22 rfl) ?_
 refine op_n' (fun ver => j_make slt30 elt69 rfl rfl (by decide) rfl rfl rfl rfl (by first | omega | (simp only [nr, wr_length]; omega)) (by rw [maxLen_eq]; first | omega | (simp only [nr, wr_length]; omega))) fun v7x1 => ?_
 refine op_todeep 7 (l.length) (.mk 69 2 [(0, (.mk 135 2 []))]) rfl rfl rfl rfl (eat_nils rfl (eat_leaf rfl rfl rfl eat_end)) rfl ?_
 refine oa rfl ?_
 refine on ?_
 refine a_seq ?_
 refine rs ?_
 refine oa rfl ?_
 refine on ?_
 refine a_block ?_
 refine a_loopF' (ι := Nat) (fun k => k ≤ l.length) (fun k r => (4, .p (.int .i64 ((k : Nat)))) :: r) (fun k r => (7, some (v7x1, .deep (.mk 69 2 [(0, .mk 135 2 [])]) (wr dC l k (dC ([], 0))) none)) :: r) (fun k => l.length - k) (fun _ _ => rfl) (fun _ _ => rfl) 0 (by first | omega | (simp only [nr, wr_length]; omega)) ⟨⟨rfl, rfl⟩, ⟨rfl, trivial⟩, ⟨deepEq (by rw [wr_zero]; rfl), trivial⟩, ⟨rfl, rfl⟩, ⟨rfl, rfl⟩⟩ ?_
 intro k hpre0
 refine a_seq ?_
 refine rs ?_
 refine om rfl ?_
 refine om rfl ?_
 refine op_v' (j_len_map Tryz.underlying22 rfl) ?_
 refine op_v' (j_lt rfl rfl) ?_
 refine on ?_
 refine ac rfl (fun h1 => ?_) fun h1 => ?_
 ·
  have h1r := h1
  try simp only [nq, nr, wr_length] at h1
  refine a_skip ?_
  refine a_seq ?_
  refine a_block ?_
  refine ar ?_
  refine om rfl ?_
  refine om rfl ?_
  refine om rfl ?_
  refine om rfl ?_
  refine op_v' (j_elemN slt22 rfl rfl rfl (at_map (by first | omega | (simp only [nr, wr_length]; omega))) rfl) ?_
  refine op_v' (j_loada_el (ys := [.sl _, .p _]) agg78 rfl (at_map (by first | omega | (simp only [nr, wr_length]; omega))) rfl (Nat.le_refl _)) ?_
  refine op_n1' (fun ver => j_call1 (v := .agg [.own 20 ver, .p _]) (hp1 := [(20, some (ver, .row 135 2 _))]) [] false [] ent53 (f_toCon (l.getD k default) (fitC_at hl (getD_mem (by first | omega | (simp only [nr, wr_length]; omega))))) ⟨.inl ⟨rfl, rfl⟩, trivial⟩ trivial rfl rfl rfl (fun h => by cases h) rfl (List.all_eq_true.1 rfl) (.inl rfl) rfl rfl) fun v20x2 => ?_
  refine op_v' (j_elem_deepN slt30 rfl rfl rfl rfl rfl (by first | omega | (simp only [nr, wr_length]; omega))) ?_
  refine op_s1' (j_storea_deep agg69 rfl rfl rfl (by first | omega | (simp only [nr, wr_length]; omega)) rfl rfl (eat_own rfl rfl rfl (eat_leaf rfl rfl rfl eat_end)) rfl rfl) ?_
  dsimp only [List.map_cons, List.map_nil, List.cons_append, List.nil_append]
  refine on ?_
  refine ar ?_
  refine om rfl ?_
  refine op_v' (j_add rfl rfl (by first | omega | (simp only [nr, wr_length]; omega)) (by first | omega | (simp only [nr, wr_length]; omega))) ?_
  refine oa rfl ?_
  refine on ?_
  exact ⟨k + 1, (by first | omega | (simp only [nr, wr_length]; omega)), ⟨⟨rfl, rfl⟩, ⟨rfl, trivial⟩, ⟨deepEq (wr_set (d := default) (by first | omega | (simp only [nr, wr_length]; omega))), trivial⟩, ⟨rfl, rfl⟩, ⟨rfl, rfl⟩⟩, (by first | omega | (simp only [nr, wr_length]; omega))⟩
 have h1r := h1
 try simp only [nq, nr, wr_length] at h1
 refine a_exit ?_
 refine rs ?_
 refine om rfl ?_
 refine oa rfl ?_
 refine on ?_
 refine a_ret ?_
 exact ⟨[.own 7 v7x1], .own 0 0, [], [.deep (.mk 69 2 [(0, (.mk 135 2 []))]) _ none], [(7, v7x1)], ⟨rfl, trivial⟩, rfl, rfl, ⟨⟨rfl, rfl⟩, trivial⟩, rfl, rfl, ⟨rfl, rfl, congrArg (fun x => [Obj.deep _ x none]) (wr_all (by first | omega | (simp only [nr, wr_length]; omega)))⟩⟩
theorem f_eqConS (a b : List Con) : Fn Tryz.prog 17 [.sl (a.map dC), .sl (b.map dC)] [] (fun rr ii nn => rr = .p (.bool (decide (a = b))) ∧ ii = [] ∧ nn = []) := by
 refine fn_of Tryz.func17 rfl (Nat.le_of_ble_eq_true rfl) fun w X g => ?_
 show AWp _ _ _ ⟨[(0, .sl (a.map dC)), (1, .sl (b.map dC))], []⟩
 refine a_len_map 0 rfl fun hla => ?_
 refine rs ?_
 refine oa rfl ?_
 refine on ?_
 refine a_seq ?_
 refine rs ?_
 refine om rfl ?_
 refine op_v' (j_len_map Tryz.underlying30 rfl) ?_
 refine om rfl ?_
 refine op_v' (j_len_map Tryz.underlying30 rfl) ?_
 refine op_v' (j_ne rfl rfl) ?_
 refine on ?_
 refine ac rfl (fun h1 => ?_) fun h1 => ?_
 ·
  have h1r := h1
  try simp only [nq, nr] at h1
  refine rs ?_
  refine oa rfl ?_
  refine on ?_
  refine a_ret ?_
  exact fin_p rfl ⟨boolEq (by symm; rw [decide_eq_false_iff_not]; rintro rfl; exact h1 rfl), rfl, rfl⟩
 have h1r := h1
 try simp only [nq, nr] at h1
 refine a_skip ?_
 refine a_seq ?_
 refine rs ?_
 refine oa rfl ?_
 refine on ?_
 refine a_block ?_
 refine a_loopF' (ι := Nat) (fun k => k ≤ a.length ∧ a.take k = b.take k) (fun k r => (5, .p (.int .i64 ((k : Nat)))) :: r) (fun k r => r) (fun k => a.length - k) (fun _ _ => rfl) (fun _ _ => rfl) 0 ⟨Nat.zero_le _, rfl⟩ ⟨⟨rfl, rfl⟩, ⟨rfl, trivial⟩, trivial, ⟨rfl, rfl⟩, ⟨rfl, rfl⟩⟩ ?_
 intro k hpre0
 refine a_seq ?_
 refine rs ?_
 refine om rfl ?_
 refine om rfl ?_
 refine op_v' (j_len_map Tryz.underlying30 rfl) ?_
 refine op_v' (j_lt rfl rfl) ?_
 refine on ?_
 refine ac rfl (fun h2 => ?_) fun h2 => ?_
 ·
  have h2r := h2
  try simp only [nq, nr] at h2
  refine a_skip ?_
  refine a_seq ?_
  refine a_block ?_
  refine a_seq ?_
  refine a_draw mixed (by kernel_rfl) (by kernel_rfl) fun vf => ?_
  refine d_v' (j_move (evo rfl)) ?_
  refine d_v' (j_move (evo rfl)) ?_
  refine d_v' (j_elemN slt30 rfl rfl rfl (at_map (by omega)) rfl) ?_
  refine d_v' (j_loada_el (ys := [.sl _, .p _]) agg69 rfl (at_map (by omega)) rfl (Nat.le_refl _)) ?_
  refine d_v' (j_move (evo rfl)) ?_
  refine d_v' (j_move (evo rfl)) ?_
  refine d_v' (j_elemN slt30 rfl rfl rfl (at_map (by omega)) rfl) ?_
  refine d_v' (j_loada_el (ys := [.sl _, .p _]) agg69 rfl (at_map (by omega)) rfl (Nat.le_refl _)) ?_
  refine d_v0' (j_call0 (v := .p _) (hp1 := []) [] false [] ent60 (f_eqCon (a.getD k default) (b.getD k default)) ⟨.inl ⟨rfl, rfl⟩, .inl ⟨rfl, rfl⟩, trivial⟩ trivial rfl rfl (fun h => by cases h) rfl (fun _ h => by cases h) (.inl rfl) rfl rfl) ?_
  refine d_v' (j_not rfl) ?_
  refine d_nil (by kernel_rfl) (by kernel_rfl) ?_
  refine ac rfl (fun h3 => ?_) fun h3 => ?_
  ·
   have h3r := h3
   try simp only [nq, nr] at h3
   refine rs ?_
   refine oa rfl ?_
   refine on ?_
   refine a_ret ?_
   exact fin_p rfl ⟨boolEq (by symm; rw [decide_eq_false_iff_not]; rintro rfl; exact h3 rfl), rfl, rfl⟩
  have h3r := h3
  try simp only [nq, nr] at h3
  refine a_skip ?_
  refine ar ?_
  refine om rfl ?_
  refine op_v' (j_add rfl rfl (by omega) (by omega)) ?_
  refine oa rfl ?_
  refine on ?_
  exact ⟨k + 1, ⟨(by omega), take_next hpre0.2 (by omega) (by omega) h3⟩, ⟨⟨rfl, rfl⟩, ⟨rfl, trivial⟩, trivial, ⟨rfl, rfl⟩, ⟨rfl, rfl⟩⟩, (by omega)⟩
 have h2r := h2
 try simp only [nq, nr] at h2
 refine a_exit ?_
 refine rs ?_
 refine oa rfl ?_
 refine on ?_
 refine a_ret ?_
 exact fin_p rfl ⟨boolEq (by symm; rw [decide_eq_true_eq]; exact take_eq hpre0.2 (by omega) (by omega)), rfl, rfl⟩
theorem f_szConS (l : List Con) (n : Int) (hn : 0 ≤ n ∧ n ≤ 4611686018427387904) : Fn Tryz.prog 8 [.sl (l.map dC), .p (.int .i64 (n))] [] (fun rr ii nn => rr = .p (.int .i64 (szC l n)) ∧ ii = [] ∧ nn = []) := by
 refine fn_of Tryz.func8 rfl (Nat.le_of_ble_eq_true rfl) fun w X g => ?_
 show AWp _ _ _ ⟨[(0, .sl (l.map dC)), (1, .p (.int .i64 (n)))], []⟩
 refine a_len_map 0 rfl fun hla => ?_
 have hs0 := szv_cases (n := l.length) (k := n)
 refine rs ?_
 refine oa rfl ?_
 refine on ?_
 refine rs ?_
 refine om rfl ?_
 refine om rfl ?_
 refine op_v' (j_len_map Tryz.underlying22 rfl) ?_
 refine op_v' (j_sub rfl rfl (by omega) (by omega)) ?_
 refine oa rfl ?_
 refine on ?_
 refine a_seq ?_
 refine rs ?_
 refine om rfl ?_
 refine op_v' (j_lt rfl rfl) ?_
 refine on ?_
 refine ac rfl (fun h1 => ?_) fun h1 => ?_
 ·
  have h1r := h1
  try simp only [nq, nr] at h1
  refine rs ?_
  refine oa rfl ?_
  refine on ?_
  refine a_ret ?_
  exact fin_p rfl ⟨intEq (by unfold szC; rw [if_pos (by omega)]), rfl, rfl⟩
 have h1r := h1
 try simp only [nq, nr] at h1
 refine a_skip ?_
 refine a_seq ?_
 refine rs ?_
 refine oa rfl ?_
 refine on ?_
 refine a_block ?_
 refine a_loopF' (ι := Nat × Int) (fun x => (x.1 ≤ l.length ∧ szC l n = szL (l.drop x.1) x.2) ∧ 0 ≤ x.2 ∧ x.2 ≤ n) (fun x r => (5, .p (.int .i64 ((x.1 : Nat)))) :: (1, .p (.int .i64 (x.2))) :: r) (fun x r => r) (fun x => l.length - x.1) (fun _ _ => rfl) (fun _ _ => rfl) (0, n - l.length) (by first | exact ⟨⟨Nat.zero_le _, by unfold szC; rw [if_neg (by omega), show szv l.length n = n - l.length by omega]; rfl⟩, by dsimp only; omega, by dsimp only; omega⟩ | (dsimp only; exact ⟨⟨Nat.zero_le _, by unfold szC; rw [if_neg (by omega), show szv l.length n = n - l.length by omega]; rfl⟩, by dsimp only; omega, by dsimp only; omega⟩)) ⟨⟨rfl, rfl⟩, ⟨rfl, rfl, trivial⟩, trivial, ⟨rfl, rfl⟩, ⟨rfl, rfl⟩⟩ ?_
 rintro ⟨k, z⟩ hpre; dsimp only at hpre ⊢
 refine a_seq ?_
 refine rs ?_
 refine om rfl ?_
 refine om rfl ?_
 refine op_v' (j_len_map Tryz.underlying22 rfl) ?_
 refine op_v' (j_lt rfl rfl) ?_
 refine on ?_
 refine ac rfl (fun h2 => ?_) fun h2 => ?_
 ·
  have h2r := h2
  try simp only [nq, nr] at h2
  refine a_skip ?_
  refine a_seq ?_
  refine a_block ?_
  refine rs ?_
  refine om rfl ?_
  refine om rfl ?_
  refine op_v' (j_elemN slt22 rfl rfl rfl (at_map (by omega)) rfl) ?_
  refine op_v' (j_loada_el (ys := [.sl _, .p _]) agg78 rfl (at_map (by omega)) rfl (Nat.le_refl _)) ?_
  refine om rfl ?_
  refine op_v0' (j_call0 (v := .p _) (hp1 := []) [] false [] ent45 (f_szCon (l.getD k default) z (by omega)) ⟨.inl ⟨rfl, rfl⟩, .inl ⟨rfl, rfl⟩, trivial⟩ trivial rfl rfl (fun h => by cases h) rfl (fun _ h => by cases h) (.inl rfl) rfl rfl) ?_
  refine oa rfl ?_
  refine on ?_
  refine a_seq ?_
  have hs1 := szv_cases (n := (l.getD k default).1.length) (k := z)
  refine ar ?_
  refine om rfl ?_
  refine op_v' (j_lt rfl rfl) ?_
  refine on ?_
  refine ac rfl (fun h3 => ?_) fun h3 => ?_
  ·
   have h3r := h3
   try simp only [nq, nr] at h3
   refine rs ?_
   refine oa rfl ?_
   refine on ?_
   refine a_ret ?_
   exact fin_p rfl ⟨intEq (by rw [hpre.1.2, szL_bad (d := default) (by omega) (by omega)]), rfl, rfl⟩
  have h3r := h3
  try simp only [nq, nr] at h3
  refine a_skip ?_
  refine ar ?_
  refine om rfl ?_
  refine op_v' (j_add rfl rfl (by omega) (by omega)) ?_
  refine oa rfl ?_
  refine on ?_
  exact ⟨(k + 1, szv (l.getD k default).1.length z), (by first | exact ⟨⟨by omega, by rw [hpre.1.2, szL_next (d := default) (by omega) (by omega)]⟩, by omega, by omega⟩ | (dsimp only; exact ⟨⟨by omega, by rw [hpre.1.2, szL_next (d := default) (by omega) (by omega)]⟩, by omega, by omega⟩)), ⟨⟨rfl, rfl⟩, ⟨rfl, rfl, trivial⟩, trivial, ⟨rfl, rfl⟩, ⟨rfl, rfl⟩⟩, (by first | exact (by omega) | (dsimp only; exact (by omega)))⟩
 have h2r := h2
 try simp only [nq, nr] at h2
 refine a_exit ?_
 refine rs ?_
 refine om rfl ?_
 refine oa rfl ?_
 refine on ?_
 refine a_ret ?_
 exact fin_p rfl ⟨intEq (by rw [hpre.1.2, szL_end (by omega)]), rfl, rfl⟩
end Go.Ab

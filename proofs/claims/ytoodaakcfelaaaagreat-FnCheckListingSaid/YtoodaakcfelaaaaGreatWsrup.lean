/- Walks. -/
import Derived.Test.YtoodaakcfelaaaaGreatBase
import Derived.Test.YtoodaakcfelaaaaGreatSimp
import Derived.Test.YtoodaakcfelaaaaGreatWsprop
import Derived.Test.YtoodaakcfelaaaaGreatWsclau
import Derived.Test.YtoodaakcfelaaaaGreatWsprobd
import Derived.Test.YtoodaakcfelaaaaGreatWsdrawc
import Derived.Test.YtoodaakcfelaaaaGreatDeep2
import Derived.Test.YtoodaakcfelaaaaGreatMod3
import Derived.Test.YtoodaakcfelaaaaGreatWscons
import Derived.Test.YtoodaakcfelaaaaGreatVals
import Derived.Test.YtoodaakcfelaaaaGreatWsfix
import Derived.Test.YtoodaakcfelaaaaGreatWsfun
import Derived.Test.YtoodaakcfelaaaaGreatWsmul
import Derived.Test.YtoodaakcfelaaaaGreatWsenum
namespace Go.Ab
open Go.Proofs
set_option maxRecDepth 100000
set_option maxHeartbeats 8000000
set_option linter.unusedSimpArgs false
set_option linter.unusedVariables false
theorem f_negationF (c : Con) (hc : cOk c = true) : Fn Tryz.prog 116 [.agg [.sl (c.1.map dT), .p (.int .i64 c.2)]] [] (fun rr ii nn => rr = .agg [.sl ((negC c).1.map dT), .p (.int .i64 (negC c).2)] ∧ ii = [] ∧ nn = []) := by
 refine fn_of Tryz.func116 rfl (Nat.le_of_ble_eq_true rfl) fun w X g => ?_
 show AWp _ _ _ ⟨[(0, .agg [.sl (c.1.map dT), .p (.int .i64 c.2)])], []⟩
 have htt := tot_all (coef_wide (cOk_coefs hc) (by decide) (by decide))
 have hln := cOk_len hc
 have hbd := cOk_bound hc
 refine rs ?_
 refine op_n' (fun ver => j_boxa rfl) fun v1x1 => ?_
 refine op_n' (fun ver => j_alloc elt69 rfl) fun v2x2 => ?_
 refine on ?_
 refine a_seq ?_
 refine a_draw mixed (by kernel_rfl) (by kernel_rfl) fun vf => ?_
 refine d_v' (j_loada_box (ys := [.sl _, .p _]) agg69 rfl rfl rfl (Nat.le_of_ble_eq_true rfl)) ?_
 refine d_v0' (j_call0 (v := .p _) (hp1 := []) [] false [] ent169 (f_totImpl c hc) ⟨.inl ⟨rfl, rfl⟩, trivial⟩ trivial rfl rfl (fun h => by cases h) rfl (fun _ h => by cases h) (.inl rfl) rfl rfl) ?_
 refine d_v' (j_fldp fld69f1 rfl rfl) ?_
 refine d_v' (j_load_box leaf3 rfl rfl rfl) ?_
 refine d_v' (j_sub rfl rfl (by first | omega | (simp only [nr, nl]; omega)) (by first | omega | (simp only [nr, nl]; omega))) ?_
 refine d_v' (j_add rfl rfl (by first | omega | (simp only [nr, nl]; omega)) (by first | omega | (simp only [nr, nl]; omega))) ?_
 refine d_v' (j_max rfl rfl) ?_
 refine d_v' (j_build (parts := [(1, .tmp 12)]) str69 elt69 rfl rfl) ?_
 refine d_n' (fun ver => j_alloc elt69 rfl) ?_
 refine d_s' (j_storea_box0 agg69 rfl rfl rfl rfl rfl rfl) ?_
 refine d_nil (by kernel_rfl) (by kernel_rfl) ?_
 refine a_adopt_box' 0 1003 135 2 (by decide) (id := 3) rfl rfl fun v1003x3 => ?_
 refine a_seq ?_
 refine rs ?_
 refine op_v' (j_fldp fld69f0 rfl rfl) ?_
 refine op_v' (j_load_box leaf67 rfl rfl rfl) ?_
 refine op_v' (j_len_map Tryz.underlying67 rfl) ?_
 refine om rfl ?_
 refine on ?_
 refine a_block ?_
 refine a_loopF' (ι := Nat × Nat) (fun x => x.1 ≤ c.1.length) (fun x r => (17, .p (.int .i64 ((x.1 : Nat)))) :: r) (fun x r => (3, some ((vf 3), .box 69 [.own 1003 x.2, .p (.int .i64 (max 0 (totV c.1 - c.2 + 1)))])) :: (1003, some (x.2, .row 135 2 (((c.1.take x.1).map negT).map dT))) :: r) (fun x => c.1.length - x.1) (fun _ _ => rfl) (fun _ _ => rfl) (0, v1003x3) (by first | exact (Nat.zero_le _) | (dsimp only; exact (Nat.zero_le _))) ⟨⟨rfl, rfl⟩, ⟨rfl, trivial⟩, ⟨rfl, rfl, trivial⟩, ⟨rfl, rfl⟩, ⟨rfl, rfl⟩⟩ ?_
 rintro ⟨k, v⟩ hpre; dsimp only at hpre ⊢
 refine rs ?_
 refine op_v' (j_lt rfl rfl) ?_
 refine on ?_
 refine a_seq ?_
 refine ac rfl (fun h1 => ?_) fun h1 => ?_
 ·
  have h1r := h1
  try simp only [nq, nr, nl] at h1
  refine a_skip ?_
  refine a_seq ?_
  refine a_block ?_
  refine a_seq ?_
  have htm := cOk_terms hc (k := k) (by omega)
  have hli := litOk_iff.1 htm.1
  refine ar ?_
  refine op_v' (j_elemN slt67 rfl rfl rfl (at_map (by first | omega | (simp only [nr, nl]; omega))) rfl) ?_
  refine op_v' (j_loada_el (ys := [.p _, .p _]) agg135 rfl (at_map (by first | omega | (simp only [nr, nl]; omega))) rfl (Nat.le_refl _)) ?_
  refine op_n' (fun ver => j_alloc elt135 rfl) fun v5x4 => ?_
  refine op_s' (j_storea_box0 agg135 rfl rfl rfl rfl rfl rfl) ?_
  refine on ?_
  refine ar ?_
  refine op_v' (j_fldp fld69f0 rfl rfl) ?_
  refine op_v' (j_load_box leaf67 rfl rfl rfl) ?_
  refine op_v' (j_fldp fld135f0 rfl rfl) ?_
  refine op_v' (j_load_box leaf3 rfl rfl rfl) ?_
  refine op_v' (j_fldp fld135f1 rfl rfl) ?_
  refine op_v' (j_load_box leaf3 rfl rfl rfl) ?_
  refine op_v' (j_neg rfl (by first | omega | (simp only [nr, nl]; omega)) (by first | omega | (simp only [nr, nl]; omega))) ?_
  refine op_v' (j_build (parts := [(0, .tmp 24), (1, .tmp 27)]) str135 elt135 rfl rfl) ?_
  refine op_n' (fun ver => j_buildSlice (parts := [(0, .tmp 28)]) (es := [[_, _]]) slt67 elt135 rfl rfl (by decide) (by decide) rfl rfl (by simp) rfl) fun v29x5 => ?_
  refine op_n' (fun ver => j_append_own slt67 elt135 rfl rfl rfl rfl rfl rfl (by rw [maxLen_eq]; first | omega | (simp only [nr, nl]; omega)) (by first | omega | (simp only [nr, nl]; omega))) fun v1003x6 => ?_
  refine op_v' (j_fldp fld69f0 rfl rfl) ?_
  refine op_s' (j_store_box leaf67 rfl rfl (Nat.le_of_ble_eq_true rfl) (evo rfl) rfl) ?_
  refine on ?_
  refine ar ?_
  refine op_v' (j_add rfl rfl (by first | omega | (simp only [nr, nl]; omega)) (by first | omega | (simp only [nr, nl]; omega))) ?_
  refine om rfl ?_
  refine on ?_
  exact ⟨(k + 1, v1003x6), (by first | exact (by first | omega | (simp only [nr, nl]; omega)) | (dsimp only; exact (by first | omega | (simp only [nr, nl]; omega)))), ⟨⟨rfl, rfl⟩, ⟨rfl, trivial⟩, ⟨rfl, rowEq (neg_next (by omega)), trivial⟩, ⟨rfl, rfl⟩, ⟨rfl, rfl⟩⟩, (by first | exact (by first | omega | (simp only [nr, nl]; omega)) | (dsimp only; exact (by first | omega | (simp only [nr, nl]; omega))))⟩
 have h1r := h1
 try simp only [nq, nr, nl] at h1
 refine a_exit ?_
 refine a_seq ?_
 refine a_freezeboxK 0 3 (by decide) trivial rfl rfl rfl rfl ?_
 try dsimp only [List.set]
 refine ar ?_
 refine op_v' (j_loada_box (ys := [.sl _, .p _]) agg69 rfl rfl rfl (Nat.le_of_ble_eq_true rfl)) ?_
 refine op_s' (j_storea_box0 agg69 rfl rfl rfl rfl rfl rfl) ?_
 refine on ?_
 refine a_ret ?_
 exact ⟨[.agg [.sl _, .p _]], .agg [.sl _, .p _], [], [], [], ⟨⟨_, _, _, _, rfl, rfl, agg69, rfl⟩, trivial⟩, rfl, rfl, trivial, rfl, rfl, ⟨by rw [show k = c.1.length by omega, List.take_length]; rfl, rfl, rfl⟩⟩
theorem f_rup (l : List Con) (c : Con) (hl : l.all cOk = true) (hll : l.length ≤ 2000) (hc : cOk c = true) : Fn Tryz.prog 241 [.sl (l.map dC), .agg [.sl (c.1.map dT), .p (.int .i64 c.2)]] [] (fun rr ii nn => rr = .p (.bool (rupV l c)) ∧ ii = [] ∧ nn = []) := by
 refine fn_of Tryz.func241 rfl (Nat.le_of_ble_eq_true rfl) fun w X g => ?_
 show AWp _ _ _ ⟨[(0, .sl (l.map dC)), (1, .agg [.sl (c.1.map dT), .p (.int .i64 c.2)])], []⟩
 have hnc := negC_ok hc
 have hla : (l ++ [negC c]).all cOk = true := by rw [List.all_append, hl]; simp [hnc]
 refine rs ?_
 refine op_n' (fun ver => j_boxa rfl) fun v3x1 => ?_
 refine oa rfl ?_
 refine on ?_
 refine a_seq ?_
 refine a_draw mixed (by kernel_rfl) (by kernel_rfl) fun vf => ?_
 refine d_v' (j_move (evo rfl)) ?_
 refine d_n1' (fun ver => j_call1 (v := .own 9 ver) (hp1 := [(9, some (ver, .row 69 2 _))]) [] false [] ent57 (f_cloneC l (by omega)) ⟨.inl ⟨rfl, rfl⟩, trivial⟩ trivial rfl rfl rfl (fun h => by cases h) rfl (List.all_eq_true.1 rfl) (.inl rfl) rfl rfl) ?_
 refine d_v' (j_loada_box (ys := [.sl _, .p _]) agg69 rfl rfl rfl (Nat.le_of_ble_eq_true rfl)) ?_
 refine d_v0' (j_call0 (v := .agg [.sl _, .p _]) (hp1 := []) [] false [] ent116 (f_negationF c hc) ⟨.inl ⟨rfl, rfl⟩, trivial⟩ trivial rfl rfl (fun h => by cases h) rfl (fun _ h => by cases h) (.inl rfl) rfl rfl) ?_
 refine d_n' (fun ver => j_buildSlice (parts := [(0, .tmp 11)]) (es := [[_, _]]) slt30 elt69 rfl rfl (by decide) (by decide) rfl rfl (by simp) rfl) ?_
 refine d_n1' (fun ver => j_append_ownN (by decide) slt30 elt69 rfl rfl rfl rfl rfl rfl (by rw [maxLen_eq]; first | omega | (simp only [nr, nl]; omega)) (by first | omega | (simp only [nr, nl]; omega)) (show _ = (l ++ [negC c]).map dC from by rw [List.map_append]; rfl)) ?_
 refine d_n' (fun ver => j_make (n := 12) slt23 elt3 rfl rfl (by decide) rfl rfl rfl rfl (by first | omega | (simp only [nr, nl]; omega)) (by rw [maxLen_eq]; first | omega | (simp only [nr, nl]; omega))) ?_
 refine d_n1' (fun ver => j_call1 (v := .tup [.own 15 ver, .p _]) (hp1 := [(15, some (ver, .row 3 1 _))]) [] true [13, 14] ent182 (f_prop (l ++ [negC c]) zeroP hla (by rw [List.length_append]; simp; omega) zero_ok) ⟨.inr ⟨rfl, view_own rfl rfl, rfl⟩, .inr ⟨rfl, view_own rfl rfl, rfl⟩, trivial⟩ trivial rfl rfl rfl (fun _ => rfl) rfl (List.all_eq_true.1 rfl) (.inr ⟨rfl, by first | exact pl_new1 (fun _ => rfl) | exact pl_newC | (simp [plO, plV, plV.plL]; done)⟩) rfl rfl) ?_
 refine d_v' (j_move (evo rfl)) ?_
 refine d_v' (j_extract rfl rfl) ?_
 refine d_v' (j_extract rfl rfl) ?_
 refine d_v' (j_assign (evo rfl)) ?_
 refine d_v' (j_assign (evo rfl)) ?_
 refine d_nil (by kernel_rfl) (by kernel_rfl) ?_
 refine rs ?_
 refine om rfl ?_
 refine op_v' (j_ge rfl rfl) ?_
 refine oa rfl ?_
 refine on ?_
 refine a_ret ?_
 exact fin_p rfl ⟨rfl, rfl, rfl⟩
end Go.Ab

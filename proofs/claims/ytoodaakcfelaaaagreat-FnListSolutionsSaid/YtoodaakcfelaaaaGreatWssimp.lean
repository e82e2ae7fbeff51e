/- Walks. -/
import Derived.Test.YtoodaakcfelaaaaGreatBase
import Derived.Test.YtoodaakcfelaaaaGreatSimp
import Derived.Test.YtoodaakcfelaaaaGreatWsrup
import Derived.Test.YtoodaakcfelaaaaGreatWsfix
import Derived.Test.YtoodaakcfelaaaaGreatWsfun
import Derived.Test.YtoodaakcfelaaaaGreatWsmul
import Derived.Test.YtoodaakcfelaaaaGreatWsenum
import Derived.Test.YtoodaakcfelaaaaGreatWsprobd
import Derived.Test.YtoodaakcfelaaaaGreatDeep2
import Derived.Test.YtoodaakcfelaaaaGreatMod3
import Derived.Test.YtoodaakcfelaaaaGreatWscons
import Derived.Test.YtoodaakcfelaaaaGreatVals
import Derived.Test.YtoodaakcfelaaaaGreatWsclau
import Derived.Test.YtoodaakcfelaaaaGreatWsdrawc
namespace Go.Ab
open Go.Proofs
set_option maxRecDepth 100000
set_option maxHeartbeats 8000000
set_option linter.unusedSimpArgs false
set_option linter.unusedVariables false
theorem f_satImpl (c : Con) (hc : cOk c = true) : Fn Tryz.prog 238 [.agg [.sl (c.1.map dT), .p (.int .i64 c.2)]] [] (fun rr ii nn => rr = .tup [.agg [.sl ((stC c).1.map dT), .p (.int .i64 (stC c).2)], .p (.bool true)] ∧ ii = [] ∧ nn = []) := by
 refine fn_of Tryz.func238 rfl (Nat.le_of_ble_eq_true rfl) fun w X g => ?_
 show AWp _ _ _ ⟨[(0, .agg [.sl (c.1.map dT), .p (.int .i64 c.2)])], []⟩
 have hlc := cOk_len hc
 have hbc := cOk_bound hc
 have hs2 : (stC c).2 = c.2 := by unfold stC; split <;> rfl
 rw [hs2]
 refine rs ?_
 refine op_n' (fun ver => j_boxa rfl) fun v1x1 => ?_
 refine op_n' (fun ver => j_alloc elt69 rfl) fun v2x2 => ?_
 refine oa rfl ?_
 refine on ?_
 refine a_seq ?_
 refine rs ?_
 refine op_v' (j_loada_box (ys := [.sl _, .p _]) agg69 rfl rfl rfl (Nat.le_of_ble_eq_true rfl)) ?_
 refine op_v0' (j_call0 (v := .p _) (hp1 := []) [] false [] ent115 (f_cvImpl c) ⟨.inl ⟨rfl, rfl⟩, trivial⟩ trivial rfl rfl (fun h => by cases h) rfl (fun _ h => by cases h) (.inl rfl) rfl rfl) ?_
 refine op_v' (j_not rfl) ?_
 refine on ?_
 refine ac rfl (fun h1 => ?_) fun h1 => ?_
 ·
  have h1r := h1
  try simp only [nq, nr, nl] at h1
  exact absurd h1r (by rw [hc]; decide)
 have h1r := h1
 try simp only [nq, nr, nl] at h1
 refine a_skip ?_
 refine rs ?_
 refine op_v' (j_fldp fld69f1 rfl rfl) ?_
 refine op_v' (j_load_box leaf3 rfl rfl rfl) ?_
 refine op_v' (j_build (parts := [(1, .tmp 12)]) str69 elt69 rfl rfl) ?_
 refine op_n' (fun ver => j_alloc elt69 rfl) fun v4x3 => ?_
 refine op_s' (j_storea_box0 agg69 rfl rfl rfl rfl rfl rfl) ?_
 refine on ?_
 refine a_adopt_box' 0 1004 135 2 (by decide) (id := 4) rfl rfl fun v1004x4 => ?_
 refine a_seq ?_
 refine rs ?_
 refine op_v' (j_fldp fld69f1 rfl rfl) ?_
 refine op_v' (j_load_box leaf3 rfl rfl rfl) ?_
 refine op_v' (j_gt rfl rfl) ?_
 refine on ?_
 refine ac rfl (fun h2 => ?_) fun h2 => ?_
 ·
  have h2r := h2
  try simp only [nq, nr, nl] at h2
  refine rs ?_
  refine op_v' (j_fldp fld69f0 rfl rfl) ?_
  refine op_v' (j_load_box leaf67 rfl rfl rfl) ?_
  refine op_v' (j_len_map Tryz.underlying67 rfl) ?_
  refine om rfl ?_
  refine on ?_
  refine a_block ?_
  refine a_loopF' (ι := Nat × Nat) (fun x => x.1 ≤ c.1.length) (fun x r => (20, .p (.int .i64 ((x.1 : Nat)))) :: r) (fun x r => (4, some (v4x3, .box 69 [.own 1004 x.2, .p (.int .i64 c.2)])) :: (1004, some (x.2, .row 135 2 (((c.1.take x.1).map (stT c.2)).map dT))) :: r) (fun x => c.1.length - x.1) (fun _ _ => rfl) (fun _ _ => rfl) (0, v1004x4) (by first | exact (Nat.zero_le _) | (dsimp only; exact (Nat.zero_le _))) ⟨⟨rfl, rfl⟩, ⟨rfl, trivial⟩, ⟨rfl, rfl, trivial⟩, ⟨rfl, rfl⟩, ⟨rfl, rfl⟩⟩ ?_
  rintro ⟨k, v⟩ hk; dsimp only at hk ⊢
  refine rs ?_
  refine op_v' (j_lt rfl rfl) ?_
  refine on ?_
  refine a_seq ?_
  refine ac rfl (fun h3 => ?_) fun h3 => ?_
  ·
   have h3r := h3
   try simp only [nq, nr, nl] at h3
   refine a_skip ?_
   refine a_seq ?_
   refine a_block ?_
   refine rs ?_
   refine op_v' (j_elemN slt67 rfl rfl rfl (at_map (by first | omega | (simp only [nr, nl]; omega))) rfl) ?_
   refine op_v' (j_loada_el (ys := [.p _, .p _]) agg135 rfl (at_map (by first | omega | (simp only [nr, nl]; omega))) rfl (Nat.le_refl _)) ?_
   refine op_n' (fun ver => j_alloc elt135 rfl) fun v6x5 => ?_
   refine op_s' (j_storea_box0 agg135 rfl rfl rfl rfl rfl rfl) ?_
   refine on ?_
   refine ar ?_
   refine op_v' (j_fldp fld69f0 rfl rfl) ?_
   refine op_v' (j_load_box leaf67 rfl rfl rfl) ?_
   refine op_v' (j_fldp fld135f0 rfl rfl) ?_
   refine op_v' (j_load_box leaf3 rfl rfl rfl) ?_
   refine op_v' (j_fldp fld69f1 rfl rfl) ?_
   refine op_v' (j_load_box leaf3 rfl rfl rfl) ?_
   refine op_v' (j_min rfl rfl) ?_
   refine op_v' (j_fldp fld135f1 rfl rfl) ?_
   refine op_v' (j_load_box leaf3 rfl rfl rfl) ?_
   refine op_v' (j_build (parts := [(0, .tmp 30), (1, .tmp 32)]) str135 elt135 rfl rfl) ?_
   refine op_n' (fun ver => j_buildSlice (parts := [(0, .tmp 33)]) (es := [[_, _]]) slt67 elt135 rfl rfl (by decide) (by decide) rfl rfl (by simp) rfl) fun v34x6 => ?_
   refine op_n' (fun ver => j_append_own slt67 elt135 rfl rfl rfl rfl rfl rfl (by rw [maxLen_eq]; first | omega | (simp only [nr, nl]; omega)) (by first | omega | (simp only [nr, nl]; omega))) fun v1004x7 => ?_
   refine op_v' (j_fldp fld69f0 rfl rfl) ?_
   refine op_s' (j_store_box leaf67 rfl rfl (Nat.le_of_ble_eq_true rfl) (evo rfl) rfl) ?_
   refine on ?_
   refine ar ?_
   refine op_v' (j_add rfl rfl (by first | omega | (simp only [nr, nl]; omega)) (by first | omega | (simp only [nr, nl]; omega))) ?_
   refine om rfl ?_
   refine on ?_
   exact ⟨(k + 1, v1004x7), (by first | exact (by first | omega | (simp only [nr, nl]; omega)) | (dsimp only; exact (by first | omega | (simp only [nr, nl]; omega)))), ⟨⟨rfl, rfl⟩, ⟨rfl, trivial⟩, ⟨rfl, rowEq (st_next (by omega) (by omega)), trivial⟩, ⟨rfl, rfl⟩, ⟨rfl, rfl⟩⟩, (by first | exact (by first | omega | (simp only [nr, nl]; omega)) | (dsimp only; exact (by first | omega | (simp only [nr, nl]; omega))))⟩
  have h3r := h3
  try simp only [nq, nr, nl] at h3
  refine a_exit ?_
  refine a_seq ?_
  refine a_freezeboxK 0 4 (by decide) trivial rfl rfl rfl rfl ?_
  try dsimp only [List.set]
  refine ar ?_
  refine op_v' (j_loada_box (ys := [.sl _, .p _]) agg69 rfl rfl rfl (Nat.le_of_ble_eq_true rfl)) ?_
  refine op_s' (j_storea_box0 agg69 rfl rfl rfl rfl rfl rfl) ?_
  refine oa rfl ?_
  refine on ?_
  refine a_ret ?_
  exact ⟨[.agg [.sl _, .p _], .p _], .tup [.agg [.sl _, .p _], .p _], [], [], [], ⟨⟨_, _, _, _, rfl, rfl, agg69, rfl⟩, rfl, trivial⟩, rfl, rfl, trivial, rfl, rfl, ⟨by first | (rw [stC_pos (by omega), show k = c.1.length by omega, List.take_length]) | (unfold stC; rw [if_neg (by omega)]; rfl), rfl, rfl⟩⟩
 have h2r := h2
 try simp only [nq, nr, nl] at h2
 refine a_skip ?_
 refine a_seq ?_
 refine a_freezeboxK 0 4 (by decide) trivial rfl rfl rfl rfl ?_
 try dsimp only [List.set]
 refine ar ?_
 refine op_v' (j_loada_box (ys := [.sl _, .p _]) agg69 rfl rfl rfl (Nat.le_of_ble_eq_true rfl)) ?_
 refine op_s' (j_storea_box0 agg69 rfl rfl rfl rfl rfl rfl) ?_
 refine oa rfl ?_
 refine on ?_
 refine a_ret ?_
 exact ⟨[.agg [.sl _, .p _], .p _], .tup [.agg [.sl _, .p _], .p _], [], [], [], ⟨⟨_, _, _, _, rfl, rfl, agg69, rfl⟩, rfl, trivial⟩, rfl, rfl, trivial, rfl, rfl, ⟨by first | (rw [stC_pos (by omega), show k = c.1.length by omega, List.take_length]) | (unfold stC; rw [if_neg (by omega)]; rfl), rfl, rfl⟩⟩
end Go.Ab

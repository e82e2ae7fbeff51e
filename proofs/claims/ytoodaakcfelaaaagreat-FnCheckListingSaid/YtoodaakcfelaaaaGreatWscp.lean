/- Walks. -/
import Derived.Test.YtoodaakcfelaaaaGreatBase
import Derived.Test.YtoodaakcfelaaaaGreatCub
import Derived.Test.YtoodaakcfelaaaaGreatWsrup
import Derived.Test.YtoodaakcfelaaaaGreatWsenum
import Derived.Test.YtoodaakcfelaaaaGreatWsexcl2
import Derived.Test.YtoodaakcfelaaaaGreatWsprob
import Derived.Test.YtoodaakcfelaaaaGreatDeep2
import Derived.Test.YtoodaakcfelaaaaGreatMod3
import Derived.Test.YtoodaakcfelaaaaGreatSimp
import Derived.Test.YtoodaakcfelaaaaGreatWscons
import Derived.Test.YtoodaakcfelaaaaGreatVals
import Derived.Test.YtoodaakcfelaaaaGreatWsfix
import Derived.Test.YtoodaakcfelaaaaGreatWsfun
import Derived.Test.YtoodaakcfelaaaaGreatWsmul
import Derived.Test.YtoodaakcfelaaaaGreatWsprobd
import Derived.Test.YtoodaakcfelaaaaGreatWsclau
import Derived.Test.YtoodaakcfelaaaaGreatWsdrawc
namespace Go.Ab
open Go.Proofs
set_option maxRecDepth 100000
set_option maxHeartbeats 8000000
set_option linter.unusedSimpArgs false
set_option linter.unusedVariables false
theorem f_cpImpl (l : List Con) (vs : List Int) : Fn Tryz.prog 24 [.sl (l.map dC), .sl (vs.map dI)] [] (fun rr ii nn => rr = .p (.int .i64 (cpV l vs)) ∧ ii = [] ∧ nn = []) := by
 refine fn_of Tryz.func24 rfl (Nat.le_of_ble_eq_true rfl) fun w X g => ?_
 show AWp _ _ _ ⟨[(0, .sl (l.map dC)), (1, .sl (vs.map dI))], []⟩
 refine rs ?_
 refine oa rfl ?_
 refine on ?_
 refine a_seq ?_
 refine rs ?_
 refine om rfl ?_
 refine op_v0' (j_call0 (v := .p _) (hp1 := []) [] false [] ent69 (f_pvImpl l) ⟨.inl ⟨rfl, rfl⟩, trivial⟩ trivial rfl rfl (fun h => by cases h) rfl (fun _ h => by cases h) (.inl rfl) rfl rfl) ?_
 refine op_v' (j_not rfl) ?_
 refine om rfl ?_
 refine op_split' 14 rfl (fun h1 => ?_) (fun h1 => ?_)
 ·
  have h1r := h1
  try simp only [nq, nr, nl, assn_length] at h1
  refine op_v' (j_unwantV rfl rfl h1r) ?_
  refine op_v' (j_unwantV rfl rfl h1r) ?_
  refine op_v' (j_unwantV rfl rfl h1r) ?_
  refine op_v' (j_pick_t rfl h1r (evo rfl)) ?_
  refine on ?_
  refine a_tt rfl ?_
  refine rs ?_
  refine oa rfl ?_
  refine on ?_
  refine a_ret ?_
  exact fin_p rfl ⟨intEq (by rw [cpV_bad (by first | exact .inl h1 | exact .inr (by assumption))]), rfl, rfl⟩
 have h1r := h1
 try simp only [nq, nr, nl, assn_length] at h1
 refine op_v' (j_want rfl rfl h1r (j_move (evo rfl))) ?_
 refine op_v0' (j_want rfl rfl h1r (j_call0 (v := .p _) (hp1 := []) [] false [] ent70 (f_areVars vs) ⟨.inl ⟨rfl, rfl⟩, trivial⟩ trivial rfl rfl (fun h => by cases h) rfl (fun _ h => by cases h) (.inl rfl) rfl rfl)) ?_
 refine op_v' (j_want rfl rfl h1r (j_not rfl)) ?_
 refine op_v' (j_pick_f rfl h1r (evo rfl)) ?_
 refine on ?_
 refine ac rfl (fun h2 => ?_) fun h2 => ?_
 ·
  have h2r := h2
  try simp only [nq, nr, nl, assn_length] at h2
  refine rs ?_
  refine oa rfl ?_
  refine on ?_
  refine a_ret ?_
  exact fin_p rfl ⟨intEq (by rw [cpV_bad (by first | exact .inl h1 | exact .inr (by assumption))]), rfl, rfl⟩
 have h2r := h2
 try simp only [nq, nr, nl, assn_length] at h2
 refine a_skip ?_
 refine a_seq ?_
 have hvl := vars_len (vs := vs) (by assumption)
 have hpo : pOk l = true := by assumption
 have hall := pOk_all hpo
 refine ar ?_
 refine op_n' (fun ver => j_makeMap) fun v19x1 => ?_
 refine oa rfl ?_
 refine on ?_
 refine a_seq ?_
 refine rs ?_
 refine om rfl ?_
 refine on ?_
 refine a_block ?_
 refine a_loopF' (ι := Nat) (fun n => n ≤ 4096) (fun n r => (20, .p (.int .i64 ((n : Nat)))) :: r) (fun n r => (19, some (v19x1, .map (mapK (keysN l vs n)))) :: r) (fun n => 4096 - n) (fun _ _ => rfl) (fun _ _ => rfl) 0 (by first | omega | (simp only [nr, nl, assn_length]; omega)) ⟨⟨rfl, rfl⟩, ⟨rfl, trivial⟩, ⟨rfl, trivial⟩, ⟨rfl, rfl⟩, ⟨rfl, rfl⟩⟩ ?_
 intro n hn
 refine rs ?_
 refine op_v' (j_lt rfl rfl) ?_
 refine on ?_
 refine a_seq ?_
 refine ac rfl (fun h3 => ?_) fun h3 => ?_
 ·
  have h3r := h3
  try simp only [nq, nr, nl, assn_length] at h3
  refine a_skip ?_
  refine a_seq ?_
  refine a_block ?_
  refine rs ?_
  refine om rfl ?_
  refine oa rfl ?_
  refine on ?_
  refine rs ?_
  refine om rfl ?_
  refine op_n1' (fun ver => j_call1 (v := .own 24 ver) (hp1 := [(24, some (ver, .row 4 1 _))]) [] false [] ent71 (f_numbered n (by omega)) ⟨.inl ⟨rfl, rfl⟩, trivial⟩ trivial rfl rfl rfl (fun h => by cases h) rfl (List.all_eq_true.1 rfl) (.inl rfl) rfl rfl) fun v24x2 => ?_
  refine op_freezeK 24 trivial rfl rfl rfl ?_
  refine oa rfl ?_
  refine on ?_
  refine a_seq ?_
  refine rs ?_
  refine om rfl ?_
  refine om rfl ?_
  refine op_v0' (j_call0 (v := .p _) (hp1 := []) [] false [] ent58 (f_sat l (assn n) hall assn_length) ⟨.inl ⟨rfl, rfl⟩, .inl ⟨rfl, rfl⟩, trivial⟩ trivial rfl rfl (fun h => by cases h) rfl (fun _ h => by cases h) (.inl rfl) rfl rfl) ?_
  refine op_v' (j_not rfl) ?_
  refine on ?_
  refine ac rfl (fun h4 => ?_) fun h4 => ?_
  ·
   have h4r := h4
   try simp only [nq, nr, nl, assn_length] at h4
   refine a_exit ?_
   refine ar ?_
   refine op_v' (j_add rfl rfl (by first | omega | (simp only [nr, nl, assn_length]; omega)) (by first | omega | (simp only [nr, nl, assn_length]; omega))) ?_
   refine om rfl ?_
   refine on ?_
   exact ⟨n + 1, (by first | omega | (simp only [nr, nl, assn_length]; omega)), ⟨⟨rfl, rfl⟩, ⟨rfl, trivial⟩, ⟨mapEq (by first | (rw [keys_y (by assumption)]) | (rw [keys_n (by assumption)])), trivial⟩, ⟨rfl, rfl⟩, ⟨rfl, rfl⟩⟩, (by first | omega | (simp only [nr, nl, assn_length]; omega))⟩
  have h4r := h4
  try simp only [nq, nr, nl, assn_length] at h4
  refine a_skip ?_
  refine rs ?_
  refine oa rfl ?_
  refine on ?_
  refine a_seq ?_
  refine rs ?_
  refine om rfl ?_
  refine op_v' (j_len_map Tryz.underlying23 rfl) ?_
  refine om rfl ?_
  refine on ?_
  refine a_block ?_
  refine a_loopF' (ι := Nat) (fun i => i ≤ vs.length) (fun i r => (31, .p (.int .i64 ((i : Nat)))) :: (8, .p (.int .i64 ((keyI (assn n) (vs.take i))))) :: r) (fun i r => r) (fun i => vs.length - i) (fun _ _ => rfl) (fun _ _ => rfl) 0 (by first | omega | (simp only [nr, nl, assn_length]; omega)) ⟨⟨rfl, rfl⟩, ⟨rfl, intEq rfl, trivial⟩, trivial, ⟨rfl, rfl⟩, ⟨rfl, rfl⟩⟩ ?_
  intro i hi
  refine rs ?_
  refine op_v' (j_lt rfl rfl) ?_
  refine on ?_
  refine a_seq ?_
  refine ac rfl (fun h5 => ?_) fun h5 => ?_
  ·
   have h5r := h5
   try simp only [nq, nr, nl, assn_length] at h5
   refine a_skip ?_
   refine a_seq ?_
   refine a_block ?_
   refine a_seq ?_
   have hva := vars_at (vs := vs) (by assumption) (k := i) (by omega)
   have hkr := keyI_12 (bs := assn n) hvl (i := i) (by omega)
   refine ar ?_
   refine op_v' (j_elemN slt23 rfl rfl rfl (at_map (by first | omega | (simp only [nr, nl, assn_length]; omega))) rfl) ?_
   refine op_v' (j_load_el leaf3 rfl (at_map (by first | omega | (simp only [nr, nl, assn_length]; omega))) rfl) ?_
   refine oa rfl ?_
   refine on ?_
   refine rs ?_
   refine om rfl ?_
   refine op_v' (j_mul rfl rfl (by first | omega | (simp only [nr, nl, assn_length]; omega)) (by first | omega | (simp only [nr, nl, assn_length]; omega))) ?_
   refine oa rfl ?_
   refine on ?_
   refine rs ?_
   refine om rfl ?_
   refine om rfl ?_
   refine op_v' (j_sub rfl rfl (by first | omega | (simp only [nr, nl, assn_length]; omega)) (by first | omega | (simp only [nr, nl, assn_length]; omega))) ?_
   refine op_v' (j_elemN (n := (vs.getD i default - 1).toNat) slt44 rfl rfl (by first | omega | (simp only [nr, nl, assn_length]; omega)) (at_map (by first | omega | (simp only [nr, nl, assn_length]; omega))) rfl) ?_
   refine op_v' (j_load_el leaf4 rfl (at_map (by first | omega | (simp only [nr, nl, assn_length]; omega))) rfl) ?_
   refine on ?_
   refine ac rfl (fun h6 => ?_) fun h6 => ?_
   ·
    have h6r := h6
    try simp only [nq, nr, nl, assn_length] at h6
    refine ar ?_
    refine om rfl ?_
    refine op_v' (j_add rfl rfl (by first | omega | (simp only [nr, nl, assn_length]; omega)) (by first | omega | (simp only [nr, nl, assn_length]; omega))) ?_
    refine oa rfl ?_
    refine on ?_
    refine ar ?_
    refine op_v' (j_add rfl rfl (by first | omega | (simp only [nr, nl, assn_length]; omega)) (by first | omega | (simp only [nr, nl, assn_length]; omega))) ?_
    refine om rfl ?_
    refine on ?_
    exact ⟨i + 1, (by first | omega | (simp only [nr, nl, assn_length]; omega)), ⟨⟨rfl, rfl⟩, ⟨rfl, intEq (by rw [keyI_y (by omega) (by assumption)]), trivial⟩, trivial, ⟨rfl, rfl⟩, ⟨rfl, rfl⟩⟩, (by first | omega | (simp only [nr, nl, assn_length]; omega))⟩
   have h6r := h6
   try simp only [nq, nr, nl, assn_length] at h6
   refine a_skip ?_
   refine ar ?_
   refine op_v' (j_add rfl rfl (by first | omega | (simp only [nr, nl, assn_length]; omega)) (by first | omega | (simp only [nr, nl, assn_length]; omega))) ?_
   refine om rfl ?_
   refine on ?_
   exact ⟨i + 1, (by first | omega | (simp only [nr, nl, assn_length]; omega)), ⟨⟨rfl, rfl⟩, ⟨rfl, intEq (by rw [keyI_n (by omega) (by assumption)]), trivial⟩, trivial, ⟨rfl, rfl⟩, ⟨rfl, rfl⟩⟩, (by first | omega | (simp only [nr, nl, assn_length]; omega))⟩
  have h5r := h5
  try simp only [nq, nr, nl, assn_length] at h5
  refine a_exit ?_
  obtain rfl : i = vs.length := by omega
  rw [List.take_length]
  refine ar ?_
  refine om rfl ?_
  refine om rfl ?_
  refine op_s' (j_mapSetI Tryz.underlying102 Tryz.underlying3 rfl rfl rfl rfl) ?_
  refine on ?_
  refine ar ?_
  refine op_v' (j_add rfl rfl (by first | omega | (simp only [nr, nl, assn_length]; omega)) (by first | omega | (simp only [nr, nl, assn_length]; omega))) ?_
  refine om rfl ?_
  refine on ?_
  exact ⟨n + 1, (by first | omega | (simp only [nr, nl, assn_length]; omega)), ⟨⟨rfl, rfl⟩, ⟨rfl, trivial⟩, ⟨mapEq (by first | (rw [keys_y (by assumption)]) | (rw [keys_n (by assumption)])), trivial⟩, ⟨rfl, rfl⟩, ⟨rfl, rfl⟩⟩, (by first | omega | (simp only [nr, nl, assn_length]; omega))⟩
 have h3r := h3
 try simp only [nq, nr, nl, assn_length] at h3
 refine a_exit ?_
 refine rs ?_
 refine om rfl ?_
 refine op_v' (j_len_mapI Tryz.underlying102 rfl rfl) ?_
 refine oa rfl ?_
 refine on ?_
 refine a_ret ?_
 exact fin_p rfl ⟨intEq (by rw [cpV_ok hpo (by assumption), show n = 4096 by omega]), rfl, rfl⟩
end Go.Ab

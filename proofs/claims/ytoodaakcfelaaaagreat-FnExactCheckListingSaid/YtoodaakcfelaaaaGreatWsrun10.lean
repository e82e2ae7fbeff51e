/- Walks. -/
import Derived.Test.YtoodaakcfelaaaaGreatBase2
import Derived.Test.YtoodaakcfelaaaaGreatPf5
import Derived.Test.YtoodaakcfelaaaaGreatPf4
import Derived.Test.YtoodaakcfelaaaaGreatWsrun7
import Derived.Test.YtoodaakcfelaaaaGreatBase
import Derived.Test.YtoodaakcfelaaaaGreatCub
import Derived.Test.YtoodaakcfelaaaaGreatWsrup
import Derived.Test.YtoodaakcfelaaaaGreatWsenum
import Derived.Test.YtoodaakcfelaaaaGreatWsexcl2
import Derived.Test.YtoodaakcfelaaaaGreatWsprob
import Derived.Test.YtoodaakcfelaaaaGreatDeep2
import Derived.Test.YtoodaakcfelaaaaGreatWsdeep
import Derived.Test.YtoodaakcfelaaaaGreatSimp
import Derived.Test.YtoodaakcfelaaaaGreatWsfix
import Derived.Test.YtoodaakcfelaaaaGreatWsfun
import Derived.Test.YtoodaakcfelaaaaGreatWsmul
import Derived.Test.YtoodaakcfelaaaaGreatWsdrawc
import Derived.Test.YtoodaakcfelaaaaGreatWstab
import Derived.Test.YtoodaakcfelaaaaGreatWsmod3
import Derived.Test.YtoodaakcfelaaaaGreatFr
import Derived.Test.YtoodaakcfelaaaaGreatWscons
import Derived.Test.YtoodaakcfelaaaaGreatWsexcl
import Derived.Test.YtoodaakcfelaaaaGreatVals
import Derived.Test.YtoodaakcfelaaaaGreatWsvals
namespace Go.Ab
open Go.Proofs
set_option maxRecDepth 100000
set_option maxHeartbeats 8000000
set_option linter.unusedSimpArgs false
set_option linter.unusedVariables false
theorem f_szBoolS (ns : List Bool) (n : Int) (hn : 0 ≤ n ∧ n ≤ 4611686018427387904) : Fn Tryz.prog 46 [.sl (ns.map dB), .p (.int .i64 (n))] [] (fun rr ii nn => rr = .p (.int .i64 (szv ns.length n)) ∧ ii = [] ∧ nn = []) := by
 refine fn_of Tryz.func46 rfl (Nat.le_of_ble_eq_true rfl) fun w X g => ?_
 show AWp _ _ _ ⟨[(0, .sl (ns.map dB)), (1, .p (.int .i64 (n)))], []⟩
 refine a_len_map 0 rfl fun hla => ?_
 refine rs ?_
 refine oa rfl ?_
 refine on ?_
 refine rs ?_
 refine om rfl ?_
 refine om rfl ?_
 refine op_v' (j_len_map Tryz.underlying44 rfl) ?_
 refine op_v' (j_sub rfl rfl (by omega) (by omega)) ?_
 refine oa rfl ?_
 refine on ?_
 refine a_seq ?_
 refine rs ?_
 refine om rfl ?_
 refine op_v' (j_lt rfl rfl) ?_
 refine on ?_
 refine ac rfl (fun h1 => ?_) fun h1 => ?_
 ·
  have h1r := h1
  try simp only [nq, nr] at h1
  refine rs ?_
  refine oa rfl ?_
  refine on ?_
  refine a_ret ?_
  exact fin_p rfl ⟨intEq (by unfold szv; split <;> omega), rfl, rfl⟩
 have h1r := h1
 try simp only [nq, nr] at h1
 refine a_skip ?_
 refine rs ?_
 refine om rfl ?_
 refine oa rfl ?_
 refine on ?_
 refine a_ret ?_
 exact fin_p rfl ⟨intEq (by unfold szv; split <;> omega), rfl, rfl⟩
theorem f_szBoolSS (xs : List (List Bool)) (n : Int) (hn : 0 ≤ n ∧ n ≤ 4611686018427387904) : Fn Tryz.prog 9 [.sl (xs.map dD), .p (.int .i64 (n))] [] (fun rr ii nn => rr = .p (.int .i64 (szv (wLB xs) n)) ∧ ii = [] ∧ nn = []) := by
 refine fn_of Tryz.func9 rfl (Nat.le_of_ble_eq_true rfl) fun w X g => ?_
 show AWp _ _ _ ⟨[(0, .sl (xs.map dD)), (1, .p (.int .i64 (n)))], []⟩
 refine a_len_map 0 rfl fun hla => ?_
 refine rs ?_
 refine oa rfl ?_
 refine on ?_
 refine rs ?_
 refine om rfl ?_
 refine om rfl ?_
 refine op_v' (j_len_map Tryz.underlying24 rfl) ?_
 refine op_v' (j_sub rfl rfl (by first | omega | (simp only [nr]; omega)) (by first | omega | (simp only [nr]; omega))) ?_
 refine oa rfl ?_
 refine on ?_
 refine a_seq ?_
 refine rs ?_
 refine om rfl ?_
 refine op_v' (j_lt rfl rfl) ?_
 refine on ?_
 refine ac rfl (fun h1 => ?_) fun h1 => ?_
 ·
  have h1r := h1
  try simp only [nq, nr] at h1
  refine rs ?_
  refine oa rfl ?_
  refine on ?_
  refine a_ret ?_
  exact fin_p rfl ⟨intEq (by have hT := szv_cases (n := wLB xs) (k := n); have hw : wLB xs = xs.length + sumW List.length xs := rfl; omega), rfl, rfl⟩
 have h1r := h1
 try simp only [nq, nr] at h1
 refine a_skip ?_
 refine a_seq ?_
 refine rs ?_
 refine oa rfl ?_
 refine on ?_
 refine a_block ?_
 refine a_loopF' (ι := Nat) (fun k => k ≤ xs.length ∧ (xs.length : Int) + (sumW List.length (xs.take k) : Nat) ≤ n) (fun k r => (5, .p (.int .i64 ((k : Nat)))) :: (1, .p (.int .i64 (n - xs.length - (sumW List.length (xs.take k) : Nat)))) :: r) (fun k r => r) (fun k => xs.length - k) (fun _ _ => rfl) (fun _ _ => rfl) 0 ⟨Nat.zero_le _, by simp [sumW]; omega⟩ ⟨⟨rfl, rfl⟩, ⟨rfl, intEq (by simp [sumW]), trivial⟩, trivial, ⟨rfl, rfl⟩, ⟨rfl, rfl⟩⟩ ?_
 intro k hk
 refine a_seq ?_
 refine rs ?_
 refine om rfl ?_
 refine om rfl ?_
 refine op_v' (j_len_map Tryz.underlying24 rfl) ?_
 refine op_v' (j_lt rfl rfl) ?_
 refine on ?_
 refine ac rfl (fun h2 => ?_) fun h2 => ?_
 ·
  have h2r := h2
  try simp only [nq, nr] at h2
  refine a_skip ?_
  refine a_seq ?_
  refine a_block ?_
  refine rs ?_
  refine om rfl ?_
  refine om rfl ?_
  refine op_v' (j_elemN slt24 rfl rfl rfl (at_map (by first | omega | (simp only [nr]; omega))) rfl) ?_
  refine op_v' (j_load_el leaf44 rfl (at_map (by first | omega | (simp only [nr]; omega))) rfl) ?_
  refine om rfl ?_
  refine op_v0' (j_call0 (v := .p _) (hp1 := []) [] false [] ent46 (f_szBoolS (xs.getD k default) _ (by omega)) ⟨.inl ⟨rfl, rfl⟩, .inl ⟨rfl, rfl⟩, trivial⟩ trivial rfl rfl (fun h => by cases h) rfl (fun _ h => by cases h) (.inl rfl) rfl rfl) ?_
  refine oa rfl ?_
  refine on ?_
  refine a_seq ?_
  have hs1 := szv_cases (n := List.length (xs.getD k default)) (k := n - xs.length - (sumW List.length (xs.take k) : Nat))
  have hs2 := sumW_take (w := List.length) (d := default) (l := xs) (k := k) (by omega)
  have hs3 := sumW_le (w := List.length) (l := xs) (k := k + 1)
  refine ar ?_
  refine om rfl ?_
  refine op_v' (j_lt rfl rfl) ?_
  refine on ?_
  refine ac rfl (fun h3 => ?_) fun h3 => ?_
  ·
   have h3r := h3
   try simp only [nq, nr] at h3
   refine rs ?_
   refine oa rfl ?_
   refine on ?_
   refine a_ret ?_
   exact fin_p rfl ⟨intEq (by have hT := szv_cases (n := wLB xs) (k := n); have hw : wLB xs = xs.length + sumW List.length xs := rfl; omega), rfl, rfl⟩
  have h3r := h3
  try simp only [nq, nr] at h3
  refine a_skip ?_
  refine ar ?_
  refine om rfl ?_
  refine op_v' (j_add rfl rfl (by first | omega | (simp only [nr]; omega)) (by first | omega | (simp only [nr]; omega))) ?_
  refine oa rfl ?_
  refine on ?_
  exact ⟨k + 1, ⟨by omega, by omega⟩, ⟨⟨rfl, rfl⟩, ⟨rfl, intEq (by omega), trivial⟩, trivial, ⟨rfl, rfl⟩, ⟨rfl, rfl⟩⟩, (by first | omega | (simp only [nr]; omega))⟩
 have h2r := h2
 try simp only [nq, nr] at h2
 refine a_exit ?_
 refine rs ?_
 refine om rfl ?_
 refine oa rfl ?_
 refine on ?_
 refine a_ret ?_
 exact fin_p rfl ⟨intEq (by have hT := szv_cases (n := wLB xs) (k := n); have hw : wLB xs = xs.length + sumW List.length xs := rfl; have he : sumW List.length (xs.take k) = sumW List.length xs := (by rw [List.take_of_length_le (by omega)]); omega), rfl, rfl⟩
theorem f_toBoolSS (xs : List (List Bool)) (hx : wLB xs ≤ 1048576) : Fn Tryz.prog 14 [.sl (xs.map dD)] [] (fun rr ii nn => rr = .own 0 0 ∧ ii = [] ∧ nn = [.deep (.mk 44 1 [(0, .mk 4 1 [])]) ((xs).map dD) none]) := by
 refine fn_of Tryz.func14 rfl (Nat.le_of_ble_eq_true rfl) fun w X g => ?_
 show AWp _ _ _ ⟨[(0, .sl (xs.map dD))], []⟩
 have hxl : xs.length ≤ 1048576 := by unfold wLB at hx; omega
 refine rs ?_
 refine oa rfl ?_
 refine on ?_
 refine rs ?_
 refine om rfl ?_
 refine op_v' (j_len_map Tryz.underlying24 rfl) ?_
 refine op_n' (fun ver => j_make slt24 elt44 rfl rfl (by decide) rfl rfl rfl rfl (by first | omega | (simp only [nr, wr_length]; omega)) (by rw [maxLen_eq]; first | omega | (simp only [nr, wr_length]; omega))) fun v7x1 => ?_
 refine op_todeep 7 (xs.length) (.mk 44 1 [(0, (.mk 4 1 []))]) rfl rfl rfl rfl (eat_nils rfl eat_end) rfl ?_
 refine oa rfl ?_
 refine on ?_
 refine a_seq ?_
 refine rs ?_
 refine oa rfl ?_
 refine on ?_
 refine a_block ?_
 refine a_loopF' (ι := Nat) (fun k => k ≤ xs.length) (fun k r => (4, .p (.int .i64 ((k : Nat)))) :: r) (fun k r => (7, some (v7x1, .deep (.mk 44 1 [(0, .mk 4 1 [])]) (wr dD xs k (dD [])) none)) :: r) (fun k => xs.length - k) (fun _ _ => rfl) (fun _ _ => rfl) 0 (by first | omega | (simp only [nr, wr_length]; omega)) ⟨⟨rfl, rfl⟩, ⟨rfl, trivial⟩, ⟨deepEq (by rw [wr_zero]; rfl), trivial⟩, ⟨rfl, rfl⟩, ⟨rfl, rfl⟩⟩ ?_
 intro k hpre0
 refine a_seq ?_
 refine rs ?_
 refine om rfl ?_
 refine om rfl ?_
 refine op_v' (j_len_map Tryz.underlying24 rfl) ?_
 refine op_v' (j_lt rfl rfl) ?_
 refine on ?_
 refine ac rfl (fun h1 => ?_) fun h1 => ?_
 ·
  have h1r := h1
  try simp only [nq, nr, wr_length] at h1
  refine a_skip ?_
  refine a_seq ?_
  refine a_block ?_
  refine ar ?_
  refine om rfl ?_
  refine om rfl ?_
  refine om rfl ?_
  refine om rfl ?_
  refine op_v' (j_elemN slt24 rfl rfl rfl (at_map (by first | omega | (simp only [nr, wr_length]; omega))) rfl) ?_
  refine op_v' (j_load_el leaf44 rfl (at_map (by first | omega | (simp only [nr, wr_length]; omega))) rfl) ?_
  refine op_n1' (fun ver => j_call1 (v := .own 20 ver) (hp1 := [(20, some (ver, .row 4 1 _))]) [] false [] ent54 (f_toBoolS (xs.getD k default) (by have := sumW_at (w := List.length) (l := xs) (k := k) (by first | omega | (simp only [nr, wr_length]; omega)); unfold wLB at hx; omega)) ⟨.inl ⟨rfl, rfl⟩, trivial⟩ trivial rfl rfl rfl (fun h => by cases h) rfl (List.all_eq_true.1 rfl) (.inl rfl) rfl rfl) fun v20x2 => ?_
  refine op_v' (j_elem_deepN slt24 rfl rfl rfl rfl rfl (by first | omega | (simp only [nr, wr_length]; omega))) ?_
  refine op_s1' (j_storel_deep leaf44 rfl rfl (fun _ _ _ _ h => by cases h) rfl (by first | omega | (simp only [nr, wr_length]; omega)) rfl (eat_own rfl rfl rfl eat_end) rfl rfl) ?_
  dsimp only [List.map_cons, List.map_nil, List.cons_append, List.nil_append]
  refine on ?_
  refine ar ?_
  refine om rfl ?_
  refine op_v' (j_add rfl rfl (by first | omega | (simp only [nr, wr_length]; omega)) (by first | omega | (simp only [nr, wr_length]; omega))) ?_
  refine oa rfl ?_
  refine on ?_
  exact ⟨k + 1, (by first | omega | (simp only [nr, wr_length]; omega)), ⟨⟨rfl, rfl⟩, ⟨rfl, trivial⟩, ⟨deepEq (wr_set (d := default) (by first | omega | (simp only [nr, wr_length]; omega))), trivial⟩, ⟨rfl, rfl⟩, ⟨rfl, rfl⟩⟩, (by first | omega | (simp only [nr, wr_length]; omega))⟩
 have h1r := h1
 try simp only [nq, nr, wr_length] at h1
 refine a_exit ?_
 refine rs ?_
 refine om rfl ?_
 refine oa rfl ?_
 refine on ?_
 refine a_ret ?_
 exact ⟨[.own 7 v7x1], .own 0 0, [], [.deep (.mk 44 1 [(0, (.mk 4 1 []))]) _ none], [(7, v7x1)], ⟨rfl, trivial⟩, rfl, rfl, ⟨⟨rfl, rfl⟩, trivial⟩, rfl, rfl, ⟨rfl, rfl, congrArg (fun x => [Obj.deep _ x none]) (wr_all (by first | omega | (simp only [nr, wr_length]; omega)))⟩⟩
theorem f_szStep (s : Stp) (n : Int) (hn : 0 ≤ n ∧ n ≤ 4611686018427387904) : Fn Tryz.prog 47 [.agg [.p (.int .i64 s.1), .p (.int .i64 s.2.1), .p (.int .i64 s.2.2.1), .sl (s.2.2.2.1.map dT), .p (.int .i64 s.2.2.2.2)], .p (.int .i64 (n))] [] (fun rr ii nn => rr = .p (.int .i64 (szv (wGv s) n)) ∧ ii = [] ∧ nn = []) := by
 refine fn_of Tryz.func47 rfl (Nat.le_of_ble_eq_true rfl) fun w X g => ?_
 show AWp _ _ _ ⟨[(0, .agg [.p (.int .i64 s.1), .p (.int .i64 s.2.1), .p (.int .i64 s.2.2.1), .sl (s.2.2.2.1.map dT), .p (.int .i64 s.2.2.2.2)]), (1, .p (.int .i64 (n)))], []⟩
 have hs1 := szv_cases (n := wGv s) (k := n)
 refine rs ?_
 refine op_n' (fun ver => j_boxa rfl) fun v2x1 => ?_
 refine oa rfl ?_
 refine on ?_
 refine rs ?_
 refine op_v' (j_fldp fld82f3 rfl rfl) ?_
 refine op_v' (j_loada_box (ys := [.sl _, .p _]) agg78 rfl rfl rfl (Nat.le_of_ble_eq_true rfl)) ?_
 refine om rfl ?_
 refine op_v0' (j_call0 (v := .p _) (hp1 := []) [] false [] ent45 (f_szCon s.2.2.2 n hn) ⟨.inl ⟨rfl, rfl⟩, .inl ⟨rfl, rfl⟩, trivial⟩ trivial rfl rfl (fun h => by cases h) rfl (fun _ h => by cases h) (.inl rfl) rfl rfl) ?_
 refine oa rfl ?_
 refine on ?_
 refine a_seq ?_
 refine rs ?_
 refine om rfl ?_
 refine op_v' (j_lt rfl rfl) ?_
 refine on ?_
 refine ac rfl (fun h1 => ?_) fun h1 => ?_
 ·
  have h1r := h1
  try simp only [nq, nr] at h1
  refine rs ?_
  refine oa rfl ?_
  refine on ?_
  refine a_ret ?_
  exact fin_p rfl ⟨intEq (by unfold wGv at *; omega), rfl, rfl⟩
 have h1r := h1
 try simp only [nq, nr] at h1
 refine a_skip ?_
 refine rs ?_
 refine om rfl ?_
 refine oa rfl ?_
 refine on ?_
 refine a_ret ?_
 exact fin_p rfl ⟨intEq (by unfold wGv at *; omega), rfl, rfl⟩
theorem f_szStepS (ss : List Stp) (n : Int) (hn : 0 ≤ n ∧ n ≤ 4611686018427387904) : Fn Tryz.prog 10 [.sl (ss.map dStp), .p (.int .i64 (n))] [] (fun rr ii nn => rr = .p (.int .i64 (szv (wSt ss) n)) ∧ ii = [] ∧ nn = []) := by
 refine fn_of Tryz.func10 rfl (Nat.le_of_ble_eq_true rfl) fun w X g => ?_
 show AWp _ _ _ ⟨[(0, .sl (ss.map dStp)), (1, .p (.int .i64 (n)))], []⟩
 refine a_len_map 0 rfl fun hla => ?_
 refine rs ?_
 refine oa rfl ?_
 refine on ?_
 refine rs ?_
 refine om rfl ?_
 refine om rfl ?_
 refine op_v' (j_len_map Tryz.underlying25 rfl) ?_
 refine op_v' (j_sub rfl rfl (by first | omega | (simp only [nr]; omega)) (by first | omega | (simp only [nr]; omega))) ?_
 refine oa rfl ?_
 refine on ?_
 refine a_seq ?_
 refine rs ?_
 refine om rfl ?_
 refine op_v' (j_lt rfl rfl) ?_
 refine on ?_
 refine ac rfl (fun h1 => ?_) fun h1 => ?_
 ·
  have h1r := h1
  try simp only [nq, nr] at h1
  refine rs ?_
  refine oa rfl ?_
  refine on ?_
  refine a_ret ?_
  exact fin_p rfl ⟨intEq (by have hT := szv_cases (n := wSt ss) (k := n); have hw : wSt ss = ss.length + sumW wGv ss := rfl; omega), rfl, rfl⟩
 have h1r := h1
 try simp only [nq, nr] at h1
 refine a_skip ?_
 refine a_seq ?_
 refine rs ?_
 refine oa rfl ?_
 refine on ?_
 refine a_block ?_
 refine a_loopF' (ι := Nat) (fun k => k ≤ ss.length ∧ (ss.length : Int) + (sumW wGv (ss.take k) : Nat) ≤ n) (fun k r => (5, .p (.int .i64 ((k : Nat)))) :: (1, .p (.int .i64 (n - ss.length - (sumW wGv (ss.take k) : Nat)))) :: r) (fun k r => r) (fun k => ss.length - k) (fun _ _ => rfl) (fun _ _ => rfl) 0 ⟨Nat.zero_le _, by simp [sumW]; omega⟩ ⟨⟨rfl, rfl⟩, ⟨rfl, intEq (by simp [sumW]), trivial⟩, trivial, ⟨rfl, rfl⟩, ⟨rfl, rfl⟩⟩ ?_
 intro k hk
 refine a_seq ?_
 refine rs ?_
 refine om rfl ?_
 refine om rfl ?_
 refine op_v' (j_len_map Tryz.underlying25 rfl) ?_
 refine op_v' (j_lt rfl rfl) ?_
 refine on ?_
 refine ac rfl (fun h2 => ?_) fun h2 => ?_
 ·
  have h2r := h2
  try simp only [nq, nr] at h2
  refine a_skip ?_
  refine a_seq ?_
  refine a_block ?_
  refine rs ?_
  refine om rfl ?_
  refine om rfl ?_
  refine op_v' (j_elemN slt25 rfl rfl rfl (at_map (by first | omega | (simp only [nr]; omega))) rfl) ?_
  refine op_v' (j_loada_el (ys := [.p _, .p _, .p _, .sl _, .p _]) agg82 rfl (at_map (by first | omega | (simp only [nr]; omega))) rfl (Nat.le_refl _)) ?_
  refine om rfl ?_
  refine op_v0' (j_call0 (v := .p _) (hp1 := []) [] false [] ent47 (f_szStep (ss.getD k default) _ (by omega)) ⟨.inl ⟨rfl, rfl⟩, .inl ⟨rfl, rfl⟩, trivial⟩ trivial rfl rfl (fun h => by cases h) rfl (fun _ h => by cases h) (.inl rfl) rfl rfl) ?_
  refine oa rfl ?_
  refine on ?_
  refine a_seq ?_
  have hs1 := szv_cases (n := wGv (ss.getD k default)) (k := n - ss.length - (sumW wGv (ss.take k) : Nat))
  have hs2 := sumW_take (w := wGv) (d := default) (l := ss) (k := k) (by omega)
  have hs3 := sumW_le (w := wGv) (l := ss) (k := k + 1)
  refine ar ?_
  refine om rfl ?_
  refine op_v' (j_lt rfl rfl) ?_
  refine on ?_
  refine ac rfl (fun h3 => ?_) fun h3 => ?_
  ·
   have h3r := h3
   try simp only [nq, nr] at h3
   refine rs ?_
   refine oa rfl ?_
   refine on ?_
   refine a_ret ?_
   exact fin_p rfl ⟨intEq (by have hT := szv_cases (n := wSt ss) (k := n); have hw : wSt ss = ss.length + sumW wGv ss := rfl; omega), rfl, rfl⟩
  have h3r := h3
  try simp only [nq, nr] at h3
  refine a_skip ?_
  refine ar ?_
  refine om rfl ?_
  refine op_v' (j_add rfl rfl (by first | omega | (simp only [nr]; omega)) (by first | omega | (simp only [nr]; omega))) ?_
  refine oa rfl ?_
  refine on ?_
  exact ⟨k + 1, ⟨by omega, by omega⟩, ⟨⟨rfl, rfl⟩, ⟨rfl, intEq (by omega), trivial⟩, trivial, ⟨rfl, rfl⟩, ⟨rfl, rfl⟩⟩, (by first | omega | (simp only [nr]; omega))⟩
 have h2r := h2
 try simp only [nq, nr] at h2
 refine a_exit ?_
 refine rs ?_
 refine om rfl ?_
 refine oa rfl ?_
 refine on ?_
 refine a_ret ?_
 exact fin_p rfl ⟨intEq (by have hT := szv_cases (n := wSt ss) (k := n); have hw : wSt ss = ss.length + sumW wGv ss := rfl; have he : sumW wGv (ss.take k) = sumW wGv ss := (by rw [List.take_of_length_le (by omega)]); omega), rfl, rfl⟩
theorem f_toStep (s : Stp) (hs : s.2.2.2.1.length ≤ 1048576) : Fn Tryz.prog 55 [.agg [.p (.int .i64 s.1), .p (.int .i64 s.2.1), .p (.int .i64 s.2.2.1), .sl (s.2.2.2.1.map dT), .p (.int .i64 s.2.2.2.2)]] [] (fun rr ii nn => rr = .agg [.p (.int .i64 s.1), .p (.int .i64 s.2.1), .p (.int .i64 s.2.2.1), .own 0 0, .p (.int .i64 s.2.2.2.2)] ∧ ii = [] ∧ nn = [.row 135 2 (s.2.2.2.1.map dT)]) := by
 refine fn_of Tryz.func55 rfl (Nat.le_of_ble_eq_true rfl) fun w X g => ?_
 show AWp _ _ _ ⟨[(0, .agg [.p (.int .i64 s.1), .p (.int .i64 s.2.1), .p (.int .i64 s.2.2.1), .sl (s.2.2.2.1.map dT), .p (.int .i64 s.2.2.2.2)])], []⟩
 refine rs ?_
 refine op_n' (fun ver => j_boxa rfl) fun v1x1 => ?_
 refine op_n' (fun ver => j_alloc elt89 rfl) fun v2x2 => ?_
 refine on ?_
 refine rs ?_
 refine op_n' (fun ver => j_alloc elt89 rfl) fun v3x3 => ?_
 refine on ?_
 refine rs ?_
 refine op_v' (j_fldp fld82f0 rfl rfl) ?_
 refine op_v' (j_load_box leaf3 rfl rfl rfl) ?_
 refine op_v' (j_fldp fld89f0 rfl rfl) ?_
 refine op_s' (j_store_box leaf3 rfl rfl (Nat.le_of_ble_eq_true rfl) (evo rfl) rfl) ?_
 refine on ?_
 refine rs ?_
 refine op_v' (j_fldp fld82f1 rfl rfl) ?_
 refine op_v' (j_load_box leaf3 rfl rfl rfl) ?_
 refine op_v' (j_fldp fld89f1 rfl rfl) ?_
 refine op_s' (j_store_box leaf3 rfl rfl (Nat.le_of_ble_eq_true rfl) (evo rfl) rfl) ?_
 refine on ?_
 refine rs ?_
 refine op_v' (j_fldp fld82f2 rfl rfl) ?_
 refine op_v' (j_load_box leaf3 rfl rfl rfl) ?_
 refine op_v' (j_fldp fld89f2 rfl rfl) ?_
 refine op_s' (j_store_box leaf3 rfl rfl (Nat.le_of_ble_eq_true rfl) (evo rfl) rfl) ?_
 refine on ?_
 refine rs ?_
 refine op_v' (j_fldp fld82f3 rfl rfl) ?_
 refine op_v' (j_loada_box (ys := [.sl _, .p _]) agg78 rfl rfl rfl (Nat.le_of_ble_eq_true rfl)) ?_
 refine op_n1' (fun ver => j_call1 (v := .agg [.own 15 ver, .p _]) (hp1 := [(15, some (ver, .row 135 2 _))]) [] false [] ent53 (f_toCon s.2.2.2 hs) ⟨.inl ⟨rfl, rfl⟩, trivial⟩ trivial rfl rfl rfl (fun h => by cases h) rfl (List.all_eq_true.1 rfl) (.inl rfl) rfl rfl) fun v15x4 => ?_
 refine op_v' (j_fldp fld89f3 rfl rfl) ?_
 refine op_s' (j_storea_box agg69 rfl rfl rfl (Nat.le_of_ble_eq_true rfl) rfl rfl) ?_
 refine on ?_
 refine rs ?_
 refine op_v' (j_loada_box (ys := [.p _, .p _, .p _, .own 15 v15x4, .p _]) agg89 rfl rfl rfl (Nat.le_of_ble_eq_true rfl)) ?_
 refine op_s' (j_storea_box0 agg89 rfl rfl rfl rfl rfl rfl) ?_
 refine on ?_
 refine a_ret ?_
 exact ⟨[.agg [.p _, .p _, .p _, .own 15 v15x4, .p _]], .agg [.p _, .p _, .p _, .own 0 0, .p _], [], [.row 135 2 _], [(15, v15x4)], ⟨⟨_, _, _, _, rfl, rfl, agg89, rfl⟩, trivial⟩, rfl, rfl, ⟨⟨rfl, rfl⟩, trivial⟩, rfl, rfl, ⟨rfl, rfl, rfl⟩⟩
theorem f_toStepS (ss : List Stp) (hx : wSt ss ≤ 1048576) : Fn Tryz.prog 15 [.sl (ss.map dStp)] [] (fun rr ii nn => rr = .own 0 0 ∧ ii = [] ∧ nn = [.deep (.mk 89 5 [(3, .mk 135 2 [])]) (ss.map dStp) none]) := by
 refine fn_of Tryz.func15 rfl (Nat.le_of_ble_eq_true rfl) fun w X g => ?_
 show AWp _ _ _ ⟨[(0, .sl (ss.map dStp))], []⟩
 have hxl : ss.length ≤ 1048576 := by unfold wSt at hx; omega
 have hxa := wSt_at hx
 refine rs ?_
 refine oa rfl ?_
 refine on ?_
 refine rs ?_
 refine om rfl ?_
 refine op_v' (j_len_map Tryz.underlying25 rfl) ?_
 refine op_n' (fun ver => j_make slt34 elt89 rfl rfl (by decide) rfl rfl rfl rfl (by first | omega | (simp only [nr, wr_length]; omega)) (by rw [maxLen_eq]; first | omega | (simp only [nr, wr_length]; omega))) fun v7x1 => ?_
 refine op_todeep 7 (ss.length) (.mk 89 5 [(3, (.mk 135 2 []))]) rfl rfl rfl rfl (eat_leaf rfl rfl rfl (eat_leaf rfl rfl rfl (eat_leaf rfl rfl rfl (eat_nils rfl (eat_leaf rfl rfl rfl eat_end))))) rfl ?_
 refine oa rfl ?_
 refine on ?_
 refine a_seq ?_
 refine rs ?_
 refine oa rfl ?_
 refine on ?_
 refine a_block ?_
 refine a_loopF' (ι := Nat) (fun k => k ≤ ss.length) (fun k r => (4, .p (.int .i64 ((k : Nat)))) :: r) (fun k r => (7, some (v7x1, .deep (.mk 89 5 [(3, .mk 135 2 [])]) (wr dStp ss k (dStp (0, 0, 0, ([], 0)))) none)) :: r) (fun k => ss.length - k) (fun _ _ => rfl) (fun _ _ => rfl) 0 (by first | omega | (simp only [nr, wr_length]; omega)) ⟨⟨rfl, rfl⟩, ⟨rfl, trivial⟩, ⟨deepEq (by rw [wr_zero]; rfl), trivial⟩, ⟨rfl, rfl⟩, ⟨rfl, rfl⟩⟩ ?_
 intro k hpre0
 refine a_seq ?_
 refine rs ?_
 refine om rfl ?_
 refine om rfl ?_
 refine op_v' (j_len_map Tryz.underlying25 rfl) ?_
 refine op_v' (j_lt rfl rfl) ?_
 refine on ?_
 refine ac rfl (fun h1 => ?_) fun h1 => ?_
 ·
  have h1r := h1
  try simp only [nq, nr, wr_length] at h1
  refine a_skip ?_
  refine a_seq ?_
  refine a_block ?_
  refine ar ?_
  refine om rfl ?_
  refine om rfl ?_
  refine om rfl ?_
  refine om rfl ?_
  refine op_v' (j_elemN slt25 rfl rfl rfl (at_map (by first | omega | (simp only [nr, wr_length]; omega))) rfl) ?_
  refine op_v' (j_loada_el (ys := [.p _, .p _, .p _, .sl _, .p _]) agg82 rfl (at_map (by first | omega | (simp only [nr, wr_length]; omega))) rfl (Nat.le_refl _)) ?_
  refine op_n1' (fun ver => j_call1 (v := .agg [.p _, .p _, .p _, .own 20 ver, .p _]) (hp1 := [(20, some (ver, .row 135 2 _))]) [] false [] ent55 (f_toStep (ss.getD k default) (hxa _ (getD_mem (by first | omega | (simp only [nr, wr_length]; omega))))) ⟨.inl ⟨rfl, rfl⟩, trivial⟩ trivial rfl rfl rfl (fun h => by cases h) rfl (List.all_eq_true.1 rfl) (.inl rfl) rfl rfl) fun v20x2 => ?_
  refine op_v' (j_elem_deepN slt34 rfl rfl rfl rfl rfl (by first | omega | (simp only [nr, wr_length]; omega))) ?_
  refine op_s1' (j_storea_deep agg89 rfl rfl rfl (by first | omega | (simp only [nr, wr_length]; omega)) rfl rfl (eat_leaf rfl rfl rfl (eat_leaf rfl rfl rfl (eat_leaf rfl rfl rfl (eat_own rfl rfl rfl (eat_leaf rfl rfl rfl eat_end))))) rfl rfl) ?_
  dsimp only [List.map_cons, List.map_nil, List.cons_append, List.nil_append]
  refine on ?_
  refine ar ?_
  refine om rfl ?_
  refine op_v' (j_add rfl rfl (by first | omega | (simp only [nr, wr_length]; omega)) (by first | omega | (simp only [nr, wr_length]; omega))) ?_
  refine oa rfl ?_
  refine on ?_
  exact ⟨k + 1, (by first | omega | (simp only [nr, wr_length]; omega)), ⟨⟨rfl, rfl⟩, ⟨rfl, trivial⟩, ⟨deepEq (wr_set (d := default) (by first | omega | (simp only [nr, wr_length]; omega))), trivial⟩, ⟨rfl, rfl⟩, ⟨rfl, rfl⟩⟩, (by first | omega | (simp only [nr, wr_length]; omega))⟩
 have h1r := h1
 try simp only [nq, nr, wr_length] at h1
 refine a_exit ?_
 refine rs ?_
 refine om rfl ?_
 refine oa rfl ?_
 refine on ?_
 refine a_ret ?_
 exact ⟨[.own 7 v7x1], .own 0 0, [], [.deep (.mk 89 5 [(3, (.mk 135 2 []))]) _ none], [(7, v7x1)], ⟨rfl, trivial⟩, rfl, rfl, ⟨⟨rfl, rfl⟩, trivial⟩, rfl, rfl, ⟨rfl, rfl, congrArg (fun x => [Obj.deep _ x none]) (wr_all (by first | omega | (simp only [nr, wr_length]; omega)))⟩⟩
theorem f_eqStep (s t : Stp) : Fn Tryz.prog 62 [.agg [.p (.int .i64 s.1), .p (.int .i64 s.2.1), .p (.int .i64 s.2.2.1), .sl (s.2.2.2.1.map dT), .p (.int .i64 s.2.2.2.2)], .agg [.p (.int .i64 t.1), .p (.int .i64 t.2.1), .p (.int .i64 t.2.2.1), .sl (t.2.2.2.1.map dT), .p (.int .i64 t.2.2.2.2)]] [] (fun rr ii nn => rr = .p (.bool (decide (s = t))) ∧ ii = [] ∧ nn = []) := by
 refine fn_of Tryz.func62 rfl (Nat.le_of_ble_eq_true rfl) fun w X g => ?_
 show AWp _ _ _ ⟨[(0, .agg [.p (.int .i64 s.1), .p (.int .i64 s.2.1), .p (.int .i64 s.2.2.1), .sl (s.2.2.2.1.map dT), .p (.int .i64 s.2.2.2.2)]), (1, .agg [.p (.int .i64 t.1), .p (.int .i64 t.2.1), .p (.int .i64 t.2.2.1), .sl (t.2.2.2.1.map dT), .p (.int .i64 t.2.2.2.2)])], []⟩
 refine rs ?_
 refine op_n' (fun ver => j_boxa rfl) fun v2x1 => ?_
 refine op_n' (fun ver => j_boxa rfl) fun v3x2 => ?_
 refine oa rfl ?_
 refine on ?_
 refine a_seq ?_
 refine rs ?_
 refine op_v' (j_fldp fld89f0 rfl rfl) ?_
 refine op_v' (j_load_box leaf3 rfl rfl rfl) ?_
 refine op_v' (j_fldp fld89f0 rfl rfl) ?_
 refine op_v' (j_load_box leaf3 rfl rfl rfl) ?_
 refine op_v' (j_ne rfl rfl) ?_
 refine on ?_
 refine ac rfl (fun h1 => ?_) fun h1 => ?_
 ·
  have h1r := h1
  try simp only [nq, nr] at h1
  refine rs ?_
  refine oa rfl ?_
  refine on ?_
  refine a_ret ?_
  exact fin_p rfl ⟨boolEq (stp_dec (by first | (simp_all; done) | (simp_all [Prod.ext_iff]; done) | (simp_all [Prod.ext_iff]; omega))), rfl, rfl⟩
 have h1r := h1
 try simp only [nq, nr] at h1
 refine a_skip ?_
 refine a_seq ?_
 refine rs ?_
 refine op_v' (j_fldp fld89f1 rfl rfl) ?_
 refine op_v' (j_load_box leaf3 rfl rfl rfl) ?_
 refine op_v' (j_fldp fld89f1 rfl rfl) ?_
 refine op_v' (j_load_box leaf3 rfl rfl rfl) ?_
 refine op_v' (j_ne rfl rfl) ?_
 refine on ?_
 refine ac rfl (fun h2 => ?_) fun h2 => ?_
 ·
  have h2r := h2
  try simp only [nq, nr] at h2
  refine rs ?_
  refine oa rfl ?_
  refine on ?_
  refine a_ret ?_
  exact fin_p rfl ⟨boolEq (stp_dec (by first | (simp_all; done) | (simp_all [Prod.ext_iff]; done) | (simp_all [Prod.ext_iff]; omega))), rfl, rfl⟩
 have h2r := h2
 try simp only [nq, nr] at h2
 refine a_skip ?_
 refine a_seq ?_
 refine rs ?_
 refine op_v' (j_fldp fld89f2 rfl rfl) ?_
 refine op_v' (j_load_box leaf3 rfl rfl rfl) ?_
 refine op_v' (j_fldp fld89f2 rfl rfl) ?_
 refine op_v' (j_load_box leaf3 rfl rfl rfl) ?_
 refine op_v' (j_ne rfl rfl) ?_
 refine on ?_
 refine ac rfl (fun h3 => ?_) fun h3 => ?_
 ·
  have h3r := h3
  try simp only [nq, nr] at h3
  refine rs ?_
  refine oa rfl ?_
  refine on ?_
  refine a_ret ?_
  exact fin_p rfl ⟨boolEq (stp_dec (by first | (simp_all; done) | (simp_all [Prod.ext_iff]; done) | (simp_all [Prod.ext_iff]; omega))), rfl, rfl⟩
 have h3r := h3
 try simp only [nq, nr] at h3
 refine a_skip ?_
 refine a_seq ?_
 refine rs ?_
 refine op_v' (j_fldp fld89f3 rfl rfl) ?_
 refine op_v' (j_loada_box (ys := [.sl _, .p _]) agg69 rfl rfl rfl (Nat.le_of_ble_eq_true rfl)) ?_
 refine op_v' (j_fldp fld89f3 rfl rfl) ?_
 refine op_v' (j_loada_box (ys := [.sl _, .p _]) agg69 rfl rfl rfl (Nat.le_of_ble_eq_true rfl)) ?_
 refine op_v0' (j_call0 (v := .p _) (hp1 := []) [] false [] ent60 (f_eqCon s.2.2.2 t.2.2.2) ⟨.inl ⟨rfl, rfl⟩, .inl ⟨rfl, rfl⟩, trivial⟩ trivial rfl rfl (fun h => by cases h) rfl (fun _ h => by cases h) (.inl rfl) rfl rfl) ?_
 refine op_v' (j_not rfl) ?_
 refine on ?_
 refine ac rfl (fun h4 => ?_) fun h4 => ?_
 ·
  have h4r := h4
  try simp only [nq, nr] at h4
  refine rs ?_
  refine oa rfl ?_
  refine on ?_
  refine a_ret ?_
  exact fin_p rfl ⟨boolEq (stp_dec (by first | (simp_all; done) | (simp_all [Prod.ext_iff]; done) | (simp_all [Prod.ext_iff]; omega))), rfl, rfl⟩
 have h4r := h4
 try simp only [nq, nr] at h4
 refine a_skip ?_
 refine rs ?_
 refine oa rfl ?_
 refine on ?_
 refine a_ret ?_
 exact fin_p rfl ⟨boolEq (stp_dec (by first | (simp_all; done) | (simp_all [Prod.ext_iff]; done) | (simp_all [Prod.ext_iff]; omega))), rfl, rfl⟩
theorem f_eqStepS (a b : List Stp) : Fn Tryz.prog 20 [.sl (a.map dStp), .sl (b.map dStp)] [] (fun rr ii nn => rr = .p (.bool (decide (a = b))) ∧ ii = [] ∧ nn = []) := by
 refine fn_of Tryz.func20 rfl (Nat.le_of_ble_eq_true rfl) fun w X g => ?_
 show AWp _ _ _ ⟨[(0, .sl (a.map dStp)), (1, .sl (b.map dStp))], []⟩
 refine a_len_map 0 rfl fun hla => ?_
 refine rs ?_
 refine oa rfl ?_
 refine on ?_
 refine a_seq ?_
 refine rs ?_
 refine om rfl ?_
 refine op_v' (j_len_map Tryz.underlying34 rfl) ?_
 refine om rfl ?_
 refine op_v' (j_len_map Tryz.underlying34 rfl) ?_
 refine op_v' (j_ne rfl rfl) ?_
 refine on ?_
 refine ac rfl (fun h1 => ?_) fun h1 => ?_
 ·
  have h1r := h1
  try simp only [nq, nr] at h1
  refine rs ?_
  refine oa rfl ?_
  refine on ?_
  refine a_ret ?_
  exact fin_p rfl ⟨boolEq (by symm; rw [decide_eq_false_iff_not]; rintro rfl; exact h1 rfl), rfl, rfl⟩
 have h1r := h1
 try simp only [nq, nr] at h1
 refine a_skip ?_
 refine a_seq ?_
 refine rs ?_
 refine oa rfl ?_
 refine on ?_
 refine a_block ?_
 refine a_loopF' (ι := Nat) (fun k => k ≤ a.length ∧ a.take k = b.take k) (fun k r => (5, .p (.int .i64 ((k : Nat)))) :: r) (fun k r => r) (fun k => a.length - k) (fun _ _ => rfl) (fun _ _ => rfl) 0 ⟨Nat.zero_le _, rfl⟩ ⟨⟨rfl, rfl⟩, ⟨rfl, trivial⟩, trivial, ⟨rfl, rfl⟩, ⟨rfl, rfl⟩⟩ ?_
 intro k hpre0
 refine a_seq ?_
 refine rs ?_
 refine om rfl ?_
 refine om rfl ?_
 refine op_v' (j_len_map Tryz.underlying34 rfl) ?_
 refine op_v' (j_lt rfl rfl) ?_
 refine on ?_
 refine ac rfl (fun h2 => ?_) fun h2 => ?_
 ·
  have h2r := h2
  try simp only [nq, nr] at h2
  refine a_skip ?_
  refine a_seq ?_
  refine a_block ?_
  refine a_seq ?_
  refine a_draw mixed (by kernel_rfl) (by kernel_rfl) fun vf => ?_
  refine d_v' (j_move (evo rfl)) ?_
  refine d_v' (j_move (evo rfl)) ?_
  refine d_v' (j_elemN slt34 rfl rfl rfl (at_map (by omega)) rfl) ?_
  refine d_v' (j_loada_el (ys := [.p _, .p _, .p _, .sl _, .p _]) agg89 rfl (at_map (by omega)) rfl (Nat.le_refl _)) ?_
  refine d_v' (j_move (evo rfl)) ?_
  refine d_v' (j_move (evo rfl)) ?_
  refine d_v' (j_elemN slt34 rfl rfl rfl (at_map (by omega)) rfl) ?_
  refine d_v' (j_loada_el (ys := [.p _, .p _, .p _, .sl _, .p _]) agg89 rfl (at_map (by omega)) rfl (Nat.le_refl _)) ?_
  refine d_v0' (j_call0 (v := .p _) (hp1 := []) [] false [] ent62 (f_eqStep (a.getD k default) (b.getD k default)) ⟨.inl ⟨rfl, rfl⟩, .inl ⟨rfl, rfl⟩, trivial⟩ trivial rfl rfl (fun h => by cases h) rfl (fun _ h => by cases h) (.inl rfl) rfl rfl) ?_
  refine d_v' (j_not rfl) ?_
  refine d_nil (by kernel_rfl) (by kernel_rfl) ?_
  refine ac rfl (fun h3 => ?_) fun h3 => ?_
  ·
   have h3r := h3
   try simp only [nq, nr] at h3
   refine rs ?_
   refine oa rfl ?_
   refine on ?_
   refine a_ret ?_
   exact fin_p rfl ⟨boolEq (by symm; rw [decide_eq_false_iff_not]; rintro rfl; exact h3 rfl), rfl, rfl⟩
  have h3r := h3
  try simp only [nq, nr] at h3
  refine a_skip ?_
  refine ar ?_
  refine om rfl ?_
  refine op_v' (j_add rfl rfl (by omega) (by omega)) ?_
  refine oa rfl ?_
  refine on ?_
  exact ⟨k + 1, ⟨(by omega), take_next hpre0.2 (by omega) (by omega) h3⟩, ⟨⟨rfl, rfl⟩, ⟨rfl, trivial⟩, trivial, ⟨rfl, rfl⟩, ⟨rfl, rfl⟩⟩, (by omega)⟩
 have h2r := h2
 try simp only [nq, nr] at h2
 refine a_exit ?_
 refine rs ?_
 refine oa rfl ?_
 refine on ?_
 refine a_ret ?_
 exact fin_p rfl ⟨boolEq (by symm; rw [decide_eq_true_eq]; exact take_eq hpre0.2 (by omega) (by omega)), rfl, rfl⟩
theorem f_lawECL (l : List Con) (vs : List Int) (f : List (List Bool)) (ss : List Stp) : Fn Tryz.prog 3 [.sl (l.map dC), .sl (vs.map dI), .sl (f.map dD), .sl (ss.map dStp)] [] (fun rr ii nn => rr = .p (.bool true) ∧ ii = [] ∧ nn = []) := by
 refine fn_of Tryz.func3 rfl (Nat.le_of_ble_eq_true rfl) fun w X g => ?_
 show AWp _ _ _ ⟨[(0, .sl (l.map dC)), (1, .sl (vs.map dI)), (2, .sl (f.map dD)), (3, .sl (ss.map dStp))], []⟩
 refine rs ?_
 refine oa rfl ?_
 refine on ?_
 refine a_seq ?_
 refine rs ?_
 refine om rfl ?_
 refine op_v' (j_len_map Tryz.underlying23 rfl) ?_
 refine op_v' (j_gt rfl rfl) ?_
 refine on ?_
 refine ac rfl (fun h1 => ?_) fun h1 => ?_
 ·
  have h1r := h1
  try simp only [nq, nr] at h1
  refine rs ?_
  refine oa rfl ?_
  refine on ?_
  refine a_ret ?_
  exact fin_p rfl ⟨rfl, rfl, rfl⟩
 have h1r := h1
 try simp only [nq, nr] at h1
 have hpz : vs.length ≤ 1048576 := by omega
 refine a_skip ?_
 refine rs ?_
 refine oa rfl ?_
 refine on ?_
 refine rs ?_
 refine om rfl ?_
 refine om rfl ?_
 refine op_v0' (j_call0 (v := .p _) (hp1 := []) [] false [] ent8 (f_szConS l _ (by omega)) ⟨.inl ⟨rfl, rfl⟩, .inl ⟨rfl, rfl⟩, trivial⟩ trivial rfl rfl (fun h => by cases h) rfl (fun _ h => by cases h) (.inl rfl) rfl rfl) ?_
 refine oa rfl ?_
 refine on ?_
 refine a_seq ?_
 refine rs ?_
 refine om rfl ?_
 refine op_v' (j_lt rfl rfl) ?_
 refine on ?_
 refine ac rfl (fun h2 => ?_) fun h2 => ?_
 ·
  have h2r := h2
  try simp only [nq, nr] at h2
  refine rs ?_
  refine oa rfl ?_
  refine on ?_
  refine a_ret ?_
  exact fin_p rfl ⟨rfl, rfl, rfl⟩
 have h2r := h2
 try simp only [nq, nr] at h2
 have hsz := fitC_of h2
 have hu1 := szC_up (l := l) (n := 1048576)
 refine a_skip ?_
 refine rs ?_
 refine om rfl ?_
 refine om rfl ?_
 refine op_v0' (j_call0 (v := .p _) (hp1 := []) [] false [] ent9 (f_szBoolSS f _ (by omega)) ⟨.inl ⟨rfl, rfl⟩, .inl ⟨rfl, rfl⟩, trivial⟩ trivial rfl rfl (fun h => by cases h) rfl (fun _ h => by cases h) (.inl rfl) rfl rfl) ?_
 refine oa rfl ?_
 refine on ?_
 refine a_seq ?_
 refine rs ?_
 refine om rfl ?_
 refine op_v' (j_lt rfl rfl) ?_
 refine on ?_
 refine ac rfl (fun h3 => ?_) fun h3 => ?_
 ·
  have h3r := h3
  try simp only [nq, nr] at h3
  refine rs ?_
  refine oa rfl ?_
  refine on ?_
  refine a_ret ?_
  exact fin_p rfl ⟨rfl, rfl, rfl⟩
 have h3r := h3
 try simp only [nq, nr] at h3
 have hs2 := szv_cases (n := wLB f) (k := szC l 1048576)
 have hfz : wLB f ≤ 1048576 := by omega
 refine a_skip ?_
 refine rs ?_
 refine om rfl ?_
 refine om rfl ?_
 refine op_v0' (j_call0 (v := .p _) (hp1 := []) [] false [] ent10 (f_szStepS ss _ (by omega)) ⟨.inl ⟨rfl, rfl⟩, .inl ⟨rfl, rfl⟩, trivial⟩ trivial rfl rfl (fun h => by cases h) rfl (fun _ h => by cases h) (.inl rfl) rfl rfl) ?_
 refine oa rfl ?_
 refine on ?_
 refine a_seq ?_
 refine rs ?_
 refine om rfl ?_
 refine op_v' (j_lt rfl rfl) ?_
 refine on ?_
 refine ac rfl (fun h4 => ?_) fun h4 => ?_
 ·
  have h4r := h4
  try simp only [nq, nr] at h4
  refine rs ?_
  refine oa rfl ?_
  refine on ?_
  refine a_ret ?_
  exact fin_p rfl ⟨rfl, rfl, rfl⟩
 have h4r := h4
 try simp only [nq, nr] at h4
 have hs3 := szv_cases (n := wSt ss) (k := szv (wLB f) (szC l 1048576))
 have hgz : wSt ss ≤ 1048576 := by omega
 have hgs := wSt_at hgz
 refine a_skip ?_
 refine rs ?_
 refine om rfl ?_
 refine op_n1' (fun ver => j_call1 (v := .own 35 ver) (hp1 := [(35, some (ver, .deep (.mk 69 2 [(0, (.mk 135 2 []))]) _ none))]) [] false [] ent12 (f_toConS l hsz) ⟨.inl ⟨rfl, rfl⟩, trivial⟩ trivial rfl rfl rfl (fun h => by cases h) rfl (List.all_eq_true.1 rfl) (.inl rfl) rfl rfl) fun v35x1 => ?_
 refine op_freezeG 35 trivial rfl rfl rfl rfl ?_
 refine om rfl ?_
 refine op_n1' (fun ver => j_call1 (v := .own 37 ver) (hp1 := [(37, some (ver, .row 3 1 _))]) [] false [] ent13 (f_toIntS vs hpz) ⟨.inl ⟨rfl, rfl⟩, trivial⟩ trivial rfl rfl rfl (fun h => by cases h) rfl (List.all_eq_true.1 rfl) (.inl rfl) rfl rfl) fun v37x2 => ?_
 refine op_freezeK 37 trivial rfl rfl rfl ?_
 refine om rfl ?_
 refine op_n1' (fun ver => j_call1 (v := .own 39 ver) (hp1 := [(39, some (ver, .deep (.mk 44 1 [(0, (.mk 4 1 []))]) _ none))]) [] false [] ent14 (f_toBoolSS f hfz) ⟨.inl ⟨rfl, rfl⟩, trivial⟩ trivial rfl rfl rfl (fun h => by cases h) rfl (List.all_eq_true.1 rfl) (.inl rfl) rfl rfl) fun v39x3 => ?_
 refine op_freezeG 39 trivial rfl rfl rfl rfl ?_
 refine om rfl ?_
 refine op_n1' (fun ver => j_call1 (v := .own 41 ver) (hp1 := [(41, some (ver, .deep (.mk 89 5 [(3, (.mk 135 2 []))]) _ none))]) [] false [] ent15 (f_toStepS ss hgz) ⟨.inl ⟨rfl, rfl⟩, trivial⟩ trivial rfl rfl rfl (fun h => by cases h) rfl (List.all_eq_true.1 rfl) (.inl rfl) rfl rfl) fun v41x4 => ?_
 refine op_freezeG 41 trivial rfl rfl rfl rfl ?_
 refine op_v0' (j_call0 (v := .p _) (hp1 := []) [] false [] ent11 (f_clSpecL l vs f ss hgs) ⟨.inl ⟨rfl, rfl⟩, .inl ⟨rfl, rfl⟩, .inl ⟨rfl, rfl⟩, .inl ⟨rfl, rfl⟩, trivial⟩ trivial rfl rfl (fun h => by cases h) rfl (fun _ h => by cases h) (.inl rfl) rfl rfl) ?_
 refine oa rfl ?_
 refine on ?_
 refine rs ?_
 refine om rfl ?_
 refine op_n1' (fun ver => j_call1 (v := .own 44 ver) (hp1 := [(44, some (ver, .deep (.mk 69 2 [(0, (.mk 135 2 []))]) _ none))]) [] false [] ent12 (f_toConS l hsz) ⟨.inl ⟨rfl, rfl⟩, trivial⟩ trivial rfl rfl rfl (fun h => by cases h) rfl (List.all_eq_true.1 rfl) (.inl rfl) rfl rfl) fun v44x5 => ?_
 refine oa rfl ?_
 refine on ?_
 refine rs ?_
 refine om rfl ?_
 refine op_n1' (fun ver => j_call1 (v := .own 46 ver) (hp1 := [(46, some (ver, .row 3 1 _))]) [] false [] ent13 (f_toIntS vs hpz) ⟨.inl ⟨rfl, rfl⟩, trivial⟩ trivial rfl rfl rfl (fun h => by cases h) rfl (List.all_eq_true.1 rfl) (.inl rfl) rfl rfl) fun v46x6 => ?_
 refine oa rfl ?_
 refine on ?_
 refine rs ?_
 refine om rfl ?_
 refine op_n1' (fun ver => j_call1 (v := .own 48 ver) (hp1 := [(48, some (ver, .deep (.mk 44 1 [(0, (.mk 4 1 []))]) _ none))]) [] false [] ent14 (f_toBoolSS f hfz) ⟨.inl ⟨rfl, rfl⟩, trivial⟩ trivial rfl rfl rfl (fun h => by cases h) rfl (List.all_eq_true.1 rfl) (.inl rfl) rfl rfl) fun v48x7 => ?_
 refine oa rfl ?_
 refine on ?_
 refine rs ?_
 refine om rfl ?_
 refine op_n1' (fun ver => j_call1 (v := .own 50 ver) (hp1 := [(50, some (ver, .deep (.mk 89 5 [(3, (.mk 135 2 []))]) _ none))]) [] false [] ent15 (f_toStepS ss hgz) ⟨.inl ⟨rfl, rfl⟩, trivial⟩ trivial rfl rfl rfl (fun h => by cases h) rfl (List.all_eq_true.1 rfl) (.inl rfl) rfl rfl) fun v50x8 => ?_
 refine oa rfl ?_
 refine on ?_
 refine rs ?_
 refine om rfl ?_
 refine om rfl ?_
 refine om rfl ?_
 refine om rfl ?_
 refine op_v0' (j_call0 (v := .p _) (hp1 := []) [] true [44, 46, 48, 50] ent16 (f_clImplL l vs f ss) ⟨.inr ⟨rfl, view_ownD rfl rfl, rfl⟩, .inr ⟨rfl, view_own rfl rfl, rfl⟩, .inr ⟨rfl, view_ownD rfl rfl, rfl⟩, .inr ⟨rfl, view_ownD rfl rfl, rfl⟩, trivial⟩ trivial rfl rfl (fun _ => rfl) rfl (fun _ h => by cases h) (.inr ⟨rfl, by first | exact pl_new1 (fun _ => rfl) | exact pl_newC | (simp [plO, plV, plV.plL]; done)⟩) rfl rfl) ?_
 refine oa rfl ?_
 refine on ?_
 refine a_seq ?_
 refine rs ?_
 refine om rfl ?_
 refine om rfl ?_
 refine op_v' (j_neb Tryz.underlying4 rfl rfl) ?_
 refine on ?_
 refine ac rfl (fun h5 => ?_) fun h5 => ?_
 ·
  have h5r := h5
  try simp only [nq, nr] at h5
  exact absurd h5r (by simp)
 have h5r := h5
 try simp only [nq, nr] at h5
 refine a_skip ?_
 refine a_seq ?_
 refine rs ?_
 refine om rfl ?_
 refine om rfl ?_
 refine op_n1' (fun ver => j_call1 (v := .own 61 ver) (hp1 := [(61, some (ver, .deep (.mk 69 2 [(0, (.mk 135 2 []))]) _ none))]) [] false [] ent12 (f_toConS l hsz) ⟨.inl ⟨rfl, rfl⟩, trivial⟩ trivial rfl rfl rfl (fun h => by cases h) rfl (List.all_eq_true.1 rfl) (.inl rfl) rfl rfl) fun v61x9 => ?_
 refine op_v0' (j_call0 (v := .p _) (hp1 := []) [] true [44, 61] ent17 (f_eqConS l l) ⟨.inr ⟨rfl, view_ownD rfl rfl, rfl⟩, .inr ⟨rfl, view_ownD rfl rfl, rfl⟩, trivial⟩ trivial rfl rfl (fun _ => rfl) rfl (fun _ h => by cases h) (.inr ⟨rfl, by first | exact pl_new1 (fun _ => rfl) | exact pl_newC | (simp [plO, plV, plV.plL]; done)⟩) rfl rfl) ?_
 refine op_v' (j_not rfl) ?_
 refine on ?_
 refine ac rfl (fun h6 => ?_) fun h6 => ?_
 ·
  have h6r := h6
  try simp only [nq, nr] at h6
  exact absurd h6r (by simp)
 have h6r := h6
 try simp only [nq, nr] at h6
 refine a_skip ?_
 refine a_seq ?_
 refine rs ?_
 refine om rfl ?_
 refine om rfl ?_
 refine op_n1' (fun ver => j_call1 (v := .own 66 ver) (hp1 := [(66, some (ver, .row 3 1 _))]) [] false [] ent13 (f_toIntS vs hpz) ⟨.inl ⟨rfl, rfl⟩, trivial⟩ trivial rfl rfl rfl (fun h => by cases h) rfl (List.all_eq_true.1 rfl) (.inl rfl) rfl rfl) fun v66x10 => ?_
 refine op_v0' (j_call0 (v := .p _) (hp1 := []) [] true [46, 66] ent18 (f_eqIntS vs vs) ⟨.inr ⟨rfl, view_own rfl rfl, rfl⟩, .inr ⟨rfl, view_own rfl rfl, rfl⟩, trivial⟩ trivial rfl rfl (fun _ => rfl) rfl (fun _ h => by cases h) (.inr ⟨rfl, by first | exact pl_new1 (fun _ => rfl) | exact pl_newC | (simp [plO, plV, plV.plL]; done)⟩) rfl rfl) ?_
 refine op_v' (j_not rfl) ?_
 refine on ?_
 refine ac rfl (fun h7 => ?_) fun h7 => ?_
 ·
  have h7r := h7
  try simp only [nq, nr] at h7
  exact absurd h7r (by simp)
 have h7r := h7
 try simp only [nq, nr] at h7
 refine a_skip ?_
 refine a_seq ?_
 refine rs ?_
 refine om rfl ?_
 refine om rfl ?_
 refine op_n1' (fun ver => j_call1 (v := .own 71 ver) (hp1 := [(71, some (ver, .deep (.mk 44 1 [(0, (.mk 4 1 []))]) _ none))]) [] false [] ent14 (f_toBoolSS f hfz) ⟨.inl ⟨rfl, rfl⟩, trivial⟩ trivial rfl rfl rfl (fun h => by cases h) rfl (List.all_eq_true.1 rfl) (.inl rfl) rfl rfl) fun v71x11 => ?_
 refine op_v0' (j_call0 (v := .p _) (hp1 := []) [] true [48, 71] ent19 (f_eqBoolSS f f) ⟨.inr ⟨rfl, view_ownD rfl rfl, rfl⟩, .inr ⟨rfl, view_ownD rfl rfl, rfl⟩, trivial⟩ trivial rfl rfl (fun _ => rfl) rfl (fun _ h => by cases h) (.inr ⟨rfl, by first | exact pl_new1 (fun _ => rfl) | exact pl_newC | (simp [plO, plV, plV.plL]; done)⟩) rfl rfl) ?_
 refine op_v' (j_not rfl) ?_
 refine on ?_
 refine ac rfl (fun h8 => ?_) fun h8 => ?_
 ·
  have h8r := h8
  try simp only [nq, nr] at h8
  exact absurd h8r (by simp)
 have h8r := h8
 try simp only [nq, nr] at h8
 refine a_skip ?_
 refine a_seq ?_
 refine rs ?_
 refine om rfl ?_
 refine om rfl ?_
 refine op_n1' (fun ver => j_call1 (v := .own 76 ver) (hp1 := [(76, some (ver, .deep (.mk 89 5 [(3, (.mk 135 2 []))]) _ none))]) [] false [] ent15 (f_toStepS ss hgz) ⟨.inl ⟨rfl, rfl⟩, trivial⟩ trivial rfl rfl rfl (fun h => by cases h) rfl (List.all_eq_true.1 rfl) (.inl rfl) rfl rfl) fun v76x12 => ?_
 refine op_v0' (j_call0 (v := .p _) (hp1 := []) [] true [50, 76] ent20 (f_eqStepS ss ss) ⟨.inr ⟨rfl, view_ownD rfl rfl, rfl⟩, .inr ⟨rfl, view_ownD rfl rfl, rfl⟩, trivial⟩ trivial rfl rfl (fun _ => rfl) rfl (fun _ h => by cases h) (.inr ⟨rfl, by first | exact pl_new1 (fun _ => rfl) | exact pl_newC | (simp [plO, plV, plV.plL]; done)⟩) rfl rfl) ?_
 refine op_v' (j_not rfl) ?_
 refine on ?_
 refine ac rfl (fun h9 => ?_) fun h9 => ?_
 ·
  have h9r := h9
  try simp only [nq, nr] at h9
  exact absurd h9r (by simp)
 have h9r := h9
 try simp only [nq, nr] at h9
 refine a_skip ?_
 refine rs ?_
 refine oa rfl ?_
 refine on ?_
 refine a_ret ?_
 exact fin_p rfl ⟨rfl, rfl, rfl⟩
end Go.Ab

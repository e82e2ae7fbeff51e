/- Walks. -/
import Derived.Test.YtoodaakcfelaaaaGreatBase2
import Derived.Test.YtoodaakcfelaaaaGreatDmod2
import Derived.Test.YtoodaakcfelaaaaGreatWsflt
import Derived.Test.YtoodaakcfelaaaaGreatBase
import Derived.Test.YtoodaakcfelaaaaGreatSimp
import Derived.Test.YtoodaakcfelaaaaGreatWscons
import Derived.Test.YtoodaakcfelaaaaGreatVals
namespace Go.Ab
open Go.Proofs
set_option maxRecDepth 100000
set_option maxHeartbeats 8000000
set_option linter.unusedSimpArgs false
set_option linter.unusedVariables false
theorem f_cloneBo (ts : List Bool) (hts : ts.length ≤ 1048576) : Fn Tryz.prog 157 [.sl (ts.map dB)] [] (fun rr ii nn => rr = .own 0 0 ∧ ii = [] ∧ nn = [.row 4 1 (ts.map dB)]) := by
 refine qjm Tryz.func157 rfl (nb rfl) fun w X g => ?_
 show AWp _ _ _ ⟨[(0, .sl (ts.map dB))], []⟩
 refine rs (oa rfl (on (qqe (rs (om rfl (op_eqnil Tryz.underlying44 rfl fun b1 hb1 => ?_))))))
 refine on (ac rfl (fun h2 => ?_) fun h2 => ?_)
 ·
  have h2r := h2
  try simp only [nq, nr, nl] at h2
  refine rs (oa rfl (on (qjt 2 2 4 1 rfl fun v2 => ?_)))
  refine qqm ?_
  exact ⟨[.own 2 v2], .own 0 0, [], [.row 4 1 _], [(2, v2)], ⟨rfl, trivial⟩, rfl, rfl, ⟨⟨rfl, rfl⟩, trivial⟩, rfl, rfl, ⟨rfl, rfl, by rw [List.eq_nil_of_length_eq_zero (l := ts) (by simp_all)]; rfl⟩⟩
 have h2r := h2
 try simp only [nq, nr, nl] at h2
 refine qqj (rs (qq5 (fun ver => j_bs0 slt44 elt4 rfl rfl (by decide)) fun v5x1 => ?_))
 refine om rfl ?_
 refine qq5 (fun ver => qz8 slt44 elt4 rfl rfl rfl rfl (fun y hy => by obtain ⟨t, _, rfl⟩ := List.mem_map.1 hy; rfl) lf_bools (by rw [qq0]; first | omega | (simp only [nr, nl]; omega)) zz) fun v5x2 => ?_
 refine oa rfl (on (qqm ?_))
 exact ⟨[.own 5 v5x2], .own 0 0, [], [.row 4 1 _], [(5, v5x2)], ⟨rfl, trivial⟩, rfl, rfl, ⟨⟨rfl, rfl⟩, trivial⟩, rfl, rfl, ⟨rfl, rfl, rfl⟩⟩
theorem f_ownD (d : List (List Bool)) (hd : d.length ≤ 1000) (hr : ∀ k, (d.getD k default).length ≤ 1000) : Fn Tryz.prog 95 [.sl (d.map dD)] [] (fun rr ii nn => rr = .own 0 0 ∧ ii = [] ∧ nn = [.deep (.mk 44 1 [(0, .mk 4 1 [])]) ((d).map dD) none]) := by
 refine qjm Tryz.func95 rfl (nb rfl) fun w X g => ?_
 show AWp _ _ _ ⟨[(0, .sl (d.map dD))], []⟩
 refine rs (oa rfl (on (rs (oa rfl (on (qjt 3 3 44 1 rfl fun v3 => ?_))))))
 refine a_todeep 3 0 (.mk 44 1 [(0, (.mk 4 1 []))]) (zs := []) (zs' := []) rfl rfl rfl rfl eat_end rfl ?_
 refine qqe (rs (om rfl (qqa (qqg Tryz.underlying24 rfl) (om rfl (on (qqf (qqr (ι := Nat × Nat) (fun x => x.1 ≤ d.length) (fun x r => (8, .p (.int .i64 ((x.1 : Nat)))) :: (3, .own 3 x.2) :: r) (fun x r => (3, some (x.2, .deep (.mk 44 1 [(0, .mk 4 1 [])]) ((d.take x.1).map dD) none)) :: r) (fun x => d.length - x.1) (fun _ _ => rfl) (fun _ _ => rfl) (0, v3) (by first | exact (Nat.zero_le _) | (dsimp only; exact (Nat.zero_le _))) ⟨⟨rfl, rfl⟩, ⟨rfl, rfl, trivial⟩, ⟨rfl, trivial⟩, ⟨rfl, rfl⟩, ⟨rfl, rfl⟩⟩ ?_)))))))
 rintro ⟨k, v⟩ hk; dsimp only at hk ⊢
 refine rs (qqa (qzb rfl rfl) (on (qqe (ac rfl (fun h1 => ?_) fun h1 => ?_))))
 ·
  have h1r := h1
  try simp only [nq, nr, nl] at h1
  refine qqj (qqe (qqf (qqe ?_)))
  have hrk := hr k
  refine ar (qqa (qqy slt24 rfl rfl rfl (qqh zz) rfl) (qqa (qqp leaf44 rfl (qqh zz) rfl) (oa rfl (on (ar (om rfl (om rfl ?_)))))))
  refine qj9 (fun ver => qj8 (v := .own 14 ver) (hp1 := [(14, some (ver, .row 4 1 _))]) [] false [] ent157 (f_cloneBo (d.getD k default) (by omega)) ⟨.inl ⟨rfl, rfl⟩, trivial⟩ trivial rfl rfl rfl (fun h => by cases h) rfl (List.all_eq_true.1 rfl) (.inl rfl) rfl rfl) fun v14x1 => ?_
  refine qj9 (fun ver => qzr (x := .tmp 14) (t := (.mk 44 1 [(0, (.mk 4 1 []))])) slt24 elt44 rfl rfl rfl (by decide) (by decide) rfl rfl rfl (eat_own rfl rfl rfl eat_end) rfl rfl) fun v15x2 => ?_
  refine qj9 (fun ver => j_append_deep (by decide) slt24 elt44 rfl rfl rfl rfl rfl rfl rfl rfl (nb rfl) (by rw [qq0]; first | omega | (simp only [nr, nl]; omega)) zz) fun v3x3 => ?_
  refine oa rfl (on (ar (qqa (qjh rfl rfl zz zz) (om rfl (on ?_)))))
  exact ⟨(k + 1, v3x3), (by first | exact zz | (dsimp only; exact zz)), ⟨⟨rfl, rfl⟩, ⟨rfl, rfl, trivial⟩, ⟨deepEq (by rw [qjn (d := default) (by omega), List.map_append]; rfl), trivial⟩, ⟨rfl, rfl⟩, ⟨rfl, rfl⟩⟩, (by first | exact zz | (dsimp only; exact zz))⟩
 have h1r := h1
 try simp only [nq, nr, nl] at h1
 refine qja (rs (om rfl (oa rfl (on (qqm ?_)))))
 exact ⟨[.own 3 v], .own 0 0, [], [.deep (.mk 44 1 [(0, (.mk 4 1 []))]) _ none], [(3, v)], ⟨rfl, trivial⟩, rfl, rfl, ⟨⟨rfl, rfl⟩, trivial⟩, rfl, rfl, ⟨rfl, rfl, by rw [List.take_of_length_le (by omega)]⟩⟩
theorem f_l8Copy (d : List (List Bool)) (hd : d.length ≤ 1000) (hr : ∀ k, (d.getD k default).length ≤ 1000) : Fn Tryz.prog 101 [.sl (d.map dD)] [] (fun rr ii nn => rr = .own 0 0 ∧ ii = [] ∧ nn = [.deep (.mk 44 1 [(0, .mk 4 1 [])]) ((d).map dD) none]) := by
 refine qjm Tryz.func101 rfl (nb rfl) fun w X g => ?_
 show AWp _ _ _ ⟨[(0, .sl (d.map dD))], []⟩
 refine rs (oa rfl (on (rs (qq5 (fun ver => j_bs0 slt24 elt44 rfl rfl (by decide)) fun v5x1 => ?_))))
 refine oa rfl (on (a_todeep 5 0 (.mk 44 1 [(0, (.mk 4 1 []))]) (zs := []) (zs' := []) rfl rfl rfl rfl eat_end rfl ?_))
 refine qqe (rs (oa rfl (on (qqf (qqr (ι := Nat × Nat) (fun x => x.1 ≤ d.length) (fun x r => (4, .p (.int .i64 ((x.1 : Nat)))) :: (3, .own 5 x.2) :: r) (fun x r => (5, some (x.2, .deep (.mk 44 1 [(0, .mk 4 1 [])]) ((d.take x.1).map dD) none)) :: r) (fun x => d.length - x.1) (fun _ _ => rfl) (fun _ _ => rfl) (0, v5x1) (by first | exact (Nat.zero_le _) | (dsimp only; exact (Nat.zero_le _))) ⟨⟨rfl, rfl⟩, ⟨rfl, rfl, trivial⟩, ⟨rfl, trivial⟩, ⟨rfl, rfl⟩, ⟨rfl, rfl⟩⟩ ?_)))))
 rintro ⟨k, v⟩ hk; dsimp only at hk ⊢
 refine qqe (rs (om rfl (om rfl (qqa (qqg Tryz.underlying24 rfl) (qqa (qzb rfl rfl) (on (ac rfl (fun h1 => ?_) fun h1 => ?_)))))))
 ·
  have h1r := h1
  try simp only [nq, nr, nl] at h1
  refine qqj (qqe (qqf ?_))
  have hrk := hr k
  refine ar (om rfl (qq5 (fun ver => j_bs0 slt44 elt4 rfl rfl (by decide)) fun v13x2 => ?_))
  refine om rfl (om rfl (qqa (qqy slt24 rfl rfl rfl (qqh zz) rfl) (qqa (qqp leaf44 rfl (qqh zz) rfl) ?_)))
  refine qq5 (fun ver => qz8 slt44 elt4 rfl rfl rfl rfl (fun y hy => by obtain ⟨t, _, rfl⟩ := List.mem_map.1 hy; rfl) lf_bools (by rw [qq0]; first | omega | (simp only [nr, nl]; omega)) zz) fun v13x3 => ?_
  refine qj9 (fun ver => qzr (x := .tmp 18) (t := (.mk 44 1 [(0, (.mk 4 1 []))])) slt24 elt44 rfl rfl rfl (by decide) (by decide) rfl rfl rfl (eat_own rfl rfl rfl eat_end) rfl rfl) fun v19x4 => ?_
  refine qj9 (fun ver => j_append_deep (by decide) slt24 elt44 rfl rfl rfl rfl rfl rfl rfl rfl (nb rfl) (by rw [qq0]; first | omega | (simp only [nr, nl]; omega)) zz) fun v5x5 => ?_
  refine oa rfl (on (ar (om rfl (qqa (qjh rfl rfl zz zz) (oa rfl (on ?_))))))
  exact ⟨(k + 1, v5x5), (by first | exact zz | (dsimp only; exact zz)), ⟨⟨rfl, rfl⟩, ⟨rfl, rfl, trivial⟩, ⟨deepEq (by rw [qjn (d := default) (by omega), List.map_append]; rfl), trivial⟩, ⟨rfl, rfl⟩, ⟨rfl, rfl⟩⟩, (by first | exact zz | (dsimp only; exact zz))⟩
 have h1r := h1
 try simp only [nq, nr, nl] at h1
 refine qja (rs (om rfl (oa rfl (on (qqm ?_)))))
 exact ⟨[.own 5 v], .own 0 0, [], [.deep (.mk 44 1 [(0, (.mk 4 1 []))]) _ none], [(5, v)], ⟨rfl, trivial⟩, rfl, rfl, ⟨⟨rfl, rfl⟩, trivial⟩, rfl, rfl, ⟨rfl, rfl, by rw [List.take_of_length_le (by omega)]⟩⟩
theorem f_equalBo (a b : List Bool) : Fn Tryz.prog 98 [.sl (a.map dB), .sl (b.map dB)] [] (fun rr ii nn => rr = .p (.bool (decide (a = b))) ∧ ii = [] ∧ nn = []) := by
 refine qjm Tryz.func98 rfl (nb rfl) fun w X g => ?_
 show AWp _ _ _ ⟨[(0, .sl (a.map dB)), (1, .sl (b.map dB))], []⟩
 refine qj6 0 rfl fun hla => ?_
 refine rs (oa rfl (on (qqe (rs (om rfl (qqa (qqg Tryz.underlying44 rfl) (om rfl (qqa (qqg Tryz.underlying44 rfl) (qqa (j_ne rfl rfl) (on (ac rfl (fun h1 => ?_) fun h1 => ?_)))))))))))
 ·
  have h1r := h1
  try simp only [nq, nr] at h1
  refine rs (oa rfl (on (qqm ?_)))
  exact qq8 rfl ⟨qqv (by symm; rw [decide_eq_false_iff_not]; rintro rfl; exact h1 rfl), rfl, rfl⟩
 have h1r := h1
 try simp only [nq, nr] at h1
 refine qqj (qqe (rs (om rfl (qqa (qqg Tryz.underlying44 rfl) (om rfl (on (qqf (qqr (ι := Nat) (fun k => k ≤ a.length ∧ a.take k = b.take k) (fun k r => (13, .p (.int .i64 ((k : Nat)))) :: r) (fun k r => r) (fun k => a.length - k) (fun _ _ => rfl) (fun _ _ => rfl) 0 ⟨Nat.zero_le _, rfl⟩ ⟨⟨rfl, rfl⟩, ⟨rfl, trivial⟩, trivial, ⟨rfl, rfl⟩, ⟨rfl, rfl⟩⟩ ?_))))))))
 intro k hpre0
 refine rs (qqa (qzb rfl rfl) (on (qqe (ac rfl (fun h2 => ?_) fun h2 => ?_))))
 ·
  have h2r := h2
  try simp only [nq, nr] at h2
  refine qqj (qqe (qqf (rs (om rfl (oa rfl (on (qqe (qjz qzj (by kernel_rfl) (by kernel_rfl) fun vf => ?_))))))))
  refine qqq (qql (evo rfl)) (qqq (qql (evo rfl)) (qqq (qqy slt44 rfl rfl rfl (qqh (by omega)) rfl) (qqq (qqp leaf4 rfl (qqh (by omega)) rfl) (qqq (qql (evo rfl)) (qqq (qql (evo rfl)) (qqq (qqy slt44 rfl rfl rfl (qqh (by omega)) rfl) (qqq (qqp leaf4 rfl (qqh (by omega)) rfl) (qqq (j_neb Tryz.underlying4 rfl rfl) (qze (by kernel_rfl) (by kernel_rfl) ?_)))))))))
  refine ac rfl (fun h3 => ?_) fun h3 => ?_
  ·
   have h3r := h3
   try simp only [nq, nr] at h3
   refine rs (oa rfl (on (qqm ?_)))
   exact qq8 rfl ⟨qqv (by symm; rw [decide_eq_false_iff_not]; rintro rfl; exact h3 rfl), rfl, rfl⟩
  have h3r := h3
  try simp only [nq, nr] at h3
  refine qqj (ar (qqa (qjh rfl rfl (by omega) (by omega)) (om rfl (on ?_))))
  exact ⟨k + 1, ⟨(by omega), take_next hpre0.2 (by omega) (by omega) h3⟩, ⟨⟨rfl, rfl⟩, ⟨rfl, trivial⟩, trivial, ⟨rfl, rfl⟩, ⟨rfl, rfl⟩⟩, (by omega)⟩
 have h2r := h2
 try simp only [nq, nr] at h2
 refine qja (rs (oa rfl (on (qqm ?_))))
 exact qq8 rfl ⟨qqv (by symm; rw [decide_eq_true_eq]; exact take_eq hpre0.2 (by omega) (by omega)), rfl, rfl⟩
theorem f_eqfBo (a b : List (List Bool)) : Fn Tryz.prog 97 [.sl (a.map dD), .sl (b.map dD), .fn 98 []] [] (fun rr ii nn => rr = .p (.bool (decide (a = b))) ∧ ii = [] ∧ nn = []) := by
 refine qjm Tryz.func97 rfl (nb rfl) fun w X g => ?_
 show AWp _ _ _ ⟨[(0, .sl (a.map dD)), (1, .sl (b.map dD)), (2, .fn 98 [])], []⟩
 refine qj6 0 rfl fun hla => ?_
 refine rs (oa rfl (on (qqe (rs (om rfl (qqa (qqg Tryz.underlying24 rfl) (om rfl (qqa (qqg Tryz.underlying24 rfl) (qqa (j_ne rfl rfl) (on (ac rfl (fun h1 => ?_) fun h1 => ?_)))))))))))
 ·
  have h1r := h1
  try simp only [nq, nr] at h1
  refine rs (oa rfl (on (qqm ?_)))
  exact qq8 rfl ⟨qqv (by symm; rw [decide_eq_false_iff_not]; rintro rfl; exact h1 rfl), rfl, rfl⟩
 have h1r := h1
 try simp only [nq, nr] at h1
 refine qqj (qqe (rs (om rfl (qqa (qqg Tryz.underlying24 rfl) (om rfl (on (qqf (qqr (ι := Nat) (fun k => k ≤ a.length ∧ a.take k = b.take k) (fun k r => (17, .p (.int .i64 ((k : Nat)))) :: r) (fun k r => r) (fun k => a.length - k) (fun _ _ => rfl) (fun _ _ => rfl) 0 ⟨Nat.zero_le _, rfl⟩ ⟨⟨rfl, rfl⟩, ⟨rfl, trivial⟩, trivial, ⟨rfl, rfl⟩, ⟨rfl, rfl⟩⟩ ?_))))))))
 intro k hpre0
 refine rs (qqa (qzb rfl rfl) (on (qqe (ac rfl (fun h2 => ?_) fun h2 => ?_))))
 ·
  have h2r := h2
  try simp only [nq, nr] at h2
  refine qqj (qqe (qqf (rs (om rfl (qqa (qqy slt24 rfl rfl rfl (qqh (by omega)) rfl) (qqa (qqp leaf44 rfl (qqh (by omega)) rfl) (oa rfl (oa rfl (on (rs (om rfl (om rfl (qqa (qqy slt24 rfl rfl rfl (qqh (by omega)) rfl) ?_)))))))))))))
  refine qqa (qqp leaf44 rfl (qqh (by omega)) rfl) (oa rfl (on (rs (om rfl (om rfl (om rfl ?_))))))
  refine qq3 (j_callF0 (v := .p _) (hp1 := []) [] false [] rfl ent98 (f_equalBo (a.getD k default) (b.getD k default)) ⟨.inl ⟨rfl, rfl⟩, .inl ⟨rfl, rfl⟩, trivial⟩ trivial rfl rfl (fun h => by cases h) rfl (fun _ h => by cases h) (.inl rfl) rfl rfl) ?_
  refine qqa (qzw rfl) (on (ac rfl (fun h3 => ?_) fun h3 => ?_))
  ·
   have h3r := h3
   try simp only [nq, nr] at h3
   refine rs (oa rfl (on (qqm ?_)))
   exact qq8 rfl ⟨qqv (by symm; rw [decide_eq_false_iff_not]; rintro rfl; exact h3 rfl), rfl, rfl⟩
  have h3r := h3
  try simp only [nq, nr] at h3
  refine qqj (ar (qqa (qjh rfl rfl (by omega) (by omega)) (om rfl (on ?_))))
  exact ⟨k + 1, ⟨(by omega), take_next hpre0.2 (by omega) (by omega) h3⟩, ⟨⟨rfl, rfl⟩, ⟨rfl, trivial⟩, trivial, ⟨rfl, rfl⟩, ⟨rfl, rfl⟩⟩, (by omega)⟩
 have h2r := h2
 try simp only [nq, nr] at h2
 refine qja (rs (oa rfl (on (qqm ?_))))
 exact qq8 rfl ⟨qqv (by symm; rw [decide_eq_true_eq]; exact take_eq hpre0.2 (by omega) (by omega)), rfl, rfl⟩
theorem f_l8Same (a b : List (List Bool)) (hl : a.length = b.length) (hr : ∀ i, (a.getD i default).length = (b.getD i default).length) : Fn Tryz.prog 103 [.sl (a.map dD), .sl (b.map dD)] [] (fun rr ii nn => rr = .p (.bool (decide (a = b))) ∧ ii = [] ∧ nn = []) := by
 refine qjm Tryz.func103 rfl (nb rfl) fun w X g => ?_
 show AWp _ _ _ ⟨[(0, .sl (a.map dD)), (1, .sl (b.map dD))], []⟩
 refine qj6 0 rfl fun hla => ?_
 refine rs (oa rfl (on (qqe (rs (oa rfl (on (qqf (qqr (ι := Nat) (fun k => k ≤ a.length ∧ a.take k = b.take k) (fun k r => (5, .p (.int .i64 ((k : Nat)))) :: r) (fun k r => r) (fun k => a.length - k) (fun _ _ => rfl) (fun _ _ => rfl) 0 ⟨Nat.zero_le _, rfl⟩ ⟨⟨rfl, rfl⟩, ⟨rfl, trivial⟩, trivial, ⟨rfl, rfl⟩, ⟨rfl, rfl⟩⟩ ?_))))))))
 intro k hpre0
 refine qqe (rs (om rfl (om rfl (qqa (qqg Tryz.underlying24 rfl) (qqa (qzb rfl rfl) (on (ac rfl (fun h1 => ?_) fun h1 => ?_)))))))
 ·
  have h1r := h1
  try simp only [nq, nr] at h1
  refine qqj (qqe (qqf (qqe ?_)))
  have hrk := hr k
  refine ar (oa rfl (on (qqf (qqr (ι := Nat) (fun j => j ≤ (a.getD k default).length ∧ (a.getD k default).take j = (b.getD k default).take j) (fun j r => (6, .p (.int .i64 ((j : Nat)))) :: r) (fun j r => r) (fun j => (a.getD k default).length - j) (fun _ _ => rfl) (fun _ _ => rfl) 0 ⟨Nat.zero_le _, rfl⟩ ⟨⟨rfl, rfl⟩, ⟨rfl, trivial⟩, trivial, ⟨rfl, rfl⟩, ⟨rfl, rfl⟩⟩ ?_))))
  intro j hj
  refine qqe (rs (om rfl (om rfl (om rfl (qqa (qqy slt24 rfl rfl rfl (qqh (by omega)) rfl) (qqa (qqp leaf44 rfl (qqh (by omega)) rfl) (qqa (qqg Tryz.underlying44 rfl) (qqa (qzb rfl rfl) (on (ac rfl (fun h2 => ?_) fun h2 => ?_))))))))))
  ·
   have h2r := h2
   try simp only [nq, nr] at h2
   refine qqj (qqe (qqf (qqe (qj6 17 rfl fun hlk => ?_))))
   refine qjz qzj (by kernel_rfl) (by kernel_rfl) fun vf => ?_
   refine qqq (qql (evo rfl)) (qqq (qql (evo rfl)) (qqq (qqy slt24 rfl rfl rfl (qqh (by omega)) rfl) (qqq (qqp leaf44 rfl (qqh (by omega)) rfl) (qqq (qql (evo rfl)) (qqq (qqy slt44 rfl rfl rfl (qqh (by omega)) rfl) (qqq (qqp leaf4 rfl (qqh (by omega)) rfl) (qqq (qql (evo rfl)) (qqq (qql (evo rfl)) (qqq (qqy slt24 rfl rfl rfl (qqh (by omega)) rfl) (qqq (qqp leaf44 rfl (qqh (by omega)) rfl) (qqq (qql (evo rfl)) (qqq (qqy slt44 rfl rfl rfl (qqh (by omega)) rfl) (qqq (qqp leaf4 rfl (qqh (by omega)) rfl) ?_)))))))))))))
   refine qqq (j_neb Tryz.underlying4 rfl rfl) (qze (by kernel_rfl) (by kernel_rfl) ?_)
   refine ac rfl (fun h3 => ?_) fun h3 => ?_
   ·
    have h3r := h3
    try simp only [nq, nr] at h3
    refine rs (oa rfl (on (qqm ?_)))
    exact qq8 rfl ⟨qqv (by symm; rw [decide_eq_false_iff_not]; rintro rfl; simp_all), rfl, rfl⟩
   have h3r := h3
   try simp only [nq, nr] at h3
   refine qqj (ar (om rfl (qqa (qjh rfl rfl (by omega) (by omega)) (oa rfl (on ?_)))))
   exact ⟨j + 1, ⟨(by omega), take_next hj.2 (by omega) (by omega) (by assumption)⟩, ⟨⟨rfl, rfl⟩, ⟨rfl, trivial⟩, trivial, ⟨rfl, rfl⟩, ⟨rfl, rfl⟩⟩, (by omega)⟩
  have h2r := h2
  try simp only [nq, nr] at h2
  refine qja (ar (om rfl (qqa (qjh rfl rfl (by omega) (by omega)) (oa rfl (on ?_)))))
  exact ⟨k + 1, ⟨(by omega), take_next hpre0.2 (by omega) (by omega) (take_eq hj.2 (by omega) (by omega))⟩, ⟨⟨rfl, rfl⟩, ⟨rfl, trivial⟩, trivial, ⟨rfl, rfl⟩, ⟨rfl, rfl⟩⟩, (by omega)⟩
 have h1r := h1
 try simp only [nq, nr] at h1
 refine qja (rs (oa rfl (on (qqm ?_))))
 exact qq8 rfl ⟨qqv (by symm; rw [decide_eq_true_eq]; exact take_eq hpre0.2 (by omega) (by omega)), rfl, rfl⟩
theorem f_fmImpl (m : Md) (d : List (List Bool)) (hw : wRS m.2 ≤ 1048576) : Fn Tryz.prog 38 [.agg [.sl (m.1.map dI), .sl (m.2.map dR)], .sl (d.map dD)] [] (fun rr ii nn => rr = .tup [.own 0 0, .p (.bool (dmB m d))] ∧ ii = [] ∧ nn = [.deep (.mk 44 1 [(0, .mk 4 1 [])]) ((fmD m d).map dD) none]) := by
 refine qjm Tryz.func38 rfl (nb rfl) fun w X g => ?_
 show AWp _ _ _ ⟨[(0, .agg [.sl (m.1.map dI), .sl (m.2.map dR)]), (1, .sl (d.map dD))], []⟩
 refine a_len_rule 0 rfl fun hlr => ?_
 refine rs (qq5 (fun ver => qj3 rfl) fun v2x1 => ?_)
 refine oa rfl (oa rfl (on (qqe (rs (qqa (qqk (ys := [.sl _, .sl _]) qjw rfl rfl rfl (nb rfl)) (om rfl ?_))))))
 refine qq3 (qqn (v := .p _) (hp1 := []) [] false [] ent94 (f_dvImpl m d) ⟨.inl ⟨rfl, rfl⟩, .inl ⟨rfl, rfl⟩, trivial⟩ trivial rfl rfl (fun h => by cases h) rfl (fun _ h => by cases h) (.inl rfl) rfl rfl) ?_
 refine qqa (qzw rfl) (on (ac rfl (fun h1 => ?_) fun h1 => ?_))
 ·
  have h1r := h1
  try simp only [nq, nr] at h1
  refine rs (oa rfl (oa rfl (on (qjt 4 4 44 1 rfl fun v4 => ?_))))
  refine a_todeep 4 0 (.mk 44 1 [(0, (.mk 4 1 []))]) (zs := []) (zs' := []) rfl rfl rfl rfl eat_end rfl ?_
  refine qqm ?_
  exact ⟨[.own 4 v4, .p _], .tup [.own 0 0, .p _], [], [.deep (.mk 44 1 [(0, (.mk 4 1 []))]) _ none], [(4, v4)], ⟨rfl, rfl, trivial⟩, rfl, rfl, ⟨⟨rfl, rfl⟩, trivial⟩, rfl, rfl, ⟨by rw [show dmB m d = false by assumption], rfl, by rw [fmD_bad (by assumption)]; rfl⟩⟩
 have h1r := h1
 try simp only [nq, nr] at h1
 refine qqj (qqe ?_)
 have hdp := dm_parts (show dmB m d = true by assumption)
 have hrw := rows_le hdp.1 hdp.2
 have hfs := fits_sum hdp.1 hdp.2
 refine ar (om rfl ?_)
 refine qj9 (fun ver => qj8 (v := .own 15 ver) (hp1 := [(15, some (ver, .deep (.mk 44 1 [(0, (.mk 4 1 []))]) _ none))]) [] false [] ent95 (f_ownD d (by omega) hrw) ⟨.inl ⟨rfl, rfl⟩, trivial⟩ trivial rfl rfl rfl (fun h => by cases h) rfl (List.all_eq_true.1 rfl) (.inl rfl) rfl rfl) fun v15x2 => ?_
 refine op_freezeG 15 trivial rfl rfl rfl rfl ?_
 refine oa rfl (on (qqf (qqr (ι := List (List Bool)) (fun o => fitsB m.1 o = true ∧ fmR m o = fmR m d) (fun o r => (6, .sl (o.map dD)) :: r) (fun o r => r) (fun o => cntD o) (fun _ _ => rfl) (fun _ _ => rfl) d (by first | exact ⟨hdp.2, rfl⟩ | (dsimp only; exact ⟨hdp.2, rfl⟩)) ⟨⟨rfl, rfl⟩, ⟨rfl, trivial⟩, trivial, ⟨rfl, rfl⟩, ⟨rfl, rfl⟩⟩ ?_)))
 intro o hk
 refine qqf (rs (om rfl (oa rfl (on (qqe (rs (qqa (qqi qzt rfl rfl) (qqa (qqc leaf58 rfl rfl rfl) (qqa (qqg Tryz.underlying58 rfl) (om rfl (on (qqf (qqr (ι := Nat) (fun j => j ≤ m.2.length) (fun j r => (20, .p (.int .i64 ((j : Nat)))) :: (6, .sl ((allF m (m.2.take j) o).map dD)) :: r) (fun j r => r) (fun j => m.2.length - j) (fun _ _ => rfl) (fun _ _ => rfl) 0 (Nat.zero_le _) ⟨⟨rfl, rfl⟩, ⟨rfl, rfl, trivial⟩, trivial, ⟨rfl, rfl⟩, ⟨rfl, rfl⟩⟩ ?_)))))))))))))
 intro j hj
 refine rs (qqa (qzb rfl rfl) (on (qqe (ac rfl (fun h2 => ?_) fun h2 => ?_))))
 ·
  have h2r := h2
  try simp only [nq, nr] at h2
  refine qqj (qqe (qqf (rs (qqa (qqy slt58 rfl rfl rfl (qqh zr) rfl) (qqa (qzf (ys := [.p _, .sl _, .sl _, .p _, .sl _]) qzd rfl (qqh zr) rfl (Nat.le_refl _)) (qq5 (fun ver => qjv elt123 rfl) fun v9x3 => ?_))))))
  refine qjo (qqs qzd rfl rfl rfl rfl rfl rfl) ?_
  refine on (ar (qqa (qqk (ys := [.sl _, .sl _]) qjw rfl rfl rfl (nb rfl)) (qqa (qqk (ys := [.p _, .sl _, .sl _, .p _, .sl _]) qzd rfl rfl rfl (nb rfl)) (om rfl ?_))))
  refine qj9 (fun ver => qj8 (v := .own 27 ver) (hp1 := [(27, some (ver, .deep (.mk 44 1 [(0, (.mk 4 1 []))]) _ none))]) [] false [] ent96 (f_filter m (m.2.getD j default) (allF m (m.2.take j) o) hdp.1 (mOk_rule hdp.1 (by omega)) (allF_fits hdp.1 hk.1) (wRS_rule hw (by omega))) ⟨.inl ⟨rfl, rfl⟩, .inl ⟨rfl, rfl⟩, .inl ⟨rfl, rfl⟩, trivial⟩ trivial rfl rfl rfl (fun h => by cases h) rfl (List.all_eq_true.1 rfl) (.inl rfl) rfl rfl) fun v27x4 => ?_
  refine op_freezeG 27 trivial rfl rfl rfl rfl ?_
  refine oa rfl (on (ar (qqa (qjh rfl rfl zr zr) (om rfl (on ?_)))))
  exact ⟨j + 1, zr, ⟨⟨rfl, rfl⟩, ⟨rfl, slEq (by rw [allF_next (by omega)]), trivial⟩, trivial, ⟨rfl, rfl⟩, ⟨rfl, rfl⟩⟩, zr⟩
 have h2r := h2
 try simp only [nq, nr] at h2
 refine qja (qqe ?_)
 obtain rfl : j = m.2.length := by omega
 rw [List.take_length]
 have haf := allF_fits hdp.1 (l := m.2) hk.1
 have hfl := fits_len haf hk.1
 have hra := rows_le hdp.1 haf
 have hsa := fits_sum hdp.1 haf
 refine ar (om rfl (om rfl ?_))
 refine qq3 (qqn (v := .p _) (hp1 := []) [] false [] ent97 (f_eqfBo o (allF m m.2 o)) ⟨.inl ⟨rfl, rfl⟩, .inl ⟨rfl, rfl⟩, .inl ⟨rfl, rfl⟩, trivial⟩ trivial rfl rfl (fun h => by cases h) rfl (fun _ h => by cases h) (.inl rfl) rfl rfl) ?_
 refine on (ac rfl (fun h3 => ?_) fun h3 => ?_)
 ·
  have h3r := h3
  try simp only [nq, nr] at h3
  refine rs (om rfl ?_)
  refine qj9 (fun ver => qj8 (v := .own 33 ver) (hp1 := [(33, some (ver, .deep (.mk 44 1 [(0, (.mk 4 1 []))]) _ none))]) [] false [] ent95 (f_ownD (allF m m.2 o) (by omega) hra) ⟨.inl ⟨rfl, rfl⟩, trivial⟩ trivial rfl rfl rfl (fun h => by cases h) rfl (List.all_eq_true.1 rfl) (.inl rfl) rfl rfl) fun v33x5 => ?_
  refine oa rfl (oa rfl (on (qqm ?_)))
  exact ⟨[.own 33 v33x5, .p _], .tup [.own 0 0, .p _], [], [.deep (.mk 44 1 [(0, (.mk 4 1 []))]) _ none], [(33, v33x5)], ⟨rfl, rfl, trivial⟩, rfl, rfl, ⟨⟨rfl, rfl⟩, trivial⟩, rfl, rfl, ⟨by rw [show dmB m d = true by assumption], rfl, by rw [fmD_ok (by assumption), ← hk.2]; have he : o = allF m m.2 o := (by assumption); rw [fmR_stop he.symm, ← he]⟩⟩
 have h3r := h3
 try simp only [nq, nr] at h3
 have hne : allF m m.2 o ≠ o := fun e => h3 e.symm
 refine qqj ?_
 exact ⟨(allF m m.2 o), (by first | exact ⟨haf, (fmR_step hdp.1 hk.1 hne).1.trans hk.2⟩ | (dsimp only; exact ⟨haf, (fmR_step hdp.1 hk.1 hne).1.trans hk.2⟩)), ⟨⟨rfl, rfl⟩, ⟨rfl, trivial⟩, trivial, ⟨rfl, rfl⟩, ⟨rfl, rfl⟩⟩, (by first | exact (fmR_step hdp.1 hk.1 hne).2 | (dsimp only; exact (fmR_step hdp.1 hk.1 hne).2))⟩
theorem f_fmSpec (m : Md) (d : List (List Bool)) (hw : wRS m.2 ≤ 1048576) : Fn Tryz.prog 40 [.agg [.sl (m.1.map dI), .sl (m.2.map dR)], .sl (d.map dD)] [] (fun rr ii nn => rr = .tup [.sl ((fmD m d).map dD), .p (.bool (dmB m d))] ∧ ii = [] ∧ nn = []) := by
 refine qjm Tryz.func40 rfl (nb rfl) fun w X g => ?_
 show AWp _ _ _ ⟨[(0, .agg [.sl (m.1.map dI), .sl (m.2.map dR)]), (1, .sl (d.map dD))], []⟩
 refine a_len_rule 0 rfl fun hlr => ?_
 refine rs (qq5 (fun ver => qj3 rfl) fun v2x1 => ?_)
 refine oa rfl (oa rfl (on (qqe (rs (qqa (qqk (ys := [.sl _, .sl _]) qjw rfl rfl rfl (nb rfl)) (om rfl ?_))))))
 refine qq3 (qqn (v := .p _) (hp1 := []) [] false [] ent100 (f_dvSpec m d) ⟨.inl ⟨rfl, rfl⟩, .inl ⟨rfl, rfl⟩, trivial⟩ trivial rfl rfl (fun h => by cases h) rfl (fun _ h => by cases h) (.inl rfl) rfl rfl) ?_
 refine qqa (qzw rfl) (on (ac rfl (fun h1 => ?_) fun h1 => ?_))
 ·
  have h1r := h1
  try simp only [nq, nr] at h1
  refine rs (qq5 (fun ver => j_bs0 slt24 elt44 rfl rfl (by decide)) fun v13x2 => ?_)
  refine oa rfl (oa rfl (on (a_freeze' 4 (noA _ _ _ _ _) rfl rfl ?_)))
  refine qqm ?_
  exact ⟨[.sl _, .p _], .tup [.sl _, .p _], [], [], [], ⟨rfl, rfl, trivial⟩, rfl, rfl, trivial, rfl, rfl, ⟨by rw [show dmB m d = false by assumption, fmD_bad (by assumption)]; rfl, rfl, rfl⟩⟩
 have h1r := h1
 try simp only [nq, nr] at h1
 refine qqj (qqe ?_)
 have hdp := dm_parts (show dmB m d = true by assumption)
 have hrw := rows_le hdp.1 hdp.2
 have hfs := fits_sum hdp.1 hdp.2
 refine ar (om rfl ?_)
 refine qj9 (fun ver => qj8 (v := .own 15 ver) (hp1 := [(15, some (ver, .deep (.mk 44 1 [(0, (.mk 4 1 []))]) _ none))]) [] false [] ent101 (f_l8Copy d (by omega) hrw) ⟨.inl ⟨rfl, rfl⟩, trivial⟩ trivial rfl rfl rfl (fun h => by cases h) rfl (List.all_eq_true.1 rfl) (.inl rfl) rfl rfl) fun v15x3 => ?_
 refine op_freezeG 15 trivial rfl rfl rfl rfl ?_
 refine oa rfl (on (qqf (qqr (ι := List (List Bool)) (fun o => fitsB m.1 o = true ∧ fmR m o = fmR m d) (fun o r => (6, .sl (o.map dD)) :: r) (fun o r => r) (fun o => cntD o) (fun _ _ => rfl) (fun _ _ => rfl) d (by first | exact ⟨hdp.2, rfl⟩ | (dsimp only; exact ⟨hdp.2, rfl⟩)) ⟨⟨rfl, rfl⟩, ⟨rfl, trivial⟩, trivial, ⟨rfl, rfl⟩, ⟨rfl, rfl⟩⟩ ?_)))
 intro o hk
 refine qqf (qqe ?_)
 have hof := hk.1
 have hro := rows_le hdp.1 hof
 have hso := fits_sum hdp.1 hof
 refine ar (om rfl ?_)
 refine qj9 (fun ver => qj8 (v := .own 17 ver) (hp1 := [(17, some (ver, .deep (.mk 44 1 [(0, (.mk 4 1 []))]) _ none))]) [] false [] ent101 (f_l8Copy o (by omega) hro) ⟨.inl ⟨rfl, rfl⟩, trivial⟩ trivial rfl rfl rfl (fun h => by cases h) rfl (List.all_eq_true.1 rfl) (.inl rfl) rfl rfl) fun v17x4 => ?_
 refine op_freezeG 17 trivial rfl rfl rfl rfl ?_
 refine oa rfl (on (qqe (rs (oa rfl (on (qqf (qqr (ι := Nat) (fun j => j ≤ m.2.length) (fun j r => (8, .p (.int .i64 ((j : Nat)))) :: (7, .sl ((allF m (m.2.take j) o).map dD)) :: r) (fun j r => r) (fun j => m.2.length - j) (fun _ _ => rfl) (fun _ _ => rfl) 0 (Nat.zero_le _) ⟨⟨rfl, rfl⟩, ⟨rfl, rfl, trivial⟩, trivial, ⟨rfl, rfl⟩, ⟨rfl, rfl⟩⟩ ?_)))))))
 intro j hj
 refine qqe (rs (om rfl (qqa (qqi qzt rfl rfl) (qqa (qqc leaf58 rfl rfl rfl) (qqa (qqg Tryz.underlying58 rfl) (qqa (qzb rfl rfl) (on (ac rfl (fun h2 => ?_) fun h2 => ?_))))))))
 ·
  have h2r := h2
  try simp only [nq, nr] at h2
  refine qqj (qqe (qqf (qjz qzj (by kernel_rfl) (by kernel_rfl) fun vf => ?_)))
  refine qqq (qqk (ys := [.sl _, .sl _]) qjw rfl rfl rfl (nb rfl)) (qqq (qqi qzt rfl rfl) (qqq (qqc leaf58 rfl rfl rfl) (qqq (qql (evo rfl)) (qqq (qqy slt58 rfl rfl rfl (qqh zr) rfl) (qqq (qzf (ys := [.p _, .sl _, .sl _, .p _, .sl _]) qzd rfl (qqh zr) rfl (Nat.le_refl _)) (qqq (qql (evo rfl)) ?_))))))
  refine d_v0' (qqn (v := .sl _) (hp1 := []) [] false [] ent102 (f_l8Filter m (m.2.getD j default) (allF m (m.2.take j) o) hdp.1 (mOk_rule hdp.1 (by omega)) (allF_fits hdp.1 hk.1) (wRS_rule hw (by omega))) ⟨.inl ⟨rfl, rfl⟩, .inl ⟨rfl, rfl⟩, .inl ⟨rfl, rfl⟩, trivial⟩ trivial rfl rfl (fun h => by cases h) rfl (fun _ h => by cases h) (.inl rfl) rfl rfl) ?_
  refine qqq (qzp (evo rfl)) (qze (by kernel_rfl) (by kernel_rfl) ?_)
  refine ar (om rfl (qqa (qjh rfl rfl zr zr) (oa rfl (on ?_))))
  exact ⟨j + 1, zr, ⟨⟨rfl, rfl⟩, ⟨rfl, slEq (by rw [allF_next (by omega)]), trivial⟩, trivial, ⟨rfl, rfl⟩, ⟨rfl, rfl⟩⟩, zr⟩
 have h2r := h2
 try simp only [nq, nr] at h2
 refine qja (qqe (qqe ?_))
 obtain rfl : j = m.2.length := by omega
 rw [List.take_length]
 have haf := allF_fits hdp.1 (l := m.2) hk.1
 have hfl := fits_len haf hk.1
 have hra := rows_le hdp.1 haf
 have hsa := fits_sum hdp.1 haf
 refine ar (om rfl (om rfl ?_))
 refine qq3 (qqn (v := .p _) (hp1 := []) [] false [] ent103 (f_l8Same (allF m m.2 o) o hfl.1 hfl.2) ⟨.inl ⟨rfl, rfl⟩, .inl ⟨rfl, rfl⟩, trivial⟩ trivial rfl rfl (fun h => by cases h) rfl (fun _ h => by cases h) (.inl rfl) rfl rfl) ?_
 refine on (ac rfl (fun h3 => ?_) fun h3 => ?_)
 ·
  have h3r := h3
  try simp only [nq, nr] at h3
  refine rs (om rfl (oa rfl (oa rfl (on (qqm ?_)))))
  exact ⟨[.sl _, .p _], .tup [.sl _, .p _], [], [], [], ⟨rfl, rfl, trivial⟩, rfl, rfl, trivial, rfl, rfl, ⟨by have he : allF m m.2 o = o := (by assumption); rw [show dmB m d = true by assumption, fmD_ok (by assumption), ← hk.2, fmR_stop he], rfl, rfl⟩⟩
 have h3r := h3
 try simp only [nq, nr] at h3
 have hne : allF m m.2 o ≠ o := h3
 refine qqj (ar (om rfl (oa rfl (on ?_))))
 exact ⟨(allF m m.2 o), (by first | exact ⟨haf, (fmR_step hdp.1 hk.1 hne).1.trans hk.2⟩ | (dsimp only; exact ⟨haf, (fmR_step hdp.1 hk.1 hne).1.trans hk.2⟩)), ⟨⟨rfl, rfl⟩, ⟨rfl, trivial⟩, trivial, ⟨rfl, rfl⟩, ⟨rfl, rfl⟩⟩, (by first | exact (fmR_step hdp.1 hk.1 hne).2 | (dsimp only; exact (fmR_step hdp.1 hk.1 hne).2))⟩
end Go.Ab

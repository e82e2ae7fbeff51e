/- Walks. -/
import Derived.Test.YtoodaakcfelaaaaGreatBase2
import Derived.Test.YtoodaakcfelaaaaGreatDmod2
import Derived.Test.YtoodaakcfelaaaaGreatBase
import Derived.Test.YtoodaakcfelaaaaGreatWsmod2
import Derived.Test.YtoodaakcfelaaaaGreatSimp
import Derived.Test.YtoodaakcfelaaaaGreatWscons
import Derived.Test.YtoodaakcfelaaaaGreatVals
namespace Go.Ab
open Go.Proofs
set_option maxRecDepth 100000
set_option maxHeartbeats 8000000
set_option linter.unusedSimpArgs false
set_option linter.unusedVariables false
theorem zas1 {p : Prop} (h : p := by first | omega | (simp only [nr, nl, qjc]; omega)) : p := h
theorem zas3 {p : Prop} (h : p := by first | omega | (simp only [nr, nl, qjr]; omega)) : p := h
theorem zas4 {p : Prop} (h : p := by first | omega | (simp only [nr, nl, List.length_replicate, qzs]; omega)) : p := h
theorem f_idx_LI_sl (e : Nat) (es : List (List V)) (F : Nat) (l : List (List Int)) (p : List Int → Bool) (hE : Ent' Tryz.prog F) (hF : ∀ a ∈ l, Fn Tryz.prog F [.sl (a.map dI), .ptr 0 0 0] [.box e [.sl es]] (fun r i n => r = .p (.bool (p a)) ∧ i = [.box e [.sl es]] ∧ n = [])) : Fn Tryz.prog 245 [.sl (l.map dL), .fn F [.ptr 0 0 0]] [.box e [.sl es]] (fun rr ii nn => rr = .p (.int .i64 (idxF p l 0)) ∧ ii = [.box e [.sl es]] ∧ nn = []) := by
 refine qjm Tryz.func245 rfl (nb rfl) fun w X g => ?_
 show AWp _ _ _ ⟨[(0, .sl (l.map dL)), (1, .fn F [.ptr 0 0 0])], [(0, some (0, .box e [.sl es]))]⟩
 refine qj6 0 rfl fun hlen => ?_
 refine rs (oa rfl (on (qqe (rs (om rfl (qqa (qqg Tryz.underlying107 rfl) (om rfl (on (qqf (qqr (ι := Nat) (fun k => k ≤ l.length ∧ idxF p l 0 = idxF p (l.drop k) (k : Int)) (fun k r => (8, .p (.int .i64 ((k : Nat)))) :: r) (fun k r => (0, some (0, .box e [.sl es])) :: r) (fun k => l.length - k) (fun _ _ => rfl) (fun _ _ => rfl) 0 ⟨Nat.zero_le _, rfl⟩ ⟨⟨rfl, rfl⟩, ⟨rfl, trivial⟩, ⟨rfl, trivial⟩, ⟨rfl, rfl⟩, ⟨rfl, rfl⟩⟩ ?_))))))))))
 intro k hpre
 refine rs (qqa (qzb rfl rfl) (on (qqe (ac rfl (fun h1 => ?_) fun h1 => ?_))))
 ·
  have h1r := h1
  try simp only [nq, nr] at h1
  refine qqj (qqe (qqf (rs (om rfl (oa rfl (on (rs (om rfl (om rfl (om rfl (qqa (qqy slt107 rfl rfl rfl (qqh (by omega)) rfl) (qqa (qqp qq9 rfl (qqh (by omega)) rfl) ?_))))))))))))
  refine qq3 (j_callF0 (v := .p _) (hp1 := [(0, some (0, .box e [.sl _]))]) [(0, 0)] false [0] rfl hE (hF (l.getD k default) (qzo (by omega))) ⟨.inl ⟨rfl, rfl⟩, .inl ⟨rfl, rfl⟩, trivial⟩ ⟨⟨rfl, rfl⟩, trivial⟩ rfl rfl (fun h => by cases h) rfl (List.all_eq_true.1 rfl) (.inl rfl) rfl rfl) ?_
  refine on (ac rfl (fun h2 => ?_) fun h2 => ?_)
  ·
   have h2r := h2
   try simp only [nq, nr] at h2
   refine rs (om rfl (oa rfl (on (qqm ?_))))
   exact ⟨[.p _], .p _, [.box e [.sl _]], [], [], ⟨rfl, trivial⟩, rfl, rfl, ⟨⟨rfl, rfl⟩, trivial⟩, rfl, rfl, ⟨qzg (by rw [hpre.2, idxF_hit (d := default) (by omega) (by assumption)]), rfl, rfl⟩⟩
  have h2r := h2
  try simp only [nq, nr] at h2
  refine qqj (ar (qqa (qjh rfl rfl (by omega) (by omega)) (om rfl (on ?_))))
  exact ⟨k + 1, ⟨by omega, by rw [hpre.2, idxF_skip (d := default) (by omega) (by assumption)]⟩, ⟨⟨rfl, rfl⟩, ⟨rfl, trivial⟩, ⟨rfl, trivial⟩, ⟨rfl, rfl⟩, ⟨rfl, rfl⟩⟩, (by omega)⟩
 have h1r := h1
 try simp only [nq, nr] at h1
 refine qja (rs (oa rfl (on (qqm ?_))))
 exact ⟨[.p _], .p _, [.box e [.sl _]], [], [], ⟨rfl, trivial⟩, rfl, rfl, ⟨⟨rfl, rfl⟩, trivial⟩, rfl, rfl, ⟨qzg (by rw [hpre.2, idxF_end (by omega)]), rfl, rfl⟩⟩
theorem f_ctf_LI_sl (e : Nat) (es : List (List V)) (F : Nat) (l : List (List Int)) (p : List Int → Bool) (hE : Ent' Tryz.prog F) (hF : ∀ a ∈ l, Fn Tryz.prog F [.sl (a.map dI), .ptr 0 0 0] [.box e [.sl es]] (fun r i n => r = .p (.bool (p a)) ∧ i = [.box e [.sl es]] ∧ n = [])) : Fn Tryz.prog 198 [.sl (l.map dL), .fn F [.ptr 0 0 0]] [.box e [.sl es]] (fun rr ii nn => rr = .p (.bool (l.any p)) ∧ ii = [.box e [.sl es]] ∧ nn = []) := by
 refine qjm Tryz.func198 rfl (nb rfl) fun w X g => ?_
 show AWp _ _ _ ⟨[(0, .sl (l.map dL)), (1, .fn F [.ptr 0 0 0])], [(0, some (0, .box e [.sl es]))]⟩
 refine rs (oa rfl (on (rs (om rfl (om rfl ?_)))))
 refine qq3 (qqn (v := .p _) (hp1 := [(0, some (0, .box e [.sl _]))]) [(0, 0)] false [0] ent245 (f_idx_LI_sl e es F l p hE hF) ⟨.inl ⟨rfl, rfl⟩, .inl ⟨rfl, rfl⟩, trivial⟩ ⟨⟨rfl, rfl⟩, trivial⟩ rfl rfl (fun h => by cases h) rfl (List.all_eq_true.1 rfl) (.inl rfl) rfl rfl) ?_
 refine qqa (j_ge rfl rfl) (oa rfl (on (qqm ?_)))
 exact ⟨[.p _], .p _, [.box e [.sl _]], [], [], ⟨rfl, trivial⟩, rfl, rfl, ⟨⟨rfl, rfl⟩, trivial⟩, rfl, rfl, ⟨qqv (idxF_any (Int.le_refl 0)), rfl, rfl⟩⟩
theorem f_dvImpl (m : Md) (d : List (List Bool)) : Fn Tryz.prog 94 [.agg [.sl (m.1.map dI), .sl (m.2.map dR)], .sl (d.map dD)] [] (fun rr ii nn => rr = .p (.bool (dmB m d)) ∧ ii = [] ∧ nn = []) := by
 refine qjm Tryz.func94 rfl (nb rfl) fun w X g => ?_
 show AWp _ _ _ ⟨[(0, .agg [.sl (m.1.map dI), .sl (m.2.map dR)]), (1, .sl (d.map dD))], []⟩
 refine qj6 1 rfl fun hld => ?_
 refine rs (qq5 (fun ver => qj3 rfl) fun v2x1 => ?_)
 refine oa rfl (on (qqe (rs (qqa (qqk (ys := [.sl _, .sl _]) qjw rfl rfl rfl (nb rfl)) ?_))))
 refine qq3 (qqn (v := .p _) (hp1 := []) [] false [] ent90 (f_mvImpl m) ⟨.inl ⟨rfl, rfl⟩, trivial⟩ trivial rfl rfl (fun h => by cases h) rfl (fun _ h => by cases h) (.inl rfl) rfl rfl) ?_
 refine qqa (qzw rfl) (om rfl (qqx 10 rfl (fun h1 => ?_) (fun h1 => ?_)))
 ·
  have h1r := h1
  try simp only [nq, nr] at h1
  refine qqa (qqb rfl rfl h1r) (qqa (qqb rfl rfl h1r) (qqa (qqb rfl rfl h1r) (qqa (qqb rfl rfl h1r) (qqa (qqb rfl rfl h1r) (qqa (qqb rfl rfl h1r) (qqa (qqu rfl h1r (evo rfl)) (on (a_tt rfl ?_))))))))
  refine rs (oa rfl (on (qqm ?_)))
  exact qq8 rfl ⟨qqv (by symm; unfold dmB; first | (rw [show mOk m = false by assumption]; rfl) | (rw [fits_l (by omega), Bool.and_false])), rfl, rfl⟩
 have h1r := h1
 try simp only [nq, nr] at h1
 refine qqa (qqd rfl rfl h1r (qql (evo rfl))) (qqa (qqd rfl rfl h1r (qqg Tryz.underlying24 rfl)) (qqa (qqd rfl rfl h1r (qqi qjs rfl rfl)) (qqa (qqd rfl rfl h1r (qqc qq9 rfl rfl rfl)) (qqa (qqd rfl rfl h1r (qqg Tryz.underlying23 rfl)) (qqa (qqd rfl rfl h1r (j_ne rfl rfl)) (qqa (qqt rfl h1r (evo rfl)) (on (ac rfl (fun h2 => ?_) fun h2 => ?_))))))))
 ·
  have h2r := h2
  try simp only [nq, nr] at h2
  refine rs (oa rfl (on (qqm ?_)))
  exact qq8 rfl ⟨qqv (by symm; unfold dmB; first | (rw [show mOk m = false by assumption]; rfl) | (rw [fits_l (by omega), Bool.and_false])), rfl, rfl⟩
 have h2r := h2
 try simp only [nq, nr] at h2
 refine qqj (qqe (rs (qqa (qqi qjs rfl rfl) (qqa (qqc qq9 rfl rfl rfl) (qqa (qqg Tryz.underlying23 rfl) (om rfl (on (qqf (qqr (ι := Nat) (fun k => k ≤ m.1.length ∧ (List.range k).all (fun k => decide (((d.getD k default).length : Int) = m.1.getD k default + 1)) = true) (fun k r => (21, .p (.int .i64 ((k : Nat)))) :: r) (fun k r => r) (fun k => m.1.length - k) (fun _ _ => rfl) (fun _ _ => rfl) 0 ⟨Nat.zero_le _, rfl⟩ ⟨⟨rfl, rfl⟩, ⟨rfl, trivial⟩, trivial, ⟨rfl, rfl⟩, ⟨rfl, rfl⟩⟩ ?_)))))))))
 intro k hk
 refine rs (qqa (qzb rfl rfl) (on (qqe (ac rfl (fun h3 => ?_) fun h3 => ?_))))
 ·
  have h3r := h3
  try simp only [nq, nr] at h3
  refine qqj (qqe (qqf (rs (om rfl (qqa (qqy qqz rfl rfl rfl (qqh zr) rfl) (qqa (qqp qq2 rfl (qqh zr) rfl) (oa rfl (oa rfl (on (qqe ?_))))))))))
  have hsk := (qzx (m := m) (by assumption)).2 k (by omega)
  refine ar (om rfl (om rfl (qqa (qqy slt24 rfl rfl rfl (qqh zr) rfl) (qqa (qqp leaf44 rfl (qqh zr) rfl) (qqa (qqg Tryz.underlying44 rfl) (om rfl (qqa (qjh rfl rfl zr zr) (qqa (j_ne rfl rfl) (on (ac rfl (fun h4 => ?_) fun h4 => ?_))))))))))
  ·
   have h4r := h4
   try simp only [nq, nr] at h4
   refine rs (oa rfl (on (qqm ?_)))
   exact qq8 rfl ⟨qqv (by symm; unfold dmB; rw [fits_no (k := k) (by omega) (by omega), Bool.and_false]), rfl, rfl⟩
  have h4r := h4
  try simp only [nq, nr] at h4
  refine qqj (ar (qqa (qjh rfl rfl zr zr) (om rfl (on ?_))))
  exact ⟨k + 1, ⟨by omega, rng_next hk.2 (decide_eq_true (by omega))⟩, ⟨⟨rfl, rfl⟩, ⟨rfl, trivial⟩, trivial, ⟨rfl, rfl⟩, ⟨rfl, rfl⟩⟩, zr⟩
 have h3r := h3
 try simp only [nq, nr] at h3
 refine qja (rs (oa rfl (on (qqm ?_))))
 exact qq8 rfl ⟨qqv (by symm; unfold dmB; rw [show mOk m = true by assumption, fits_yes (by omega) (by rw [show d.length = k by omega]; exact hk.2)]; rfl), rfl, rfl⟩
theorem f_l8Fits (m : Md) (d : List (List Bool)) (hm : mOk m = true) : Fn Tryz.prog 161 [.agg [.sl (m.1.map dI), .sl (m.2.map dR)], .sl (d.map dD)] [] (fun rr ii nn => rr = .p (.bool (fitsB m.1 d)) ∧ ii = [] ∧ nn = []) := by
 refine qjm Tryz.func161 rfl (nb rfl) fun w X g => ?_
 show AWp _ _ _ ⟨[(0, .agg [.sl (m.1.map dI), .sl (m.2.map dR)]), (1, .sl (d.map dD))], []⟩
 refine qj6 1 rfl fun hld => ?_
 refine rs (qq5 (fun ver => qj3 rfl) fun v2x1 => ?_)
 refine oa rfl (on (qqe (rs (om rfl (qqa (qqg Tryz.underlying24 rfl) (qqa (qqi qjs rfl rfl) (qqa (qqc qq9 rfl rfl rfl) (qqa (qqg Tryz.underlying23 rfl) (qqa (j_ne rfl rfl) (on (ac rfl (fun h1 => ?_) fun h1 => ?_)))))))))))
 ·
  have h1r := h1
  try simp only [nq, nr] at h1
  refine rs (oa rfl (on (qqm ?_)))
  exact qq8 rfl ⟨qqv (by symm; exact fits_l (by omega)), rfl, rfl⟩
 have h1r := h1
 try simp only [nq, nr] at h1
 refine qqj (qqe (rs (oa rfl (on (qqf (qqr (ι := Nat) (fun k => k ≤ d.length ∧ (List.range k).all (fun k => decide (((d.getD k default).length : Int) = m.1.getD k default + 1)) = true) (fun k r => (5, .p (.int .i64 ((k : Nat)))) :: r) (fun k r => r) (fun k => d.length - k) (fun _ _ => rfl) (fun _ _ => rfl) 0 ⟨Nat.zero_le _, rfl⟩ ⟨⟨rfl, rfl⟩, ⟨rfl, trivial⟩, trivial, ⟨rfl, rfl⟩, ⟨rfl, rfl⟩⟩ ?_))))))
 intro k hk
 refine qqe (rs (om rfl (om rfl (qqa (qqg Tryz.underlying24 rfl) (qqa (qzb rfl rfl) (on (ac rfl (fun h2 => ?_) fun h2 => ?_)))))))
 ·
  have h2r := h2
  try simp only [nq, nr] at h2
  refine qqj (qqe (qqf (qqe ?_)))
  have hsk := (qzx (m := m) (by assumption)).2 k (by omega)
  refine qjz qzj (by kernel_rfl) (by kernel_rfl) fun vf => ?_
  refine qqq (qql (evo rfl)) (qqq (qql (evo rfl)) (qqq (qqy slt24 rfl rfl rfl (qqh zr) rfl) (qqq (qqp leaf44 rfl (qqh zr) rfl) (qqq (qqg Tryz.underlying44 rfl) (qqq (qqi qjs rfl rfl) (qqq (qqc qq9 rfl rfl rfl) (qqq (qql (evo rfl)) (qqq (qqy qqz rfl rfl rfl (qqh zr) rfl) (qqq (qqp qq2 rfl (qqh zr) rfl) (qqq (qjh rfl rfl zr zr) (qqq (j_ne rfl rfl) (qze (by kernel_rfl) (by kernel_rfl) ?_))))))))))))
  refine ac rfl (fun h3 => ?_) fun h3 => ?_
  ·
   have h3r := h3
   try simp only [nq, nr] at h3
   refine rs (oa rfl (on (qqm ?_)))
   exact qq8 rfl ⟨qqv (by symm; exact fits_no (k := k) (by omega) (by omega)), rfl, rfl⟩
  have h3r := h3
  try simp only [nq, nr] at h3
  refine qqj (ar (om rfl (qqa (qjh rfl rfl zr zr) (oa rfl (on ?_)))))
  exact ⟨k + 1, ⟨by omega, rng_next hk.2 (decide_eq_true (by omega))⟩, ⟨⟨rfl, rfl⟩, ⟨rfl, trivial⟩, trivial, ⟨rfl, rfl⟩, ⟨rfl, rfl⟩⟩, zr⟩
 have h2r := h2
 try simp only [nq, nr] at h2
 refine qja (rs (oa rfl (on (qqm ?_))))
 exact qq8 rfl ⟨qqv (by symm; exact fits_yes (by omega) (by rw [show d.length = k by omega]; exact hk.2)), rfl, rfl⟩
theorem f_dvSpec (m : Md) (d : List (List Bool)) : Fn Tryz.prog 100 [.agg [.sl (m.1.map dI), .sl (m.2.map dR)], .sl (d.map dD)] [] (fun rr ii nn => rr = .p (.bool (dmB m d)) ∧ ii = [] ∧ nn = []) := by
 refine qjm Tryz.func100 rfl (nb rfl) fun w X g => ?_
 show AWp _ _ _ ⟨[(0, .agg [.sl (m.1.map dI), .sl (m.2.map dR)]), (1, .sl (d.map dD))], []⟩
 refine rs (qq5 (fun ver => qj3 rfl) fun v2x1 => ?_)
 refine oa rfl (on (rs (qqa (qqk (ys := [.sl _, .sl _]) qjw rfl rfl rfl (nb rfl)) ?_)))
 refine qq3 (qqn (v := .p _) (hp1 := []) [] false [] ent104 (f_mvSpec m) ⟨.inl ⟨rfl, rfl⟩, trivial⟩ trivial rfl rfl (fun h => by cases h) rfl (fun _ h => by cases h) (.inl rfl) rfl rfl) ?_
 refine om rfl (qqx 7 rfl (fun h1 => ?_) (fun h1 => ?_))
 ·
  have h1r := h1
  try simp only [nq, nr] at h1
  refine qqa (qqd rfl rfl h1r (qqk (ys := [.sl _, .sl _]) qjw rfl rfl rfl (nb rfl))) (qqa (qqd rfl rfl h1r (qql (evo rfl))) ?_)
  refine qq3 (qqd rfl rfl h1r (qqn (v := .p _) (hp1 := []) [] false [] ent161 (f_l8Fits m d (by assumption)) ⟨.inl ⟨rfl, rfl⟩, .inl ⟨rfl, rfl⟩, trivial⟩ trivial rfl rfl (fun h => by cases h) rfl (fun _ h => by cases h) (.inl rfl) rfl rfl)) ?_
  refine qqa (qqu rfl h1r (evo rfl)) (oa rfl (on (qqm ?_)))
  exact qq8 rfl ⟨qqv (by symm; unfold dmB; simp_all), rfl, rfl⟩
 have h1r := h1
 try simp only [nq, nr] at h1
 refine qqa (qqb rfl rfl h1r) (qqa (qqb rfl rfl h1r) (qqa (qqb rfl rfl h1r) (qqa (qqt rfl h1r (evo rfl)) (oa rfl (on (qqm ?_))))))
 exact qq8 rfl ⟨qqv (by symm; unfold dmB; simp_all), rfl, rfl⟩
theorem f_inside (d : List (List Bool)) (c : List Int) (hd : c.length ≤ d.length) (hc : ∀ k, k < c.length → 0 ≤ c.getD k default ∧ c.getD k default < ((d.getD k default).length : Int)) : Fn Tryz.prog 159 [.sl (d.map dD), .sl (c.map dI)] [] (fun rr ii nn => rr = .p (.bool (inB d c)) ∧ ii = [] ∧ nn = []) := by
 refine qjm Tryz.func159 rfl (nb rfl) fun w X g => ?_
 show AWp _ _ _ ⟨[(0, .sl (d.map dD)), (1, .sl (c.map dI))], []⟩
 refine qj6 1 rfl fun hld => ?_
 refine rs (oa rfl (on (qqe (rs (om rfl (qqa (qqg Tryz.underlying23 rfl) (om rfl (on (qqf (qqr (ι := Nat) (fun k => k ≤ c.length ∧ (List.range k).all (cellD d c) = true) (fun k r => (9, .p (.int .i64 ((k : Nat)))) :: r) (fun k r => r) (fun k => c.length - k) (fun _ _ => rfl) (fun _ _ => rfl) 0 ⟨Nat.zero_le _, rfl⟩ ⟨⟨rfl, rfl⟩, ⟨rfl, trivial⟩, trivial, ⟨rfl, rfl⟩, ⟨rfl, rfl⟩⟩ ?_))))))))))
 intro k hk
 refine rs (qqa (qzb rfl rfl) (on (qqe (ac rfl (fun h1 => ?_) fun h1 => ?_))))
 ·
  have h1r := h1
  try simp only [nq, nr] at h1
  refine qqj (qqe (qqf (rs (om rfl (qqa (qqy qqz rfl rfl rfl (qqh zr) rfl) (qqa (qqp qq2 rfl (qqh zr) rfl) (oa rfl (oa rfl (on (qqe ?_))))))))))
  have hck := hc k (by omega)
  refine ar (om rfl (om rfl (qqa (qqy slt24 rfl rfl rfl (qqh zr) rfl) (qqa (qqp leaf44 rfl (qqh zr) rfl) (om rfl (qqa (qqy (n := (c.getD k default).toNat) slt44 rfl rfl (by omega) (qqh zr) rfl) (qqa (qqp leaf4 rfl (qqh zr) rfl) (qqa (qzw rfl) (on (ac rfl (fun h2 => ?_) fun h2 => ?_))))))))))
  ·
   have h2r := h2
   try simp only [nq, nr] at h2
   refine rs (oa rfl (on (qqm ?_)))
   exact qq8 rfl ⟨qqv (by symm; exact rng_no (k := k) (by omega) (by unfold cellD; assumption)), rfl, rfl⟩
  have h2r := h2
  try simp only [nq, nr] at h2
  refine qqj (ar (qqa (qjh rfl rfl zr zr) (om rfl (on ?_))))
  exact ⟨k + 1, ⟨by omega, rng_next hk.2 (by unfold cellD; assumption)⟩, ⟨⟨rfl, rfl⟩, ⟨rfl, trivial⟩, trivial, ⟨rfl, rfl⟩, ⟨rfl, rfl⟩⟩, zr⟩
 have h1r := h1
 try simp only [nq, nr] at h1
 refine qja (rs (oa rfl (on (qqm ?_))))
 exact qq8 rfl ⟨qqv (by symm; unfold inB; rw [show c.length = k by omega]; exact hk.2), rfl, rfl⟩
theorem f_l8In (d : List (List Bool)) (c : List Int) (hd : c.length ≤ d.length) (hc : ∀ k, k < c.length → 0 ≤ c.getD k default ∧ c.getD k default < ((d.getD k default).length : Int)) : Fn Tryz.prog 162 [.sl (d.map dD), .sl (c.map dI)] [] (fun rr ii nn => rr = .p (.bool (inB d c)) ∧ ii = [] ∧ nn = []) := by
 refine qjm Tryz.func162 rfl (nb rfl) fun w X g => ?_
 show AWp _ _ _ ⟨[(0, .sl (d.map dD)), (1, .sl (c.map dI))], []⟩
 refine qj6 1 rfl fun hld => ?_
 refine rs (oa rfl (on (qqe (rs (oa rfl (on (qqf (qqr (ι := Nat) (fun k => k ≤ c.length ∧ (List.range k).all (cellD d c) = true) (fun k r => (5, .p (.int .i64 ((k : Nat)))) :: r) (fun k r => r) (fun k => c.length - k) (fun _ _ => rfl) (fun _ _ => rfl) 0 ⟨Nat.zero_le _, rfl⟩ ⟨⟨rfl, rfl⟩, ⟨rfl, trivial⟩, trivial, ⟨rfl, rfl⟩, ⟨rfl, rfl⟩⟩ ?_))))))))
 intro k hk
 refine qqe (rs (om rfl (om rfl (qqa (qqg Tryz.underlying23 rfl) (qqa (qzb rfl rfl) (on (ac rfl (fun h1 => ?_) fun h1 => ?_)))))))
 ·
  have h1r := h1
  try simp only [nq, nr] at h1
  refine qqj (qqe (qqf (qqe ?_)))
  have hck := hc k (by omega)
  refine qjz qzj (by kernel_rfl) (by kernel_rfl) fun vf => ?_
  refine qqq (qql (evo rfl)) (qqq (qql (evo rfl)) (qqq (qqy slt24 rfl rfl rfl (qqh zr) rfl) (qqq (qqp leaf44 rfl (qqh zr) rfl) (qqq (qql (evo rfl)) (qqq (qql (evo rfl)) (qqq (qqy qqz rfl rfl rfl (qqh zr) rfl) (qqq (qqp qq2 rfl (qqh zr) rfl) (qqq (qqy (n := (c.getD k default).toNat) slt44 rfl rfl (by omega) (qqh zr) rfl) (qqq (qqp leaf4 rfl (qqh zr) rfl) (qqq (qzw rfl) (qze (by kernel_rfl) (by kernel_rfl) ?_)))))))))))
  refine ac rfl (fun h2 => ?_) fun h2 => ?_
  ·
   have h2r := h2
   try simp only [nq, nr] at h2
   refine rs (oa rfl (on (qqm ?_)))
   exact qq8 rfl ⟨qqv (by symm; exact rng_no (k := k) (by omega) (by unfold cellD; assumption)), rfl, rfl⟩
  have h2r := h2
  try simp only [nq, nr] at h2
  refine qqj (ar (om rfl (qqa (qjh rfl rfl zr zr) (oa rfl (on ?_)))))
  exact ⟨k + 1, ⟨by omega, rng_next hk.2 (by unfold cellD; assumption)⟩, ⟨⟨rfl, rfl⟩, ⟨rfl, trivial⟩, trivial, ⟨rfl, rfl⟩, ⟨rfl, rfl⟩⟩, zr⟩
 have h1r := h1
 try simp only [nq, nr] at h1
 refine qja (rs (oa rfl (on (qqm ?_))))
 exact qq8 rfl ⟨qqv (by symm; unfold inB; rw [show c.length = k by omega]; exact hk.2), rfl, rfl⟩
theorem f_equalI (a b : List Int) : Fn Tryz.prog 204 [.sl (a.map dI), .sl (b.map dI)] [] (fun rr ii nn => rr = .p (.bool (decide (a = b))) ∧ ii = [] ∧ nn = []) := by
 refine qjm Tryz.func204 rfl (nb rfl) fun w X g => ?_
 show AWp _ _ _ ⟨[(0, .sl (a.map dI)), (1, .sl (b.map dI))], []⟩
 refine qj6 0 rfl fun hla => ?_
 refine rs (oa rfl (on (qqe (rs (om rfl (qqa (qqg Tryz.underlying23 rfl) (om rfl (qqa (qqg Tryz.underlying23 rfl) (qqa (j_ne rfl rfl) (on (ac rfl (fun h1 => ?_) fun h1 => ?_)))))))))))
 ·
  have h1r := h1
  try simp only [nq, nr] at h1
  refine rs (oa rfl (on (qqm ?_)))
  exact qq8 rfl ⟨qqv (by symm; rw [decide_eq_false_iff_not]; rintro rfl; exact h1 rfl), rfl, rfl⟩
 have h1r := h1
 try simp only [nq, nr] at h1
 refine qqj (qqe (rs (om rfl (qqa (qqg Tryz.underlying23 rfl) (om rfl (on (qqf (qqr (ι := Nat) (fun k => k ≤ a.length ∧ a.take k = b.take k) (fun k r => (13, .p (.int .i64 ((k : Nat)))) :: r) (fun k r => r) (fun k => a.length - k) (fun _ _ => rfl) (fun _ _ => rfl) 0 ⟨Nat.zero_le _, rfl⟩ ⟨⟨rfl, rfl⟩, ⟨rfl, trivial⟩, trivial, ⟨rfl, rfl⟩, ⟨rfl, rfl⟩⟩ ?_))))))))
 intro k hpre0
 refine rs (qqa (qzb rfl rfl) (on (qqe (ac rfl (fun h2 => ?_) fun h2 => ?_))))
 ·
  have h2r := h2
  try simp only [nq, nr] at h2
  refine qqj (qqe (qqf (rs (om rfl (oa rfl (on (qqe (qjz qzj (by kernel_rfl) (by kernel_rfl) fun vf => ?_))))))))
  refine qqq (qql (evo rfl)) (qqq (qql (evo rfl)) (qqq (qqy qqz rfl rfl rfl (qqh (by omega)) rfl) (qqq (qqp qq2 rfl (qqh (by omega)) rfl) (qqq (qql (evo rfl)) (qqq (qql (evo rfl)) (qqq (qqy qqz rfl rfl rfl (qqh (by omega)) rfl) (qqq (qqp qq2 rfl (qqh (by omega)) rfl) (qqq (j_ne rfl rfl) (qze (by kernel_rfl) (by kernel_rfl) ?_)))))))))
  refine ac rfl (fun h3 => ?_) fun h3 => ?_
  ·
   have h3r := h3
   try simp only [nq, nr] at h3
   refine rs (oa rfl (on (qqm ?_)))
   exact qq8 rfl ⟨qqv (by symm; rw [decide_eq_false_iff_not]; rintro rfl; exact h3 rfl), rfl, rfl⟩
  have h3r := h3
  try simp only [nq, nr] at h3
  refine qqj (ar (qqa (qjh rfl rfl (by omega) (by omega)) (om rfl (on ?_))))
  exact ⟨k + 1, ⟨(by omega), take_next hpre0.2 (by omega) (by omega) h3⟩, ⟨⟨rfl, rfl⟩, ⟨rfl, trivial⟩, trivial, ⟨rfl, rfl⟩, ⟨rfl, rfl⟩⟩, (by omega)⟩
 have h2r := h2
 try simp only [nq, nr] at h2
 refine qja (rs (oa rfl (on (qqm ?_))))
 exact qq8 rfl ⟨qqv (by symm; rw [decide_eq_true_eq]; exact take_eq hpre0.2 (by omega) (by omega)), rfl, rfl⟩
theorem f_l6Ints (a b : List Int) : Fn Tryz.prog 205 [.sl (a.map dI), .sl (b.map dI)] [] (fun rr ii nn => rr = .p (.bool (decide (a = b))) ∧ ii = [] ∧ nn = []) := by
 refine qjm Tryz.func205 rfl (nb rfl) fun w X g => ?_
 show AWp _ _ _ ⟨[(0, .sl (a.map dI)), (1, .sl (b.map dI))], []⟩
 refine qj6 0 rfl fun hla => ?_
 refine rs (oa rfl (on (qqe (rs (om rfl (qqa (qqg Tryz.underlying23 rfl) (om rfl (qqa (qqg Tryz.underlying23 rfl) (qqa (j_ne rfl rfl) (on (ac rfl (fun h1 => ?_) fun h1 => ?_)))))))))))
 ·
  have h1r := h1
  try simp only [nq, nr] at h1
  refine rs (oa rfl (on (qqm ?_)))
  exact qq8 rfl ⟨qqv (by symm; rw [decide_eq_false_iff_not]; rintro rfl; exact h1 rfl), rfl, rfl⟩
 have h1r := h1
 try simp only [nq, nr] at h1
 refine qqj (qqe (rs (oa rfl (on (qqf (qqr (ι := Nat) (fun k => k ≤ a.length ∧ a.take k = b.take k) (fun k r => (5, .p (.int .i64 ((k : Nat)))) :: r) (fun k r => r) (fun k => a.length - k) (fun _ _ => rfl) (fun _ _ => rfl) 0 ⟨Nat.zero_le _, rfl⟩ ⟨⟨rfl, rfl⟩, ⟨rfl, trivial⟩, trivial, ⟨rfl, rfl⟩, ⟨rfl, rfl⟩⟩ ?_))))))
 intro k hpre0
 refine qqe (rs (om rfl (om rfl (qqa (qqg Tryz.underlying23 rfl) (qqa (qzb rfl rfl) (on (ac rfl (fun h2 => ?_) fun h2 => ?_)))))))
 ·
  have h2r := h2
  try simp only [nq, nr] at h2
  refine qqj (qqe (qqf (qqe (qjz qzj (by kernel_rfl) (by kernel_rfl) fun vf => ?_))))
  refine qqq (qql (evo rfl)) (qqq (qql (evo rfl)) (qqq (qqy qqz rfl rfl rfl (qqh (by omega)) rfl) (qqq (qqp qq2 rfl (qqh (by omega)) rfl) (qqq (qql (evo rfl)) (qqq (qql (evo rfl)) (qqq (qqy qqz rfl rfl rfl (qqh (by omega)) rfl) (qqq (qqp qq2 rfl (qqh (by omega)) rfl) (qqq (j_ne rfl rfl) (qze (by kernel_rfl) (by kernel_rfl) ?_)))))))))
  refine ac rfl (fun h3 => ?_) fun h3 => ?_
  ·
   have h3r := h3
   try simp only [nq, nr] at h3
   refine rs (oa rfl (on (qqm ?_)))
   exact qq8 rfl ⟨qqv (by symm; rw [decide_eq_false_iff_not]; rintro rfl; exact h3 rfl), rfl, rfl⟩
  have h3r := h3
  try simp only [nq, nr] at h3
  refine qqj (ar (om rfl (qqa (qjh rfl rfl (by omega) (by omega)) (oa rfl (on ?_)))))
  exact ⟨k + 1, ⟨(by omega), take_next hpre0.2 (by omega) (by omega) h3⟩, ⟨⟨rfl, rfl⟩, ⟨rfl, trivial⟩, trivial, ⟨rfl, rfl⟩, ⟨rfl, rfl⟩⟩, (by omega)⟩
 have h2r := h2
 try simp only [nq, nr] at h2
 refine qja (rs (oa rfl (on (qqm ?_))))
 exact qq8 rfl ⟨qqv (by symm; rw [decide_eq_true_eq]; exact take_eq hpre0.2 (by omega) (by omega)), rfl, rfl⟩
theorem f_holdsR1 (a x : List Int) : Fn Tryz.prog 203 [.sl (a.map dI), .ptr 0 0 0] [.box 23 [.sl (x.map dI)]] (fun rr ii nn => rr = .p (.bool (decide (a = x))) ∧ ii = [.box 23 [.sl (x.map dI)]] ∧ nn = []) := by
 refine qjm Tryz.func203 rfl (nb rfl) fun w X g => ?_
 show AWp _ _ _ ⟨[(0, .sl (a.map dI)), (1, .ptr 0 0 0)], [(0, some (0, .box 23 [.sl (x.map dI)]))]⟩
 refine rs (oa rfl (on (rs (om rfl (qqa (qqc qq9 rfl rfl rfl) ?_)))))
 refine qq3 (qqn (v := .p _) (hp1 := []) [] false [] ent204 (f_equalI a x) ⟨.inl ⟨rfl, rfl⟩, .inl ⟨rfl, rfl⟩, trivial⟩ trivial rfl rfl (fun h => by cases h) rfl (fun _ h => by cases h) (.inl rfl) rfl rfl) ?_
 refine oa rfl (on (qqm ?_))
 exact ⟨[.p _], .p _, [.box 23 [.sl _]], [], [], ⟨rfl, trivial⟩, rfl, rfl, ⟨⟨rfl, rfl⟩, trivial⟩, rfl, rfl, ⟨rfl, rfl, rfl⟩⟩
theorem f_holds (n : Int) (q : Rl) (x : List Int) (hr : rOk n q = true) (hx : x.length = q.2.1.length ∧ ∀ k, k < x.length → 0 ≤ x.getD k default ∧ x.getD k default ≤ 3) (hl : x.length ≤ 1048576) : Fn Tryz.prog 156 [.agg [.p (.int .i64 q.1), .sl (q.2.1.map dI), .sl (q.2.2.1.map dI), .p (.int .i64 q.2.2.2.1), .sl (q.2.2.2.2.map dL)], .sl (x.map dI)] [] (fun rr ii nn => rr = .p (.bool (holdB q x)) ∧ ii = [] ∧ nn = []) := by
 refine qjm Tryz.func156 rfl (nb rfl) fun w X g => ?_
 show AWp _ _ _ ⟨[(0, .agg [.p (.int .i64 q.1), .sl (q.2.1.map dI), .sl (q.2.2.1.map dI), .p (.int .i64 q.2.2.2.1), .sl (q.2.2.2.2.map dL)]), (1, .sl (x.map dI))], []⟩
 have hkd := rOk_kind hr
 refine rs (qq5 (fun ver => qj3 rfl) fun v2x1 => ?_)
 refine qq5 (fun ver => j_box (evo rfl) rfl) fun v3x2 => ?_
 refine oa rfl (on (qqe (rs (qqa (qqi qzc rfl rfl) (qqa (qqc qq2 rfl rfl rfl) (on (qqf (rs (qqa (qz4 rfl rfl) (oa rfl (on (ac rfl (fun h1 => ?_) fun h1 => ?_))))))))))))
 ·
  have h1r := h1
  try simp only [nq, nr] at h1
  refine rs (oa rfl (on (qqe (rs (qqa (qqc qq9 rfl rfl rfl) (qqa (qqg Tryz.underlying23 rfl) (om rfl (on (qqf (qqr (ι := Nat) (fun k => k ≤ x.length) (fun k r => (16, .p (.int .i64 ((k : Nat)))) :: (5, .p (.int .i64 (dotC q.2.2.1 x k))) :: r) (fun k r => r) (fun k => x.length - k) (fun _ _ => rfl) (fun _ _ => rfl) 0 (Nat.zero_le _) ⟨⟨rfl, rfl⟩, ⟨rfl, qzg rfl, trivial⟩, trivial, ⟨rfl, rfl⟩, ⟨rfl, rfl⟩⟩ ?_))))))))))
  intro k hk
  refine rs (qqa (qzb rfl rfl) (on (qqe (ac rfl (fun h2 => ?_) fun h2 => ?_))))
  ·
   have h2r := h2
   try simp only [nq, nr] at h2
   refine qqj (qqe (qqf (rs (om rfl (qqa (qqy qqz rfl rfl rfl (qqh zr) rfl) (qqa (qqp qq2 rfl (qqh zr) rfl) (oa rfl (oa rfl (on ?_)))))))))
   have hln := rOk_lin hr (by omega)
   have hdr := dot_rng (a := q.2.2.1) (x := x) (k := k) (fun i hi => hln.2.2 i (by omega)) (fun i hi => hx.2 i (by omega))
   have hmr := mulR39 (hln.2.2 k (by omega)) (hx.2 k (by omega))
   have hxl : x.length ≤ 9223372036854775807 := by omega
   have hkl : (k : Int) ≤ 1048576 ∨ True := .inr trivial
   refine ar (om rfl (qqa (qqi qzk rfl rfl) (qqa (qqc qq9 rfl rfl rfl) (om rfl (qqa (qqy qqz rfl rfl rfl (qqh zr) rfl) (qqa (qqp qq2 rfl (qqh zr) rfl) (om rfl (qqa (j_mul rfl rfl zr zr) (qqa (qjh rfl rfl zr zr) (oa rfl (on (ar (qqa (qjh rfl rfl zr zr) ?_)))))))))))))
   refine om rfl (on ?_)
   exact ⟨k + 1, zr, ⟨⟨rfl, rfl⟩, ⟨rfl, qzg (by rw [dot_next]), trivial⟩, trivial, ⟨rfl, rfl⟩, ⟨rfl, rfl⟩⟩, zr⟩
  have h2r := h2
  try simp only [nq, nr] at h2
  refine qja (rs (om rfl (qqa (qqi fld123f3 rfl rfl) (qqa (qqc qq2 rfl rfl rfl) (qqa (j_ge rfl rfl) (oa rfl (on (qqm ?_))))))))
  exact qq8 rfl ⟨qqv (by rw [hold_1 (by omega), show x.length = k by omega]), rfl, rfl⟩
 have h1r := h1
 try simp only [nq, nr] at h1
 refine rs (qqa (qz4 rfl rfl) (oa rfl (on (ac rfl (fun h3 => ?_) fun h3 => ?_))))
 ·
  have h3r := h3
  try simp only [nq, nr] at h3
  refine qqe (rs (qqa (qqc qq9 rfl rfl rfl) (qqa (qqg Tryz.underlying23 rfl) (om rfl (on (qqf (qqr (ι := Nat) (fun k => k ≤ x.length ∧ distB x k = true) (fun k r => (39, .p (.int .i64 ((k : Nat)))) :: r) (fun k r => r) (fun k => x.length - k) (fun _ _ => rfl) (fun _ _ => rfl) 0 ⟨Nat.zero_le _, rfl⟩ ⟨⟨rfl, rfl⟩, ⟨rfl, trivial⟩, trivial, ⟨rfl, rfl⟩, ⟨rfl, rfl⟩⟩ ?_)))))))
  intro k hk
  refine rs (qqa (qzb rfl rfl) (on (qqe (ac rfl (fun h4 => ?_) fun h4 => ?_))))
  ·
   have h4r := h4
   try simp only [nq, nr] at h4
   refine qqj (qqe (qqf (rs (om rfl (qqa (qqy qqz rfl rfl rfl (qqh zr) rfl) (qqa (qqp qq2 rfl (qqh zr) rfl) (oa rfl (oa rfl (on (rs (qqa (qqc qq9 rfl rfl rfl) (om rfl ?_))))))))))))
   refine qqa (j_cut qqz rfl (fun y hy => by obtain ⟨t, _, rfl⟩ := List.mem_map.1 hy; rfl) Bd.none (Bd.some rfl rfl) zr zr) ?_
   refine om rfl ?_
   try rw [← List.map_take]
   refine qq3 (qqn (v := .p _) (hp1 := []) [] false [] ent107 (f_containsInt (x.take k) (x.getD k default)) ⟨.inl ⟨rfl, rfl⟩, .inl ⟨rfl, rfl⟩, trivial⟩ trivial rfl rfl (fun h => by cases h) rfl (fun _ h => by cases h) (.inl rfl) rfl rfl) ?_
   refine on (ac rfl (fun h5 => ?_) fun h5 => ?_)
   ·
    have h5r := h5
    try simp only [nq, nr] at h5
    refine rs (oa rfl (on (qqm ?_)))
    exact qq8 rfl ⟨qqv (by symm; rw [hold_2 (by omega)]; exact dist_no (k := k) (by omega) (by assumption)), rfl, rfl⟩
   have h5r := h5
   try simp only [nq, nr] at h5
   refine qqj (ar (qqa (qjh rfl rfl zr zr) (om rfl (on ?_))))
   exact ⟨k + 1, ⟨by omega, dist_next hk.2 (by assumption)⟩, ⟨⟨rfl, rfl⟩, ⟨rfl, trivial⟩, trivial, ⟨rfl, rfl⟩, ⟨rfl, rfl⟩⟩, zr⟩
  have h4r := h4
  try simp only [nq, nr] at h4
  refine qja (rs (oa rfl (on (qqm ?_))))
  exact qq8 rfl ⟨qqv (by symm; rw [hold_2 (by omega), show x.length = k by omega]; exact hk.2), rfl, rfl⟩
 have h3r := h3
 try simp only [nq, nr] at h3
 refine rs (qqa (qz4 rfl rfl) (oa rfl (on (ac rfl (fun h6 => ?_) fun h6 => ?_))))
 ·
  have h6r := h6
  try simp only [nq, nr] at h6
  refine rs (qqa (qqi qj5 rfl rfl) (qqa (qqc qzi rfl rfl rfl) (qqa (j_makeFunc (f := 203) (xs := [.tmp 3]) (caps := [.ptr 3 v3x2 0]) rfl) ?_)))
  refine qq3 (qqn (v := .p _) (hp1 := [(3, some (v3x2, .box 23 [.sl _]))]) [(3, v3x2)] false [3] ent198 (f_ctf_LI_sl 23 (x.map dI) 203 q.2.2.2.2 (fun a => decide (a = x)) ent203 (fun a _ => f_holdsR1 a x)) ⟨.inl ⟨rfl, rfl⟩, .inl ⟨rfl, rfl⟩, trivial⟩ ⟨⟨rfl, rfl⟩, trivial⟩ rfl rfl (fun h => by cases h) rfl (List.all_eq_true.1 rfl) (.inl rfl) rfl rfl) ?_
  refine oa rfl (on (qqm ?_))
  exact qq8 rfl ⟨qqv (by rw [hold_3 (by omega), anyEq]; exact decide_eq_decide.2 Iff.rfl), rfl, rfl⟩
 have h6r := h6
 try simp only [nq, nr] at h6
 refine qqj (qqe ?_)
 have h4 := rOk_4 hr (by omega)
 refine qjz qzj (by kernel_rfl) (by kernel_rfl) fun vf => ?_
 refine qqq (qqc qq9 rfl rfl rfl) (qqq (qqy qqz rfl rfl rfl (qqh zr) rfl) (qqq (qqp qq2 rfl (qqh zr) rfl) (qqq (qqc qq9 rfl rfl rfl) (qqq (qqy qqz rfl rfl rfl (qqh zr) rfl) (qqq (qqp qq2 rfl (qqh zr) rfl) (qqq (qzb rfl rfl) (qqq (qzp (evo rfl)) (qze (by kernel_rfl) (by kernel_rfl) ?_))))))))
 refine qqm ?_
 exact qq8 rfl ⟨qqv (by rw [hold_4 (by omega)]), rfl, rfl⟩
theorem f_at (n : Int) (q : Rl) (c : List Int) (hr : rOk n q = true) (hc : (c.length : Int) = n ∧ ∀ k, k < c.length → 0 ≤ c.getD k default ∧ c.getD k default ≤ 3) (hl : q.2.1.length ≤ 1048576) : Fn Tryz.prog 160 [.agg [.p (.int .i64 q.1), .sl (q.2.1.map dI), .sl (q.2.2.1.map dI), .p (.int .i64 q.2.2.2.1), .sl (q.2.2.2.2.map dL)], .sl (c.map dI)] [] (fun rr ii nn => rr = .p (.bool (holdB q (valsC q.2.1 c))) ∧ ii = [] ∧ nn = []) := by
 refine qjm Tryz.func160 rfl (nb rfl) fun w X g => ?_
 show AWp _ _ _ ⟨[(0, .agg [.p (.int .i64 q.1), .sl (q.2.1.map dI), .sl (q.2.2.1.map dI), .p (.int .i64 q.2.2.2.1), .sl (q.2.2.2.2.map dL)]), (1, .sl (c.map dI))], []⟩
 refine rs (qq5 (fun ver => qj3 rfl) fun v2x1 => ?_)
 refine oa rfl (on (rs (oa rfl (on (qjt 5 5 3 1 rfl fun v5 => ?_)))))
 refine qqe (rs (qqa (qqi qjy rfl rfl) (qqa (qqc qq9 rfl rfl rfl) (qqa (qqg Tryz.underlying23 rfl) (om rfl (on (qqf (qqr (ι := Nat × Nat) (fun x => x.1 ≤ q.2.1.length) (fun x r => (11, .p (.int .i64 ((x.1 : Nat)))) :: (5, .own 5 x.2) :: r) (fun x r => (5, some (x.2, .row 3 1 ((valsC (q.2.1.take x.1) c).map dI))) :: r) (fun x => q.2.1.length - x.1) (fun _ _ => rfl) (fun _ _ => rfl) (0, v5) (by first | exact (Nat.zero_le _) | (dsimp only; exact (Nat.zero_le _))) ⟨⟨rfl, rfl⟩, ⟨rfl, rfl, trivial⟩, ⟨rfl, trivial⟩, ⟨rfl, rfl⟩, ⟨rfl, rfl⟩⟩ ?_))))))))
 rintro ⟨k, v⟩ hk; dsimp only at hk ⊢
 refine rs (qqa (qzb rfl rfl) (on (qqe (ac rfl (fun h1 => ?_) fun h1 => ?_))))
 ·
  have h1r := h1
  try simp only [nq, nr, nl, qjc] at h1
  refine qqj (qqe (qqf (rs (qqa (qqy qqz rfl rfl rfl (qqh zas1) rfl) (qqa (qqp qq2 rfl (qqh zas1) rfl) (oa rfl (on ?_)))))))
  have hvk := rOk_vs hr k (by omega)
  refine ar (om rfl (om rfl (om rfl (qqa (qqy (n := (q.2.1.getD k default).toNat) qqz rfl rfl (by omega) (qqh zas1) rfl) (qqa (qqp qq2 rfl (qqh zas1) rfl) (qq5 (fun ver => qqw (parts := [(0, .tmp 19)]) (es := [[_]]) qqz qz7 rfl rfl (by decide) (by decide) rfl rfl (by simp) rfl) fun v20x2 => ?_))))))
  refine qq5 (fun ver => qq6 qqz qz7 rfl rfl rfl rfl rfl rfl (by rw [qq0]; first | omega | (simp only [nr, nl, qjc]; omega)) zas1) fun v5x3 => ?_
  refine oa rfl (on (ar (qqa (qjh rfl rfl zas1 zas1) (om rfl (on ?_)))))
  exact ⟨(k + 1, v5x3), (by first | exact zas1 | (dsimp only; exact zas1)), ⟨⟨rfl, rfl⟩, ⟨rfl, rfl, trivial⟩, ⟨qza (by rw [vals_next (by omega), List.map_append]; rfl), trivial⟩, ⟨rfl, rfl⟩, ⟨rfl, rfl⟩⟩, (by first | exact zas1 | (dsimp only; exact zas1))⟩
 have h1r := h1
 try simp only [nq, nr, nl, qjc] at h1
 refine qja (qqe ?_)
 obtain rfl : k = q.2.1.length := by omega
 rw [List.take_length]
 refine ar (qqa (qqk (ys := [.p _, .sl _, .sl _, .p _, .sl _]) qzd rfl rfl rfl (nb rfl)) (om rfl ?_))
 refine qq3 (qqn (v := .p _) (hp1 := []) [] true [5] ent156 (f_holds n q (valsC q.2.1 c) hr ⟨qjc, vals_rng hr hc⟩ (by rw [qjc]; exact hl)) ⟨.inl ⟨rfl, rfl⟩, .inr ⟨rfl, qzl rfl rfl, rfl⟩, trivial⟩ trivial rfl rfl (fun _ => rfl) rfl (fun _ h => by cases h) (.inr ⟨rfl, by first | exact pl_new1 (fun _ => rfl) | exact qz9 | (simp [plO, plV, plV.plL]; done)⟩) rfl rfl) ?_
 refine oa rfl (on (qqm ?_))
 exact qq8 rfl ⟨rfl, rfl, rfl⟩
theorem f_l6Holds (n : Int) (q : Rl) (c : List Int) (hr : rOk n q = true) (hc : (c.length : Int) = n ∧ ∀ k, k < c.length → 0 ≤ c.getD k default ∧ c.getD k default ≤ 3) (hl : q.2.1.length ≤ 1048576) : Fn Tryz.prog 163 [.agg [.p (.int .i64 q.1), .sl (q.2.1.map dI), .sl (q.2.2.1.map dI), .p (.int .i64 q.2.2.2.1), .sl (q.2.2.2.2.map dL)], .sl (c.map dI)] [] (fun rr ii nn => rr = .p (.bool (holdB q (valsC q.2.1 c))) ∧ ii = [] ∧ nn = []) := by
 refine qjm Tryz.func163 rfl (nb rfl) fun w X g => ?_
 show AWp _ _ _ ⟨[(0, .agg [.p (.int .i64 q.1), .sl (q.2.1.map dI), .sl (q.2.2.1.map dI), .p (.int .i64 q.2.2.2.1), .sl (q.2.2.2.2.map dL)]), (1, .sl (c.map dI))], []⟩
 have hkd := rOk_kind hr
 refine a_len_rule3 0 rfl fun hlr => ?_
 refine rs (qq5 (fun ver => qj3 rfl) fun v2x1 => ?_)
 refine oa rfl (on (rs (qq5 (fun ver => j_bs0 qqz qz7 rfl rfl (by decide)) fun v12x2 => ?_)))
 refine oa rfl (on (qqe (rs (oa rfl (on (qqf (qqr (ι := Nat × Nat) (fun x => x.1 ≤ q.2.1.length) (fun x r => (6, .p (.int .i64 ((x.1 : Nat)))) :: (5, .own 12 x.2) :: r) (fun x r => (12, some (x.2, .row 3 1 ((valsC (q.2.1.take x.1) c).map dI))) :: r) (fun x => q.2.1.length - x.1) (fun _ _ => rfl) (fun _ _ => rfl) (0, v12x2) (by first | exact (Nat.zero_le _) | (dsimp only; exact (Nat.zero_le _))) ⟨⟨rfl, rfl⟩, ⟨rfl, rfl, trivial⟩, ⟨rfl, trivial⟩, ⟨rfl, rfl⟩, ⟨rfl, rfl⟩⟩ ?_)))))))
 rintro ⟨k, v⟩ hk; dsimp only at hk ⊢
 refine qqe (rs (om rfl (qqa (qqi qjy rfl rfl) (qqa (qqc qq9 rfl rfl rfl) (qqa (qqg Tryz.underlying23 rfl) (qqa (qzb rfl rfl) (on (ac rfl (fun h1 => ?_) fun h1 => ?_))))))))
 ·
  have h1r := h1
  try simp only [nq, nr, nl, qjc] at h1
  refine qqj (qqe (qqf ?_))
  have hvk := rOk_vs hr k (by omega)
  refine ar (om rfl (om rfl (qqa (qqi qjy rfl rfl) (qqa (qqc qq9 rfl rfl rfl) (om rfl (qqa (qqy qqz rfl rfl rfl (qqh zas1) rfl) (qqa (qqp qq2 rfl (qqh zas1) rfl) (qqa (qqy (n := (q.2.1.getD k default).toNat) qqz rfl rfl (by omega) (qqh zas1) rfl) (qqa (qqp qq2 rfl (qqh zas1) rfl) (qq5 (fun ver => qqw (parts := [(0, .tmp 28)]) (es := [[_]]) qqz qz7 rfl rfl (by decide) (by decide) rfl rfl (by simp) rfl) fun v29x3 => ?_))))))))))
  refine qq5 (fun ver => qq6 qqz qz7 rfl rfl rfl rfl rfl rfl (by rw [qq0]; first | omega | (simp only [nr, nl, qjc]; omega)) zas1) fun v12x4 => ?_
  refine oa rfl (on (ar (om rfl (qqa (qjh rfl rfl zas1 zas1) (oa rfl (on ?_))))))
  exact ⟨(k + 1, v12x4), (by first | exact zas1 | (dsimp only; exact zas1)), ⟨⟨rfl, rfl⟩, ⟨rfl, rfl, trivial⟩, ⟨qza (by rw [vals_next (by omega), List.map_append]; rfl), trivial⟩, ⟨rfl, rfl⟩, ⟨rfl, rfl⟩⟩, (by first | exact zas1 | (dsimp only; exact zas1))⟩
 have h1r := h1
 try simp only [nq, nr, nl, qjc] at h1
 refine qja (qqe (qqe ?_))
 obtain rfl : k = q.2.1.length := by omega
 rw [List.take_length]
 have hx : (valsC q.2.1 c).length = q.2.1.length ∧ ∀ k, k < (valsC q.2.1 c).length → 0 ≤ (valsC q.2.1 c).getD k default ∧ (valsC q.2.1 c).getD k default ≤ 3 := ⟨qjc, vals_rng hr hc⟩
 generalize valsC q.2.1 c = x at hx ⊢
 refine ar (qqa (qqi qzc rfl rfl) (qqa (qqc qq2 rfl rfl rfl) (on (a_freeze' 5 (noA _ _ _ _ _) rfl rfl ?_))))
 refine qqf (rs (qqa (qz4 rfl rfl) (oa rfl (on (ac rfl (fun h2 => ?_) fun h2 => ?_)))))
 ·
  have h2r := h2
  try simp only [nq, nr, nl, qjc] at h2
  refine rs (oa rfl (on (qqe (rs (oa rfl (on (qqf (qqr (ι := Nat) (fun k => k ≤ x.length) (fun k r => (8, .p (.int .i64 ((k : Nat)))) :: (7, .p (.int .i64 (dotC q.2.2.1 x k))) :: r) (fun k r => r) (fun k => x.length - k) (fun _ _ => rfl) (fun _ _ => rfl) 0 (Nat.zero_le _) ⟨⟨rfl, rfl⟩, ⟨rfl, qzg rfl, trivial⟩, trivial, ⟨rfl, rfl⟩, ⟨rfl, rfl⟩⟩ ?_))))))))
  intro k hk
  refine qqe (rs (om rfl (om rfl (qqa (qqg Tryz.underlying23 rfl) (qqa (qzb rfl rfl) (on (ac rfl (fun h3 => ?_) fun h3 => ?_)))))))
  ·
   have h3r := h3
   try simp only [nq, nr, nl, qjc] at h3
   refine qqj (qqe (qqf ?_))
   have hln := rOk_lin hr (by omega)
   have hdr := dot_rng (a := q.2.2.1) (x := x) (k := k) (fun i hi => hln.2.2 i (by omega)) (fun i hi => hx.2 i (by omega))
   have hmr := mulR39 (hln.2.2 k (by omega)) (hx.2 k (by omega))
   have hxl : x.length ≤ 9223372036854775807 := by omega
   have hkl : (k : Int) ≤ 1048576 ∨ True := .inr trivial
   refine qjz qzj (by kernel_rfl) (by kernel_rfl) fun vf => ?_
   refine qqq (qql (evo rfl)) (qqq (qqi qzk rfl rfl) (qqq (qqc qq9 rfl rfl rfl) (qqq (qql (evo rfl)) (qqq (qqy qqz rfl rfl rfl (qqh zas1) rfl) (qqq (qqp qq2 rfl (qqh zas1) rfl) (qqq (qql (evo rfl)) (qqq (qql (evo rfl)) (qqq (qqy qqz rfl rfl rfl (qqh zas1) rfl) (qqq (qqp qq2 rfl (qqh zas1) rfl) (qqq (j_mul rfl rfl zas1 zas1) (qqq (qjh rfl rfl zas1 zas1) (qqq (qzp (evo rfl)) (qze (by kernel_rfl) (by kernel_rfl) ?_)))))))))))))
   refine ar (om rfl (qqa (qjh rfl rfl zas1 zas1) (oa rfl (on ?_))))
   exact ⟨k + 1, zas1, ⟨⟨rfl, rfl⟩, ⟨rfl, qzg (by rw [dot_next]), trivial⟩, trivial, ⟨rfl, rfl⟩, ⟨rfl, rfl⟩⟩, zas1⟩
  have h3r := h3
  try simp only [nq, nr, nl, qjc] at h3
  refine qja (rs (om rfl (qqa (qqi fld123f3 rfl rfl) (qqa (qqc qq2 rfl rfl rfl) (qqa (j_ge rfl rfl) (oa rfl (on (qqm ?_))))))))
  exact qq8 rfl ⟨qqv (by rw [hold_1 (by omega), show x.length = k by omega]), rfl, rfl⟩
 have h2r := h2
 try simp only [nq, nr, nl, qjc] at h2
 refine rs (qqa (qz4 rfl rfl) (oa rfl (on (ac rfl (fun h4 => ?_) fun h4 => ?_))))
 ·
  have h4r := h4
  try simp only [nq, nr, nl, qjc] at h4
  refine qqe (rs (oa rfl (on (qqf (qqr (ι := Nat) (fun k => k ≤ x.length ∧ distB x k = true) (fun k r => (9, .p (.int .i64 ((k : Nat)))) :: r) (fun k r => r) (fun k => x.length - k) (fun _ _ => rfl) (fun _ _ => rfl) 0 ⟨Nat.zero_le _, rfl⟩ ⟨⟨rfl, rfl⟩, ⟨rfl, trivial⟩, trivial, ⟨rfl, rfl⟩, ⟨rfl, rfl⟩⟩ ?_)))))
  intro k hk
  refine qqe (rs (om rfl (om rfl (qqa (qqg Tryz.underlying23 rfl) (qqa (qzb rfl rfl) (on (ac rfl (fun h5 => ?_) fun h5 => ?_)))))))
  ·
   have h5r := h5
   try simp only [nq, nr, nl, qjc] at h5
   refine qqj (qqe (qqf (rs (oa rfl (on (qqf ?_))))))
   refine qqr (ι := Nat) (fun j => j ≤ k ∧ x.getD k default ∉ x.take j) (fun j r => (10, .p (.int .i64 ((j : Nat)))) :: r) (fun j r => r) (fun j => k - j) (fun _ _ => rfl) (fun _ _ => rfl) 0 ⟨Nat.zero_le _, by simp⟩ ⟨⟨rfl, rfl⟩, ⟨rfl, trivial⟩, trivial, ⟨rfl, rfl⟩, ⟨rfl, rfl⟩⟩ ?_
   intro j hj
   refine qqe (rs (om rfl (om rfl (qqa (qzb rfl rfl) (on (ac rfl (fun h6 => ?_) fun h6 => ?_))))))
   ·
    have h6r := h6
    try simp only [nq, nr, nl, qjc] at h6
    refine qqj (qqe (qqf (qqe (qjz qzj (by kernel_rfl) (by kernel_rfl) fun vf => ?_))))
    refine qqq (qql (evo rfl)) (qqq (qql (evo rfl)) (qqq (qqy qqz rfl rfl rfl (qqh zas1) rfl) (qqq (qqp qq2 rfl (qqh zas1) rfl) (qqq (qql (evo rfl)) (qqq (qql (evo rfl)) (qqq (qqy qqz rfl rfl rfl (qqh zas1) rfl) (qqq (qqp qq2 rfl (qqh zas1) rfl) (qqq (qz4 rfl rfl) (qze (by kernel_rfl) (by kernel_rfl) ?_)))))))))
    refine ac rfl (fun h7 => ?_) fun h7 => ?_
    ·
     have h7r := h7
     try simp only [nq, nr, nl, qjc] at h7
     refine rs (oa rfl (on (qqm ?_)))
     exact qq8 rfl ⟨qqv (by symm; rw [hold_2 (by omega)]; exact dist_no (k := k) (by omega) (by rw [← show x.getD j default = x.getD k default by assumption]; exact vs_in (by omega) (by omega))), rfl, rfl⟩
    have h7r := h7
    try simp only [nq, nr, nl, qjc] at h7
    refine qqj (ar (om rfl (qqa (qjh rfl rfl zas1 zas1) (oa rfl (on ?_)))))
    exact ⟨j + 1, ⟨by omega, vs_no (k := k) hj.2 (by omega) (by assumption)⟩, ⟨⟨rfl, rfl⟩, ⟨rfl, trivial⟩, trivial, ⟨rfl, rfl⟩, ⟨rfl, rfl⟩⟩, zas1⟩
   have h6r := h6
   try simp only [nq, nr, nl, qjc] at h6
   refine qja (ar (om rfl (qqa (qjh rfl rfl zas1 zas1) (oa rfl (on ?_)))))
   exact ⟨k + 1, ⟨by omega, dist_next hk.2 (by have hjk : j = k := (by omega); subst hjk; exact hj.2)⟩, ⟨⟨rfl, rfl⟩, ⟨rfl, trivial⟩, trivial, ⟨rfl, rfl⟩, ⟨rfl, rfl⟩⟩, zas1⟩
  have h5r := h5
  try simp only [nq, nr, nl, qjc] at h5
  refine qja (rs (oa rfl (on (qqm ?_))))
  exact qq8 rfl ⟨qqv (by symm; rw [hold_2 (by omega), show x.length = k by omega]; exact hk.2), rfl, rfl⟩
 have h4r := h4
 try simp only [nq, nr, nl, qjc] at h4
 refine rs (qqa (qz4 rfl rfl) (oa rfl (on (ac rfl (fun h8 => ?_) fun h8 => ?_))))
 ·
  have h8r := h8
  try simp only [nq, nr, nl, qjc] at h8
  refine qqe ?_
  have h4 := rOk_4 hr (by omega)
  refine qjz qzj (by kernel_rfl) (by kernel_rfl) fun vf => ?_
  refine qqq (qql (evo rfl)) (qqq (qqy qqz rfl rfl rfl (qqh zas1) rfl) (qqq (qqp qq2 rfl (qqh zas1) rfl) (qqq (qql (evo rfl)) (qqq (qqy qqz rfl rfl rfl (qqh zas1) rfl) (qqq (qqp qq2 rfl (qqh zas1) rfl) (qqq (qzb rfl rfl) (qqq (qzp (evo rfl)) (qze (by kernel_rfl) (by kernel_rfl) ?_))))))))
  refine qqm ?_
  exact qq8 rfl ⟨qqv (by rw [hold_4 (by omega)]), rfl, rfl⟩
 have h8r := h8
 try simp only [nq, nr, nl, qjc] at h8
 refine qqj (qqe (rs (oa rfl (on (qqf ?_)))))
 refine qqr (ι := Nat) (fun k => k ≤ q.2.2.2.2.length ∧ x ∉ q.2.2.2.2.take k) (fun k r => (11, .p (.int .i64 ((k : Nat)))) :: r) (fun k r => r) (fun k => q.2.2.2.2.length - k) (fun _ _ => rfl) (fun _ _ => rfl) 0 ⟨Nat.zero_le _, by simp⟩ ⟨⟨rfl, rfl⟩, ⟨rfl, trivial⟩, trivial, ⟨rfl, rfl⟩, ⟨rfl, rfl⟩⟩ ?_
 intro k hk
 refine qqe (rs (om rfl (qqa (qqi qj5 rfl rfl) (qqa (qqc qzi rfl rfl rfl) (qqa (qqg Tryz.underlying107 rfl) (qqa (qzb rfl rfl) (on (ac rfl (fun h9 => ?_) fun h9 => ?_))))))))
 ·
  have h9r := h9
  try simp only [nq, nr, nl, qjc] at h9
  refine qqj (qqe (qqf (rs (qqa (qqi qj5 rfl rfl) (qqa (qqc qzi rfl rfl rfl) (om rfl (qqa (qqy slt107 rfl rfl rfl (qqh zas1) rfl) (qqa (qqp qq9 rfl (qqh zas1) rfl) (om rfl ?_)))))))))
  refine qq3 (qqn (v := .p _) (hp1 := []) [] false [] ent205 (f_l6Ints (q.2.2.2.2.getD k default) x) ⟨.inl ⟨rfl, rfl⟩, .inl ⟨rfl, rfl⟩, trivial⟩ trivial rfl rfl (fun h => by cases h) rfl (fun _ h => by cases h) (.inl rfl) rfl rfl) ?_
  refine on (ac rfl (fun h10 => ?_) fun h10 => ?_)
  ·
   have h10r := h10
   try simp only [nq, nr, nl, qjc] at h10
   refine rs (oa rfl (on (qqm ?_)))
   exact qq8 rfl ⟨qqv (by symm; rw [hold_3 (by omega)]; exact decide_eq_true (by rw [← show q.2.2.2.2.getD k default = x by assumption]; exact qzo (by omega))), rfl, rfl⟩
  have h10r := h10
  try simp only [nq, nr, nl, qjc] at h10
  refine qqj (ar (om rfl (qqa (qjh rfl rfl zas1 zas1) (oa rfl (on ?_)))))
  exact ⟨k + 1, ⟨by omega, nomem_next hk.2 (by omega) (by assumption)⟩, ⟨⟨rfl, rfl⟩, ⟨rfl, trivial⟩, trivial, ⟨rfl, rfl⟩, ⟨rfl, rfl⟩⟩, zas1⟩
 have h9r := h9
 try simp only [nq, nr, nl, qjc] at h9
 refine qja (rs (oa rfl (on (qqm ?_))))
 exact qq8 rfl ⟨qqv (by symm; rw [hold_3 (by omega), decide_eq_false_iff_not]; have h9 := hk.2; rw [List.take_of_length_le (by omega)] at h9; exact h9), rfl, rfl⟩
theorem f_l6Next (m : Md) (c : List Int) (hm : mOk m = true) (hc : c.length = m.1.length) (hc2 : ∀ i, i < c.length → 0 ≤ c.getD i default) : Fn Tryz.prog 164 [.agg [.sl (m.1.map dI), .sl (m.2.map dR)], .sl (c.map dI)] [] (fun rr ii nn => rr = .tup [.own 0 0, .p (.bool (nxt m.1 c c.length).2)] ∧ ii = [] ∧ nn = [.row 3 1 ((nxt m.1 c c.length).1.map dI)]) := by
 refine qjm Tryz.func164 rfl (nb rfl) fun w X g => ?_
 show AWp _ _ _ ⟨[(0, .agg [.sl (m.1.map dI), .sl (m.2.map dR)]), (1, .sl (c.map dI))], []⟩
 have hms := qzx hm
 refine rs (qq5 (fun ver => qj3 rfl) fun v2x1 => ?_)
 refine oa rfl (oa rfl (on (rs (qq5 (fun ver => j_bs0 qqz qz7 rfl rfl (by decide)) fun v8x2 => ?_))))
 refine om rfl (qq5 (fun ver => qz8 qqz qz7 rfl rfl rfl rfl (by simp [dI]) lf_ints (by rw [qq0]; first | omega | (simp only [nr, nl]; omega)) zz) fun v8x3 => ?_)
 refine oa rfl (on (qqe (rs (om rfl (qqa (qq7 Tryz.underlying23 rfl rfl) (qqa (qzy rfl rfl zz zz) (oa rfl (on (qqf (qqr (ι := Nat × List Int) (fun x => x.1 ≤ c.length ∧ x.2.length = c.length ∧ (∀ i, i < x.1 → 0 ≤ x.2.getD i default) ∧ nxt m.1 x.2 x.1 = (nxt m.1 c c.length)) (fun x r => (7, .p (.int .i64 ((x.1 : Int) - 1))) :: r) (fun x r => (8, some (v8x3, .row 3 1 (x.2.map dI))) :: r) (fun x => x.1) (fun _ _ => rfl) (fun _ _ => rfl) (c.length, c) (by first | exact ⟨Nat.le_refl _, rfl, hc2, rfl⟩ | (dsimp only; exact ⟨Nat.le_refl _, rfl, hc2, rfl⟩)) ⟨⟨rfl, rfl⟩, ⟨qzg (by omega), trivial⟩, ⟨rfl, trivial⟩, ⟨rfl, rfl⟩, ⟨rfl, rfl⟩⟩ ?_))))))))))
 rintro ⟨k, e⟩ hk; dsimp only at hk ⊢
 refine qqe (rs (om rfl (qqa (j_ge rfl rfl) (on (ac rfl (fun h1 => ?_) fun h1 => ?_)))))
 ·
  have h1r := h1
  try simp only [nq, nr, nl] at h1
  refine qqj (qqe (qqf (qqe (qqe ?_))))
  obtain ⟨j, rfl⟩ : ∃ j, k = j + 1 := ⟨k - 1, by omega⟩
  have hsj := hms.2 j (by omega)
  have hej := hk.2.2.1 j (by omega)
  refine qjz qzj (by kernel_rfl) (by kernel_rfl) fun vf => ?_
  refine qqq (qql (evo rfl)) (qqq (qql (evo rfl)) (qqq (qqo (n := j) qqz rfl rfl rfl (by omega) zz) (qqq (qjd qq2 rfl rfl (qqh zz) rfl) (qqq (qqi qjs rfl rfl) (qqq (qqc qq9 rfl rfl rfl) (qqq (qql (evo rfl)) (qqq (qqy (n := j) qqz rfl rfl (by omega) (qqh zz) rfl) (qqq (qqp qq2 rfl (qqh zz) rfl) (qqq (qzb rfl rfl) (qze (by kernel_rfl) (by kernel_rfl) ?_))))))))))
  refine ac rfl (fun h2 => ?_) fun h2 => ?_
  ·
   have h2r := h2
   try simp only [nq, nr, nl] at h2
   refine rs (om rfl (om rfl (om rfl (om rfl (qqa (qqo (n := j) qqz rfl rfl rfl (by omega) zz) (qqa (qjd qq2 rfl rfl (qqh zz) rfl) (qqa (qjh rfl rfl zz zz) (qqa (qqo (n := j) qqz rfl rfl rfl (by omega) zz) (qjo (qji qq2 rfl rfl zz (evo rfl) rfl rfl) ?_)))))))))
   refine on (qqe ?_)
   have hq : (nxt m.1 c c.length) = (e.set j (e.getD j default + 1), true) := by rw [← hk.2.2.2, nxt, if_pos (by assumption)]
   refine ar (om rfl (oa rfl (oa rfl (on (qqm ?_)))))
   exact ⟨[.own 8 v8x3, .p _], .tup [.own 0 0, .p _], [], [.row 3 1 _], [(8, v8x3)], ⟨rfl, rfl, trivial⟩, rfl, rfl, ⟨⟨rfl, rfl⟩, trivial⟩, rfl, rfl, ⟨by rw [hq], rfl, by rw [hq]; exact congrArg (fun x => [Obj.row _ _ x]) (List.map_set ..).symm⟩⟩
  have h2r := h2
  try simp only [nq, nr, nl] at h2
  refine qqj (ar (om rfl (om rfl (qqa (qqo (n := j) qqz rfl rfl rfl (by omega) zz) (qjo (qji qq2 rfl rfl zz (evo rfl) rfl rfl) ?_)))))
  refine on (ar (om rfl (qqa (qzy rfl rfl zz zz) (oa rfl (on ?_)))))
  exact ⟨(j, e.set j 0), (by first | exact ⟨by omega, by rw [List.length_set]; exact hk.2.1, fun i hi => by rw [getD_setne (by omega)]; exact hk.2.2.1 i (by omega), by rw [← hk.2.2.2, nxt, if_neg (by assumption)]⟩ | (dsimp only; exact ⟨by omega, by rw [List.length_set]; exact hk.2.1, fun i hi => by rw [getD_setne (by omega)]; exact hk.2.2.1 i (by omega), by rw [← hk.2.2.2, nxt, if_neg (by assumption)]⟩)), ⟨⟨rfl, rfl⟩, ⟨qzg (by omega), trivial⟩, ⟨qza (List.map_set ..).symm, trivial⟩, ⟨rfl, rfl⟩, ⟨rfl, rfl⟩⟩, (by first | exact zz | (dsimp only; exact zz))⟩
 have h1r := h1
 try simp only [nq, nr, nl] at h1
 refine qja (qqe ?_)
 obtain rfl : k = 0 := by omega
 have hq : (nxt m.1 c c.length) = (e, false) := hk.2.2.2.symm
 refine ar (om rfl (oa rfl (oa rfl (on (qqm ?_)))))
 exact ⟨[.own 8 v8x3, .p _], .tup [.own 0 0, .p _], [], [.row 3 1 _], [(8, v8x3)], ⟨rfl, rfl, trivial⟩, rfl, rfl, ⟨⟨rfl, rfl⟩, trivial⟩, rfl, rfl, ⟨by rw [hq], rfl, by rw [hq]⟩⟩
theorem f_l8MakeD (m : Md) (b : Bool) (hs : m.1.length ≤ 5 ∧ ∀ k, k < m.1.length → 0 ≤ m.1.getD k default ∧ m.1.getD k default ≤ 3) : Fn Tryz.prog 105 [.agg [.sl (m.1.map dI), .sl (m.2.map dR)], .p (.bool (b))] [] (fun rr ii nn => rr = .own 0 0 ∧ ii = [] ∧ nn = [.deep (.mk 44 1 [(0, .mk 4 1 [])]) ((fdL b m.1).map dD) none]) := by
 refine qjm Tryz.func105 rfl (nb rfl) fun w X g => ?_
 show AWp _ _ _ ⟨[(0, .agg [.sl (m.1.map dI), .sl (m.2.map dR)]), (1, .p (.bool (b)))], []⟩
 refine rs (qq5 (fun ver => qj3 rfl) fun v2x1 => ?_)
 refine oa rfl (on (rs (qq5 (fun ver => j_bs0 slt24 elt44 rfl rfl (by decide)) fun v9x2 => ?_)))
 refine oa rfl (on (a_todeep 9 0 (.mk 44 1 [(0, (.mk 4 1 []))]) (zs := []) (zs' := []) rfl rfl rfl rfl eat_end rfl ?_))
 refine qqe (rs (oa rfl (on (qqf (qqr (ι := Nat × Nat) (fun x => x.1 ≤ m.1.length) (fun x r => (6, .p (.int .i64 ((x.1 : Nat)))) :: (5, .own 9 x.2) :: r) (fun x r => (9, some (x.2, .deep (.mk 44 1 [(0, .mk 4 1 [])]) ((fdL b (m.1.take x.1)).map dD) none)) :: r) (fun x => m.1.length - x.1) (fun _ _ => rfl) (fun _ _ => rfl) (0, v9x2) (by first | exact (Nat.zero_le _) | (dsimp only; exact (Nat.zero_le _))) ⟨⟨rfl, rfl⟩, ⟨rfl, rfl, trivial⟩, ⟨rfl, trivial⟩, ⟨rfl, rfl⟩, ⟨rfl, rfl⟩⟩ ?_)))))
 rintro ⟨k, v⟩ hk; dsimp only at hk ⊢
 refine qqe (rs (om rfl (qqa (qqi qjs rfl rfl) (qqa (qqc qq9 rfl rfl rfl) (qqa (qqg Tryz.underlying23 rfl) (qqa (qzb rfl rfl) (on (ac rfl (fun h1 => ?_) fun h1 => ?_))))))))
 ·
  have h1r := h1
  try simp only [nq, nr, nl, List.length_replicate, qzs] at h1
  refine qqj (qqe (qqf (qqe ?_)))
  have hsk := hs.2 k (by omega)
  refine ar (qq5 (fun ver => j_bs0 slt44 elt4 rfl rfl (by decide)) fun v17x3 => ?_)
  refine oa rfl (on (qqe (rs (oa rfl (on (qqf (qqr (ι := Nat × Nat) (fun x => x.1 ≤ ((m.1.getD k default) + 1).toNat) (fun x r => (8, .p (.int .i64 ((x.1 : Nat)))) :: (7, .own 17 x.2) :: r) (fun x r => (17, some (x.2, .row 4 1 ((List.replicate x.1 b).map dB))) :: r) (fun x => ((m.1.getD k default) + 1).toNat - x.1) (fun _ _ => rfl) (fun _ _ => rfl) (0, v17x3) (by first | exact (Nat.zero_le _) | (dsimp only; exact (Nat.zero_le _))) ⟨⟨rfl, rfl⟩, ⟨rfl, rfl, trivial⟩, ⟨rfl, trivial⟩, ⟨rfl, rfl⟩, ⟨rfl, rfl⟩⟩ ?_)))))))
  rintro ⟨j, w⟩ hj; dsimp only at hj ⊢
  refine qqe (rs (om rfl (qqa (qqi qjs rfl rfl) (qqa (qqc qq9 rfl rfl rfl) (om rfl (qqa (qqy qqz rfl rfl rfl (qqh zas4) rfl) (qqa (qqp qq2 rfl (qqh zas4) rfl) (qqa (j_le rfl rfl) (on (ac rfl (fun h2 => ?_) fun h2 => ?_))))))))))
  ·
   have h2r := h2
   try simp only [nq, nr, nl, List.length_replicate, qzs] at h2
   refine qqj (qqe (qqf (ar (om rfl (om rfl (qq5 (fun ver => qqw (parts := [(0, .tmp 28)]) (es := [[_]]) slt44 elt4 rfl rfl (by decide) (by decide) rfl rfl (by simp) rfl) fun v29x4 => ?_))))))
   refine qq5 (fun ver => qq6 slt44 elt4 rfl rfl rfl rfl rfl rfl (by rw [qq0]; first | omega | (simp only [nr, nl, List.length_replicate, qzs]; omega)) zas4) fun v17x5 => ?_
   refine oa rfl (on (ar (om rfl (qqa (qjh rfl rfl zas4 zas4) (oa rfl (on ?_))))))
   exact ⟨(j + 1, v17x5), (by first | exact zas4 | (dsimp only; exact zas4)), ⟨⟨rfl, rfl⟩, ⟨rfl, rfl, trivial⟩, ⟨qza (by rw [← rep_succ, List.map_append]; rfl), trivial⟩, ⟨rfl, rfl⟩, ⟨rfl, rfl⟩⟩, (by first | exact zas4 | (dsimp only; exact zas4))⟩
  have h2r := h2
  try simp only [nq, nr, nl, List.length_replicate, qzs] at h2
  refine qja (ar (om rfl (om rfl (qj9 (fun ver => qzr (x := .tmp 32) (t := (.mk 44 1 [(0, (.mk 4 1 []))])) slt24 elt44 rfl rfl rfl (by decide) (by decide) rfl rfl rfl (eat_own rfl rfl rfl eat_end) rfl rfl) fun v33x6 => ?_))))
  refine qj9 (fun ver => j_append_deep (by decide) slt24 elt44 rfl rfl rfl rfl rfl rfl rfl rfl (nb rfl) (by rw [qq0]; first | omega | (simp only [nr, nl, List.length_replicate, qzs]; omega)) zas4) fun v9x7 => ?_
  refine oa rfl (on (ar (om rfl (qqa (qjh rfl rfl zas4 zas4) (oa rfl (on ?_))))))
  exact ⟨(k + 1, v9x7), (by first | exact zas4 | (dsimp only; exact zas4)), ⟨⟨rfl, rfl⟩, ⟨rfl, rfl, trivial⟩, ⟨deepEq (by rw [fdL_next (by omega), List.map_append, ← show j = (m.1.getD k default + 1).toNat by omega]; rfl), trivial⟩, ⟨rfl, rfl⟩, ⟨rfl, rfl⟩⟩, (by first | exact zas4 | (dsimp only; exact zas4))⟩
 have h1r := h1
 try simp only [nq, nr, nl, List.length_replicate, qzs] at h1
 refine qja (rs (om rfl (oa rfl (on (qqm ?_)))))
 exact ⟨[.own 9 v], .own 0 0, [], [.deep (.mk 44 1 [(0, (.mk 4 1 []))]) _ none], [(9, v)], ⟨rfl, trivial⟩, rfl, rfl, ⟨⟨rfl, rfl⟩, trivial⟩, rfl, rfl, ⟨rfl, rfl, by rw [List.take_of_length_le (by omega)]⟩⟩
theorem f_l8Filter (m : Md) (q : Rl) (d : List (List Bool)) (hm : mOk m = true) (hq : rOk m.1.length q = true) (hd : fitsB m.1 d = true) (hl : q.2.1.length ≤ 1048576) : Fn Tryz.prog 102 [.agg [.sl (m.1.map dI), .sl (m.2.map dR)], .agg [.p (.int .i64 q.1), .sl (q.2.1.map dI), .sl (q.2.2.1.map dI), .p (.int .i64 q.2.2.2.1), .sl (q.2.2.2.2.map dL)], .sl (d.map dD)] [] (fun rr ii nn => rr = .sl ((filtD m q d).map dD) ∧ ii = [] ∧ nn = []) := by
 refine qjm Tryz.func102 rfl (nb rfl) fun w X g => ?_
 show AWp _ _ _ ⟨[(0, .agg [.sl (m.1.map dI), .sl (m.2.map dR)]), (1, .agg [.p (.int .i64 q.1), .sl (q.2.1.map dI), .sl (q.2.2.1.map dI), .p (.int .i64 q.2.2.2.1), .sl (q.2.2.2.2.map dL)]), (2, .sl (d.map dD))], []⟩
 have hms := qzx hm
 have hfd := fits_at hd
 refine rs (qq5 (fun ver => qj3 rfl) fun v3x1 => ?_)
 refine qq5 (fun ver => qj3 rfl) fun v4x2 => ?_
 refine oa rfl (on (rs (qqa (qqk (ys := [.sl _, .sl _]) qjw rfl rfl rfl (nb rfl)) ?_)))
 refine qj9 (fun ver => qj8 (v := .own 12 ver) (hp1 := [(12, some (ver, .deep (.mk 44 1 [(0, (.mk 4 1 []))]) _ none))]) [] false [] ent105 (f_l8MakeD m false ⟨hms.1.2, hms.2⟩) ⟨.inl ⟨rfl, rfl⟩, .inl ⟨rfl, rfl⟩, trivial⟩ trivial rfl rfl rfl (fun h => by cases h) rfl (List.all_eq_true.1 rfl) (.inl rfl) rfl rfl) fun v12x3 => ?_
 refine oa rfl (on (rs (qqa (qqi qjs rfl rfl) (qqa (qqc qq9 rfl rfl rfl) (qqa (qqg Tryz.underlying23 rfl) (qq5 (fun ver => j_make (n := m.1.length) qqz qz7 rfl rfl (by decide) rfl rfl rfl rfl zas3 (by rw [qq0]; first | omega | (simp only [nr, nl, qjr]; omega))) fun v16x4 => ?_))))))
 refine oa rfl (on (a_rename (i := 16) 8 2008 (by decide) rfl rfl fun v2008x5 => ?_))
 refine qqe (qqe (a_row 2008 (es' := (List.replicate m.1.length (0 : Int)).map dI) rfl (by rw [List.map_replicate]; rfl) ?_))
 refine ar (oa rfl (on (qqf ?_)))
 refine qqr (ι := List Int × List (List Bool) × Bool × Nat) (fun x => cvL m.1 x.1 = true ∧ fitsB m.1 x.2.1 = true ∧ (if x.2.2.1 = true then runF m.1 (okC2 q d) (prS m.1 - vlS m.1 x.1) x.1 x.2.1 else x.2.1) = filtD m q d) (fun x r => (9, .p (.bool (x.2.2.1))) :: (8, .own 2008 x.2.2.2) :: r) (fun x r => (12, some (v12x3, .deep (.mk 44 1 [(0, .mk 4 1 [])]) ((x.2.1).map dD) none)) :: (2008, some (x.2.2.2, .row 3 1 (x.1.map dI))) :: r) (fun x => (if x.2.2.1 = true then prS m.1 - vlS m.1 x.1 else 0)) (fun _ _ => rfl) (fun _ _ => rfl) (List.replicate m.1.length 0, fdL false m.1, true, v2008x5) (by first | exact ⟨cv_zero (fun k hk => (hms.2 k hk).1), fits_full (fun k hk => (hms.2 k hk).1), by rw [if_pos rfl, vl_zero]; rfl⟩ | (dsimp only; exact ⟨cv_zero (fun k hk => (hms.2 k hk).1), fits_full (fun k hk => (hms.2 k hk).1), by rw [if_pos rfl, vl_zero]; rfl⟩)) ⟨⟨rfl, rfl⟩, ⟨rfl, rfl, trivial⟩, ⟨rfl, rfl, trivial⟩, ⟨rfl, rfl⟩, ⟨rfl, rfl⟩⟩ ?_
 rintro ⟨c, o, mo, v⟩ hk; dsimp only at hk ⊢
 refine qqe (rs (om rfl (on (ac rfl (fun h1 => ?_) fun h1 => ?_))))
 ·
  have h1r := h1
  try simp only [nq, nr, nl, qjr] at h1
  refine qqj (qqf (qqe (qqe ?_)))
  have hcv := cv_at hk.1
  have hof := fits_at hk.2.1
  have hc3 : ∀ k, k < c.length → 0 ≤ c.getD k default ∧ c.getD k default ≤ 3 := fun k hk2 => by have q1 := hcv.2 k hk2; have q2 := hms.2 k (by omega); omega
  have hin : ∀ k, k < c.length → 0 ≤ c.getD k default ∧ c.getD k default < ((d.getD k default).length : Int) := fun k hk2 => by have q1 := hcv.2 k hk2; have q2 := hfd.2 k (by omega); omega
  have hrn := (run_next hk.1 (show runF m.1 (okC2 q d) (prS m.1 - vlS m.1 c) c o = filtD m q d from by have := hk.2.2; rw [if_pos (by assumption)] at this; exact this))
  refine ar (om rfl (om rfl ?_))
  refine qq3 (qqn (v := .p _) (hp1 := []) [] true [2008] ent162 (f_l8In d c (by omega) hin) ⟨.inl ⟨rfl, rfl⟩, .inr ⟨rfl, qzl rfl rfl, rfl⟩, trivial⟩ trivial rfl rfl (fun _ => rfl) rfl (fun _ h => by cases h) (.inr ⟨rfl, by first | exact pl_new1 (fun _ => rfl) | exact qz9 | (simp [plO, plV, plV.plL]; done)⟩) rfl rfl) ?_
  refine om rfl (qqx 21 rfl (fun h2 => ?_) (fun h2 => ?_))
  ·
   have h2r := h2
   try simp only [nq, nr, nl, qjr] at h2
   refine qqa (qqd rfl rfl h2r (qqk (ys := [.p _, .sl _, .sl _, .p _, .sl _]) qzd rfl rfl rfl (nb rfl))) (qqa (qqd rfl rfl h2r (qql (evo rfl))) ?_)
   refine qq3 (qqd rfl rfl h2r (qqn (v := .p _) (hp1 := []) [] true [2008] ent163 (f_l6Holds m.1.length q c hq ⟨by omega, hc3⟩ hl) ⟨.inl ⟨rfl, rfl⟩, .inr ⟨rfl, qzl rfl rfl, rfl⟩, trivial⟩ trivial rfl rfl (fun _ => rfl) rfl (fun _ h => by cases h) (.inr ⟨rfl, by first | exact pl_new1 (fun _ => rfl) | exact qz9 | (simp [plO, plV, plV.plL]; done)⟩) rfl rfl)) ?_
   refine qqa (qqu rfl h2r (evo rfl)) (on (ac rfl (fun h3 => ?_) fun h3 => ?_))
   ·
    have h3r := h3
    try simp only [nq, nr, nl, qjr] at h3
    refine rs (oa rfl (on (qqf (qqr (ι := Nat) (fun i => i ≤ c.length) (fun i r => (10, .p (.int .i64 ((i : Nat)))) :: r) (fun i r => (12, some (v12x3, .deep (.mk 44 1 [(0, .mk 4 1 [])]) ((markN o c i).map dD) none)) :: r) (fun i => c.length - i) (fun _ _ => rfl) (fun _ _ => rfl) 0 (Nat.zero_le _) ⟨⟨rfl, rfl⟩, ⟨rfl, trivial⟩, ⟨rfl, trivial⟩, ⟨rfl, rfl⟩, ⟨rfl, rfl⟩⟩ ?_))))
    intro i hi
    refine qqe (rs (om rfl (om rfl (qqa (qq7 Tryz.underlying23 rfl rfl) (qqa (qzb rfl rfl) (on (ac rfl (fun h4 => ?_) fun h4 => ?_)))))))
    ·
     have h4r := h4
     try simp only [nq, nr, nl, qjr] at h4
     refine qqj (qqe (qqf ?_))
     have hci := hcv.2 i (by omega)
     have hri := (fits_at (fits_mark (c := c) (k := i) hk.2.1)).2 i (by rw [qjr]; omega)
     refine qjz qzj (by kernel_rfl) (by kernel_rfl) fun vf => ?_
     refine qqq (qql (evo rfl)) (qqq (qql (evo rfl)) (qqq (j_elem_deepN slt24 rfl rfl rfl rfl rfl zas3) (d_n1' (fun ver => j_out leaf44 (by decide) rfl rfl rfl (qqh zas3) rfl rfl) ?_)))
     refine qqq (qql (evo rfl)) (qqq (qql (evo rfl)) (qqq (qqo qqz rfl rfl rfl rfl zas3) (qqq (qjd qq2 rfl rfl (qqh zas3) rfl) (qqq (qqo (n := (c.getD i default).toNat) slt44 rfl rfl rfl (by omega) zas3) (d_s' (qji leaf4 rfl rfl zas3 (evo rfl) rfl rfl) ?_)))))
     refine qze (by kernel_rfl) (by kernel_rfl) ?_
     refine a_back 12 35 (by decide) rfl rfl rfl rfl (qqh zas3) rfl ?_
     refine ar (om rfl (qqa (qjh rfl rfl zas3 zas3) (oa rfl (on ?_))))
     exact ⟨i + 1, zas3, ⟨⟨rfl, rfl⟩, ⟨rfl, trivial⟩, ⟨deepEq mark_eq, trivial⟩, ⟨rfl, rfl⟩, ⟨rfl, rfl⟩⟩, zas3⟩
    have h4r := h4
    try simp only [nq, nr, nl, qjr] at h4
    refine qja ?_
    try obtain rfl : i = c.length := by omega
    refine ar (qqa (qqk (ys := [.sl _, .sl _]) qjw rfl rfl rfl (nb rfl)) (om rfl ?_))
    refine qj9 (fun ver => qj8 (v := .tup [.own 44 ver, .p _]) (hp1 := [(44, some (ver, .row 3 1 _))]) [] true [2008] ent164 (f_l6Next m c hm hcv.1 (fun i hi => (hcv.2 i hi).1)) ⟨.inl ⟨rfl, rfl⟩, .inr ⟨rfl, qzl rfl rfl, rfl⟩, trivial⟩ trivial rfl rfl rfl (fun _ => rfl) rfl (List.all_eq_true.1 rfl) (.inr ⟨rfl, by first | exact pl_new1 (fun _ => rfl) | exact qz9 | (simp [plO, plV, plV.plL]; done)⟩) rfl rfl) fun v44x6 => ?_
    refine om rfl (qqa (qjg rfl rfl) (qqa (qjg rfl rfl) (oa rfl (oa rfl (op_rename (i := 44) 8 2008 (by decide) rfl rfl fun v2008x7 => ?_)))))
    refine on ?_
    have hoc : okC2 q d c = true := by unfold okC2; simp_all
    have hry := run_yes (o := o) hoc
    rw [hry] at hrn
    exact ⟨((nxt m.1 c c.length).1, markN o c c.length, (nxt m.1 c c.length).2, v2008x7), (by first | exact ⟨hrn.1, by first | exact fits_mark hk.2.1 | exact hk.2.1, hrn.2.1⟩ | (dsimp only; exact ⟨hrn.1, by first | exact fits_mark hk.2.1 | exact hk.2.1, hrn.2.1⟩)), ⟨⟨rfl, rfl⟩, ⟨rfl, rfl, trivial⟩, ⟨rfl, rfl, trivial⟩, ⟨rfl, rfl⟩, ⟨rfl, rfl⟩⟩, (by first | exact (by rw [if_pos (show mo = true by assumption)]; exact hrn.2.2) | (dsimp only; exact (by rw [if_pos (show mo = true by assumption)]; exact hrn.2.2)))⟩
   have h3r := h3
   try simp only [nq, nr, nl, qjr] at h3
   refine qqj ?_
   try obtain rfl : i = c.length := by omega
   refine ar (qqa (qqk (ys := [.sl _, .sl _]) qjw rfl rfl rfl (nb rfl)) (om rfl ?_))
   refine qj9 (fun ver => qj8 (v := .tup [.own 44 ver, .p _]) (hp1 := [(44, some (ver, .row 3 1 _))]) [] true [2008] ent164 (f_l6Next m c hm hcv.1 (fun i hi => (hcv.2 i hi).1)) ⟨.inl ⟨rfl, rfl⟩, .inr ⟨rfl, qzl rfl rfl, rfl⟩, trivial⟩ trivial rfl rfl rfl (fun _ => rfl) rfl (List.all_eq_true.1 rfl) (.inr ⟨rfl, by first | exact pl_new1 (fun _ => rfl) | exact qz9 | (simp [plO, plV, plV.plL]; done)⟩) rfl rfl) fun v44x8 => ?_
   refine om rfl (qqa (qjg rfl rfl) (qqa (qjg rfl rfl) (oa rfl (oa rfl (op_rename (i := 44) 8 2008 (by decide) rfl rfl fun v2008x9 => ?_)))))
   refine on ?_
   have hoc : okC2 q d c = false := by unfold okC2; simp_all
   have hry := run_no (o := o) hoc
   rw [hry] at hrn
   exact ⟨((nxt m.1 c c.length).1, o, (nxt m.1 c c.length).2, v2008x9), (by first | exact ⟨hrn.1, by first | exact fits_mark hk.2.1 | exact hk.2.1, hrn.2.1⟩ | (dsimp only; exact ⟨hrn.1, by first | exact fits_mark hk.2.1 | exact hk.2.1, hrn.2.1⟩)), ⟨⟨rfl, rfl⟩, ⟨rfl, rfl, trivial⟩, ⟨rfl, rfl, trivial⟩, ⟨rfl, rfl⟩, ⟨rfl, rfl⟩⟩, (by first | exact (by rw [if_pos (show mo = true by assumption)]; exact hrn.2.2) | (dsimp only; exact (by rw [if_pos (show mo = true by assumption)]; exact hrn.2.2)))⟩
  have h2r := h2
  try simp only [nq, nr, nl, qjr] at h2
  refine qqa (qqb rfl rfl h2r) (qqa (qqb rfl rfl h2r) (qqa (qqb rfl rfl h2r) (qqa (qqt rfl h2r (evo rfl)) (on (a_ff rfl ?_)))))
  refine qqj ?_
  try obtain rfl : i = c.length := by omega
  refine ar (qqa (qqk (ys := [.sl _, .sl _]) qjw rfl rfl rfl (nb rfl)) (om rfl ?_))
  refine qj9 (fun ver => qj8 (v := .tup [.own 44 ver, .p _]) (hp1 := [(44, some (ver, .row 3 1 _))]) [] true [2008] ent164 (f_l6Next m c hm hcv.1 (fun i hi => (hcv.2 i hi).1)) ⟨.inl ⟨rfl, rfl⟩, .inr ⟨rfl, qzl rfl rfl, rfl⟩, trivial⟩ trivial rfl rfl rfl (fun _ => rfl) rfl (List.all_eq_true.1 rfl) (.inr ⟨rfl, by first | exact pl_new1 (fun _ => rfl) | exact qz9 | (simp [plO, plV, plV.plL]; done)⟩) rfl rfl) fun v44x10 => ?_
  refine om rfl (qqa (qjg rfl rfl) (qqa (qjg rfl rfl) (oa rfl (oa rfl (op_rename (i := 44) 8 2008 (by decide) rfl rfl fun v2008x11 => ?_)))))
  refine on ?_
  have hoc : okC2 q d c = false := by unfold okC2; simp_all
  have hry := run_no (o := o) hoc
  rw [hry] at hrn
  exact ⟨((nxt m.1 c c.length).1, o, (nxt m.1 c c.length).2, v2008x11), (by first | exact ⟨hrn.1, by first | exact fits_mark hk.2.1 | exact hk.2.1, hrn.2.1⟩ | (dsimp only; exact ⟨hrn.1, by first | exact fits_mark hk.2.1 | exact hk.2.1, hrn.2.1⟩)), ⟨⟨rfl, rfl⟩, ⟨rfl, rfl, trivial⟩, ⟨rfl, rfl, trivial⟩, ⟨rfl, rfl⟩, ⟨rfl, rfl⟩⟩, (by first | exact (by rw [if_pos (show mo = true by assumption)]; exact hrn.2.2) | (dsimp only; exact (by rw [if_pos (show mo = true by assumption)]; exact hrn.2.2)))⟩
 have h1r := h1
 try simp only [nq, nr, nl, qjr] at h1
 refine qja (rs (om rfl (oa rfl (on (a_freezeG 6 trivial rfl rfl rfl rfl ?_)))))
 refine qqm ?_
 exact fin_sl rfl ⟨slEq (by have h9 := hk.2.2; rw [if_neg (by simp_all)] at h9; rw [h9]), rfl, rfl⟩
theorem f_filt1 (m : Md) (q : Rl) (d : List (List Bool)) (hm : mOk m = true) (hq : rOk m.1.length q = true) (hd : fitsB m.1 d = true) (hl : q.2.1.length ≤ 1048576) (c : List Int) (o : List (List Bool)) (hc : cvL m.1 c = true) (ho : fitsB m.1 o = true) : Fn Tryz.prog 158 [.own 4 0, .ptr 0 0 0, .ptr 1 0 0, .ptr 2 0 0] [.box 24 [.sl (d.map dD)], .box 123 [.p (.int .i64 q.1), .sl (q.2.1.map dI), .sl (q.2.2.1.map dI), .p (.int .i64 q.2.2.2.1), .sl (q.2.2.2.2.map dL)], .box 24 [.own 3 0], .deep (.mk 44 1 [(0, .mk 4 1 [])]) ((o).map dD) none, .row 3 1 (c.map dI)] (fun rr ii nn => rr = .p (.bool (true)) ∧ ii = [.box 24 [.sl (d.map dD)], .box 123 [.p (.int .i64 q.1), .sl (q.2.1.map dI), .sl (q.2.2.1.map dI), .p (.int .i64 q.2.2.2.1), .sl (q.2.2.2.2.map dL)], .box 24 [.own 3 0], .deep (.mk 44 1 [(0, .mk 4 1 [])]) (((if okC2 q d c then markN o c c.length else o)).map dD) none, .row 3 1 (c.map dI)] ∧ nn = []) := by
 refine qjm Tryz.func158 rfl (nb rfl) fun w X g => ?_
 show AWp _ _ _ ⟨[(0, .own 4 0), (1, .ptr 0 0 0), (2, .ptr 1 0 0), (3, .ptr 2 0 0)], [(0, some (0, .box 24 [.sl (d.map dD)])), (1, some (0, .box 123 [.p (.int .i64 q.1), .sl (q.2.1.map dI), .sl (q.2.2.1.map dI), .p (.int .i64 q.2.2.2.1), .sl (q.2.2.2.2.map dL)])), (2, some (0, .box 24 [.own 3 0])), (3, some (0, .deep (.mk 44 1 [(0, .mk 4 1 [])]) ((o).map dD) none)), (4, some (0, .row 3 1 (c.map dI)))]⟩
 have hms := qzx hm
 have hfd := fits_at hd
 have hcv := cv_at hc
 have hof := fits_at ho
 have hc3 : ∀ k, k < c.length → 0 ≤ c.getD k default ∧ c.getD k default ≤ 3 := fun k hk2 => by have q1 := hcv.2 k hk2; have q2 := hms.2 k (by omega); omega
 have hin : ∀ k, k < c.length → 0 ≤ c.getD k default ∧ c.getD k default < ((d.getD k default).length : Int) := fun k hk2 => by have q1 := hcv.2 k hk2; have q2 := hfd.2 k (by omega); omega
 refine rs (oa rfl (on (qqe (rs (qqa (qqc leaf24 rfl rfl rfl) (om rfl ?_))))))
 refine qq3 (qqn (v := .p _) (hp1 := []) [] true [4] ent159 (f_inside d c (by omega) hin) ⟨.inl ⟨rfl, rfl⟩, .inr ⟨rfl, qzl rfl rfl, rfl⟩, trivial⟩ trivial rfl rfl (fun _ => rfl) rfl (fun _ h => by cases h) (.inr ⟨rfl, by first | exact pl_new1 (fun _ => rfl) | exact qz9 | (simp [plO, plV, plV.plL]; done)⟩) rfl rfl) ?_
 refine om rfl (qqx 11 rfl (fun h1 => ?_) (fun h1 => ?_))
 ·
  have h1r := h1
  try simp only [nq, nr, nl, qjr] at h1
  refine qqa (qqd rfl rfl h1r (qqk (ys := [.p _, .sl _, .sl _, .p _, .sl _]) qzd rfl rfl rfl (nb rfl))) (qqa (qqd rfl rfl h1r (qql (evo rfl))) ?_)
  refine qq3 (qqd rfl rfl h1r (qqn (v := .p _) (hp1 := []) [] true [4] ent160 (f_at m.1.length q c hq ⟨by omega, hc3⟩ hl) ⟨.inl ⟨rfl, rfl⟩, .inr ⟨rfl, qzl rfl rfl, rfl⟩, trivial⟩ trivial rfl rfl (fun _ => rfl) rfl (fun _ h => by cases h) (.inr ⟨rfl, by first | exact pl_new1 (fun _ => rfl) | exact qz9 | (simp [plO, plV, plV.plL]; done)⟩) rfl rfl)) ?_
  refine qqa (qqu rfl h1r (evo rfl)) (on (ac rfl (fun h2 => ?_) fun h2 => ?_))
  ·
   have h2r := h2
   try simp only [nq, nr, nl, qjr] at h2
   refine rs (om rfl (qqa (qq7 Tryz.underlying23 rfl rfl) (om rfl (on (qqf (qqr (ι := Nat) (fun i => i ≤ c.length) (fun i r => (18, .p (.int .i64 ((i : Nat)))) :: r) (fun i r => (3, some (0, .deep (.mk 44 1 [(0, .mk 4 1 [])]) ((markN o c i).map dD) none)) :: r) (fun i => c.length - i) (fun _ _ => rfl) (fun _ _ => rfl) 0 (Nat.zero_le _) ⟨⟨rfl, rfl⟩, ⟨rfl, trivial⟩, ⟨rfl, trivial⟩, ⟨rfl, rfl⟩, ⟨rfl, rfl⟩⟩ ?_))))))
   intro i hi
   refine rs (qqa (qzb rfl rfl) (on (qqe (ac rfl (fun h3 => ?_) fun h3 => ?_))))
   ·
    have h3r := h3
    try simp only [nq, nr, nl, qjr] at h3
    refine qqj (qqe (qqf (rs (om rfl (qqa (qqo qqz rfl rfl rfl rfl zas3) (qqa (qjd qq2 rfl rfl (qqh zas3) rfl) (oa rfl (oa rfl (on ?_)))))))))
    have hci := hcv.2 i (by omega)
    have hri := (fits_at (fits_mark (c := c) (k := i) ho)).2 i (by rw [qjr]; omega)
    refine ar (qqa (qqc leaf24 rfl rfl rfl) (om rfl (qqa (j_elem_deepN slt24 rfl rfl rfl rfl rfl zas3) (qj9 (fun ver => j_out leaf44 (by decide) rfl rfl rfl (qqh zas3) rfl rfl) fun v26x1 => ?_))))
    refine om rfl (qqa (qqo (n := (c.getD i default).toNat) slt44 rfl rfl rfl (by omega) zas3) (qjo (qji leaf4 rfl rfl zas3 (evo rfl) rfl rfl) ?_))
    refine on (a_back 3 26 (by decide) rfl rfl rfl rfl (qqh zas3) rfl ?_)
    refine ar (qqa (qjh rfl rfl zas3 zas3) (om rfl (on ?_)))
    exact ⟨i + 1, zas3, ⟨⟨rfl, rfl⟩, ⟨rfl, trivial⟩, ⟨deepEq mark_eq, trivial⟩, ⟨rfl, rfl⟩, ⟨rfl, rfl⟩⟩, zas3⟩
   have h3r := h3
   try simp only [nq, nr, nl, qjr] at h3
   refine qja (qqe ?_)
   try obtain rfl : i = c.length := by omega
   refine ar (oa rfl (on (qqm ?_)))
   exact ⟨[.p _], .p _, [.box 24 [.sl _], .box 123 [.p _, .sl _, .sl _, .p _, .sl _], .box 24 [.own 3 0], .deep (.mk 44 1 [(0, (.mk 4 1 []))]) _ none, .row 3 1 _], [], [], ⟨rfl, trivial⟩, rfl, rfl, ⟨⟨rfl, rfl⟩, ⟨rfl, rfl⟩, ⟨rfl, rfl⟩, ⟨rfl, rfl⟩, ⟨rfl, rfl⟩, trivial⟩, rfl, rfl, ⟨rfl, by rw [run_yes (show okC2 q d c = true by unfold okC2; simp_all)], rfl⟩⟩
  have h2r := h2
  try simp only [nq, nr, nl, qjr] at h2
  refine qqj (qqe ?_)
  try obtain rfl : i = c.length := by omega
  refine ar (oa rfl (on (qqm ?_)))
  exact ⟨[.p _], .p _, [.box 24 [.sl _], .box 123 [.p _, .sl _, .sl _, .p _, .sl _], .box 24 [.own 3 0], .deep (.mk 44 1 [(0, (.mk 4 1 []))]) _ none, .row 3 1 _], [], [], ⟨rfl, trivial⟩, rfl, rfl, ⟨⟨rfl, rfl⟩, ⟨rfl, rfl⟩, ⟨rfl, rfl⟩, ⟨rfl, rfl⟩, ⟨rfl, rfl⟩, trivial⟩, rfl, rfl, ⟨rfl, by rw [run_no (show okC2 q d c = false by unfold okC2; simp_all)], rfl⟩⟩
 have h1r := h1
 try simp only [nq, nr, nl, qjr] at h1
 refine qqa (qqb rfl rfl h1r) (qqa (qqb rfl rfl h1r) (qqa (qqb rfl rfl h1r) (qqa (qqt rfl h1r (evo rfl)) (on (a_ff rfl ?_)))))
 refine qqj (qqe ?_)
 try obtain rfl : i = c.length := by omega
 refine ar (oa rfl (on (qqm ?_)))
 exact ⟨[.p _], .p _, [.box 24 [.sl _], .box 123 [.p _, .sl _, .sl _, .p _, .sl _], .box 24 [.own 3 0], .deep (.mk 44 1 [(0, (.mk 4 1 []))]) _ none, .row 3 1 _], [], [], ⟨rfl, trivial⟩, rfl, rfl, ⟨⟨rfl, rfl⟩, ⟨rfl, rfl⟩, ⟨rfl, rfl⟩, ⟨rfl, rfl⟩, ⟨rfl, rfl⟩, trivial⟩, rfl, rfl, ⟨rfl, by rw [run_no (show okC2 q d c = false by unfold okC2; simp_all)], rfl⟩⟩
theorem f_cloneI2 (ts : List Int) (hts : ts.length ≤ 1048576) : Fn Tryz.prog 108 [.sl (ts.map dI)] [] (fun rr ii nn => rr = .own 0 0 ∧ ii = [] ∧ nn = [.row 3 1 (ts.map dI)]) := by
 refine qjm Tryz.func108 rfl (nb rfl) fun w X g => ?_
 show AWp _ _ _ ⟨[(0, .sl (ts.map dI))], []⟩
 refine rs (oa rfl (on (qqe (rs (om rfl (op_eqnil Tryz.underlying23 rfl fun b1 hb1 => ?_))))))
 refine on (ac rfl (fun h2 => ?_) fun h2 => ?_)
 ·
  have h2r := h2
  try simp only [nq, nr, nl] at h2
  refine rs (oa rfl (on (qjt 2 2 3 1 rfl fun v2 => ?_)))
  refine qqm ?_
  exact ⟨[.own 2 v2], .own 0 0, [], [.row 3 1 _], [(2, v2)], ⟨rfl, trivial⟩, rfl, rfl, ⟨⟨rfl, rfl⟩, trivial⟩, rfl, rfl, ⟨rfl, rfl, by rw [List.eq_nil_of_length_eq_zero (l := ts) (by simp_all)]; rfl⟩⟩
 have h2r := h2
 try simp only [nq, nr, nl] at h2
 refine qqj (rs (qq5 (fun ver => j_bs0 qqz qz7 rfl rfl (by decide)) fun v5x1 => ?_))
 refine om rfl (qq5 (fun ver => qz8 qqz qz7 rfl rfl rfl rfl (by simp [dI]) lf_ints (by rw [qq0]; first | omega | (simp only [nr, nl]; omega)) zz) fun v5x2 => ?_)
 refine oa rfl (on (qqm ?_))
 exact ⟨[.own 5 v5x2], .own 0 0, [], [.row 3 1 _], [(5, v5x2)], ⟨rfl, trivial⟩, rfl, rfl, ⟨⟨rfl, rfl⟩, trivial⟩, rfl, rfl, ⟨rfl, rfl, rfl⟩⟩
theorem f_each (F : Nat) (m : Md) (q : Rl) (d o : List (List Bool)) (hm : mOk m = true) (ho : fitsB m.1 o = true) (hE : Ent' Tryz.prog F) (hF : ∀ (c : List Int) (o : List (List Bool)), cvL m.1 c = true → fitsB m.1 o = true → Fn Tryz.prog F [.own 4 0, .ptr 0 0 0, .ptr 1 0 0, .ptr 2 0 0] [.box 24 [.sl (d.map dD)], .box 123 [.p (.int .i64 q.1), .sl (q.2.1.map dI), .sl (q.2.2.1.map dI), .p (.int .i64 q.2.2.2.1), .sl (q.2.2.2.2.map dL)], .box 24 [.own 3 0], .deep (.mk 44 1 [(0, .mk 4 1 [])]) ((o).map dD) none, .row 3 1 (c.map dI)] (fun r i n => r = .p (.bool true) ∧ i = [.box 24 [.sl (d.map dD)], .box 123 [.p (.int .i64 q.1), .sl (q.2.1.map dI), .sl (q.2.2.1.map dI), .p (.int .i64 q.2.2.2.1), .sl (q.2.2.2.2.map dL)], .box 24 [.own 3 0], .deep (.mk 44 1 [(0, .mk 4 1 [])]) ((stepO q d c o).map dD) none, .row 3 1 (c.map dI)] ∧ n = [])) : Fn Tryz.prog 154 [.sl (m.1.map dI), .own 4 0, .fn F [.ptr 0 0 0, .ptr 1 0 0, .ptr 2 0 0]] [.box 24 [.sl (d.map dD)], .box 123 [.p (.int .i64 q.1), .sl (q.2.1.map dI), .sl (q.2.2.1.map dI), .p (.int .i64 q.2.2.2.1), .sl (q.2.2.2.2.map dL)], .box 24 [.own 3 0], .deep (.mk 44 1 [(0, .mk 4 1 [])]) ((o).map dD) none, .row 3 1 (List.replicate m.1.length [.p (.int .i64 0)])] (fun rr ii nn => rr = .tup [] ∧ ii = [.box 24 [.sl (d.map dD)], .box 123 [.p (.int .i64 q.1), .sl (q.2.1.map dI), .sl (q.2.2.1.map dI), .p (.int .i64 q.2.2.2.1), .sl (q.2.2.2.2.map dL)], .box 24 [.own 3 0], .deep (.mk 44 1 [(0, .mk 4 1 [])]) (((runF m.1 (okC2 q d) (prS m.1) (List.replicate m.1.length (0 : Int)) o)).map dD) none, .row 3 1 ((List.replicate m.1.length (0 : Int)).map dI)] ∧ nn = []) := by
 refine qjm Tryz.func154 rfl (nb rfl) fun w X g => ?_
 show AWp _ _ _ ⟨[(0, .sl (m.1.map dI)), (1, .own 4 0), (2, .fn F [.ptr 0 0 0, .ptr 1 0 0, .ptr 2 0 0])], [(0, some (0, .box 24 [.sl (d.map dD)])), (1, some (0, .box 123 [.p (.int .i64 q.1), .sl (q.2.1.map dI), .sl (q.2.2.1.map dI), .p (.int .i64 q.2.2.2.1), .sl (q.2.2.2.2.map dL)])), (2, some (0, .box 24 [.own 3 0])), (3, some (0, .deep (.mk 44 1 [(0, .mk 4 1 [])]) ((o).map dD) none)), (4, some (0, .row 3 1 (List.replicate m.1.length [.p (.int .i64 0)])))]⟩
 have hms := qzx hm
 refine a_row 4 (es' := (List.replicate m.1.length (0 : Int)).map dI) rfl (by rw [List.map_replicate]; rfl) ?_
 refine rs (om rfl ?_)
 refine qj9 (fun ver => qj8 (v := .own 9 ver) (hp1 := [(9, some (ver, .row 3 1 _))]) [] true [4] ent108 (f_cloneI2 (List.replicate m.1.length (0 : Int)) (by rw [List.length_replicate]; omega)) ⟨.inr ⟨rfl, qzl rfl rfl, rfl⟩, trivial⟩ trivial rfl rfl rfl (fun _ => rfl) rfl (List.all_eq_true.1 rfl) (.inr ⟨rfl, by first | exact pl_new1 (fun _ => rfl) | exact qz9 | (simp [plO, plV, plV.plL]; done)⟩) rfl rfl) fun v9x1 => ?_
 refine oa rfl (on (qqf ?_))
 refine qqr (ι := List Int × List (List Bool)) (fun x => cvL m.1 x.1 = true ∧ fitsB m.1 x.2 = true ∧ runF m.1 (okC2 q d) (prS m.1 - vlS m.1 x.1) x.1 x.2 = (runF m.1 (okC2 q d) (prS m.1) (List.replicate m.1.length (0 : Int)) o)) (fun x r => r) (fun x r => (0, some (0, .box 24 [.sl (d.map dD)])) :: (1, some (0, .box 123 [.p (.int .i64 q.1), .sl (q.2.1.map dI), .sl (q.2.2.1.map dI), .p (.int .i64 q.2.2.2.1), .sl (q.2.2.2.2.map dL)])) :: (2, some (0, .box 24 [.own 3 0])) :: (3, some (0, .deep (.mk 44 1 [(0, .mk 4 1 [])]) ((x.2).map dD) none)) :: (9, some (v9x1, .row 3 1 (x.1.map dI))) :: r) (fun x => prS m.1 - vlS m.1 x.1) (fun _ _ => rfl) (fun _ _ => rfl) ((List.replicate m.1.length (0 : Int)), o) (by first | exact ⟨cv_zero (fun k hk => (hms.2 k hk).1), ho, by rw [vl_zero]; rfl⟩ | (dsimp only; exact ⟨cv_zero (fun k hk => (hms.2 k hk).1), ho, by rw [vl_zero]; rfl⟩)) ⟨⟨rfl, rfl⟩, trivial, ⟨rfl, rfl, rfl, rfl, rfl, trivial⟩, ⟨rfl, rfl⟩, ⟨rfl, rfl⟩⟩ ?_
 rintro ⟨c, o1⟩ hk; dsimp only at hk ⊢
 refine qqe (qqe ?_)
 have hcv := cv_at hk.1
 have hrn := run_next hk.1 hk.2.2
 refine ar (om rfl (om rfl ?_))
 refine qq3 (j_callF0 (v := .p _) (hp1 := [(0, some (0, .box 24 [.sl _])), (1, some (0, .box 123 [.p _, .sl _, .sl _, .p _, .sl _])), (2, some (0, .box 24 [.own 3 0])), (3, some (0, .deep (.mk 44 1 [(0, (.mk 4 1 []))]) _ none)), (9, some (v9x1, .row 3 1 _))]) [(0, 0), (1, 0), (2, 0), (3, 0), (9, v9x1)] false [9, 0, 1, 2, 3] rfl hE (hF c o1 hk.1 hk.2.1) ⟨.inl ⟨rfl, rfl⟩, .inl ⟨rfl, rfl⟩, .inl ⟨rfl, rfl⟩, .inl ⟨rfl, rfl⟩, trivial⟩ ⟨⟨rfl, rfl⟩, ⟨rfl, rfl⟩, ⟨rfl, rfl⟩, ⟨rfl, rfl⟩, ⟨rfl, rfl⟩, trivial⟩ rfl rfl (fun h => by cases h) rfl (List.all_eq_true.1 rfl) (.inl rfl) rfl rfl) ?_
 refine on (ac rfl (fun h1 => ?_) fun h1 => ?_)
 ·
  have h1r := h1
  try simp only [nq, nr, nl] at h1
  refine qqj (qqf (rs (om rfl (qqa (qq7 Tryz.underlying23 rfl rfl) (qqa (qzy rfl rfl zz zz) (oa rfl (on (qqe (qqf (qqr (ι := Nat × List Int) (fun x => x.1 ≤ c.length ∧ x.2.length = c.length ∧ (∀ i, i < x.1 → 0 ≤ x.2.getD i default ∧ x.2.getD i default ≤ m.1.getD i default) ∧ nxt m.1 x.2 x.1 = (nxt m.1 c c.length)) (fun x r => (7, .p (.int .i64 ((x.1 : Int) - 1))) :: r) (fun x r => (9, some (v9x1, .row 3 1 (x.2.map dI))) :: r) (fun x => x.1) (fun _ _ => rfl) (fun _ _ => rfl) (c.length, c) (by first | exact ⟨Nat.le_refl _, rfl, (fun i hi => hcv.2 i hi), rfl⟩ | (dsimp only; exact ⟨Nat.le_refl _, rfl, (fun i hi => hcv.2 i hi), rfl⟩)) ⟨⟨rfl, rfl⟩, ⟨qzg (by omega), trivial⟩, ⟨rfl, trivial⟩, ⟨rfl, rfl⟩, ⟨rfl, rfl⟩⟩ ?_))))))))))
  rintro ⟨k, e⟩ hk2; dsimp only at hk2 ⊢
  refine qqe (qqe (qjz qzj (by kernel_rfl) (by kernel_rfl) fun vf => ?_))
  refine qqq (qql (evo rfl)) (qqq (j_ge rfl rfl) (qqq (qql (evo rfl)) (d_split' 18 rfl (fun h2 => ?_) (fun h2 => ?_))))
  ·
   have h2r := h2
   try simp only [nq, nr, nl] at h2
   refine qqq (qqd rfl rfl h2r (qql (evo rfl))) (qqq (qqd rfl rfl h2r (qql (evo rfl))) (qqq (qqd rfl rfl h2r (qqo (n := (k - 1)) qqz rfl rfl rfl (by omega) zz)) ?_))
   refine qqq (qqd rfl rfl h2r (qjd qq2 rfl rfl (qqh zz) rfl)) (qqq (qqd rfl rfl h2r (qql (evo rfl))) (qqq (qqd rfl rfl h2r (qql (evo rfl))) (qqq (qqd rfl rfl h2r (qqy (n := (k - 1)) qqz rfl rfl (by omega) (qqh zz) rfl)) ?_)))
   refine qqq (qqd rfl rfl h2r (qqp qq2 rfl (qqh zz) rfl)) (qqq (qqd rfl rfl h2r (qz4 rfl rfl)) (qqq (qqu rfl h2r (evo rfl)) (qze (by kernel_rfl) (by kernel_rfl) ?_)))
   refine ac rfl (fun h3 => ?_) fun h3 => ?_
   ·
    have h3r := h3
    try simp only [nq, nr, nl] at h3
    refine qqj (qqf (rs (om rfl (om rfl (qqa (qqo (n := (k - 1)) qqz rfl rfl rfl (by omega) zz) (qjo (qji qq2 rfl rfl zz (evo rfl) rfl rfl) ?_))))))
    refine on (ar (om rfl (qqa (qzy rfl rfl zz zz) (oa rfl (on ?_)))))
    exact ⟨(k - 1, e.set (k - 1) 0), (by first | exact ⟨by omega, by rw [List.length_set]; exact hk2.2.1, fun i hi => by rw [getD_setne (by omega)]; exact hk2.2.2.1 i (by omega), by rw [← hk2.2.2.2, nxt_at (k := k) (by omega), if_neg (by omega)]⟩ | (dsimp only; exact ⟨by omega, by rw [List.length_set]; exact hk2.2.1, fun i hi => by rw [getD_setne (by omega)]; exact hk2.2.2.1 i (by omega), by rw [← hk2.2.2.2, nxt_at (k := k) (by omega), if_neg (by omega)]⟩)), ⟨⟨rfl, rfl⟩, ⟨qzg (by omega), trivial⟩, ⟨qza (List.map_set ..).symm, trivial⟩, ⟨rfl, rfl⟩, ⟨rfl, rfl⟩⟩, (by first | exact (by omega) | (dsimp only; exact (by omega)))⟩
   have h3r := h3
   try simp only [nq, nr, nl] at h3
   refine qja (qqe (rs (om rfl (qqa (qzb rfl rfl) (on (ac rfl (fun h4 => ?_) fun h4 => ?_))))))
   ·
    have h4r := h4
    try simp only [nq, nr, nl] at h4
    refine qqm ?_
    exact ⟨[], .tup [], [.box 24 [.sl _], .box 123 [.p _, .sl _, .sl _, .p _, .sl _], .box 24 [.own 3 0], .deep (.mk 44 1 [(0, (.mk 4 1 []))]) _ none, .row 3 1 _], [], [], trivial, rfl, rfl, ⟨⟨rfl, rfl⟩, ⟨rfl, rfl⟩, ⟨rfl, rfl⟩, ⟨rfl, rfl⟩, ⟨rfl, rfl⟩, trivial⟩, rfl, rfl, ⟨rfl, by have hq : (nxt m.1 c c.length) = (e, false) := (by rw [← hk2.2.2.2, show k = 0 by omega]; rfl); rw [hq] at hrn; rw [← hrn.2.1]; rfl, rfl⟩⟩
   have h4r := h4
   try simp only [nq, nr, nl] at h4
   refine qqj ?_
   have hek := hk2.2.2.1 (k - 1) (by omega)
   have hmk := hms.2 (k - 1) (by omega)
   have hq : (nxt m.1 c c.length) = (e.set (k - 1) (e.getD (k - 1) default + 1), true) := by rw [← hk2.2.2.2, nxt_at (by omega), if_pos (by omega)]
   rw [hq] at hrn
   refine ar (om rfl (om rfl (qqa (qqo (n := (k - 1)) qqz rfl rfl rfl (by omega) zz) (qqa (qjd qq2 rfl rfl (qqh zz) rfl) (qqa (qjh rfl rfl zz zz) (qqa (qqo (n := (k - 1)) qqz rfl rfl rfl (by omega) zz) (qjo (qji qq2 rfl rfl zz (evo rfl) rfl rfl) ?_)))))))
   refine on ?_
   exact ⟨((nxt m.1 c c.length).1, stepO q d c o1), (by first | exact ⟨by rw [hq]; exact hrn.1, fits_step hk.2.1, by rw [hq]; exact hrn.2.1⟩ | (dsimp only; exact ⟨by rw [hq]; exact hrn.1, fits_step hk.2.1, by rw [hq]; exact hrn.2.1⟩)), ⟨⟨rfl, rfl⟩, trivial, ⟨rfl, rfl, rfl, rfl, qza (by rw [hq]; exact (List.map_set ..).symm), trivial⟩, ⟨rfl, rfl⟩, ⟨rfl, rfl⟩⟩, (by first | exact (by rw [hq]; exact hrn.2.2) | (dsimp only; exact (by rw [hq]; exact hrn.2.2)))⟩
  have h2r := h2
  try simp only [nq, nr, nl] at h2
  refine qqq (qqb rfl rfl h2r) (qqq (qqb rfl rfl h2r) (qqq (qqb rfl rfl h2r) (qqq (qqb rfl rfl h2r) (qqq (qqb rfl rfl h2r) (qqq (qqb rfl rfl h2r) (qqq (qqb rfl rfl h2r) (qqq (qqb rfl rfl h2r) (qqq (qqb rfl rfl h2r) (qqq (qqt rfl h2r (evo rfl)) (qze (by kernel_rfl) (by kernel_rfl) ?_))))))))))
  refine a_ff rfl ?_
  refine qja (qqe (rs (om rfl (qqa (qzb rfl rfl) (on (ac rfl (fun h5 => ?_) fun h5 => ?_))))))
  ·
   have h5r := h5
   try simp only [nq, nr, nl] at h5
   refine qqm ?_
   exact ⟨[], .tup [], [.box 24 [.sl _], .box 123 [.p _, .sl _, .sl _, .p _, .sl _], .box 24 [.own 3 0], .deep (.mk 44 1 [(0, (.mk 4 1 []))]) _ none, .row 3 1 _], [], [], trivial, rfl, rfl, ⟨⟨rfl, rfl⟩, ⟨rfl, rfl⟩, ⟨rfl, rfl⟩, ⟨rfl, rfl⟩, ⟨rfl, rfl⟩, trivial⟩, rfl, rfl, ⟨rfl, by have hq : (nxt m.1 c c.length) = (e, false) := (by rw [← hk2.2.2.2, show k = 0 by omega]; rfl); rw [hq] at hrn; rw [← hrn.2.1]; rfl, rfl⟩⟩
  have h5r := h5
  try simp only [nq, nr, nl] at h5
  refine qqj ?_
  have hek := hk2.2.2.1 (k - 1) (by omega)
  have hmk := hms.2 (k - 1) (by omega)
  have hq : (nxt m.1 c c.length) = (e.set (k - 1) (e.getD (k - 1) default + 1), true) := by rw [← hk2.2.2.2, nxt_at (by omega), if_pos (by omega)]
  rw [hq] at hrn
  refine ar (om rfl (om rfl (qqa (qqo (n := (k - 1)) qqz rfl rfl rfl (by omega) zz) (qqa (qjd qq2 rfl rfl (qqh zz) rfl) (qqa (qjh rfl rfl zz zz) (qqa (qqo (n := (k - 1)) qqz rfl rfl rfl (by omega) zz) (qjo (qji qq2 rfl rfl zz (evo rfl) rfl rfl) ?_)))))))
  refine on ?_
  exact ⟨((nxt m.1 c c.length).1, stepO q d c o1), (by first | exact ⟨by rw [hq]; exact hrn.1, fits_step hk.2.1, by rw [hq]; exact hrn.2.1⟩ | (dsimp only; exact ⟨by rw [hq]; exact hrn.1, fits_step hk.2.1, by rw [hq]; exact hrn.2.1⟩)), ⟨⟨rfl, rfl⟩, trivial, ⟨rfl, rfl, rfl, rfl, qza (by rw [hq]; exact (List.map_set ..).symm), trivial⟩, ⟨rfl, rfl⟩, ⟨rfl, rfl⟩⟩, (by first | exact (by rw [hq]; exact hrn.2.2) | (dsimp only; exact (by rw [hq]; exact hrn.2.2)))⟩
 have h1r := h1
 try simp only [nq, nr, nl] at h1
 exact absurd h1r (by simp)
theorem f_filter (m : Md) (q : Rl) (d : List (List Bool)) (hm : mOk m = true) (hq : rOk m.1.length q = true) (hd : fitsB m.1 d = true) (hl : q.2.1.length ≤ 1048576) : Fn Tryz.prog 96 [.agg [.sl (m.1.map dI), .sl (m.2.map dR)], .agg [.p (.int .i64 q.1), .sl (q.2.1.map dI), .sl (q.2.2.1.map dI), .p (.int .i64 q.2.2.2.1), .sl (q.2.2.2.2.map dL)], .sl (d.map dD)] [] (fun rr ii nn => rr = .own 0 0 ∧ ii = [] ∧ nn = [.deep (.mk 44 1 [(0, .mk 4 1 [])]) ((filtD m q d).map dD) none]) := by
 refine qjm Tryz.func96 rfl (nb rfl) fun w X g => ?_
 show AWp _ _ _ ⟨[(0, .agg [.sl (m.1.map dI), .sl (m.2.map dR)]), (1, .agg [.p (.int .i64 q.1), .sl (q.2.1.map dI), .sl (q.2.2.1.map dI), .p (.int .i64 q.2.2.2.1), .sl (q.2.2.2.2.map dL)]), (2, .sl (d.map dD))], []⟩
 have hms := qzx hm
 refine rs (qq5 (fun ver => qj3 rfl) fun v3x1 => ?_)
 refine qq5 (fun ver => qj3 rfl) fun v4x2 => ?_
 refine qq5 (fun ver => j_box (evo rfl) rfl) fun v5x3 => ?_
 refine oa rfl (on (rs (qqa (qqk (ys := [.sl _, .sl _]) qjw rfl rfl rfl (nb rfl)) ?_)))
 refine qj9 (fun ver => qj8 (v := .own 9 ver) (hp1 := [(9, some (ver, .deep (.mk 44 1 [(0, (.mk 4 1 []))]) _ none))]) [] false [] ent99 (f_domains m false ⟨hms.1.2, hms.2⟩) ⟨.inl ⟨rfl, rfl⟩, .inl ⟨rfl, rfl⟩, trivial⟩ trivial rfl rfl rfl (fun h => by cases h) rfl (List.all_eq_true.1 rfl) (.inl rfl) rfl rfl) fun v9x4 => ?_
 refine qq5 (fun ver => qjv elt24 rfl) fun v7x5 => ?_
 refine qjo (qje leaf24 rfl rfl (nb rfl) (evo rfl) rfl) ?_
 refine on (qqe (qjz qzj (by kernel_rfl) (by kernel_rfl) fun vf => ?_))
 refine qqq (qqi qjs rfl rfl) (qqq (qqc qq9 rfl rfl rfl) (qqq (qqi qjs rfl rfl) (qqq (qqc qq9 rfl rfl rfl) (qqq (qqg Tryz.underlying23 rfl) (d_n' (fun ver => j_make (n := m.1.length) qqz qz7 rfl rfl (by decide) rfl rfl rfl rfl zr (by rw [qq0]; first | omega | (simp only [nr]; omega))) ?_)))))
 refine qqq (j_makeFunc (f := 158) (xs := [.tmp 5, .tmp 4, .tmp 7]) (caps := [.ptr 5 v5x3 0, .ptr 4 v4x2 0, .ptr 7 v7x5 0]) rfl) ?_
 refine d_v0' (qqn (v := .tup []) (hp1 := [(5, some (v5x3, .box 24 [.sl _])), (4, some (v4x2, .box 123 [.p _, .sl _, .sl _, .p _, .sl _])), (7, some (v7x5, .box 24 [.own 9 v9x4])), (9, some (v9x4, .deep (.mk 44 1 [(0, (.mk 4 1 []))]) _ none)), (15, some ((vf 15), .row 3 1 _))]) [(5, v5x3), (4, v4x2), (7, v7x5), (9, v9x4), (15, (vf 15))] false [15, 5, 4, 7, 9] ent154 (f_each 158 m q d (fdL false m.1) hm (fits_full (fun k hk => (hms.2 k hk).1)) ent158 (fun c o hc ho => f_filt1 m q d hm hq hd hl c o hc ho)) ⟨.inl ⟨rfl, rfl⟩, .inl ⟨rfl, rfl⟩, .inl ⟨rfl, rfl⟩, trivial⟩ ⟨⟨rfl, rfl⟩, ⟨rfl, rfl⟩, ⟨rfl, rfl⟩, ⟨rfl, rfl⟩, ⟨rfl, rfl⟩, trivial⟩ rfl rfl (fun h => by cases h) rfl (List.all_eq_true.1 rfl) (.inl rfl) rfl rfl) ?_
 refine qze (by kernel_rfl) (by kernel_rfl) ?_
 refine rs (qqa (qqc leaf24 rfl rfl rfl) (oa rfl (on (qqm ?_))))
 exact ⟨[.own 9 v9x4], .own 0 0, [], [.deep (.mk 44 1 [(0, (.mk 4 1 []))]) _ none], [(9, v9x4)], ⟨rfl, trivial⟩, rfl, rfl, ⟨⟨rfl, rfl⟩, trivial⟩, rfl, rfl, ⟨rfl, rfl, rfl⟩⟩
end Go.Ab

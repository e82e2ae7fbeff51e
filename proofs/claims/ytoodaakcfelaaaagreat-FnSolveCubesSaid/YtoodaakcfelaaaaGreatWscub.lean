/- Walks. -/
import Derived.Test.YtoodaakcfelaaaaGreatBase2
import Derived.Test.YtoodaakcfelaaaaGreatCub2
import Derived.Test.YtoodaakcfelaaaaGreatAb25
import Derived.Test.YtoodaakcfelaaaaGreatWsclop
import Derived.Test.YtoodaakcfelaaaaGreatWssolve
import Derived.Test.YtoodaakcfelaaaaGreatBase
import Derived.Test.YtoodaakcfelaaaaGreatSimp
import Derived.Test.YtoodaakcfelaaaaGreatWsfix
import Derived.Test.YtoodaakcfelaaaaGreatWsfun
import Derived.Test.YtoodaakcfelaaaaGreatWsmul
import Derived.Test.YtoodaakcfelaaaaGreatWsenum
import Derived.Test.YtoodaakcfelaaaaGreatWsprobd
import Derived.Test.YtoodaakcfelaaaaGreatWsexcl2
import Derived.Test.YtoodaakcfelaaaaGreatWsprop
import Derived.Test.YtoodaakcfelaaaaGreatWsmod
namespace Go.Ab
open Go.Proofs
set_option maxRecDepth 100000
set_option maxHeartbeats 8000000
set_option linter.unusedSimpArgs false
set_option linter.unusedVariables false
theorem zax2 {p : Prop} (h : p := by first | omega | (simp only [nr, nl, qjc]; omega)) : p := h
theorem zax3 {p : Prop} (h : p := by first | omega | (simp only [nr, nl, gone_len]; omega)) : p := h
theorem f_cubImpl (vs : List Int) (hv : varsFrom 0 vs = true) (hvl : vs.length ≤ 4) : Fn Tryz.prog 138 [.sl (vs.map dI)] [] (fun rr ii nn => rr = .sl ((cubV vs).map dL) ∧ ii = [] ∧ nn = []) := by
 refine qjl Tryz.func138 rfl (nb rfl) fun w X g => ?_
 show AWp _ _ _ ⟨[(0, .sl (vs.map dI))], []⟩
 refine rs (oa rfl (on (rs (qqv (fun ver => qqh (parts := [(0, .const (.slice none 0 0))]) (es := [[_]]) slt107 elt23 rfl rfl (by decide) (by decide) rfl rfl (by simp) rfl) fun v9x1 => ?_))))
 refine oa rfl (on (a_rownil 9 rfl ?_))
 refine a_row 9 (es' := (cubV (vs.take 0)).map dL) rfl rfl ?_
 refine qqf (rs (om rfl (qqa (qqw Tryz.underlying23 rfl) (om rfl (on (qqk (qq4 (ι := Nat × Nat) (fun x => x.1 ≤ vs.length) (fun x r => (12, .p (.int .i64 ((x.1 : Nat)))) :: (3, .own 9 x.2) :: r) (fun x r => (9, some (x.2, .row 23 1 ((cubV (vs.take x.1)).map dL))) :: r) (fun x => vs.length - x.1) (fun _ _ => rfl) (fun _ _ => rfl) (0, v9x1) (by first | exact (Nat.zero_le _) | (dsimp only; exact (Nat.zero_le _))) ⟨⟨rfl, rfl⟩, ⟨rfl, rfl, trivial⟩, ⟨rfl, trivial⟩, ⟨rfl, rfl⟩, ⟨rfl, rfl⟩⟩ ?_)))))))
 rintro ⟨k, v⟩ hk; dsimp only at hk ⊢
 refine rs (qqa (qzt rfl rfl) (on (qqf (ac rfl (fun h1 => ?_) fun h1 => ?_))))
 ·
  have h1r := h1
  try simp only [nq, nr, nl] at h1
  refine qqo (qqf (qqk (qqf ?_)))
  have hvk := vars_at hv (k := k) zz
  have hcl := cub_take_len (vs := vs) (k := k) zz
  have hp2 := Nat.pow_le_pow_right (n := 2) (by decide) (show k ≤ 4 from zz)
  refine ar (qqa (qq9 (n := k) qjb rfl rfl zz (qqq zz) rfl) (qqa (qq8 qq6 rfl (qqq zz) rfl) (oa rfl (on (rs (oa rfl (on (qj5 6 6 23 1 rfl fun v6 => ?_))))))))
  refine qqf (rs (om rfl (qqa (qja Tryz.underlying107 rfl rfl) (om rfl (on (qqk (qq4 (ι := Nat × Nat) (fun x => x.1 ≤ (cubV (vs.take k)).length) (fun x r => (18, .p (.int .i64 ((x.1 : Nat)))) :: (6, .own 6 x.2) :: r) (fun x r => (9, some (v, .row 23 1 (((cubV (vs.take k))).map dL))) :: (6, some (x.2, .row 23 1 ((cub1 ((cubV (vs.take k)).take x.1) (vs.getD k default)).map dL))) :: r) (fun x => (cubV (vs.take k)).length - x.1) (fun _ _ => rfl) (fun _ _ => rfl) (0, v6) (by first | exact (Nat.zero_le _) | (dsimp only; exact (Nat.zero_le _))) ⟨⟨rfl, rfl⟩, ⟨rfl, rfl, trivial⟩, ⟨rfl, rfl, trivial⟩, ⟨rfl, rfl⟩, ⟨rfl, rfl⟩⟩ ?_)))))))
  rintro ⟨j, w⟩ hj; dsimp only at hj ⊢
  refine rs (qqa (qzt rfl rfl) (on (qqf (ac rfl (fun h2 => ?_) fun h2 => ?_))))
  ·
   have h2r := h2
   try simp only [nq, nr, nl] at h2
   refine qqo (qqf (qqk (rs (qqa (qq2 (n := j) slt107 rfl rfl rfl rfl zz) (qqa (qjo leaf23 rfl rfl (qqq zz) rfl) (oa rfl (on ?_)))))))
   have hca := cub_asc hv (k := k) zz _ (qju (d := default) (show j < (cubV (vs.take k)).length from zz))
   have hvk := vars_at hv (k := k) zz
   have hc1 := cub1_len (v := vs.getD k default) (o := (cubV (vs.take k)).take j)
   rw [List.length_take] at hc1
   refine ar (om rfl (om rfl ?_))
   refine qz0 (fun ver => qza (v := .own 24 ver) (hp1 := [(24, some (ver, .row 3 1 _))]) [] false [] ent108 (f_cloneI ((cubV (vs.take k)).getD j default) (by omega)) ⟨.inl ⟨rfl, rfl⟩, trivial⟩ trivial rfl rfl rfl (fun h => by cases h) rfl (List.all_eq_true.1 rfl) (.inl rfl) rfl rfl) fun v24x2 => ?_
   refine om rfl (qqv (fun ver => qqh (parts := [(0, .tmp 25)]) (es := [[_]]) qjb elt3 rfl rfl (by decide) (by decide) rfl rfl (by simp) rfl) fun v26x3 => ?_)
   refine qqv (fun ver => qqs qjb elt3 rfl rfl rfl rfl rfl rfl (by rw [qqu]; first | omega | (simp only [nr, nl]; omega)) zz) fun v24x4 => ?_
   refine op_freezeK 27 trivial rfl rfl rfl ?_
   refine om rfl ?_
   refine qz0 (fun ver => qza (v := .own 29 ver) (hp1 := [(29, some (ver, .row 3 1 _))]) [] false [] ent108 (f_cloneI ((cubV (vs.take k)).getD j default) (by omega)) ⟨.inl ⟨rfl, rfl⟩, trivial⟩ trivial rfl rfl rfl (fun h => by cases h) rfl (List.all_eq_true.1 rfl) (.inl rfl) rfl rfl) fun v29x5 => ?_
   refine om rfl (qqa (j_neg rfl zz zz) (qqv (fun ver => qqh (parts := [(0, .tmp 31)]) (es := [[_]]) qjb elt3 rfl rfl (by decide) (by decide) rfl rfl (by simp) rfl) fun v32x6 => ?_))
   refine qqv (fun ver => qqs qjb elt3 rfl rfl rfl rfl rfl rfl (by rw [qqu]; first | omega | (simp only [nr, nl]; omega)) zz) fun v29x7 => ?_
   refine op_freezeK 33 trivial rfl rfl rfl ?_
   refine qqv (fun ver => qqh (parts := [(0, .tmp 27), (1, .tmp 33)]) (es := [[_], [_]]) slt107 elt23 rfl rfl (by decide) (by decide) rfl rfl (by simp) rfl) fun v34x8 => ?_
   refine qqv (fun ver => qqs slt107 elt23 rfl rfl rfl rfl rfl rfl (by rw [qqu]; first | omega | (simp only [nr, nl]; omega)) zz) fun v6x9 => ?_
   refine oa rfl (on (ar (qqa (qjh rfl rfl zz zz) (om rfl (on ?_)))))
   exact ⟨(j + 1, v6x9), (by first | exact zz | (dsimp only; exact zz)), ⟨⟨rfl, rfl⟩, ⟨rfl, rfl, trivial⟩, ⟨rfl, qj0 (by dsimp only; rw [cub1_next zz, List.map_append]; simp only [List.map_cons, List.map_nil, dL, List.map_append]; rfl), trivial⟩, ⟨rfl, rfl⟩, ⟨rfl, rfl⟩⟩, (by first | exact zz | (dsimp only; exact zz))⟩
  have h2r := h2
  try simp only [nq, nr, nl] at h2
  refine qjf (ar (om rfl (oa rfl (on (a_rename (i := 6) 3 9 (by decide) rfl rfl fun v9x10 => ?_)))))
  refine ar (qqa (qjh rfl rfl zz zz) (om rfl (on ?_)))
  exact ⟨(k + 1, v9x10), (by first | exact zz | (dsimp only; exact zz)), ⟨⟨rfl, rfl⟩, ⟨rfl, rfl, trivial⟩, ⟨qj0 (by dsimp only; rw [show j = (cubV (vs.take k)).length by first | omega | (simp only [nr, nl]; omega), List.take_length, cub_next zz]), trivial⟩, ⟨rfl, rfl⟩, ⟨rfl, rfl⟩⟩, (by first | exact zz | (dsimp only; exact zz))⟩
 have h1r := h1
 try simp only [nq, nr, nl] at h1
 refine qjf (rs (om rfl (oa rfl (on (qjs 2 (noA _ _ _ _ _) rfl rfl ?_)))))
 refine qqx ?_
 exact fin_sl rfl ⟨by rw [List.take_of_length_le zz], rfl, rfl⟩
theorem f_splitImpl (vs : List Int) : Fn Tryz.prog 81 [.sl (vs.map dI)] [] (fun rr ii nn => rr = .tup [.sl ((if (varsFrom 0 vs && decide (vs.length ≤ 4)) then (cubV vs) else []).map dL), .p (.bool (varsFrom 0 vs && decide (vs.length ≤ 4)))] ∧ ii = [] ∧ nn = []) := by
 refine qjl Tryz.func81 rfl (nb rfl) fun w X g => ?_
 show AWp _ _ _ ⟨[(0, .sl (vs.map dI))], []⟩
 refine rs (oa rfl (oa rfl (on (qqf (rs (om rfl ?_))))))
 refine qq0 (qqn (v := .p _) (hp1 := []) [] false [] ent70 (f_areVars vs) ⟨.inl ⟨rfl, rfl⟩, trivial⟩ trivial rfl rfl (fun h => by cases h) rfl (fun _ h => by cases h) (.inl rfl) rfl rfl) ?_
 refine qqa (qzk rfl) (om rfl (qqz 7 rfl (fun h1 => ?_) (fun h1 => ?_)))
 ·
  have h1r := h1
  try simp only [nq, nr, nl] at h1
  refine qqa (qqb rfl rfl h1r) (qqa (qqb rfl rfl h1r) (qqa (qqb rfl rfl h1r) (qqa (qqr rfl h1r (evo rfl)) (on (a_tt rfl ?_)))))
  refine rs (oa rfl (oa rfl (on (a_nil 2 rfl ?_))))
  refine qqx ?_
  exact ⟨[.sl _, .p _], .tup [.sl _, .p _], [], [], [], ⟨rfl, rfl, trivial⟩, rfl, rfl, trivial, rfl, rfl, ⟨by have hb : (varsFrom 0 vs && decide (vs.length ≤ 4)) = false := (by first | (simp_all; done) | (simp_all; omega)); rw [hb]; rfl, rfl, rfl⟩⟩
 have h1r := h1
 try simp only [nq, nr, nl] at h1
 refine qqa (qqd rfl rfl h1r (qqj (evo rfl))) (qqa (qqd rfl rfl h1r (qqw Tryz.underlying23 rfl)) (qqa (qqd rfl rfl h1r (j_gt rfl rfl)) (qqa (qqy rfl h1r (evo rfl)) (on (ac rfl (fun h2 => ?_) fun h2 => ?_)))))
 ·
  have h2r := h2
  try simp only [nq, nr, nl] at h2
  refine rs (oa rfl (oa rfl (on (a_nil 2 rfl ?_))))
  refine qqx ?_
  exact ⟨[.sl _, .p _], .tup [.sl _, .p _], [], [], [], ⟨rfl, rfl, trivial⟩, rfl, rfl, trivial, rfl, rfl, ⟨by have hb : (varsFrom 0 vs && decide (vs.length ≤ 4)) = false := (by first | (simp_all; done) | (simp_all; omega)); rw [hb]; rfl, rfl, rfl⟩⟩
 have h2r := h2
 try simp only [nq, nr, nl] at h2
 refine qqo (rs (om rfl ?_))
 refine qq0 (qqn (v := .sl _) (hp1 := []) [] false [] ent138 (f_cubImpl vs (by simp_all) (by simp_all; omega)) ⟨.inl ⟨rfl, rfl⟩, trivial⟩ trivial rfl rfl (fun h => by cases h) rfl (fun _ h => by cases h) (.inl rfl) rfl rfl) ?_
 refine oa rfl (oa rfl (on (qqx ?_)))
 exact ⟨[.sl _, .p _], .tup [.sl _, .p _], [], [], [], ⟨rfl, rfl, trivial⟩, rfl, rfl, trivial, rfl, rfl, ⟨by have hb : (varsFrom 0 vs && decide (vs.length ≤ 4)) = true := (by first | (simp_all; done) | (simp_all; omega)); rw [hb]; rfl, rfl, rfl⟩⟩
theorem f_isCube (c : List Int) (hc : asc c) (hc4 : c.length ≤ 4) : Fn Tryz.prog 139 [.sl (c.map dI)] [] (fun rr ii nn => rr = .p (.bool (true)) ∧ ii = [] ∧ nn = []) := by
 refine qjl Tryz.func139 rfl (nb rfl) fun w X g => ?_
 show AWp _ _ _ ⟨[(0, .sl (c.map dI))], []⟩
 refine rs (oa rfl (on (qqf (rs (om rfl (qqa (qqw Tryz.underlying23 rfl) (om rfl (on (qqk (qq4 (ι := Nat) (fun k => k ≤ c.length) (fun k r => (7, .p (.int .i64 ((k : Nat)))) :: r) (fun k r => r) (fun k => c.length - k) (fun _ _ => rfl) (fun _ _ => rfl) 0 (Nat.zero_le _) ⟨⟨rfl, rfl⟩, ⟨rfl, trivial⟩, trivial, ⟨rfl, rfl⟩, ⟨rfl, rfl⟩⟩ ?_))))))))))
 intro k hk
 refine rs (qqa (qzt rfl rfl) (on (qqf (ac rfl (fun h1 => ?_) fun h1 => ?_))))
 ·
  have h1r := h1
  try simp only [nq, nr] at h1
  refine qqo (qqf (qqk (rs (om rfl (qqa (qq9 (n := k) qjb rfl rfl zr (qqq zr) rfl) (qqa (qq8 qq6 rfl (qqq zr) rfl) (oa rfl (oa rfl (on (qqf ?_))))))))))
  have hlk := asc_at hc (k := k) zr
  have hli := litOk_iff.1 hlk
  have hlt := fun h0 => asc_lt' hc (k := k) h0 zr
  have hlp := fun (h0 : 1 ≤ k) => litOk_iff.1 (asc_at hc (k := k - 1) zr)
  refine ar (om rfl ?_)
  refine qq0 (qqn (v := .p _) (hp1 := []) [] false [] ent106 (f_isLit (c.getD k default)) ⟨.inl ⟨rfl, rfl⟩, trivial⟩ trivial rfl rfl (fun h => by cases h) rfl (fun _ h => by cases h) (.inl rfl) rfl rfl) ?_
  refine qqa (qzk rfl) (om rfl (qqz 15 rfl (fun h2 => ?_) (fun h2 => ?_)))
  ·
   have h2r := h2
   try simp only [nq, nr] at h2
   exact absurd h2r (by rw [hlk]; decide)
  have h2r := h2
  try simp only [nq, nr] at h2
  refine qqa (qqd rfl rfl h2r (qqj (evo rfl))) (qqa (qqd rfl rfl h2r (j_gt rfl rfl)) (qqa (qqd rfl rfl h2r (qqj (evo rfl))) (qqz 18 rfl (fun h3 => ?_) (fun h3 => ?_))))
  ·
   have h3r := h3
   try simp only [nq, nr] at h3
   have hl2 := hlp (by omega)
   have hl3 := hlt (by omega)
   refine qqa (qqd rfl rfl h3r (qqj (evo rfl))) (qqa (qqd rfl rfl h3r (qqj (evo rfl))) (qqa (qqd rfl rfl h3r (qzw rfl rfl zr zr)) (qqa (qqd rfl rfl h3r (qq9 (n := k - 1) qjb rfl rfl (by omega) (qqq zr) rfl)) (qqa (qqd rfl rfl h3r (qq8 qq6 rfl (qqq zr) rfl)) ?_))))
   refine qq0 (qqd rfl rfl h3r (qqn (v := .p _) (hp1 := []) [] false [] ent111 (f_varOf (c.getD (k - 1) default) (by omega)) ⟨.inl ⟨rfl, rfl⟩, trivial⟩ trivial rfl rfl (fun h => by cases h) rfl (fun _ h => by cases h) (.inl rfl) rfl rfl)) ?_
   refine qqa (qqd rfl rfl h3r (qqj (evo rfl))) ?_
   refine qq0 (qqd rfl rfl h3r (qqn (v := .p _) (hp1 := []) [] false [] ent111 (f_varOf (c.getD k default) (by omega)) ⟨.inl ⟨rfl, rfl⟩, trivial⟩ trivial rfl rfl (fun h => by cases h) rfl (fun _ h => by cases h) (.inl rfl) rfl rfl)) ?_
   refine qqa (qqd rfl rfl h3r (j_ge rfl rfl)) (qqa (qqd rfl rfl h2r (qqr rfl h3r (evo rfl))) (qqa (qqy rfl h2r (evo rfl)) (on (ac rfl (fun h4 => ?_) fun h4 => ?_))))
   ·
    have h4r := h4
    try simp only [nq, nr] at h4
    exact absurd h4r (by first | (simp; omega) | (simp_all; omega) | (simp_all; done))
   have h4r := h4
   try simp only [nq, nr] at h4
   refine qqo (ar (qqa (qjh rfl rfl zr zr) (om rfl (on ?_))))
   exact ⟨k + 1, zr, ⟨⟨rfl, rfl⟩, ⟨rfl, trivial⟩, trivial, ⟨rfl, rfl⟩, ⟨rfl, rfl⟩⟩, zr⟩
  have h3r := h3
  try simp only [nq, nr] at h3
  refine qqa (qqb rfl rfl h3r) (qqa (qqb rfl rfl h3r) (qqa (qqb rfl rfl h3r) (qqa (qqb rfl rfl h3r) (qqa (qqb rfl rfl h3r) (qqa (qqb rfl rfl h3r) (qqa (qqb rfl rfl h3r) (qqa (qqb rfl rfl h3r) (qqa (qqb rfl rfl h3r) (qqa (qqd rfl rfl h2r (qqy rfl h3r (evo rfl))) (qqa (qqy rfl h2r (evo rfl)) (on (a_ff rfl ?_))))))))))))
  refine qqo (ar (qqa (qjh rfl rfl zr zr) (om rfl (on ?_))))
  exact ⟨k + 1, zr, ⟨⟨rfl, rfl⟩, ⟨rfl, trivial⟩, trivial, ⟨rfl, rfl⟩, ⟨rfl, rfl⟩⟩, zr⟩
 have h1r := h1
 try simp only [nq, nr] at h1
 refine qjf (rs (om rfl (qqa (qqw Tryz.underlying23 rfl) (qqa (j_le rfl rfl) (oa rfl (on (qqx ?_)))))))
 exact qjt rfl ⟨qje (by simp; omega), rfl, rfl⟩
theorem f_negsImpl (c : List Int) (hl : c.length ≤ 1000) (hr : ∀ x ∈ c, litOk x = true) : Fn Tryz.prog 142 [.sl (c.map dI)] [] (fun rr ii nn => rr = .own 0 0 ∧ ii = [] ∧ nn = [.row 3 1 ((negL c).map dI)]) := by
 refine qjl Tryz.func142 rfl (nb rfl) fun w X g => ?_
 show AWp _ _ _ ⟨[(0, .sl (c.map dI))], []⟩
 refine rs (oa rfl (on (rs (oa rfl (on (qj5 3 3 3 1 rfl fun v3 => ?_))))))
 refine qqf (rs (om rfl (qqa (qqw Tryz.underlying23 rfl) (om rfl (on (qqk (qq4 (ι := Nat × Nat) (fun x => x.1 ≤ c.length) (fun x r => (8, .p (.int .i64 ((x.1 : Nat)))) :: (3, .own 3 x.2) :: r) (fun x r => (3, some (x.2, .row 3 1 ((negL (c.take x.1)).map dI))) :: r) (fun x => c.length - x.1) (fun _ _ => rfl) (fun _ _ => rfl) (0, v3) (by first | exact (Nat.zero_le _) | (dsimp only; exact (Nat.zero_le _))) ⟨⟨rfl, rfl⟩, ⟨rfl, rfl, trivial⟩, ⟨rfl, trivial⟩, ⟨rfl, rfl⟩, ⟨rfl, rfl⟩⟩ ?_)))))))
 rintro ⟨k, v⟩ hk; dsimp only at hk ⊢
 refine rs (qqa (qzt rfl rfl) (on (qqf (ac rfl (fun h1 => ?_) fun h1 => ?_))))
 ·
  have h1r := h1
  try simp only [nq, nr, nl, qjc] at h1
  refine qqo (qqf (qqk (rs (qqa (qq9 (n := k) qjb rfl rfl zax2 (qqq zax2) rfl) (qqa (qq8 qq6 rfl (qqq zax2) rfl) (oa rfl (on ?_)))))))
  have hli := litOk_iff.1 (hr _ (qju (d := default) (show k < c.length from zax2)))
  refine ar (om rfl (om rfl (qqa (j_neg rfl zax2 zax2) (qqv (fun ver => qqh (parts := [(0, .tmp 14)]) (es := [[_]]) qjb elt3 rfl rfl (by decide) (by decide) rfl rfl (by simp) rfl) fun v15x1 => ?_))))
  refine qqv (fun ver => qqs qjb elt3 rfl rfl rfl rfl rfl rfl (by rw [qqu]; first | omega | (simp only [nr, nl, qjc]; omega)) zax2) fun v3x2 => ?_
  refine oa rfl (on (ar (qqa (qjh rfl rfl zax2 zax2) (om rfl (on ?_)))))
  exact ⟨(k + 1, v3x2), (by first | exact zax2 | (dsimp only; exact zax2)), ⟨⟨rfl, rfl⟩, ⟨rfl, rfl, trivial⟩, ⟨qj0 (by dsimp only; rw [negL_take zax2, List.map_append]; rfl), trivial⟩, ⟨rfl, rfl⟩, ⟨rfl, rfl⟩⟩, (by first | exact zax2 | (dsimp only; exact zax2))⟩
 have h1r := h1
 try simp only [nq, nr, nl, qjc] at h1
 refine qjf (rs (om rfl (oa rfl (on (qqx ?_)))))
 exact ⟨[.own 3 v], .own 0 0, [], [.row 3 1 _], [(3, v)], ⟨rfl, trivial⟩, rfl, rfl, ⟨⟨rfl, rfl⟩, trivial⟩, rfl, rfl, ⟨rfl, rfl, by rw [List.take_of_length_le zax2]⟩⟩
theorem f_ownAllO (l : List Con) (hln : l.length ≤ 1000) (ho : ∀ c ∈ l, c.1.length ≤ 1048576) : Fn Tryz.prog 140 [.sl (l.map dC)] [] (fun rr ii nn => rr = .own 0 0 ∧ ii = [] ∧ nn = [.row 69 2 ((l).map dC)]) := by
 refine qjl Tryz.func140 rfl (nb rfl) fun w X g => ?_
 show AWp _ _ _ ⟨[(0, .sl (l.map dC))], []⟩
 refine rs (oa rfl (on (rs (oa rfl (on (qj5 3 3 69 2 rfl fun v3 => ?_))))))
 refine qqf (rs (om rfl (qqa (qqw Tryz.underlying30 rfl) (om rfl (on (qqk (qq4 (ι := Nat × Nat) (fun x => x.1 ≤ l.length) (fun x r => (8, .p (.int .i64 ((x.1 : Nat)))) :: (3, .own 3 x.2) :: r) (fun x r => (3, some (x.2, .row 69 2 ((l.take x.1).map dC))) :: r) (fun x => l.length - x.1) (fun _ _ => rfl) (fun _ _ => rfl) (0, v3) (by first | exact (Nat.zero_le _) | (dsimp only; exact (Nat.zero_le _))) ⟨⟨rfl, rfl⟩, ⟨rfl, rfl, trivial⟩, ⟨rfl, trivial⟩, ⟨rfl, rfl⟩, ⟨rfl, rfl⟩⟩ ?_)))))))
 rintro ⟨k, v⟩ hpre; dsimp only at hpre ⊢
 refine rs (qqa (qzt rfl rfl) (on (qqf (ac rfl (fun h1 => ?_) fun h1 => ?_))))
 ·
  have h1r := h1
  try simp only [nq, nr, nl, gone_len] at h1
  refine qqo (qqf (qqk (rs (qqa (qq9 qj7 rfl rfl rfl (qqq zax3) rfl) (qqa (qjw (ys := [.sl _, .p _]) qq7 rfl (qqq zax3) rfl (Nat.le_refl _)) (qqv (fun ver => qjd qjm rfl) fun v5x1 => ?_))))))
  refine qjg (qqe qq7 rfl rfl rfl rfl rfl rfl) ?_
  refine on (ar (om rfl (qqa (qqg (ys := [.sl _, .p _]) qq7 rfl rfl rfl (nb rfl)) ?_)))
  refine qz0 (fun ver => qza (v := .agg [.own 14 ver, .p _]) (hp1 := [(14, some (ver, .row 135 2 _))]) [] false [] ent189 (f_own (l.getD k default) (ho _ (qju (by omega)))) ⟨.inl ⟨rfl, rfl⟩, trivial⟩ trivial rfl rfl rfl (fun h => by cases h) rfl (List.all_eq_true.1 rfl) (.inl rfl) rfl rfl) fun v14x2 => ?_
  refine op_freezeaK 14 0 trivial rfl rfl rfl rfl ?_
  try dsimp only [List.set]
  refine qqv (fun ver => qqh (parts := [(0, .tmp 14)]) (es := [[_, _]]) qj7 qjm rfl rfl (by decide) (by decide) rfl rfl (by simp) rfl) fun v15x3 => ?_
  refine qqv (fun ver => qqs qj7 qjm rfl rfl rfl rfl rfl rfl (by rw [qqu]; first | omega | (simp only [nr, nl, gone_len]; omega)) zax3) fun v3x4 => ?_
  refine oa rfl (on (ar (qqa (qjh rfl rfl zax3 zax3) (om rfl (on ?_)))))
  exact ⟨(k + 1, v3x4), (by first | exact zax3 | (dsimp only; exact zax3)), ⟨⟨rfl, rfl⟩, ⟨rfl, rfl, trivial⟩, ⟨qj0 (by rw [qjj (d := default) (by omega), List.map_append]; rfl), trivial⟩, ⟨rfl, rfl⟩, ⟨rfl, rfl⟩⟩, (by first | exact zax3 | (dsimp only; exact zax3))⟩
 have h1r := h1
 try simp only [nq, nr, nl, gone_len] at h1
 refine qjf (rs (om rfl (oa rfl (on (qqx ?_)))))
 exact ⟨[.own 3 v], .own 0 0, [], [.row 69 2 _], [(3, v)], ⟨rfl, trivial⟩, rfl, rfl, ⟨⟨rfl, rfl⟩, trivial⟩, rfl, rfl, ⟨rfl, rfl, by rw [List.take_of_length_le (by omega)]⟩⟩
theorem f_cubeProb (l : List Con) (c : List Int) (hp : pOk l = true) (hc : asc c) (hc4 : c.length ≤ 4) (hlc : l.length + c.length ≤ 400) : Fn Tryz.prog 82 [.sl (l.map dC), .sl (c.map dI)] [] (fun rr ii nn => rr = .tup [.sl ((cuL l c).map dC), .p (.bool true)] ∧ ii = [] ∧ nn = []) := by
 refine qjl Tryz.func82 rfl (nb rfl) fun w X g => ?_
 show AWp _ _ _ ⟨[(0, .sl (l.map dC)), (1, .sl (c.map dI))], []⟩
 have hln := pOk_len hp
 have hla := pOk_all hp
 refine rs (oa rfl (oa rfl (on (qqf (rs (om rfl ?_))))))
 refine qq0 (qqn (v := .p _) (hp1 := []) [] false [] ent69 (f_pvImpl l) ⟨.inl ⟨rfl, rfl⟩, trivial⟩ trivial rfl rfl (fun h => by cases h) rfl (fun _ h => by cases h) (.inl rfl) rfl rfl) ?_
 refine qqa (qzk rfl) (om rfl (qqz 12 rfl (fun h1 => ?_) (fun h1 => ?_)))
 ·
  have h1r := h1
  try simp only [nq, nr, nl] at h1
  exact absurd h1r (by rw [hp]; decide)
 have h1r := h1
 try simp only [nq, nr, nl] at h1
 refine qqa (qqd rfl rfl h1r (qqj (evo rfl))) ?_
 refine qq0 (qqd rfl rfl h1r (qqn (v := .p _) (hp1 := []) [] false [] ent139 (f_isCube c hc hc4) ⟨.inl ⟨rfl, rfl⟩, trivial⟩ trivial rfl rfl (fun h => by cases h) rfl (fun _ h => by cases h) (.inl rfl) rfl rfl)) ?_
 refine qqa (qqd rfl rfl h1r (qzk rfl)) (qqa (qqy rfl h1r (evo rfl)) (om rfl (qqz 17 rfl (fun h2 => ?_) (fun h2 => ?_))))
 ·
  have h2r := h2
  try simp only [nq, nr, nl] at h2
  exact absurd h2r (by simp)
 have h2r := h2
 try simp only [nq, nr, nl] at h2
 refine qqa (qqd rfl rfl h2r (qqj (evo rfl))) (qqa (qqd rfl rfl h2r (qqw Tryz.underlying30 rfl)) (qqa (qqd rfl rfl h2r (qqj (evo rfl))) (qqa (qqd rfl rfl h2r (qqw Tryz.underlying23 rfl)) (qqa (qqd rfl rfl h2r (qjh rfl rfl zz zz)) (qqa (qqd rfl rfl h2r (j_gt rfl rfl)) (qqa (qqy rfl h2r (evo rfl)) (on (ac rfl (fun h3 => ?_) fun h3 => ?_))))))))
 ·
  have h3r := h3
  try simp only [nq, nr, nl] at h3
  exact absurd h3r (by simp; omega)
 have h3r := h3
 try simp only [nq, nr, nl] at h3
 refine qqo (rs (om rfl ?_))
 refine qz0 (fun ver => qza (v := .own 26 ver) (hp1 := [(26, some (ver, .row 69 2 _))]) [] false [] ent140 (f_ownAllO l (by omega) (fun c hc => by have := qz2 (List.all_eq_true.1 hla c hc); omega)) ⟨.inl ⟨rfl, rfl⟩, trivial⟩ trivial rfl rfl rfl (fun h => by cases h) rfl (List.all_eq_true.1 rfl) (.inl rfl) rfl rfl) fun v26x1 => ?_
 refine oa rfl (on (qqf (rs (om rfl (qqa (qqw Tryz.underlying23 rfl) (om rfl (on (qqk (qq4 (ι := Nat × Nat) (fun x => x.1 ≤ c.length) (fun x r => (29, .p (.int .i64 ((x.1 : Nat)))) :: (6, .own 26 x.2) :: r) (fun x r => (26, some (x.2, .row 69 2 ((l ++ (c.take x.1).map uniC).map dC))) :: r) (fun x => c.length - x.1) (fun _ _ => rfl) (fun _ _ => rfl) (0, v26x1) (by first | exact (Nat.zero_le _) | (dsimp only; exact (Nat.zero_le _))) ⟨⟨rfl, rfl⟩, ⟨rfl, rfl, trivial⟩, ⟨qj0 (by rw [List.take_zero, List.map_nil, List.append_nil]), trivial⟩, ⟨rfl, rfl⟩, ⟨rfl, rfl⟩⟩ ?_)))))))))
 rintro ⟨k, v⟩ hk; dsimp only at hk ⊢
 refine rs (qqa (qzt rfl rfl) (on (qqf (ac rfl (fun h4 => ?_) fun h4 => ?_))))
 ·
  have h4r := h4
  try simp only [nq, nr, nl] at h4
  refine qqo (qqf (qqk (rs (qqa (qq9 (n := k) qjb rfl rfl zz (qqq zz) rfl) (qqa (qq8 qq6 rfl (qqq zz) rfl) (oa rfl (on (ar (om rfl (om rfl (qqa (qjp (parts := [(0, .const (.int .i64 1)), (1, .tmp 34)]) str135 qjx rfl rfl) ?_)))))))))))
  refine qqv (fun ver => qqh (parts := [(0, .tmp 35)]) (es := [[_, _]]) qzc qjx rfl rfl (by decide) (by decide) rfl rfl (by simp) rfl) fun v36x2 => ?_
  refine op_freezeK 36 trivial rfl rfl rfl ?_
  refine qqa (qjp (parts := [(0, .tmp 36), (1, .const (.int .i64 1))]) str69 qjm rfl rfl) ?_
  refine qqv (fun ver => qqh (parts := [(0, .tmp 37)]) (es := [[_, _]]) qj7 qjm rfl rfl (by decide) (by decide) rfl rfl (by simp) rfl) fun v38x3 => ?_
  refine qqv (fun ver => qqs qj7 qjm rfl rfl rfl rfl rfl rfl (by rw [qqu]; first | omega | (simp only [nr, nl]; omega)) zz) fun v26x4 => ?_
  refine oa rfl (on (ar (qqa (qjh rfl rfl zz zz) (om rfl (on ?_)))))
  exact ⟨(k + 1, v26x4), (by first | exact zz | (dsimp only; exact zz)), ⟨⟨rfl, rfl⟩, ⟨rfl, rfl, trivial⟩, ⟨qj0 (by dsimp only; rw [qjj (d := (default : Int)) zz, List.map_append (f := uniC), ← List.append_assoc]; simp only [List.map_append]; rfl), trivial⟩, ⟨rfl, rfl⟩, ⟨rfl, rfl⟩⟩, (by first | exact zz | (dsimp only; exact zz))⟩
 have h4r := h4
 try simp only [nq, nr, nl] at h4
 refine qjf (rs (om rfl (oa rfl (oa rfl (on (qjs 4 (noA _ _ _ _ _) rfl rfl ?_))))))
 refine qqx ?_
 exact ⟨[.sl _, .p _], .tup [.sl _, .p _], [], [], [], ⟨rfl, rfl, trivial⟩, rfl, rfl, trivial, rfl, rfl, ⟨by unfold cuL; rw [List.take_of_length_le zz], rfl, rfl⟩⟩
end Go.Ab

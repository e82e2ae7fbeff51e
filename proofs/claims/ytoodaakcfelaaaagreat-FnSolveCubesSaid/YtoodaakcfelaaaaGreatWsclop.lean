/- Walks. -/
import Derived.Test.YtoodaakcfelaaaaGreatBase2
import Derived.Test.YtoodaakcfelaaaaGreatPf3
import Derived.Test.YtoodaakcfelaaaaGreatWsclof
import Derived.Test.YtoodaakcfelaaaaGreatWsclau
namespace Go.Ab
open Go.Proofs
set_option maxRecDepth 100000
set_option maxHeartbeats 8000000
set_option linter.unusedSimpArgs false
set_option linter.unusedVariables false
theorem zar1 {p : Prop} (h : p := by first | omega | (simp only [nr, nl, qj4]; omega)) : p := h
theorem f_insSortP (L : List Int) (h : apt L) : Fn Tryz.prog 209 [.own 0 0, .p (.int .i64 (0)), .p (.int .i64 ((L.length : Nat))), .fn 110 []] [.row 3 1 (L.map dI)] (fun rr ii nn => rr = .tup [] ∧ ii = [.row 3 1 ((srtS L).map dI)] ∧ nn = []) := by
 refine qjl Tryz.func209 rfl (nb rfl) fun w X g => ?_
 show AWp _ _ _ ⟨[(0, .own 0 0), (1, .p (.int .i64 (0))), (2, .p (.int .i64 ((L.length : Nat)))), (3, .fn 110 [])], [(0, some (0, .row 3 1 (L.map dI)))]⟩
 have hl12 := apt_len h
 refine rs (om rfl (qqa (qjh rfl rfl zz zz) (oa rfl (on (qqk (qq4 (ι := Nat × List Int) (fun x => x.2.Perm L ∧ 1 ≤ x.1 ∧ ordI x.2 x.1) (fun x r => (8, .p (.int .i64 ((x.1 : Nat)))) :: r) (fun x r => (0, some (0, .row 3 1 (x.2.map dI))) :: r) (fun x => L.length - x.1) (fun _ _ => rfl) (fun _ _ => rfl) (1, L) (by first | exact ⟨List.Perm.refl _, Nat.le_refl _, ord_one⟩ | (dsimp only; exact ⟨List.Perm.refl _, Nat.le_refl _, ord_one⟩)) ⟨⟨rfl, rfl⟩, ⟨rfl, trivial⟩, ⟨rfl, trivial⟩, ⟨rfl, rfl⟩, ⟨rfl, rfl⟩⟩ ?_))))))
 rintro ⟨i, M⟩ hm; dsimp only at hm ⊢
 refine qqf (rs (om rfl (om rfl (qqa (qzt rfl rfl) (on (ac rfl (fun h1 => ?_) fun h1 => ?_))))))
 ·
  have h1r := h1
  try simp only [nq, nr, nl] at h1
  refine qqo (qqf (qqk (qqf ?_)))
  have hlm := hm.1.length_eq
  refine ar (om rfl (oa rfl (on (qqk ?_))))
  refine qq4 (ι := Nat × List Int) (fun x => x.2.Perm L ∧ x.1 ≤ i ∧ i < L.length ∧ insI x.2 i x.1) (fun x r => (9, .p (.int .i64 ((x.1 : Nat)))) :: (8, .p (.int .i64 ((i : Nat)))) :: r) (fun x r => (0, some (0, .row 3 1 (x.2.map dI))) :: r) (fun x => x.1) (fun _ _ => rfl) (fun _ _ => rfl) (i, M) (by first | exact ⟨hm.1, Nat.le_refl _, by omega, ins_start hm.2.2⟩ | (dsimp only; exact ⟨hm.1, Nat.le_refl _, by omega, ins_start hm.2.2⟩)) ⟨⟨rfl, rfl⟩, ⟨rfl, rfl, trivial⟩, ⟨rfl, trivial⟩, ⟨rfl, rfl⟩, ⟨rfl, rfl⟩⟩ ?_
  rintro ⟨j, M⟩ hm; dsimp only at hm ⊢
  refine qqf (qqf ?_)
  have hlm := hm.1.length_eq
  refine qj3 qzr (by kernel_rfl) (by kernel_rfl) fun vf => ?_
  refine qql (qqj (evo rfl)) (qql (qqj (evo rfl)) (qql (j_gt rfl rfl) (qql (qqj (evo rfl)) (d_split' 21 rfl (fun h2 => ?_) (fun h2 => ?_)))))
  ·
   have h2r := h2
   try simp only [nq, nr, nl] at h2
   refine qql (qqd rfl rfl h2r (qqj (evo rfl))) (qql (qqd rfl rfl h2r (qqj (evo rfl))) (qql (qqd rfl rfl h2r (qqj (evo rfl))) (qql (qqd rfl rfl h2r (qq2 (n := j) qjb rfl rfl rfl zz zz)) (qql (qqd rfl rfl h2r (qjo qq6 rfl rfl (qqq zz) rfl)) (qql (qqd rfl rfl h2r (qqj (evo rfl))) (qql (qqd rfl rfl h2r (qqj (evo rfl))) (qql (qqd rfl rfl h2r (qzw rfl rfl zz zz)) (qql (qqd rfl rfl h2r (qq2 (n := j - 1) qjb rfl rfl rfl (by omega) zz)) (qql (qqd rfl rfl h2r (qjo qq6 rfl rfl (qqq zz) rfl)) ?_)))))))))
   refine d_v0' (qqd rfl rfl h2r (j_callF0 (v := .p _) (hp1 := []) [] false [] rfl ent110 (f_clCmp (M.getD j default) (M.getD (j - 1) default) (apt_at (apt_perm hm.1 h) (by omega)) (apt_at (apt_perm hm.1 h) (by omega))) ⟨.inl ⟨rfl, rfl⟩, .inl ⟨rfl, rfl⟩, trivial⟩ trivial rfl rfl (fun h => by cases h) rfl (fun _ h => by cases h) (.inl rfl) rfl rfl)) ?_
   refine qql (qqd rfl rfl h2r (qzt rfl rfl)) (qql (qqr rfl h2r (evo rfl)) (qzf (by kernel_rfl) (by kernel_rfl) ?_))
   refine ac rfl (fun h3 => ?_) fun h3 => ?_
   ·
    have h3r := h3
    try simp only [nq, nr, nl] at h3
    refine qqo (qqf (qqk ?_))
    have hlm := hm.1.length_eq
    refine qj3 qzr (by kernel_rfl) (by kernel_rfl) fun vf => ?_
    refine qql (qqj (evo rfl)) (qql (qqj (evo rfl)) (qql (qqj (evo rfl)) (qql (qqj (evo rfl)) (qql (qzw rfl rfl zz zz) (qql (qqj (evo rfl)) (qql (qqj (evo rfl)) (qql (qzw rfl rfl zz zz) (qql (qq2 (n := j - 1) qjb rfl rfl rfl (by omega) zz) (qql (qjo qq6 rfl rfl (qqq zz) rfl) (qql (qqj (evo rfl)) (qql (qqj (evo rfl)) (qql (qq2 (n := j) qjb rfl rfl rfl zz zz) (qql (qjo qq6 rfl rfl (qqq zz) rfl) ?_)))))))))))))
    refine qql (qq2 (n := j) qjb rfl rfl rfl zz zz) (d_s' (qzj qq6 rfl rfl zz (evo rfl) rfl rfl) ?_)
    refine qql (qq2 (n := j - 1) qjb rfl rfl rfl (by omega) zz) (d_s' (qzj qq6 rfl rfl zz (evo rfl) rfl rfl) ?_)
    refine qzf (by kernel_rfl) (by kernel_rfl) ?_
    refine ar (om rfl (qqa (qzw rfl rfl zz zz) (oa rfl (on ?_))))
    exact ⟨(j - 1, swpL M j), (by first | exact ⟨(swp_perm (by omega) (by omega)).trans hm.1, by omega, hm.2.2.1, ins_step hm.2.2.2 (by omega) hm.2.1 (by omega) (by omega)⟩ | (dsimp only; exact ⟨(swp_perm (by omega) (by omega)).trans hm.1, by omega, hm.2.2.1, ins_step hm.2.2.2 (by omega) hm.2.1 (by omega) (by omega)⟩)), ⟨⟨rfl, rfl⟩, ⟨qz1 (by omega), rfl, trivial⟩, ⟨qj0 swp_row, trivial⟩, ⟨rfl, rfl⟩, ⟨rfl, rfl⟩⟩, (by first | exact (by omega) | (dsimp only; exact (by omega)))⟩
   have h3r := h3
   try simp only [nq, nr, nl] at h3
   refine qjf (ar (om rfl (qqa (qjh rfl rfl zz zz) (oa rfl (on ?_)))))
   exact ⟨(i + 1, M), (by first | exact ⟨hm.1, by omega, ins_end hm.2.2.2 hm.2.1 (by first | exact .inl (by omega) | exact .inr (by have h9 := perm_ne hm.1 h (i := j - 1) (j := j) (by omega) (by omega) (by omega); omega))⟩ | (dsimp only; exact ⟨hm.1, by omega, ins_end hm.2.2.2 hm.2.1 (by first | exact .inl (by omega) | exact .inr (by have h9 := perm_ne hm.1 h (i := j - 1) (j := j) (by omega) (by omega) (by omega); omega))⟩)), ⟨⟨rfl, rfl⟩, ⟨rfl, trivial⟩, ⟨rfl, trivial⟩, ⟨rfl, rfl⟩, ⟨rfl, rfl⟩⟩, (by first | exact (by have := hm.1.length_eq; omega) | (dsimp only; exact (by have := hm.1.length_eq; omega)))⟩
  have h2r := h2
  try simp only [nq, nr, nl] at h2
  refine qql (qqb rfl rfl h2r) (qql (qqb rfl rfl h2r) (qql (qqb rfl rfl h2r) (qql (qqb rfl rfl h2r) (qql (qqb rfl rfl h2r) (qql (qqb rfl rfl h2r) (qql (qqb rfl rfl h2r) (qql (qqb rfl rfl h2r) (qql (qqb rfl rfl h2r) (qql (qqb rfl rfl h2r) (qql (qqb rfl rfl h2r) (qql (qqb rfl rfl h2r) (qql (qqy rfl h2r (evo rfl)) (qzf (by kernel_rfl) (by kernel_rfl) ?_)))))))))))))
  refine a_ff rfl ?_
  refine qjf (ar (om rfl (qqa (qjh rfl rfl zz zz) (oa rfl (on ?_)))))
  exact ⟨(i + 1, M), (by first | exact ⟨hm.1, by omega, ins_end hm.2.2.2 hm.2.1 (by first | exact .inl (by omega) | exact .inr (by have h9 := perm_ne hm.1 h (i := j - 1) (j := j) (by omega) (by omega) (by omega); omega))⟩ | (dsimp only; exact ⟨hm.1, by omega, ins_end hm.2.2.2 hm.2.1 (by first | exact .inl (by omega) | exact .inr (by have h9 := perm_ne hm.1 h (i := j - 1) (j := j) (by omega) (by omega) (by omega); omega))⟩)), ⟨⟨rfl, rfl⟩, ⟨rfl, trivial⟩, ⟨rfl, trivial⟩, ⟨rfl, rfl⟩, ⟨rfl, rfl⟩⟩, (by first | exact (by have := hm.1.length_eq; omega) | (dsimp only; exact (by have := hm.1.length_eq; omega)))⟩
 have h1r := h1
 try simp only [nq, nr, nl] at h1
 refine qjf ?_
 exact ⟨[], .tup [], [.row 3 1 _], [], [], trivial, rfl, rfl, ⟨⟨rfl, rfl⟩, trivial⟩, rfl, rfl, ⟨rfl, by rw [show M = srtS L from srt_end hm.1 h hm.2.2 (by have := hm.1.length_eq; omega)], rfl⟩⟩
theorem f_pdqP (L : List Int) (h : apt L) (m : Int) : Fn Tryz.prog 167 [.own 0 0, .p (.int .i64 (0)), .p (.int .i64 ((L.length : Nat))), .p (.int .i64 (m)), .fn 110 []] [.row 3 1 (L.map dI)] (fun rr ii nn => rr = .tup [] ∧ ii = [.row 3 1 ((srtS L).map dI)] ∧ nn = []) := by
 refine qjl Tryz.func167 rfl (nb rfl) fun w X g => ?_
 show AWp _ _ _ ⟨[(0, .own 0 0), (1, .p (.int .i64 (0))), (2, .p (.int .i64 ((L.length : Nat)))), (3, .p (.int .i64 (m))), (4, .fn 110 [])], [(0, some (0, .row 3 1 (L.map dI)))]⟩
 have hl12 := apt_len h
 refine rs (oa rfl (on (rs (oa rfl (on (qqk (qq4 (ι := Nat) (fun k => k = 0) (fun k r => r) (fun k r => (0, some (0, .row 3 1 (L.map dI))) :: r) (fun k => 0) (fun _ _ => rfl) (fun _ _ => rfl) 0 rfl ⟨⟨rfl, rfl⟩, trivial, ⟨rfl, trivial⟩, ⟨rfl, rfl⟩, ⟨rfl, rfl⟩⟩ ?_)))))))
 intro k hk
 refine qqk (rs (om rfl (om rfl (qqa (qzw rfl rfl zz zz) (oa rfl (on (qqf (rs (om rfl (qqa (j_le rfl rfl) (on (ac rfl (fun h1 => ?_) fun h1 => ?_))))))))))))
 ·
  have h1r := h1
  try simp only [nq, nr, nl] at h1
  refine rs (om rfl (om rfl (om rfl (om rfl ?_))))
  refine qq0 (qqn (v := .tup []) (hp1 := [(0, some (0, .row 3 1 _))]) [(0, 0)] false [0] ent209 (f_insSortP L h) ⟨.inl ⟨rfl, rfl⟩, .inl ⟨rfl, rfl⟩, .inl ⟨rfl, rfl⟩, .inl ⟨rfl, rfl⟩, trivial⟩ ⟨⟨rfl, rfl⟩, trivial⟩ rfl rfl (fun h => by cases h) rfl (List.all_eq_true.1 rfl) (.inl rfl) rfl rfl) ?_
  refine on (qqx ?_)
  exact ⟨[], .tup [], [.row 3 1 _], [], [], trivial, rfl, rfl, ⟨⟨rfl, rfl⟩, trivial⟩, rfl, rfl, ⟨rfl, rfl, rfl⟩⟩
 have h1r := h1
 try simp only [nq, nr, nl] at h1
 exact absurd (of_decide_eq_false h1r) (by omega)
theorem f_sortFuncP (L : List Int) (h : apt L) : Fn Tryz.prog 109 [.own 0 0, .fn 110 []] [.row 3 1 (L.map dI)] (fun rr ii nn => rr = .tup [] ∧ ii = [.row 3 1 ((srtS L).map dI)] ∧ nn = []) := by
 refine qjl Tryz.func109 rfl (nb rfl) fun w X g => ?_
 show AWp _ _ _ ⟨[(0, .own 0 0), (1, .fn 110 [])], [(0, some (0, .row 3 1 (L.map dI)))]⟩
 have hl12 := apt_len h
 have hb9 := f_bitsLen L.length hl12
 rw [← wrapU64 hl12] at hb9
 refine rs (om rfl (qqa (qja Tryz.underlying23 rfl rfl) (oa rfl (on (ar (om rfl (om rfl (om rfl (qqa (j_conv Tryz.underlying3 Tryz.underlying187 rfl) (op_callE (v := fun x => .p _) (hp1 := fun x => []) [] false ent168 hb9 ⟨.inl ⟨rfl, rfl⟩, trivial⟩ trivial rfl (fun _ => rfl) (fun _ => rfl) (.inl rfl) (fun _ => rfl) (fun _ => rfl) ?_))))))))))
 rintro z11 hz11
 try dsimp only at hz11
 dsimp only [List.cons_append, List.nil_append]
 refine om rfl ?_
 refine qq0 (qqn (v := .tup []) (hp1 := [(0, some (0, .row 3 1 _))]) [(0, 0)] false [0] ent167 (f_pdqP L h z11) ⟨.inl ⟨rfl, rfl⟩, .inl ⟨rfl, rfl⟩, .inl ⟨rfl, rfl⟩, .inl ⟨rfl, rfl⟩, .inl ⟨rfl, rfl⟩, trivial⟩ ⟨⟨rfl, rfl⟩, trivial⟩ rfl rfl (fun h => by cases h) rfl (List.all_eq_true.1 rfl) (.inl rfl) rfl rfl) ?_
 refine on ?_
 exact ⟨[], .tup [], [.row 3 1 _], [], [], trivial, rfl, rfl, ⟨⟨rfl, rfl⟩, trivial⟩, rfl, rfl, ⟨rfl, rfl, rfl⟩⟩
theorem f_clauseImplP (L : List Int) (h : apt L) : Fn Tryz.prog 42 [.sl (L.map dI)] [] (fun rr ii nn => rr = .tup [.agg [.sl (((srtS L).map oneL).map dT), .p (.int .i64 1)], .p (.bool true)] ∧ ii = [] ∧ nn = []) := by
 refine qjl Tryz.func42 rfl (nb rfl) fun w X g => ?_
 show AWp _ _ _ ⟨[(0, .sl (L.map dI))], []⟩
 have hl12 := apt_len h
 have hsl := srtS_len (l := L)
 refine rs (qqv (fun ver => qjd qjm rfl) fun v2x1 => ?_)
 refine oa rfl (on (qqf (rs (om rfl (qqa (qqw Tryz.underlying23 rfl) (qqa (j_gt rfl rfl) (on (ac rfl (fun h1 => ?_) fun h1 => ?_))))))))
 ·
  have h1r := h1
  try simp only [nq, nr, nl] at h1
  exact absurd (of_decide_eq_true h1r) (by omega)
 have h1r := h1
 try simp only [nq, nr, nl] at h1
 refine qqo (qqf (rs (om rfl (qqa (qqw Tryz.underlying23 rfl) (om rfl (on (qqk (qq4 (ι := Nat) (fun k => k ≤ L.length) (fun k r => (16, .p (.int .i64 ((k : Nat)))) :: r) (fun k r => r) (fun k => L.length - k) (fun _ _ => rfl) (fun _ _ => rfl) 0 (Nat.zero_le _) ⟨⟨rfl, rfl⟩, ⟨rfl, trivial⟩, trivial, ⟨rfl, rfl⟩, ⟨rfl, rfl⟩⟩ ?_))))))))
 intro k hk
 refine rs (qqa (qzt rfl rfl) (on (qqf (ac rfl (fun h2 => ?_) fun h2 => ?_))))
 ·
  have h2r := h2
  try simp only [nq, nr, nl] at h2
  refine qqo (qqf (qqk (rs (qqa (qq9 qjb rfl rfl rfl (qqq zz) rfl) (qqa (qq8 qq6 rfl (qqq zz) rfl) (oa rfl (on (qqf ?_))))))))
  have hli := litOk_iff.1 (apt_at h (k := k) zz)
  refine ar (om rfl ?_)
  refine qq0 (qqn (v := .p _) (hp1 := []) [] false [] ent106 (f_isLit (L.getD k default)) ⟨.inl ⟨rfl, rfl⟩, trivial⟩ trivial rfl rfl (fun h => by cases h) rfl (fun _ h => by cases h) (.inl rfl) rfl rfl) ?_
  refine qqa (qzk rfl) (om rfl (qqz 23 rfl (fun h3 => ?_) (fun h3 => ?_)))
  ·
   have h3r := h3
   try simp only [nq, nr, nl] at h3
   exact absurd h3r (by first | (rw [apt_at h (k := k) (by omega)]; decide) | (rw [decide_eq_true_eq]; exact apt_noneg h (by omega)))
  have h3r := h3
  try simp only [nq, nr, nl] at h3
  refine qqa (qqd rfl rfl h3r (qqj (evo rfl))) (qqa (qqd rfl rfl h3r (qqj (evo rfl))) (qqa (qqd rfl rfl h3r (j_neg rfl zz zz)) ?_))
  refine qq0 (qqd rfl rfl h3r (qqn (v := .p _) (hp1 := []) [] false [] ent107 (f_containsInt L (-(L.getD k default))) ⟨.inl ⟨rfl, rfl⟩, .inl ⟨rfl, rfl⟩, trivial⟩ trivial rfl rfl (fun h => by cases h) rfl (fun _ h => by cases h) (.inl rfl) rfl rfl)) ?_
  refine qqa (qqy rfl h3r (evo rfl)) (on (ac rfl (fun h4 => ?_) fun h4 => ?_))
  ·
   have h4r := h4
   try simp only [nq, nr, nl] at h4
   exact absurd h4r (by first | (rw [apt_at h (k := k) (by omega)]; decide) | (rw [decide_eq_true_eq]; exact apt_noneg h (by omega)))
  have h4r := h4
  try simp only [nq, nr, nl] at h4
  refine qqo (ar (qqa (qjh rfl rfl zz zz) (om rfl (on ?_))))
  exact ⟨k + 1, zz, ⟨⟨rfl, rfl⟩, ⟨rfl, trivial⟩, trivial, ⟨rfl, rfl⟩, ⟨rfl, rfl⟩⟩, zz⟩
 have h2r := h2
 try simp only [nq, nr, nl] at h2
 refine qjf (rs (om rfl ?_))
 refine qz0 (fun ver => qza (v := .own 32 ver) (hp1 := [(32, some (ver, .row 3 1 _))]) [] false [] ent108 (f_cloneI L (by omega)) ⟨.inl ⟨rfl, rfl⟩, trivial⟩ trivial rfl rfl rfl (fun h => by cases h) rfl (List.all_eq_true.1 rfl) (.inl rfl) rfl rfl) fun v32x2 => ?_
 refine oa rfl (on (rs (om rfl ?_)))
 refine qq0 (qqn (v := .tup []) (hp1 := [(32, some (v32x2, .row 3 1 _))]) [(32, v32x2)] false [32] ent109 (f_sortFuncP L h) ⟨.inl ⟨rfl, rfl⟩, .inl ⟨rfl, rfl⟩, trivial⟩ ⟨⟨rfl, rfl⟩, trivial⟩ rfl rfl (fun h => by cases h) rfl (List.all_eq_true.1 rfl) (.inl rfl) rfl rfl) ?_
 refine on (rs (qqa (qjp (parts := [(1, .const (.int .i64 1))]) str69 qjm rfl rfl) ?_))
 refine qqv (fun ver => qjd qjm rfl) fun v7x3 => ?_
 refine qjg (qqe qq7 rfl rfl rfl rfl rfl rfl) ?_
 refine on (qjy 0 1007 135 2 (by decide) (id := 7) rfl rfl fun v1007x4 => ?_)
 refine qqf (rs (om rfl ?_))
 refine qq0 (qqn (v := .own 32 v32x2) (hp1 := [(32, some (v32x2, .row 3 1 _))]) [(32, v32x2)] false [32] ent112 (f_compact (srtS L) (apt_asc h)) ⟨.inl ⟨rfl, rfl⟩, trivial⟩ ⟨⟨rfl, rfl⟩, trivial⟩ rfl rfl (fun h => by cases h) rfl (List.all_eq_true.1 rfl) (.inl rfl) rfl rfl) ?_
 refine qqa (qja Tryz.underlying23 rfl rfl) (om rfl (on (qqk (qq4 (ι := Nat × Nat) (fun x => x.1 ≤ (srtS L).length) (fun x r => (39, .p (.int .i64 ((x.1 : Nat)))) :: r) (fun x r => (7, some (v7x3, .box 69 [.own 1007 x.2, .p (.int .i64 1)])) :: (1007, some (x.2, .row 135 2 ((((srtS L).take x.1).map oneL).map dT))) :: r) (fun x => (srtS L).length - x.1) (fun _ _ => rfl) (fun _ _ => rfl) (0, v1007x4) (by first | exact (Nat.zero_le _) | (dsimp only; exact (Nat.zero_le _))) ⟨⟨rfl, rfl⟩, ⟨rfl, trivial⟩, ⟨rfl, rfl, trivial⟩, ⟨rfl, rfl⟩, ⟨rfl, rfl⟩⟩ ?_))))
 rintro ⟨j, w⟩ hj; dsimp only at hj ⊢
 refine rs (qqa (qzt rfl rfl) (on (qqf (ac rfl (fun h5 => ?_) fun h5 => ?_))))
 ·
  have h5r := h5
  try simp only [nq, nr, nl] at h5
  refine qqo (qqf (qqk (rs (qqa (qq2 qjb rfl rfl rfl rfl zz) (qqa (qjo qq6 rfl rfl (qqq zz) rfl) (oa rfl (on (ar (qqa (qqi qjn rfl rfl) (qqa (qqc qjv rfl rfl rfl) (om rfl (qqa (qjp (parts := [(0, .const (.int .i64 1)), (1, .tmp 45)]) str135 qjx rfl rfl) ?_))))))))))))
  refine qqv (fun ver => qqh (parts := [(0, .tmp 46)]) (es := [[_, _]]) qzc qjx rfl rfl (by decide) (by decide) rfl rfl (by simp) rfl) fun v47x5 => ?_
  refine qqv (fun ver => qqs qzc qjx rfl rfl rfl rfl rfl rfl (by rw [qqu]; first | omega | (simp only [nr, nl]; omega)) zz) fun v1007x6 => ?_
  refine qqa (qqi qjn rfl rfl) (qjg (qq5 qjv rfl rfl (nb rfl) (evo rfl) rfl) ?_)
  refine on (ar (qqa (qjh rfl rfl zz zz) (om rfl (on ?_))))
  exact ⟨(j + 1, v1007x6), (by first | exact zz | (dsimp only; exact zz)), ⟨⟨rfl, rfl⟩, ⟨rfl, trivial⟩, ⟨rfl, qj0 (by dsimp only; rw [qjj (d := (default : Int)) zz, List.map_append, List.map_append]; rfl), trivial⟩, ⟨rfl, rfl⟩, ⟨rfl, rfl⟩⟩, (by first | exact zz | (dsimp only; exact zz))⟩
 have h5r := h5
 try simp only [nq, nr, nl] at h5
 refine qjf (qqf (qjk 0 7 (by decide) trivial rfl rfl rfl rfl ?_))
 try dsimp only [List.set]
 refine ar (qqa (qqg (ys := [.sl _, .p _]) qq7 rfl rfl rfl (nb rfl)) (qjg (qqe qq7 rfl rfl rfl rfl rfl rfl) ?_))
 refine oa rfl (on (qqx ?_))
 exact ⟨[.agg [.sl _, .p _], .p _], .tup [.agg [.sl _, .p _], .p _], [], [], [], ⟨⟨_, _, _, _, rfl, rfl, qq7, rfl⟩, rfl, trivial⟩, rfl, rfl, trivial, rfl, rfl, ⟨by rw [List.take_of_length_le zz], rfl, rfl⟩⟩
theorem f_clauseSpecP (L : List Int) (h : apt L) : Fn Tryz.prog 191 [.sl (L.map dI)] [] (fun rr ii nn => rr = .tup [.agg [.sl (((srtS L).map oneL).map dT), .p (.int .i64 1)], .p (.bool true)] ∧ ii = [] ∧ nn = []) := by
 refine qjl Tryz.func191 rfl (nb rfl) fun w X g => ?_
 show AWp _ _ _ ⟨[(0, .sl (L.map dI))], []⟩
 have hll := apt_len h
 have ha := apt_asc h
 refine rs (qqv (fun ver => qjd qjm rfl) fun v2x1 => ?_)
 refine oa rfl (on (rs (qqv (fun ver => j_make (n := 13) qjb elt3 rfl rfl (by decide) rfl rfl rfl rfl zar1 (by rw [qqu]; first | omega | (simp only [nr, nl, qj4]; omega))) fun v9x2 => ?_)))
 refine oa rfl (on (a_row 9 (es' := (rowS []).map dI) rfl rowS_nil.symm ?_))
 refine qqf (rs (om rfl (qqa (qqw Tryz.underlying23 rfl) (qqa (j_gt rfl rfl) (on (ac rfl (fun h1 => ?_) fun h1 => ?_))))))
 ·
  have h1r := h1
  try simp only [nq, nr, nl, qj4] at h1
  exact absurd (of_decide_eq_true h1r) (by omega)
 have h1r := h1
 try simp only [nq, nr, nl, qj4] at h1
 refine qqo (qqf (rs (oa rfl (on (qqk (qq4 (ι := Nat) (fun k => k ≤ L.length) (fun k r => (5, .p (.int .i64 ((k : Nat)))) :: r) (fun k r => (9, some (v9x2, .row 3 1 ((rowS (L.take k)).map dI))) :: r) (fun k => L.length - k) (fun _ _ => rfl) (fun _ _ => rfl) 0 zar1 ⟨⟨rfl, rfl⟩, ⟨rfl, trivial⟩, ⟨rfl, trivial⟩, ⟨rfl, rfl⟩, ⟨rfl, rfl⟩⟩ ?_))))))
 intro k hpre0
 refine qqf (rs (om rfl (om rfl (qqa (qqw Tryz.underlying23 rfl) (qqa (qzt rfl rfl) (on (ac rfl (fun h2 => ?_) fun h2 => ?_)))))))
 ·
  have h2r := h2
  try simp only [nq, nr, nl, qj4] at h2
  refine qqo (qqf (qqk (qqf (qqf ?_))))
  have hlo := apt_at h (k := k) (by omega)
  have hli := litOk_iff.1 hlo
  have hvo : varOf (L.getD k default) = max (L.getD k default) (-(L.getD k default)) := rfl
  have hs0 : (rowS (L.take k)).getD (varOf (L.getD k default)).toNat default = 0 := by rw [rowS_at (by omega), Int.toNat_of_nonneg (by omega)]; exact seen_0 (apt_take_ne h (by omega))
  refine ar (om rfl (om rfl (qqa (qq9 qjb rfl rfl rfl (qqq zar1) rfl) (qqa (qq8 qq6 rfl (qqq zar1) rfl) ?_))))
  refine qq0 (qqn (v := .p _) (hp1 := []) [] false [] ent170 (f_l1Lit _) ⟨.inl ⟨rfl, rfl⟩, trivial⟩ trivial rfl rfl (fun h => by cases h) rfl (fun _ h => by cases h) (.inl rfl) rfl rfl) ?_
  refine qqa (qzk rfl) (on (ac rfl (fun h3 => ?_) fun h3 => ?_))
  ·
   have h3r := h3
   try simp only [nq, nr, nl, qj4] at h3
   exact absurd h3r (by rw [hlo]; decide)
  have h3r := h3
  try simp only [nq, nr, nl, qj4] at h3
  refine qqo (rs (om rfl (om rfl (qqa (qq9 qjb rfl rfl rfl (qqq zar1) rfl) (qqa (qq8 qq6 rfl (qqq zar1) rfl) ?_)))))
  refine qq0 (qqn (v := .p _) (hp1 := []) [] false [] ent171 (f_l1Abs _ zar1) ⟨.inl ⟨rfl, rfl⟩, trivial⟩ trivial rfl rfl (fun h => by cases h) rfl (fun _ h => by cases h) (.inl rfl) rfl rfl) ?_
  refine oa rfl (on (qqf (qqf (qj3 qzr (by kernel_rfl) (by kernel_rfl) fun vf => ?_))))
  refine qql (qqj (evo rfl)) (qql (qqj (evo rfl)) (qql (qq2 (n := (varOf (L.getD k default)).toNat) qjb rfl rfl rfl zar1 zar1) ?_))
  refine qql (qjo qq6 rfl rfl (qqq zar1) rfl) (qql (qqj (evo rfl)) (qql (qqj (evo rfl)) (qql (qq9 qjb rfl rfl rfl (qqq zar1) rfl) (qql (qq8 qq6 rfl (qqq zar1) rfl) (qql (j_neg rfl zar1 zar1) (qql (qz5 rfl rfl) (qzf (by kernel_rfl) (by kernel_rfl) ?_)))))))
  refine ac rfl (fun h4 => ?_) fun h4 => ?_
  ·
   have h4r := h4
   try simp only [nq, nr, nl, qj4] at h4
   exact absurd (of_decide_eq_true h4r) (by rw [hs0]; omega)
  have h4r := h4
  try simp only [nq, nr, nl, qj4] at h4
  refine qqo (ar (om rfl (om rfl (om rfl (om rfl (qqa (qq9 qjb rfl rfl rfl (qqq zar1) rfl) (qqa (qq8 qq6 rfl (qqq zar1) rfl) (qqa (qq2 (n := (varOf (L.getD k default)).toNat) qjb rfl rfl rfl zar1 zar1) ?_))))))))
  refine qjg (qzj qq6 rfl rfl zar1 (evo rfl) rfl rfl) ?_
  refine on (ar (om rfl (qqa (qjh rfl rfl zar1 zar1) (oa rfl (on ?_)))))
  exact ⟨k + 1, zar1, ⟨⟨rfl, rfl⟩, ⟨rfl, trivial⟩, ⟨qj0 (rowS_setA h (by omega)), trivial⟩, ⟨rfl, rfl⟩, ⟨rfl, rfl⟩⟩, zar1⟩
 have h2r := h2
 try simp only [nq, nr, nl, qj4] at h2
 refine qjf (rs (qqa (qjp (parts := [(1, .const (.int .i64 1))]) str69 qjm rfl rfl) ?_))
 refine qqv (fun ver => qjd qjm rfl) fun v7x3 => ?_
 refine qjg (qqe qq7 rfl rfl rfl rfl rfl rfl) ?_
 refine on (qjy 0 1007 135 2 (by decide) (id := 7) rfl rfl fun v1007x4 => ?_)
 refine qqf (rs (oa rfl (on (qqk (qq4 (ι := Nat × Nat) (fun x => x.1 ≤ 12) (fun x r => (8, .p (.int .i64 ((x.1 : Nat) + 1))) :: r) (fun x r => (7, some (v7x3, .box 69 [.own 1007 x.2, .p (.int .i64 1)])) :: (1007, some (x.2, .row 135 2 (((filtN (srtS L) (x.1 : Int)).map oneL).map dT))) :: r) (fun x => 12 - x.1) (fun _ _ => rfl) (fun _ _ => rfl) (0, v1007x4) (by first | exact (Nat.zero_le _) | (dsimp only; exact (Nat.zero_le _))) ⟨⟨rfl, rfl⟩, ⟨rfl, trivial⟩, ⟨rfl, qj0 (by rw [show filtN (srtS L) ((0 : Nat) : Int) = [] from filt_gt ha (Int.le_refl 0)]; rfl), trivial⟩, ⟨rfl, rfl⟩, ⟨rfl, rfl⟩⟩ ?_)))))
 rintro ⟨v, vr⟩ hpv; dsimp only at hpv ⊢; obtain rfl : k = L.length := (by omega); rw [List.take_length, rowS_srt h]; have hfl : (filtN (srtS L) (v : Int)).length ≤ (srtS L).length := List.length_filter_le ..; have hal := asc_len ha
 refine qqf (rs (om rfl (qqa (j_le rfl rfl) (on (ac rfl (fun h5 => ?_) fun h5 => ?_)))))
 ·
  have h5r := h5
  try simp only [nq, nr, nl, qj4] at h5
  have hra : (rowS (srtS L)).getD (v + 1) default = seenG (srtS L) ((v : Int) + 1) := rowS_at (by omega)
  refine qqo (qqf (qqk (rs (om rfl (om rfl (qqa (qq2 (n := v + 1) qjb rfl rfl rfl zar1 zar1) (qqa (qjo qq6 rfl rfl (qqq zar1) rfl) (qqa (j_ne rfl rfl) (on (ac rfl (fun h6 => ?_) fun h6 => ?_))))))))))
  ·
   have h6r := h6
   try simp only [nq, nr, nl, qj4] at h6
   refine qj3 qzr (by kernel_rfl) (by kernel_rfl) fun vf => ?_
   refine qql (qqi qjn rfl rfl) (qql (qqc qjv rfl rfl rfl) (qql (qqj (evo rfl)) (qql (qqj (evo rfl)) (qql (qq2 (n := v + 1) qjb rfl rfl rfl zar1 zar1) (qql (qjo qq6 rfl rfl (qqq zar1) rfl) (qql (qjp (parts := [(0, .const (.int .i64 1)), (1, .tmp 65)]) str135 qjx rfl rfl) ?_))))))
   refine d_n' (fun ver => qqh (parts := [(0, .tmp 66)]) (es := [[_, _]]) qzc qjx rfl rfl (by decide) (by decide) rfl rfl (by simp) rfl) ?_
   refine d_n' (fun ver => qqs qzc qjx rfl rfl rfl rfl rfl rfl (by rw [qqu]; first | omega | (simp only [nr, nl, qj4]; omega)) zar1) ?_
   refine qql (qqi qjn rfl rfl) (d_s' (qq5 qjv rfl rfl (nb rfl) (evo rfl) rfl) ?_)
   refine qzf (by kernel_rfl) (by kernel_rfl) ?_
   refine ar (om rfl (qqa (qjh rfl rfl zar1 zar1) (oa rfl (on ?_))))
   exact ⟨(v + 1, (vf 1007)), (by first | exact zar1 | (dsimp only; exact zar1)), ⟨⟨rfl, rfl⟩, ⟨rfl, trivial⟩, ⟨rfl, qj0 (by rw [show (((v + 1 : Nat) : Nat) : Int) = (v : Int) + 1 from rfl, filt_next ha, if_pos (by rw [← hra]; assumption), List.map_append, List.map_append, ← hra]; rfl), trivial⟩, ⟨rfl, rfl⟩, ⟨rfl, rfl⟩⟩, (by first | exact zar1 | (dsimp only; exact zar1))⟩
  have h6r := h6
  try simp only [nq, nr, nl, qj4] at h6
  refine qqo (ar (om rfl (qqa (qjh rfl rfl zar1 zar1) (oa rfl (on ?_)))))
  exact ⟨(v + 1, vr), (by first | exact zar1 | (dsimp only; exact zar1)), ⟨⟨rfl, rfl⟩, ⟨rfl, trivial⟩, ⟨rfl, qj0 (by rw [show (((v + 1 : Nat) : Nat) : Int) = (v : Int) + 1 from rfl, filt_next ha, if_neg (by rw [← hra]; omega), List.append_nil]), trivial⟩, ⟨rfl, rfl⟩, ⟨rfl, rfl⟩⟩, (by first | exact zar1 | (dsimp only; exact zar1))⟩
 have h5r := h5
 try simp only [nq, nr, nl, qj4] at h5
 refine qjf (rs (qqa (qqg (ys := [.own 1007 vr, .p _]) qq7 rfl rfl rfl (nb rfl)) (qjg (qqe qq7 rfl rfl rfl rfl rfl rfl) ?_)))
 refine oa rfl (on (qjk 0 2 (by decide) trivial rfl rfl rfl rfl ?_))
 try dsimp only [List.set]
 refine qqx ?_
 exact ⟨[.agg [.sl _, .p _], .p _], .tup [.agg [.sl _, .p _], .p _], [], [], [], ⟨⟨_, _, _, _, rfl, rfl, qq7, rfl⟩, rfl, trivial⟩, rfl, rfl, trivial, rfl, rfl, ⟨by rw [show v = 12 by omega]; rw [show filtN (srtS L) ((12 : Nat) : Int) = (srtS L) from filt_all ha], rfl, rfl⟩⟩
end Go.Ab

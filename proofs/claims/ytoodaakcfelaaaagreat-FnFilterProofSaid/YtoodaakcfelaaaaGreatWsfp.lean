/- Walks. -/
import Derived.Test.YtoodaakcfelaaaaGreatBase2
import Derived.Test.YtoodaakcfelaaaaGreatEnc4
import Derived.Test.YtoodaakcfelaaaaGreatWsenc
import Derived.Test.YtoodaakcfelaaaaGreatWsdfr
import Derived.Test.YtoodaakcfelaaaaGreatWsfm
namespace Go.Ab
open Go.Proofs
set_option maxRecDepth 100000
set_option maxHeartbeats 8000000
set_option linter.unusedSimpArgs false
set_option linter.unusedVariables false
theorem f_lawFP (b1 b2 : List Int) (hb1 : ∀ a ∈ b1, 0 ≤ a ∧ a ≤ 255) (hb2 : ∀ a ∈ b2, 0 ≤ a ∧ a ≤ 255) : Fn Tryz.prog 7 [.sl (b1.map dU), .sl (b2.map dU)] [] (fun rr ii nn => rr = .p (.bool true) ∧ ii = [] ∧ nn = []) := by
 refine qjm Tryz.func7 rfl (nb rfl) fun w X g => ?_
 show AWp _ _ _ ⟨[(0, .sl (b1.map dU)), (1, .sl (b2.map dU))], []⟩
 refine qj6 0 rfl fun hl1 => ?_
 refine qj6 1 rfl fun hl2 => ?_
 refine rs (oa rfl (on (qqe (rs (om rfl (qqa (qqg Tryz.underlying41 rfl) (qqa (j_gt rfl rfl) (om rfl (qqx 22 rfl (fun h1 => ?_) (fun h1 => ?_))))))))))
 ·
  have h1r := h1
  try simp only [nq, nr] at h1
  refine qqa (qqb rfl rfl h1r) (qqa (qqb rfl rfl h1r) (qqa (qqb rfl rfl h1r) (qqa (qqu rfl h1r (evo rfl)) (on (a_tt rfl ?_)))))
  refine rs (oa rfl (on (qqm ?_)))
  exact qq8 rfl ⟨qqv (by first | (simp; done) | assumption | (exfalso; simp_all; done) | (simp_all; done) | (simp_all; omega)), rfl, rfl⟩
 have h1r := h1
 try simp only [nq, nr] at h1
 refine qqa (qqd rfl rfl h1r (qql (evo rfl))) (qqa (qqd rfl rfl h1r (qqg Tryz.underlying41 rfl)) (qqa (qqd rfl rfl h1r (j_gt rfl rfl)) (qqa (qqt rfl h1r (evo rfl)) (on (ac rfl (fun h2 => ?_) fun h2 => ?_)))))
 ·
  have h2r := h2
  try simp only [nq, nr] at h2
  refine rs (oa rfl (on (qqm ?_)))
  exact qq8 rfl ⟨qqv (by first | (simp; done) | assumption | (exfalso; simp_all; done) | (simp_all; done) | (simp_all; omega)), rfl, rfl⟩
 have h2r := h2
 try simp only [nq, nr] at h2
 refine qqj (rs (om rfl (op_callE (v := fun x => .agg [.sl _, .sl _]) (hp1 := fun x => []) [] false ent36 (f_dFD b1 hb1) ⟨.inl ⟨rfl, rfl⟩, trivial⟩ trivial rfl (fun _ => rfl) (fun _ => rfl) (.inl rfl) (fun _ => rfl) (fun _ => rfl) ?_)))
 rintro m hw
 try dsimp only at hw
 have hwr : wRS m.2 ≤ 1048576 := by unfold wM at hw; omega
 dsimp only [List.cons_append, List.nil_append]
 refine qq5 (fun ver => qjv elt60 rfl) fun v5x1 => ?_
 refine qjo (qqs qjw rfl rfl rfl rfl rfl rfl) ?_
 refine on (rs (qqa (qqk (ys := [.sl _, .sl _]) qjw rfl rfl rfl (nb rfl)) ?_))
 refine qq3 (qqn (v := .tup [.sl _, .p _]) (hp1 := []) [] false [] ent37 (f_encM m) ⟨.inl ⟨rfl, rfl⟩, trivial⟩ trivial rfl rfl (fun h => by cases h) rfl (fun _ h => by cases h) (.inl rfl) rfl rfl) ?_
 refine om rfl (qqa (qjg rfl rfl) (qqa (qjg rfl rfl) (oa rfl (oa rfl (on (qqe (qjz qzj (by kernel_rfl) (by kernel_rfl) fun vf => ?_)))))))
 refine qqq (qqk (ys := [.sl _, .sl _]) qjw rfl rfl rfl (nb rfl)) (qqq (qqk (ys := [.sl _, .sl _]) qjw rfl rfl rfl (nb rfl)) ?_)
 refine d_n1' (fun ver => qj8 (v := .own 37 ver) (hp1 := [(37, some (ver, .deep (.mk 44 1 [(0, (.mk 4 1 []))]) _ none))]) [] false [] ent39 (f_fdImpl m) ⟨.inl ⟨rfl, rfl⟩, trivial⟩ trivial rfl rfl rfl (fun h => by cases h) rfl (List.all_eq_true.1 rfl) (.inl rfl) rfl rfl) ?_
 refine d_n1' (fun ver => qj8 (v := .tup [.own 38 ver, .p _]) (hp1 := [(38, some (ver, .deep (.mk 44 1 [(0, (.mk 4 1 []))]) _ none))]) [] true [37] ent38 (f_fmImpl m (fullD m) hwr) ⟨.inl ⟨rfl, rfl⟩, .inr ⟨rfl, view_ownD rfl rfl, rfl⟩, trivial⟩ trivial rfl rfl rfl (fun _ => rfl) rfl (List.all_eq_true.1 rfl) (.inr ⟨rfl, pl_newB⟩) rfl rfl) ?_
 refine qqq (qql (evo rfl)) (qqq (qjg rfl rfl) (qqq (qjg rfl rfl) (qqq (qzp (evo rfl)) (qqq (qzp (evo rfl)) (qze (by kernel_rfl) (by kernel_rfl) ?_)))))
 refine a_freezeG 8 trivial rfl rfl rfl rfl ?_
 refine qqe (qjz qzj (by kernel_rfl) (by kernel_rfl) fun vf6 => ?_)
 refine qqq (qqk (ys := [.sl _, .sl _]) qjw rfl rfl rfl (nb rfl)) (qqq (qqk (ys := [.sl _, .sl _]) qjw rfl rfl rfl (nb rfl)) ?_)
 refine d_v0' (qqn (v := .sl _) (hp1 := []) [] false [] ent41 (f_fdSpec m) ⟨.inl ⟨rfl, rfl⟩, trivial⟩ trivial rfl rfl (fun h => by cases h) rfl (fun _ h => by cases h) (.inl rfl) rfl rfl) ?_
 refine d_v0' (qqn (v := .tup [.sl _, .p _]) (hp1 := []) [] false [] ent40 (f_fmSpec m (fullD m) hwr) ⟨.inl ⟨rfl, rfl⟩, .inl ⟨rfl, rfl⟩, trivial⟩ trivial rfl rfl (fun h => by cases h) rfl (fun _ h => by cases h) (.inl rfl) rfl rfl) ?_
 refine qqq (qql (evo rfl)) (qqq (qjg rfl rfl) (qqq (qjg rfl rfl) (qqq (qzp (evo rfl)) (qqq (qzp (evo rfl)) (qze (by kernel_rfl) (by kernel_rfl) ?_)))))
 refine qqe (rs (om rfl (om rfl (qqa (j_neb Tryz.underlying4 rfl rfl) (om rfl (qqx 51 rfl (fun h3 => ?_) (fun h3 => ?_)))))))
 ·
  have h3r := h3
  try simp only [nq, nr] at h3
  refine qqa (qqb rfl rfl h3r) (qqa (qqb rfl rfl h3r) (qqa (qqb rfl rfl h3r) (qqa (qqb rfl rfl h3r) (qqa (qqu rfl h3r (evo rfl)) (om rfl (qqa (qqb rfl rfl rfl) (qqa (qqb rfl rfl rfl) (qqa (qqu rfl rfl (evo rfl)) (om rfl (qqa (qqb rfl rfl rfl) (qqa (qqb rfl rfl rfl) (qqa (qqu rfl rfl (evo rfl)) (on (a_tt rfl ?_))))))))))))))
  refine rs (om rfl (om rfl (qqa (j_eqb Tryz.underlying4 rfl rfl) (om rfl (qqx 68 rfl (fun h4 => ?_) (fun h4 => ?_))))))
  ·
   have h4r := h4
   try simp only [nq, nr] at h4
   refine qqa (qqd rfl rfl h4r (qql (evo rfl))) (qqa (qqd rfl rfl h4r (qql (evo rfl))) ?_)
   refine qq3 (qqd rfl rfl h4r (qqn (v := .p _) (hp1 := []) [] false [] ent28 (f_cpRows (fmD m (fullD m)) (fmD m (fullD m))) ⟨.inl ⟨rfl, rfl⟩, .inl ⟨rfl, rfl⟩, trivial⟩ trivial rfl rfl (fun h => by cases h) rfl (fun _ h => by cases h) (.inl rfl) rfl rfl)) ?_
   refine qqa (qqu rfl h4r (evo rfl)) (oa rfl (on (qqm ?_)))
   exact qq8 rfl ⟨qqv (by first | (simp; done) | assumption | (exfalso; simp_all; done) | (simp_all; done) | (simp_all; omega)), rfl, rfl⟩
  have h4r := h4
  try simp only [nq, nr] at h4
  refine qqa (qqb rfl rfl h4r) (qqa (qqb rfl rfl h4r) (qqa (qqb rfl rfl h4r) (qqa (qqt rfl h4r (evo rfl)) (oa rfl (on (qqm ?_))))))
  exact qq8 rfl ⟨qqv (by first | (simp; done) | assumption | (exfalso; simp_all; done) | (simp_all; done) | (simp_all; omega)), rfl, rfl⟩
 have h3r := h3
 try simp only [nq, nr] at h3
 refine qqa (qqd rfl rfl h3r (qql (evo rfl))) (qqa (qqd rfl rfl h3r (qql (evo rfl))) ?_)
 refine qq3 (qqd rfl rfl h3r (qqn (v := .p _) (hp1 := []) [] false [] ent28 (f_cpRows (fmD m (fullD m)) (fmD m (fullD m))) ⟨.inl ⟨rfl, rfl⟩, .inl ⟨rfl, rfl⟩, trivial⟩ trivial rfl rfl (fun h => by cases h) rfl (fun _ h => by cases h) (.inl rfl) rfl rfl)) ?_
 refine qqa (qqd rfl rfl h3r (qzw rfl)) (qqa (qqt rfl h3r (evo rfl)) (om rfl (qqx 57 rfl (fun h5 => ?_) (fun h5 => ?_))))
 ·
  have h5r := h5
  try simp only [nq, nr] at h5
  refine qqa (qqb rfl rfl h5r) (qqa (qqb rfl rfl h5r) (qqa (qqu rfl h5r (evo rfl)) (om rfl (qqa (qqb rfl rfl rfl) (qqa (qqb rfl rfl rfl) (qqa (qqu rfl rfl (evo rfl)) (on (a_tt rfl ?_))))))))
  refine rs (om rfl (om rfl (qqa (j_eqb Tryz.underlying4 rfl rfl) (om rfl (qqx 68 rfl (fun h6 => ?_) (fun h6 => ?_))))))
  ·
   have h6r := h6
   try simp only [nq, nr] at h6
   refine qqa (qqd rfl rfl h6r (qql (evo rfl))) (qqa (qqd rfl rfl h6r (qql (evo rfl))) ?_)
   refine qq3 (qqd rfl rfl h6r (qqn (v := .p _) (hp1 := []) [] false [] ent28 (f_cpRows (fmD m (fullD m)) (fmD m (fullD m))) ⟨.inl ⟨rfl, rfl⟩, .inl ⟨rfl, rfl⟩, trivial⟩ trivial rfl rfl (fun h => by cases h) rfl (fun _ h => by cases h) (.inl rfl) rfl rfl)) ?_
   refine qqa (qqu rfl h6r (evo rfl)) (oa rfl (on (qqm ?_)))
   exact qq8 rfl ⟨qqv (by first | (simp; done) | assumption | (exfalso; simp_all; done) | (simp_all; done) | (simp_all; omega)), rfl, rfl⟩
  have h6r := h6
  try simp only [nq, nr] at h6
  refine qqa (qqb rfl rfl h6r) (qqa (qqb rfl rfl h6r) (qqa (qqb rfl rfl h6r) (qqa (qqt rfl h6r (evo rfl)) (oa rfl (on (qqm ?_))))))
  exact qq8 rfl ⟨qqv (by first | (simp; done) | assumption | (exfalso; simp_all; done) | (simp_all; done) | (simp_all; omega)), rfl, rfl⟩
 have h5r := h5
 try simp only [nq, nr] at h5
 refine qqa (qqd rfl rfl h5r (qql (evo rfl))) (qqa (qqd rfl rfl h5r (qzw rfl)) (qqa (qqt rfl h5r (evo rfl)) (om rfl (qqx 61 rfl (fun h7 => ?_) (fun h7 => ?_)))))
 ·
  have h7r := h7
  try simp only [nq, nr] at h7
  refine qqa (qqb rfl rfl h7r) (qqa (qqb rfl rfl h7r) (qqa (qqu rfl h7r (evo rfl)) (on (a_tt rfl ?_))))
  refine rs (om rfl (om rfl (qqa (j_eqb Tryz.underlying4 rfl rfl) (om rfl (qqx 68 rfl (fun h8 => ?_) (fun h8 => ?_))))))
  ·
   have h8r := h8
   try simp only [nq, nr] at h8
   refine qqa (qqd rfl rfl h8r (qql (evo rfl))) (qqa (qqd rfl rfl h8r (qql (evo rfl))) ?_)
   refine qq3 (qqd rfl rfl h8r (qqn (v := .p _) (hp1 := []) [] false [] ent28 (f_cpRows (fmD m (fullD m)) (fmD m (fullD m))) ⟨.inl ⟨rfl, rfl⟩, .inl ⟨rfl, rfl⟩, trivial⟩ trivial rfl rfl (fun h => by cases h) rfl (fun _ h => by cases h) (.inl rfl) rfl rfl)) ?_
   refine qqa (qqu rfl h8r (evo rfl)) (oa rfl (on (qqm ?_)))
   exact qq8 rfl ⟨qqv (by first | (simp; done) | assumption | (exfalso; simp_all; done) | (simp_all; done) | (simp_all; omega)), rfl, rfl⟩
  have h8r := h8
  try simp only [nq, nr] at h8
  refine qqa (qqb rfl rfl h8r) (qqa (qqb rfl rfl h8r) (qqa (qqb rfl rfl h8r) (qqa (qqt rfl h8r (evo rfl)) (oa rfl (on (qqm ?_))))))
  exact qq8 rfl ⟨qqv (by first | (simp; done) | assumption | (exfalso; simp_all; done) | (simp_all; done) | (simp_all; omega)), rfl, rfl⟩
 have h7r := h7
 try simp only [nq, nr] at h7
 refine qqa (qqd rfl rfl h7r (qql (evo rfl))) (qqa (qqd rfl rfl h7r (qzw rfl)) (qqa (qqt rfl h7r (evo rfl)) (on (ac rfl (fun h9 => ?_) fun h9 => ?_))))
 ·
  have h9r := h9
  try simp only [nq, nr] at h9
  refine rs (om rfl (om rfl (qqa (j_eqb Tryz.underlying4 rfl rfl) (om rfl (qqx 68 rfl (fun h10 => ?_) (fun h10 => ?_))))))
  ·
   have h10r := h10
   try simp only [nq, nr] at h10
   refine qqa (qqd rfl rfl h10r (qql (evo rfl))) (qqa (qqd rfl rfl h10r (qql (evo rfl))) ?_)
   refine qq3 (qqd rfl rfl h10r (qqn (v := .p _) (hp1 := []) [] false [] ent28 (f_cpRows (fmD m (fullD m)) (fmD m (fullD m))) ⟨.inl ⟨rfl, rfl⟩, .inl ⟨rfl, rfl⟩, trivial⟩ trivial rfl rfl (fun h => by cases h) rfl (fun _ h => by cases h) (.inl rfl) rfl rfl)) ?_
   refine qqa (qqu rfl h10r (evo rfl)) (oa rfl (on (qqm ?_)))
   exact qq8 rfl ⟨qqv (by first | (simp; done) | assumption | (exfalso; simp_all; done) | (simp_all; done) | (simp_all; omega)), rfl, rfl⟩
  have h10r := h10
  try simp only [nq, nr] at h10
  refine qqa (qqb rfl rfl h10r) (qqa (qqb rfl rfl h10r) (qqa (qqb rfl rfl h10r) (qqa (qqt rfl h10r (evo rfl)) (oa rfl (on (qqm ?_))))))
  exact qq8 rfl ⟨qqv (by first | (simp; done) | assumption | (exfalso; simp_all; done) | (simp_all; done) | (simp_all; omega)), rfl, rfl⟩
 have h9r := h9
 try simp only [nq, nr] at h9
 refine qqj (qqe ?_)
 have hdm : dmB m (fullD m) = true := by assumption
 have hm := (dm_parts hdm).1
 have hms := qzx hm
 have hfit := fits_at (dm_parts (fm_dm hdm)).2
 have hl3 : (fmD m (fullD m)).length = m.1.length := hfit.1
 refine ar (om rfl (qqa (qqg Tryz.underlying41 rfl) (om rfl (qqa (qqg Tryz.underlying24 rfl) (qqa (j_rem rfl rfl zr zr) (oa rfl (on (qqe ?_))))))))
 have hve : ∃ v : Nat, v < (fmD m (fullD m)).length ∧ (b2.length : Int) % (fmD m (fullD m)).length = v := ⟨b2.length % (fmD m (fullD m)).length, Nat.mod_lt _ (by omega), rfl⟩
 obtain ⟨v, hv, hve⟩ := hve
 rw [hve]
 have hrv := hfit.2 v (by omega)
 have hsv := hms.2 v (by omega)
 refine ar (om rfl (qqa (qqg Tryz.underlying41 rfl) (om rfl (om rfl (qqa (qqy (n := v) slt24 rfl rfl (by omega) (qqh zr) rfl) (qqa (qqp leaf44 rfl (qqh zr) rfl) (qqa (qqg Tryz.underlying44 rfl) (qqa (j_rem rfl rfl zr zr) (oa rfl (on (qqe ?_)))))))))))
 have hke : ∃ k2 : Nat, k2 < ((fmD m (fullD m)).getD v default).length ∧ (b1.length : Int) % ((fmD m (fullD m)).getD v default).length = k2 := ⟨b1.length % ((fmD m (fullD m)).getD v default).length, Nat.mod_lt _ (by omega), rfl⟩
 obtain ⟨k2, hk2, hke⟩ := hke
 rw [hke]
 have hbv := bv_rng hm (c := v) (x := ((k2 : Nat) : Int)) (by omega) (by omega)
 have hfp := fp_law hm hw.2 (show emOk m = true by assumption) (v := v) (k := k2) (by omega) (by omega)
 refine ar (qqa (qqk (ys := [.sl _, .sl _]) qjw rfl rfl rfl (nb rfl)) (om rfl (om rfl ?_)))
 refine qq3 (qqn (v := .p _) (hp1 := []) [] false [] ent43 (f_boolVar m v k2 hm (by omega) (by omega)) ⟨.inl ⟨rfl, rfl⟩, .inl ⟨rfl, rfl⟩, .inl ⟨rfl, rfl⟩, trivial⟩ trivial rfl rfl (fun h => by cases h) rfl (fun _ h => by cases h) (.inl rfl) rfl rfl) ?_
 refine qqa (j_neg rfl zr zr) (qq5 (fun ver => qqw (parts := [(0, .tmp 91)]) (es := ([-(bvI m.1 v ((k2 : Nat) : Int))].map dI)) qqz qz7 rfl rfl (by decide) (by decide) rfl rfl (by intro x hx; simp at hx; subst hx; rfl) rfl) fun v92x2 => ?_)
 refine op_freezeK 92 trivial rfl rfl rfl ?_
 refine qq3 (qqn (v := .tup [.agg [.sl _, .p _], .p _]) (hp1 := []) [] false [] ent42 (f_clauseImplP [-(bvI m.1 v ((k2 : Nat) : Int))] (bv_apt hm (by omega) (by omega))) ⟨.inl ⟨rfl, rfl⟩, trivial⟩ trivial rfl rfl (fun h => by cases h) rfl (fun _ h => by cases h) (.inl rfl) rfl rfl) ?_
 refine om rfl (qqa (qjg rfl rfl) (qqa (qjg rfl rfl) (qq5 (fun ver => qjv qz5 rfl) fun v14x3 => ?_)))
 refine qjo (qqs qzn rfl rfl rfl rfl rfl rfl) ?_
 refine oa rfl (on (rs (om rfl (qqa (qqk (ys := [.sl _, .p _]) qzn rfl rfl rfl (nb rfl)) ?_))))
 refine qq3 (qqn (v := .tup [.p _, .sl _, .sl _]) (hp1 := []) [] false [] ent44 (f_proveImpl (emL m) (clsC [-(bvI m.1 v ((k2 : Nat) : Int))]) 2000 (cls_ok (bv_apt hm (by omega) (by omega))) hfp.1) ⟨.inl ⟨rfl, rfl⟩, .inl ⟨rfl, rfl⟩, .inl ⟨rfl, rfl⟩, trivial⟩ trivial rfl rfl (fun h => by cases h) rfl (fun _ h => by cases h) (.inl rfl) rfl rfl) ?_
 refine om rfl (qqa (qjg rfl rfl) (qqa (qjg rfl rfl) (qqa (qjg rfl rfl) (oa rfl (oa rfl (oa rfl (on (qqe ?_))))))))
 have hf2 := hfp.2
 unfold cel at hf2
 refine ar (om rfl (om rfl (qqa (qqy (n := v) slt24 rfl rfl (by omega) (qqh zr) rfl) (qqa (qqp leaf44 rfl (qqh zr) rfl) (om rfl (qqa (qqy (n := k2) slt44 rfl rfl (by omega) (qqh zr) rfl) (qqa (qqp leaf4 rfl (qqh zr) rfl) (om rfl (qqx 110 rfl (fun h11 => ?_) (fun h11 => ?_))))))))))
 ·
  have h11r := h11
  try simp only [nq, nr] at h11
  refine qqa (qqb rfl rfl h11r) (qqa (qqb rfl rfl h11r) (qqa (qqu rfl h11r (evo rfl)) (om rfl (qqa (qqb rfl rfl rfl) (qqa (qqb rfl rfl rfl) (qqa (qqb rfl rfl rfl) (qqa (qjb rfl rfl) (qqa (qjb rfl rfl) (qqa (qjb rfl rfl) (qqa (qqb rfl rfl rfl) (qqa (qqu rfl rfl (evo rfl)) (oa rfl (on ?_)))))))))))))
  refine qqm ?_
  exact qq8 rfl ⟨qqv (by first | (simp; done) | assumption | (exfalso; simp_all; done) | (simp_all; done) | (simp_all; omega)), rfl, rfl⟩
 have h11r := h11
 try simp only [nq, nr] at h11
 refine qqa (qqd rfl rfl h11r (qql (evo rfl))) (qqa (qqd rfl rfl h11r (qz4 rfl rfl)) (qqa (qqt rfl h11r (evo rfl)) (om rfl (qqx 114 rfl (fun h12 => ?_) (fun h12 => ?_)))))
 ·
  have h12r := h12
  try simp only [nq, nr] at h12
  refine qqa (qqb rfl rfl h12r) (qqa (qqb rfl rfl h12r) (qqa (qqb rfl rfl h12r) (qqa (qjb rfl rfl) (qqa (qjb rfl rfl) (qqa (qjb rfl rfl) (qqa (qqb rfl rfl h12r) (qqa (qqu rfl h12r (evo rfl)) (oa rfl (on (qqm ?_))))))))))
  exact qq8 rfl ⟨qqv (by first | (simp; done) | assumption | (exfalso; simp_all; done) | (simp_all; done) | (simp_all; omega)), rfl, rfl⟩
 have h12r := h12
 try simp only [nq, nr] at h12
 refine qqa (qqd rfl rfl h12r (qql (evo rfl))) (qqa (qqd rfl rfl h12r (qz4 rfl rfl)) (qqa (qqd rfl rfl h12r (qql (evo rfl))) (qqx 117 rfl (fun h13 => ?_) (fun h13 => ?_))))
 ·
  have h13r := h13
  try simp only [nq, nr] at h13
  refine qqa (qqd rfl rfl h13r (qql (evo rfl))) (qqa (qqd rfl rfl h13r (qqg Tryz.underlying34 rfl)) (qqa (qqd rfl rfl h13r (j_gt rfl rfl)) (qqa (qqd rfl rfl h12r (qqu rfl h13r (evo rfl))) (qqa (qqt rfl h12r (evo rfl)) (oa rfl (on (qqm ?_)))))))
  exact qq8 rfl ⟨qqv (by first | (simp; done) | assumption | (exfalso; simp_all; done) | (simp_all; done) | (simp_all; omega)), rfl, rfl⟩
 have h13r := h13
 try simp only [nq, nr] at h13
 refine qqa (qqb rfl rfl h13r) (qqa (qqb rfl rfl h13r) (qqa (qqb rfl rfl h13r) (qqa (qqd rfl rfl h12r (qqt rfl h13r (evo rfl))) (qqa (qqt rfl h12r (evo rfl)) (oa rfl (on (qqm ?_)))))))
 exact qq8 rfl ⟨qqv (by first | (simp; done) | assumption | (exfalso; simp_all; done) | (simp_all; done) | (simp_all; omega)), rfl, rfl⟩
end Go.Ab

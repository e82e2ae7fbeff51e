/- Walks. -/
import Derived.Test.YtoodaakcfelaaaaGreatBase
import Derived.Test.YtoodaakcfelaaaaGreatPf2
import Derived.Test.YtoodaakcfelaaaaGreatWsrup
import Derived.Test.YtoodaakcfelaaaaGreatWsmul
import Derived.Test.YtoodaakcfelaaaaGreatSimp
import Derived.Test.YtoodaakcfelaaaaGreatWsfix
import Derived.Test.YtoodaakcfelaaaaGreatWsfun
import Derived.Test.YtoodaakcfelaaaaGreatWscons
import Derived.Test.YtoodaakcfelaaaaGreatWsdraw
import Derived.Test.YtoodaakcfelaaaaGreatVals
import Derived.Test.YtoodaakcfelaaaaGreatWstab
import Derived.Test.YtoodaakcfelaaaaGreatDeep2
import Derived.Test.YtoodaakcfelaaaaGreatDmod2
import Derived.Test.YtoodaakcfelaaaaGreatWstight
namespace Go.Ab
open Go.Proofs
set_option maxRecDepth 100000
set_option maxHeartbeats 8000000
set_option linter.unusedSimpArgs false
set_option linter.unusedVariables false
theorem f_normal (ts : List Term) (b : Int) (hf : fitT ts) (hb : -1000000 ≤ b ∧ b ≤ 1000000) : Fn Tryz.prog 152 [.sl (ts.map dT), .p (.int .i64 (b))] [] (fun rr ii nn => rr = .tup [.agg [.sl ((vC (nrmC ts b)).1.map dT), .p (.int .i64 (vC (nrmC ts b)).2)], .p (.bool (cOk (nrmC ts b)))] ∧ ii = [] ∧ nn = []) := by
 refine qjm Tryz.func152 rfl (nb rfl) fun w X g => ?_
 show AWp _ _ _ ⟨[(0, .sl (ts.map dT)), (1, .p (.int .i64 (b)))], []⟩
 have hf1 := hf.1
 refine rs (qq5 (fun ver => qjv qz5 rfl) fun v4x1 => ?_)
 refine oa rfl (on (rs (qq5 (fun ver => qjv elt210 rfl) fun v6x2 => ?_)))
 refine on (qqe (rs (om rfl (qqa (qqg Tryz.underlying67 rfl) (om rfl (on (qqf (qqr (ι := Nat) (fun k => k ≤ ts.length) (fun k r => (14, .p (.int .i64 ((k : Nat)))) :: (1, .p (.int .i64 (netB (ts.take k) b))) :: r) (fun k r => (6, some (v6x2, .box 210 (netR (ts.take k)))) :: r) (fun k => ts.length - k) (fun _ _ => rfl) (fun _ _ => rfl) 0 (Nat.zero_le _) ⟨⟨rfl, rfl⟩, ⟨rfl, rfl, trivial⟩, ⟨boxEq1 netR_nil.symm, trivial⟩, ⟨rfl, rfl⟩, ⟨rfl, rfl⟩⟩ ?_))))))))
 intro k hk
 refine rs (qqa (qzb rfl rfl) (on (qqe (ac rfl (fun h1 => ?_) fun h1 => ?_))))
 ·
  have h1r := h1
  try simp only [nq, nr, nl] at h1
  refine qqj (qqe (qqf (rs (qqa (qqy slt67 rfl rfl rfl (qqh zz) rfl) (qqa (qzf (ys := [.p _, .p _]) agg135 rfl (qqh zz) rfl (Nat.le_refl _)) (qq5 (fun ver => qjv qz3 rfl) fun v8x3 => ?_))))))
  refine qjo (qqs agg135 rfl rfl rfl rfl rfl rfl) ?_
  refine on (qqe ?_)
  have hfa := fit_at hf (k := k) zz
  have hli := litOk_iff.1 hfa.1
  have hnv := netV_rng hf (-(ts.getD k default).2) (k := k) zz
  have hnw := netV_rng hf (ts.getD k default).2 (k := k) zz
  have hnb := netB_rng hf (b := b) (k := k) zz
  refine ar (qqa (qqi fld135f1 rfl rfl) (qqa (qqc qq2 rfl rfl rfl) (qqa (qzb rfl rfl) (on (ac rfl (fun h2 => ?_) fun h2 => ?_)))))
  ·
   have h2r := h2
   try simp only [nq, nr, nl] at h2
   refine rs (om rfl (qqa (qqi fld135f0 rfl rfl) (qqa (qqc qq2 rfl rfl rfl) (qqa (qzy rfl rfl zz zz) (oa rfl (on (qjz qzj (by kernel_rfl) (by kernel_rfl) fun vf => ?_)))))))
   refine qqq (qqi fld135f1 rfl rfl) (qqq (qqc qq2 rfl rfl rfl) (qqq (j_neg rfl zz zz) (qqq (j_elem_arr Tryz.underlying210 (sz := 1) (by kernel_rfl) rfl rfl rfl (by omega) (by omega)) (qqq (qqc qq2 rfl rfl (netR_at (by omega) rfl)) (qqq (qqi fld135f0 rfl rfl) (qqq (qqc qq2 rfl rfl rfl) (qqq (qzy rfl rfl zz zz) (qqq (j_elem_arr Tryz.underlying210 (sz := 1) (by kernel_rfl) rfl rfl rfl (by omega) (by omega)) (d_s' (qje qq2 rfl rfl (by rw [netR_len]; omega) (evo rfl) rfl) ?_)))))))))
   refine qze (by kernel_rfl) (by kernel_rfl) ?_
   refine ar (qqa (qjh rfl rfl zz zz) (om rfl (on ?_)))
   exact ⟨k + 1, zz, ⟨⟨rfl, rfl⟩, ⟨rfl, qzg (by rw [netB_next zz, if_pos (by assumption)]), trivial⟩, ⟨boxEq1 (netR_neg hf zz (by assumption)), trivial⟩, ⟨rfl, rfl⟩, ⟨rfl, rfl⟩⟩, zz⟩
  have h2r := h2
  try simp only [nq, nr, nl] at h2
  refine qjz qzj (by kernel_rfl) (by kernel_rfl) fun vf => ?_
  refine qqq (qqi fld135f1 rfl rfl) (qqq (qqc qq2 rfl rfl rfl) (qqq (j_elem_arr Tryz.underlying210 (sz := 1) (by kernel_rfl) rfl rfl rfl (by omega) (by omega)) (qqq (qqc qq2 rfl rfl (netR_at (by omega) rfl)) (qqq (qqi fld135f0 rfl rfl) (qqq (qqc qq2 rfl rfl rfl) (qqq (qjh rfl rfl zz zz) (qqq (j_elem_arr Tryz.underlying210 (sz := 1) (by kernel_rfl) rfl rfl rfl (by omega) (by omega)) (d_s' (qje qq2 rfl rfl (by rw [netR_len]; omega) (evo rfl) rfl) ?_))))))))
  refine qze (by kernel_rfl) (by kernel_rfl) ?_
  refine ar (qqa (qjh rfl rfl zz zz) (om rfl (on ?_)))
  exact ⟨k + 1, zz, ⟨⟨rfl, rfl⟩, ⟨rfl, qzg (by rw [netB_next zz, if_neg (by assumption)]), trivial⟩, ⟨boxEq1 (netR_pos hf zz (by assumption)), trivial⟩, ⟨rfl, rfl⟩, ⟨rfl, rfl⟩⟩, zz⟩
 have h1r := h1
 try simp only [nq, nr, nl] at h1
 refine qja (rs (qqa (qzu (parts := []) str69 qz5 rfl rfl) (qq5 (fun ver => qjv qz5 rfl) fun v9x4 => ?_)))
 refine qjo (qqs qzn rfl rfl rfl rfl rfl rfl) ?_
 refine on (qj2 0 1009 135 2 (by decide) (id := 9) rfl rfl fun v1009x5 => ?_)
 refine qqe (qqe ?_)
 obtain rfl : k = ts.length := zz
 rw [List.take_length]
 have hnb := netB_all hf b
 refine ar (qqa (qqk (ys := netR ts) agg210 rfl rfl (by rw [List.drop_zero]; exact List.take_of_length_le (by rw [netR_len]; decide)) (by rw [netR_len]; decide)) (om rfl (on (qqf (qqr (ι := Nat × Nat) (fun x => x.1 ≤ 13) (fun x r => (45, .p (.int .i64 ((x.1 : Nat)))) :: (1, .p (.int .i64 (nrmB (netV ts) (netB ts b) x.1))) :: r) (fun x r => (9, some (v9x4, .box 69 [.own 1009 x.2, .p (.int .i64 0)])) :: (1009, some (x.2, .row 135 2 ((nrmT (netV ts) x.1).map dT))) :: r) (fun x => 13 - x.1) (fun _ _ => rfl) (fun _ _ => rfl) (0, v1009x5) (by first | exact (by omega) | (dsimp only; exact (by omega))) ⟨⟨rfl, rfl⟩, ⟨rfl, rfl, trivial⟩, ⟨rfl, rfl, trivial⟩, ⟨rfl, rfl⟩, ⟨rfl, rfl⟩⟩ ?_)))))
 rintro ⟨j, v⟩ hj; dsimp only at hj ⊢
 refine rs (qqa (qzb rfl rfl) (on (qqe (ac rfl (fun h3 => ?_) fun h3 => ?_))))
 ·
  have h3r := h3
  try simp only [nq, nr, nl] at h3
  refine qqj (qqe (qqf (qqe ?_)))
  have hnl := nrmT_len (f := netV ts) (n := j)
  have hva := netV_all hf (j : Nat)
  have hba := nrmB_all hf (b := netB ts b) (n := j) (by omega)
  refine ar (om rfl (qqa (j_index_agg Tryz.underlying210 qq2 rfl rfl (by omega) (by omega) (netR_gi (by omega))) (oa rfl (oa rfl (on (qqf (rs (om rfl (qqa (j_gt rfl rfl) (oa rfl (on (ac rfl (fun h4 => ?_) fun h4 => ?_))))))))))))
  ·
   have h4r := h4
   try simp only [nq, nr, nl] at h4
   refine ar (qqa (qqi fld69f0 rfl rfl) (qqa (qqc leaf67 rfl rfl rfl) (om rfl (om rfl (qqa (qzu (parts := [(0, .tmp 54), (1, .tmp 55)]) str135 qz3 rfl rfl) (qq5 (fun ver => qqw (parts := [(0, .tmp 56)]) (es := [[_, _]]) slt67 qz3 rfl rfl (by decide) (by decide) rfl rfl (by simp) rfl) fun v57x6 => ?_))))))
   refine qq5 (fun ver => qq6 slt67 qz3 rfl rfl rfl rfl rfl rfl (by rw [qq0]; first | omega | (simp only [nr, nl]; omega)) zz) fun v1009x7 => ?_
   refine qqa (qqi fld69f0 rfl rfl) (qjo (qje leaf67 rfl rfl (nb rfl) (evo rfl) rfl) ?_)
   refine on (ar (qqa (qjh rfl rfl zz zz) (om rfl (on ?_))))
   exact ⟨(j + 1, v1009x7), (by first | exact zz | (dsimp only; exact zz)), ⟨⟨rfl, rfl⟩, ⟨rfl, qzg (by dsimp only; rw [nrmB_z (by omega)]), trivial⟩, ⟨rfl, qza (by dsimp only; rw [nrmT_p (by omega), List.map_append]; rfl), trivial⟩, ⟨rfl, rfl⟩, ⟨rfl, rfl⟩⟩, (by first | exact zz | (dsimp only; exact zz))⟩
  have h4r := h4
  try simp only [nq, nr, nl] at h4
  refine rs (om rfl (qqa (qzb rfl rfl) (oa rfl (on (ac rfl (fun h5 => ?_) fun h5 => ?_)))))
  ·
   have h5r := h5
   try simp only [nq, nr, nl] at h5
   refine rs (qqa (qqi fld69f0 rfl rfl) (qqa (qqc leaf67 rfl rfl rfl) (om rfl (qqa (j_neg rfl zz zz) (om rfl (qqa (j_neg rfl zz zz) (qqa (qzu (parts := [(0, .tmp 66), (1, .tmp 68)]) str135 qz3 rfl rfl) (qq5 (fun ver => qqw (parts := [(0, .tmp 69)]) (es := [[_, _]]) slt67 qz3 rfl rfl (by decide) (by decide) rfl rfl (by simp) rfl) fun v70x8 => ?_))))))))
   refine qq5 (fun ver => qq6 slt67 qz3 rfl rfl rfl rfl rfl rfl (by rw [qq0]; first | omega | (simp only [nr, nl]; omega)) zz) fun v1009x9 => ?_
   refine qqa (qqi fld69f0 rfl rfl) (qjo (qje leaf67 rfl rfl (nb rfl) (evo rfl) rfl) ?_)
   refine on (ar (om rfl (om rfl (qqa (qzy rfl rfl zz zz) (oa rfl (on (ar (qqa (qjh rfl rfl zz zz) (om rfl (on ?_))))))))))
   exact ⟨(j + 1, v1009x9), (by first | exact zz | (dsimp only; exact zz)), ⟨⟨rfl, rfl⟩, ⟨rfl, qzg (by dsimp only; rw [nrmB_m (by omega)]), trivial⟩, ⟨rfl, qza (by dsimp only; rw [nrmT_m (by omega), List.map_append]; rfl), trivial⟩, ⟨rfl, rfl⟩, ⟨rfl, rfl⟩⟩, (by first | exact zz | (dsimp only; exact zz))⟩
  have h5r := h5
  try simp only [nq, nr, nl] at h5
  refine qqj (ar (qqa (qjh rfl rfl zz zz) (om rfl (on ?_))))
  exact ⟨(j + 1, v), (by first | exact zz | (dsimp only; exact zz)), ⟨⟨rfl, rfl⟩, ⟨rfl, qzg (by dsimp only; rw [nrmB_z (by omega)]), trivial⟩, ⟨rfl, qza (by dsimp only; rw [nrmT_z (by omega) (by omega)]), trivial⟩, ⟨rfl, rfl⟩, ⟨rfl, rfl⟩⟩, (by first | exact zz | (dsimp only; exact zz))⟩
 have h3r := h3
 try simp only [nq, nr, nl] at h3
 refine qja (qqe ?_)
 obtain rfl : j = 13 := by omega
 have hba := nrmB_all hf (b := netB ts b) (n := 13) (by omega)
 refine ar (om rfl (qqa (j_max rfl rfl) (qqa (qqi fld69f1 rfl rfl) (qjo (qje qq2 rfl rfl (nb rfl) (evo rfl) rfl) ?_))))
 refine on (qqe (qjf 0 9 (by decide) trivial rfl rfl rfl rfl ?_))
 try dsimp only [List.set]
 refine ar (qqa (qqk (ys := [.sl _, .p _]) qzn rfl rfl rfl (nb rfl)) ?_)
 refine qq3 (qqn (v := .tup [.agg [.sl _, .p _], .p _]) (hp1 := []) [] false [] ent201 (f_valid (nrmC ts b)) ⟨.inl ⟨rfl, rfl⟩, trivial⟩ trivial rfl rfl (fun h => by cases h) rfl (fun _ h => by cases h) (.inl rfl) rfl rfl) ?_
 refine qqa (qjg rfl rfl) (qqa (qjg rfl rfl) (qjo (qqs qzn rfl rfl rfl rfl rfl rfl) ?_))
 refine oa rfl (on (qqm ?_))
 exact ⟨[.agg [.sl _, .p _], .p _], .tup [.agg [.sl _, .p _], .p _], [], [], [], ⟨⟨_, _, _, _, rfl, rfl, qzn, rfl⟩, rfl, trivial⟩, rfl, rfl, trivial, rfl, rfl, ⟨rfl, rfl, rfl⟩⟩
end Go.Ab

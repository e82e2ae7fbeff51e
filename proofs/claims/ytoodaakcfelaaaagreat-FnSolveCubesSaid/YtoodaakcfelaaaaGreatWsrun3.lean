/- Walks. -/
import Derived.Test.YtoodaakcfelaaaaGreatBase
import Derived.Test.YtoodaakcfelaaaaGreatPf3
import Derived.Test.YtoodaakcfelaaaaGreatWsrun1
namespace Go.Ab
open Go.Proofs
set_option maxRecDepth 100000
set_option maxHeartbeats 8000000
set_option linter.unusedSimpArgs false
set_option linter.unusedVariables false
theorem f_growT (n : Nat) (hn : n ≤ 1000) : Fn Tryz.prog 276 [.p (.slice none 0 0), .p (.int .i64 ((n : Nat)))] [] (fun rr ii nn => rr = .own 0 0 ∧ ii = [] ∧ nn = [.row 135 2 (([] : List Term).map dT)]) := by
 refine qjl Tryz.func276 rfl (nb rfl) fun w X g => ?_
 show AWp _ _ _ ⟨[(0, .p (.slice none 0 0)), (1, .p (.int .i64 ((n : Nat))))], []⟩
 refine rs (oa rfl (on (qqf (rs (om rfl (qqa (qzt rfl rfl) (on (ac rfl (fun h1 => ?_) fun h1 => ?_))))))))
 ·
  have h1r := h1
  try simp only [nq, nr] at h1
  exact absurd (of_decide_eq_true h1r) (by omega)
 have h1r := h1
 try simp only [nq, nr] at h1
 refine qqo (qqf (rs (om rfl (om rfl (qqa (j_cap_nil Tryz.underlying67 rfl) (om rfl (qqa (j_len_nil Tryz.underlying67 rfl) (qqa (qzw rfl rfl (by omega) (by omega)) (qqa (qzw rfl rfl (by omega) (by omega)) (oa rfl (on (rs (om rfl ?_)))))))))))))
 refine qqa (j_gt rfl rfl) (on (ac rfl (fun h2 => ?_) fun h2 => ?_))
 ·
  have h2r := h2
  try simp only [nq, nr] at h2
  refine ar (om rfl (om rfl (qqa (j_cap_nil Tryz.underlying67 rfl) (qqa (j_cut_nilv qzc rfl rfl rfl) (om rfl (qqv (fun ver => j_append_mk (n := n) qzc Tryz.underlying3 qjx rfl rfl (by decide) rfl rfl (by omega) (by omega) (by omega) (by rw [qqu]; omega)) fun v22x1 => ?_))))))
  refine om rfl (qqa (j_len_nil Tryz.underlying67 rfl) (qz0 (fun ver => j_cut_ownE (n := 0) (by decide) qzc rfl rfl rfl rfl (by rw [List.length_replicate]; omega) (by rw [List.length_replicate]; omega)) fun v25x2 => ?_))
  refine oa rfl (on (rs (om rfl (oa rfl (on (qqx ?_))))))
  exact ⟨[.own 25 v25x2], .own 0 0, [], [.row 135 2 _], [(25, v25x2)], ⟨rfl, trivial⟩, rfl, rfl, ⟨⟨rfl, rfl⟩, trivial⟩, rfl, rfl, ⟨rfl, rfl, rfl⟩⟩
 have h2r := h2
 try simp only [nq, nr] at h2
 refine qqo (rs (om rfl (oa rfl (on (qj5 4 4 135 2 rfl fun v4 => ?_)))))
 refine qqx ?_
 exact ⟨[.own 4 v4], .own 0 0, [], [.row 135 2 _], [(4, v4)], ⟨rfl, trivial⟩, rfl, rfl, ⟨⟨rfl, rfl⟩, trivial⟩, rfl, rfl, ⟨rfl, rfl, rfl⟩⟩
theorem f_concatT (a b : List Term) (ha : a.length ≤ 100) (hb : b.length ≤ 100) : Fn Tryz.prog 267 [.own 0 0] [.row 67 1 [[.sl (a.map dT)], [.sl (b.map dT)]]] (fun rr ii nn => rr = .sl ((a ++ b).map dT) ∧ ii = [.row 67 1 [[.sl (a.map dT)], [.sl (b.map dT)]]] ∧ nn = []) := by
 refine qjl Tryz.func267 rfl (nb rfl) fun w X g => ?_
 show AWp _ _ _ ⟨[(0, .own 0 0)], [(0, some (0, .row 67 1 [[.sl (a.map dT)], [.sl (b.map dT)]]))]⟩
 refine rs (oa rfl (on (rs (oa rfl (on (qqf (rs (om rfl (qqa (j_len_own Tryz.underlying263 rfl rfl) (om rfl (on (qqk (qq4 (ι := Nat) (fun k => k ≤ 2) (fun k r => (11, .p (.int .i64 ((k : Nat)))) :: (3, .p (.int .i64 (((catN a b k).length : Nat)))) :: r) (fun k r => (0, some (0, .row 67 1 [[.sl (a.map dT)], [.sl (b.map dT)]])) :: r) (fun k => 2 - k) (fun _ _ => rfl) (fun _ _ => rfl) 0 (by omega) ⟨⟨rfl, rfl⟩, ⟨rfl, rfl, trivial⟩, ⟨rfl, trivial⟩, ⟨rfl, rfl⟩, ⟨rfl, rfl⟩⟩ ?_)))))))))))))
 intro k hk
 refine rs (qqa (qzt rfl rfl) (on (qqf (ac rfl (fun h1 => ?_) fun h1 => ?_))))
 ·
  have h1r := h1
  try simp only [nq, nr, nl] at h1
  refine qqo (qqf (qqk (rs (qqa (qq2 (n := k) slt263 rfl rfl rfl zz zz) (qqa (qjo qjv rfl rfl (cat_hk zz) rfl) (oa rfl (on (qqf ?_))))))))
  have hcn := cat_len (a := a) (b := b) (k := k) zz
  have hcl := catN_le (a := a) (b := b) (k := k + 1)
  refine ar (om rfl (om rfl (qqa (qqw Tryz.underlying67 rfl) (qqa (qjh rfl rfl zz zz) (oa rfl (on (rs (om rfl (qqa (qzt rfl rfl) (on (ac rfl (fun h2 => ?_) fun h2 => ?_)))))))))))
  ·
   have h2r := h2
   try simp only [nq, nr, nl] at h2
   exact absurd (of_decide_eq_true h2r) zz
  have h2r := h2
  try simp only [nq, nr, nl] at h2
  refine qqo (ar (qqa (qjh rfl rfl zz zz) (om rfl (on ?_))))
  exact ⟨k + 1, zz, ⟨⟨rfl, rfl⟩, ⟨rfl, qz1 (by rw [hcn]; omega), trivial⟩, ⟨rfl, trivial⟩, ⟨rfl, rfl⟩, ⟨rfl, rfl⟩⟩, zz⟩
 have h1r := h1
 try simp only [nq, nr, nl] at h1
 refine qjf (qqf ?_)
 have hcl := catN_le (a := a) (b := b) (k := k)
 refine ar (om rfl ?_)
 refine qz0 (fun ver => qza (v := .own 24 ver) (hp1 := [(24, some (ver, .row 135 2 _))]) [] false [] ent276 (f_growT (catN a b k).length zz) ⟨.inl ⟨rfl, rfl⟩, .inl ⟨rfl, rfl⟩, trivial⟩ trivial rfl rfl rfl (fun h => by cases h) rfl (List.all_eq_true.1 rfl) (.inl rfl) rfl rfl) fun v24x1 => ?_
 refine oa rfl (on (qqf (rs (om rfl (qqa (j_len_own Tryz.underlying263 rfl rfl) (om rfl (on (qqk (qq4 (ι := Nat × Nat) (fun x => x.1 ≤ 2) (fun x r => (27, .p (.int .i64 ((x.1 : Nat)))) :: (6, .own 24 x.2) :: r) (fun x r => (0, some (0, .row 67 1 [[.sl (a.map dT)], [.sl (b.map dT)]])) :: (24, some (x.2, .row 135 2 ((catN a b x.1).map dT))) :: r) (fun x => 2 - x.1) (fun _ _ => rfl) (fun _ _ => rfl) (0, v24x1) (by first | exact (by omega) | (dsimp only; exact (by omega))) ⟨⟨rfl, rfl⟩, ⟨rfl, rfl, trivial⟩, ⟨rfl, rfl, trivial⟩, ⟨rfl, rfl⟩, ⟨rfl, rfl⟩⟩ ?_)))))))))
 rintro ⟨k, v⟩ hk; dsimp only at hk ⊢
 refine rs (qqa (qzt rfl rfl) (on (qqf (ac rfl (fun h3 => ?_) fun h3 => ?_))))
 ·
  have h3r := h3
  try simp only [nq, nr, nl] at h3
  refine qqo (qqf (qqk (rs (qqa (qq2 (n := k) slt263 rfl rfl rfl zz zz) (qqa (qjo qjv rfl rfl (cat_hk zz) rfl) (oa rfl (on ?_)))))))
  have hcn := cat_len (a := a) (b := b) (k := k) zz
  have hcl := catN_le (a := a) (b := b) (k := k + 1)
  refine ar (om rfl (om rfl (qqv (fun ver => j_append_sl qzc qjx rfl rfl rfl rfl len_dT (all_lf_dT _) (by rw [qqu]; first | omega | (simp only [nr, nl]; omega)) zz) fun v24x2 => ?_)))
  refine oa rfl (on (ar (qqa (qjh rfl rfl zz zz) (om rfl (on ?_)))))
  exact ⟨(k + 1, v24x2), (by first | exact zz | (dsimp only; exact zz)), ⟨⟨rfl, rfl⟩, ⟨rfl, rfl, trivial⟩, ⟨rfl, qj0 (by dsimp only; rw [cat_next (by omega), List.map_append]), trivial⟩, ⟨rfl, rfl⟩, ⟨rfl, rfl⟩⟩, (by first | exact zz | (dsimp only; exact zz))⟩
 have h3r := h3
 try simp only [nq, nr, nl] at h3
 refine qjf (rs (om rfl (oa rfl (on (a_freezeK 2 ⟨⟨_, _, _, rfl⟩, trivial⟩ rfl rfl rfl ?_)))))
 refine qqx ?_
 exact ⟨[.sl _], .sl _, [.row 67 1 _], [], [], ⟨rfl, trivial⟩, rfl, rfl, ⟨⟨rfl, rfl⟩, trivial⟩, rfl, rfl, ⟨by rw [show k = 2 by omega]; rfl, rfl, rfl⟩⟩
theorem f_normal (ts : List Term) (b : Int) (hf : fitT ts) (hb : -1000000 ≤ b ∧ b ≤ 1000000) : Fn Tryz.prog 152 [.sl (ts.map dT), .p (.int .i64 (b))] [] (fun rr ii nn => rr = .tup [.agg [.sl ((vC (nrmC ts b)).1.map dT), .p (.int .i64 (vC (nrmC ts b)).2)], .p (.bool (cOk (nrmC ts b)))] ∧ ii = [] ∧ nn = []) := by
 refine qjl Tryz.func152 rfl (nb rfl) fun w X g => ?_
 show AWp _ _ _ ⟨[(0, .sl (ts.map dT)), (1, .p (.int .i64 (b)))], []⟩
 have hf1 := hf.1
 refine rs (qqv (fun ver => qjd qjm rfl) fun v4x1 => ?_)
 refine oa rfl (on (rs (qqv (fun ver => qjd elt210 rfl) fun v6x2 => ?_)))
 refine on (qqf (rs (om rfl (qqa (qqw Tryz.underlying67 rfl) (om rfl (on (qqk (qq4 (ι := Nat) (fun k => k ≤ ts.length) (fun k r => (14, .p (.int .i64 ((k : Nat)))) :: (1, .p (.int .i64 (netB (ts.take k) b))) :: r) (fun k r => (6, some (v6x2, .box 210 (netR (ts.take k)))) :: r) (fun k => ts.length - k) (fun _ _ => rfl) (fun _ _ => rfl) 0 (Nat.zero_le _) ⟨⟨rfl, rfl⟩, ⟨rfl, rfl, trivial⟩, ⟨boxEq1 netR_nil.symm, trivial⟩, ⟨rfl, rfl⟩, ⟨rfl, rfl⟩⟩ ?_))))))))
 intro k hk
 refine rs (qqa (qzt rfl rfl) (on (qqf (ac rfl (fun h1 => ?_) fun h1 => ?_))))
 ·
  have h1r := h1
  try simp only [nq, nr, nl] at h1
  refine qqo (qqf (qqk (rs (qqa (qq9 qzc rfl rfl rfl (qqq zz) rfl) (qqa (qjw (ys := [.p _, .p _]) qz7 rfl (qqq zz) rfl (Nat.le_refl _)) (qqv (fun ver => qjd qjx rfl) fun v8x3 => ?_))))))
  refine qjg (qqe qz7 rfl rfl rfl rfl rfl rfl) ?_
  refine on (qqf ?_)
  have hfa := fit_at hf (k := k) zz
  have hli := litOk_iff.1 hfa.1
  have hnv := netV_rng hf (-(ts.getD k default).2) (k := k) zz
  have hnw := netV_rng hf (ts.getD k default).2 (k := k) zz
  have hnb := netB_rng hf (b := b) (k := k) zz
  refine ar (qqa (qqi qzl rfl rfl) (qqa (qqc qq6 rfl rfl rfl) (qqa (qzt rfl rfl) (on (ac rfl (fun h2 => ?_) fun h2 => ?_)))))
  ·
   have h2r := h2
   try simp only [nq, nr, nl] at h2
   refine rs (om rfl (qqa (qqi qzp rfl rfl) (qqa (qqc qq6 rfl rfl rfl) (qqa (qzw rfl rfl zz zz) (oa rfl (on (qj3 qzr (by kernel_rfl) (by kernel_rfl) fun vf => ?_)))))))
   refine qql (qqi qzl rfl rfl) (qql (qqc qq6 rfl rfl rfl) (qql (j_neg rfl zz zz) (qql (j_elem_arr Tryz.underlying210 (sz := 1) (by kernel_rfl) rfl rfl rfl (by omega) (by omega)) (qql (qqc qq6 rfl rfl (netR_at (by omega) rfl)) (qql (qqi qzp rfl rfl) (qql (qqc qq6 rfl rfl rfl) (qql (qzw rfl rfl zz zz) (qql (j_elem_arr Tryz.underlying210 (sz := 1) (by kernel_rfl) rfl rfl rfl (by omega) (by omega)) (d_s' (qq5 qq6 rfl rfl (by rw [netR_len]; omega) (evo rfl) rfl) ?_)))))))))
   refine qzf (by kernel_rfl) (by kernel_rfl) ?_
   refine ar (qqa (qjh rfl rfl zz zz) (om rfl (on ?_)))
   exact ⟨k + 1, zz, ⟨⟨rfl, rfl⟩, ⟨rfl, qz1 (by rw [netB_next zz, if_pos (by assumption)]), trivial⟩, ⟨boxEq1 (netR_neg hf zz (by assumption)), trivial⟩, ⟨rfl, rfl⟩, ⟨rfl, rfl⟩⟩, zz⟩
  have h2r := h2
  try simp only [nq, nr, nl] at h2
  refine qj3 qzr (by kernel_rfl) (by kernel_rfl) fun vf => ?_
  refine qql (qqi qzl rfl rfl) (qql (qqc qq6 rfl rfl rfl) (qql (j_elem_arr Tryz.underlying210 (sz := 1) (by kernel_rfl) rfl rfl rfl (by omega) (by omega)) (qql (qqc qq6 rfl rfl (netR_at (by omega) rfl)) (qql (qqi qzp rfl rfl) (qql (qqc qq6 rfl rfl rfl) (qql (qjh rfl rfl zz zz) (qql (j_elem_arr Tryz.underlying210 (sz := 1) (by kernel_rfl) rfl rfl rfl (by omega) (by omega)) (d_s' (qq5 qq6 rfl rfl (by rw [netR_len]; omega) (evo rfl) rfl) ?_))))))))
  refine qzf (by kernel_rfl) (by kernel_rfl) ?_
  refine ar (qqa (qjh rfl rfl zz zz) (om rfl (on ?_)))
  exact ⟨k + 1, zz, ⟨⟨rfl, rfl⟩, ⟨rfl, qz1 (by rw [netB_next zz, if_neg (by assumption)]), trivial⟩, ⟨boxEq1 (netR_pos hf zz (by assumption)), trivial⟩, ⟨rfl, rfl⟩, ⟨rfl, rfl⟩⟩, zz⟩
 have h1r := h1
 try simp only [nq, nr, nl] at h1
 refine qjf (rs (qqa (qjp (parts := []) str69 qjm rfl rfl) (qqv (fun ver => qjd qjm rfl) fun v9x4 => ?_)))
 refine qjg (qqe qq7 rfl rfl rfl rfl rfl rfl) ?_
 refine on (qjy 0 1009 135 2 (by decide) (id := 9) rfl rfl fun v1009x5 => ?_)
 refine qqf (qqf ?_)
 obtain rfl : k = ts.length := zz
 rw [List.take_length]
 have hnb := netB_all hf b
 refine ar (qqa (qqg (ys := netR ts) agg210 rfl rfl (by rw [List.drop_zero]; exact List.take_of_length_le (by rw [netR_len]; decide)) (by rw [netR_len]; decide)) (om rfl (on (qqk (qq4 (ι := Nat × Nat) (fun x => x.1 ≤ 13) (fun x r => (45, .p (.int .i64 ((x.1 : Nat)))) :: (1, .p (.int .i64 (nrmB (netV ts) (netB ts b) x.1))) :: r) (fun x r => (9, some (v9x4, .box 69 [.own 1009 x.2, .p (.int .i64 0)])) :: (1009, some (x.2, .row 135 2 ((nrmT (netV ts) x.1).map dT))) :: r) (fun x => 13 - x.1) (fun _ _ => rfl) (fun _ _ => rfl) (0, v1009x5) (by first | exact (by omega) | (dsimp only; exact (by omega))) ⟨⟨rfl, rfl⟩, ⟨rfl, rfl, trivial⟩, ⟨rfl, rfl, trivial⟩, ⟨rfl, rfl⟩, ⟨rfl, rfl⟩⟩ ?_)))))
 rintro ⟨j, v⟩ hj; dsimp only at hj ⊢
 refine rs (qqa (qzt rfl rfl) (on (qqf (ac rfl (fun h3 => ?_) fun h3 => ?_))))
 ·
  have h3r := h3
  try simp only [nq, nr, nl] at h3
  refine qqo (qqf (qqk (qqf ?_)))
  have hnl := nrmT_len (f := netV ts) (n := j)
  have hva := netV_all hf (j : Nat)
  have hba := nrmB_all hf (b := netB ts b) (n := j) (by omega)
  refine ar (om rfl (qqa (j_index_agg Tryz.underlying210 qq6 rfl rfl (by omega) (by omega) (netR_gi (by omega))) (oa rfl (oa rfl (on (qqk (rs (om rfl (qqa (j_gt rfl rfl) (oa rfl (on (ac rfl (fun h4 => ?_) fun h4 => ?_))))))))))))
  ·
   have h4r := h4
   try simp only [nq, nr, nl] at h4
   refine ar (qqa (qqi qjn rfl rfl) (qqa (qqc qjv rfl rfl rfl) (om rfl (om rfl (qqa (qjp (parts := [(0, .tmp 54), (1, .tmp 55)]) str135 qjx rfl rfl) (qqv (fun ver => qqh (parts := [(0, .tmp 56)]) (es := [[_, _]]) qzc qjx rfl rfl (by decide) (by decide) rfl rfl (by simp) rfl) fun v57x6 => ?_))))))
   refine qqv (fun ver => qqs qzc qjx rfl rfl rfl rfl rfl rfl (by rw [qqu]; first | omega | (simp only [nr, nl]; omega)) zz) fun v1009x7 => ?_
   refine qqa (qqi qjn rfl rfl) (qjg (qq5 qjv rfl rfl (nb rfl) (evo rfl) rfl) ?_)
   refine on (ar (qqa (qjh rfl rfl zz zz) (om rfl (on ?_))))
   exact ⟨(j + 1, v1009x7), (by first | exact zz | (dsimp only; exact zz)), ⟨⟨rfl, rfl⟩, ⟨rfl, qz1 (by dsimp only; rw [nrmB_z (by omega)]), trivial⟩, ⟨rfl, qj0 (by dsimp only; rw [nrmT_p (by omega), List.map_append]; rfl), trivial⟩, ⟨rfl, rfl⟩, ⟨rfl, rfl⟩⟩, (by first | exact zz | (dsimp only; exact zz))⟩
  have h4r := h4
  try simp only [nq, nr, nl] at h4
  refine rs (om rfl (qqa (qzt rfl rfl) (oa rfl (on (ac rfl (fun h5 => ?_) fun h5 => ?_)))))
  ·
   have h5r := h5
   try simp only [nq, nr, nl] at h5
   refine rs (qqa (qqi qjn rfl rfl) (qqa (qqc qjv rfl rfl rfl) (om rfl (qqa (j_neg rfl zz zz) (om rfl (qqa (j_neg rfl zz zz) (qqa (qjp (parts := [(0, .tmp 66), (1, .tmp 68)]) str135 qjx rfl rfl) (qqv (fun ver => qqh (parts := [(0, .tmp 69)]) (es := [[_, _]]) qzc qjx rfl rfl (by decide) (by decide) rfl rfl (by simp) rfl) fun v70x8 => ?_))))))))
   refine qqv (fun ver => qqs qzc qjx rfl rfl rfl rfl rfl rfl (by rw [qqu]; first | omega | (simp only [nr, nl]; omega)) zz) fun v1009x9 => ?_
   refine qqa (qqi qjn rfl rfl) (qjg (qq5 qjv rfl rfl (nb rfl) (evo rfl) rfl) ?_)
   refine on (ar (om rfl (om rfl (qqa (qzw rfl rfl zz zz) (oa rfl (on (ar (qqa (qjh rfl rfl zz zz) (om rfl (on ?_))))))))))
   exact ⟨(j + 1, v1009x9), (by first | exact zz | (dsimp only; exact zz)), ⟨⟨rfl, rfl⟩, ⟨rfl, qz1 (by dsimp only; rw [nrmB_m (by omega)]), trivial⟩, ⟨rfl, qj0 (by dsimp only; rw [nrmT_m (by omega), List.map_append]; rfl), trivial⟩, ⟨rfl, rfl⟩, ⟨rfl, rfl⟩⟩, (by first | exact zz | (dsimp only; exact zz))⟩
  have h5r := h5
  try simp only [nq, nr, nl] at h5
  refine qqo (ar (qqa (qjh rfl rfl zz zz) (om rfl (on ?_))))
  exact ⟨(j + 1, v), (by first | exact zz | (dsimp only; exact zz)), ⟨⟨rfl, rfl⟩, ⟨rfl, qz1 (by dsimp only; rw [nrmB_z (by omega)]), trivial⟩, ⟨rfl, qj0 (by dsimp only; rw [nrmT_z (by omega) (by omega)]), trivial⟩, ⟨rfl, rfl⟩, ⟨rfl, rfl⟩⟩, (by first | exact zz | (dsimp only; exact zz))⟩
 have h3r := h3
 try simp only [nq, nr, nl] at h3
 refine qjf (qqf ?_)
 obtain rfl : j = 13 := by omega
 have hba := nrmB_all hf (b := netB ts b) (n := 13) (by omega)
 refine ar (om rfl (qqa (j_max rfl rfl) (qqa (qqi qzi rfl rfl) (qjg (qq5 qq6 rfl rfl (nb rfl) (evo rfl) rfl) ?_))))
 refine on (qqf (qjk 0 9 (by decide) trivial rfl rfl rfl rfl ?_))
 try dsimp only [List.set]
 refine ar (qqa (qqg (ys := [.sl _, .p _]) qq7 rfl rfl rfl (nb rfl)) ?_)
 refine qq0 (qqn (v := .tup [.agg [.sl _, .p _], .p _]) (hp1 := []) [] false [] ent201 (f_valid (nrmC ts b)) ⟨.inl ⟨rfl, rfl⟩, trivial⟩ trivial rfl rfl (fun h => by cases h) rfl (fun _ h => by cases h) (.inl rfl) rfl rfl) ?_
 refine qqa (qqt rfl rfl) (qqa (qqt rfl rfl) (qjg (qqe qq7 rfl rfl rfl rfl rfl rfl) ?_))
 refine oa rfl (on (qqx ?_))
 exact ⟨[.agg [.sl _, .p _], .p _], .tup [.agg [.sl _, .p _], .p _], [], [], [], ⟨⟨_, _, _, _, rfl, rfl, qq7, rfl⟩, rfl, trivial⟩, rfl, rfl, trivial, rfl, rfl, ⟨rfl, rfl, rfl⟩⟩
theorem f_addImpl (a b : Con) (ha : cOk a = true) (hb : cOk b = true) : Fn Tryz.prog 235 [.agg [.sl (a.1.map dT), .p (.int .i64 a.2)], .agg [.sl (b.1.map dT), .p (.int .i64 b.2)]] [] (fun rr ii nn => rr = .tup [.agg [.sl ((addC a b).1.map dT), .p (.int .i64 (addC a b).2)], .p (.bool (addO a b))] ∧ ii = [] ∧ nn = []) := by
 refine qjl Tryz.func235 rfl (nb rfl) fun w X g => ?_
 show AWp _ _ _ ⟨[(0, .agg [.sl (a.1.map dT), .p (.int .i64 a.2)]), (1, .agg [.sl (b.1.map dT), .p (.int .i64 b.2)])], []⟩
 have hfc := fit_cons ha hb
 have hba := qzv ha
 have hbb := qzv hb
 have hla := qz2 ha
 have hlb := qz2 hb
 refine rs (qqv (fun ver => qzg rfl) fun v2x1 => ?_)
 refine qqv (fun ver => qzg rfl) fun v3x2 => ?_
 refine qqv (fun ver => qjd qjm rfl) fun v4x3 => ?_
 refine oa rfl (on (qqf (rs (qqa (qqg (ys := [.sl _, .p _]) qq7 rfl rfl rfl (nb rfl)) ?_))))
 refine qq0 (qqn (v := .p _) (hp1 := []) [] false [] ent115 (f_cvImpl a) ⟨.inl ⟨rfl, rfl⟩, trivial⟩ trivial rfl rfl (fun h => by cases h) rfl (fun _ h => by cases h) (.inl rfl) rfl rfl) ?_
 refine qqa (qzk rfl) (om rfl (qqz 9 rfl (fun h1 => ?_) (fun h1 => ?_)))
 ·
  have h1r := h1
  try simp only [nq, nr] at h1
  exact absurd h1r (by simp [ha, hb])
 have h1r := h1
 try simp only [nq, nr] at h1
 refine qqa (qqd rfl rfl h1r (qqg (ys := [.sl _, .p _]) qq7 rfl rfl rfl (nb rfl))) ?_
 refine qq0 (qqd rfl rfl h1r (qqn (v := .p _) (hp1 := []) [] false [] ent115 (f_cvImpl b) ⟨.inl ⟨rfl, rfl⟩, trivial⟩ trivial rfl rfl (fun h => by cases h) rfl (fun _ h => by cases h) (.inl rfl) rfl rfl)) ?_
 refine qqa (qqd rfl rfl h1r (qzk rfl)) (qqa (qqy rfl h1r (evo rfl)) (on (ac rfl (fun h2 => ?_) fun h2 => ?_)))
 ·
  have h2r := h2
  try simp only [nq, nr] at h2
  exact absurd h2r (by simp [ha, hb])
 have h2r := h2
 try simp only [nq, nr] at h2
 refine qqo (qqf (qj3 qzr (by kernel_rfl) (by kernel_rfl) fun vf => ?_))
 refine qql (qqi qjn rfl rfl) (qql (qqc qjv rfl rfl rfl) (qql (qqi qjn rfl rfl) (qql (qqc qjv rfl rfl rfl) (d_n' (fun ver => qqh (parts := [(0, .tmp 16), (1, .tmp 18)]) (es := [[_], [_]]) slt263 elt67 rfl rfl (by decide) (by decide) rfl rfl (by simp) rfl) ?_))))
 refine d_v0' (qqn (v := .sl _) (hp1 := [(19, some ((vf 19), .row 67 1 _))]) [(19, (vf 19))] false [19] ent267 (f_concatT a.1 b.1 (by omega) (by omega)) ⟨.inl ⟨rfl, rfl⟩, trivial⟩ ⟨⟨rfl, rfl⟩, trivial⟩ rfl rfl (fun h => by cases h) rfl (List.all_eq_true.1 rfl) (.inl rfl) rfl rfl) ?_
 refine qql (qqi qzi rfl rfl) (qql (qqc qq6 rfl rfl rfl) (qql (qqi qzi rfl rfl) (qql (qqc qq6 rfl rfl rfl) (qql (qjh rfl rfl (by omega) (by omega)) ?_))))
 refine d_v0' (qqn (v := .tup [.agg [.sl _, .p _], .p _]) (hp1 := []) [] false [] ent152 (f_normal (a.1 ++ b.1) (a.2 + b.2) hfc (by omega)) ⟨.inl ⟨rfl, rfl⟩, .inl ⟨rfl, rfl⟩, trivial⟩ trivial rfl rfl (fun h => by cases h) rfl (fun _ h => by cases h) (.inl rfl) rfl rfl) ?_
 refine qql (qqt rfl rfl) (qql (qqt rfl rfl) (d_s' (qqe qq7 rfl rfl rfl rfl rfl rfl) ?_))
 refine qql (qj6 (evo rfl)) (qzf (by kernel_rfl) (by kernel_rfl) ?_)
 refine qqx ?_
 exact ⟨[.agg [.sl _, .p _], .p _], .tup [.agg [.sl _, .p _], .p _], [], [], [], ⟨⟨_, _, _, _, rfl, rfl, qq7, rfl⟩, rfl, trivial⟩, rfl, rfl, trivial, rfl, rfl, ⟨rfl, rfl, rfl⟩⟩
end Go.Ab
